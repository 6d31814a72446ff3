/-
  A store with three records beside it (the last one, the one ahead, the one begun): where all lies.
-/
import Derived.Test.YtjkgodhoonkinaaBnkM
namespace Go.Proofs.Ytjkgodhoonkinaa
open Go.RowKit
set_option linter.unusedVariables false
set_option linter.unusedSimpArgs false

theorem gr_setCells : ∀ (vs : List Value) (w : World) (b o : Nat), w.grownBy (w.setCells b o vs) (some b)
  | [], w, b, o => gr_refl _ _
  | v :: vs, w, b, o => gr_trans (gr_set w b o v) (gr_setCells vs _ b (o + 1))
structure KMem (w : World) (s pl pa pb : Nat) (v0 v1 : Value) (x0 x1 : List Nat) (bg : Int) (L A B : List Nat) (W : World) : Prop where
  bel : Below w.heap.size w W
  ord : w.heap.size ≤ s ∧ s < pl ∧ pl < pa ∧ pa < pb ∧ pb < W.heap.size
  sto : StoAt W s v0 v1 bg true
  o0 : OwnB W (pb + 1) v0 x0
  o1 : OwnB W (pb + 1) v1 x1
  dis : ∀ b, v0.ownBlock = some b → v1.ownBlock ≠ some b
  rl : W.rangeAt pl 0 (recL L)
  ra : W.rangeAt pa 0 (recL A)
  rb : W.rangeAt pb 0 (recL B)
  tl : W.there pl 0 50
  ta : W.there pa 0 50
  tb : W.there pb 0 50
section
variable {w : World} {s pl pa pb : Nat} {v0 v1 : Value} {x0 x1 : List Nat} {bg : Int} {L A B : List Nat} {W W' : World}
theorem KMem.below (K : KMem w s pl pa pb v0 v1 x0 x1 bg L A B W) (hb : Below W.heap.size W W') : KMem w s pl pa pb v0 v1 x0 x1 bg L A B W' := by
  obtain ⟨o1, o2, o3, o4, o5⟩ := K.ord
  exact ⟨K.bel.trans (hb.mono K.bel.size), ⟨o1, o2, o3, o4, Nat.lt_of_lt_of_le o5 hb.size⟩, K.sto.below hb K.sto.lt, K.o0.below hb (Nat.le_refl _), K.o1.below hb (Nat.le_refl _), K.dis,
    rangeAt_below hb (by omega) K.rl, rangeAt_below hb (by omega) K.ra, rangeAt_below hb (by omega) K.rb, there_below hb (by omega) K.tl, there_below hb (by omega) K.ta, there_below hb (by omega) K.tb⟩
theorem KMem.drew (K : KMem w s pl pa pb v0 v1 x0 x1 bg L A B W) : KMem w s pl pa pb v0 v1 x0 x1 bg L A B W.drew := K.below (Below.drew (Below.refl _ _))
theorem own_ne {v : Value} {base : Nat} {xs : List Nat} (h : OwnB W base v xs) {b : Nat} (hb : b < base) : v.ownBlock = none ∨ v.ownBlock ≠ some b := .inr (fun e => by have := h.own _ e; omega)
/-- A record is stored into one of the three. -/
theorem KMem.setL (K : KMem w s pl pa pb v0 v1 x0 x1 bg L A B W) {R : List Nat} (hR : R.length = 50) : KMem w s pl pa pb v0 v1 x0 x1 bg R A B (W.setCells pl 0 (recL R)) := by
  obtain ⟨o1, o2, o3, o4, o5⟩ := K.ord
  have hg := gr_setCells (recL R) W pl 0
  exact ⟨K.bel.trans (below_setCells _ _ _ _ _ (by omega)), ⟨o1, o2, o3, o4, by rw [size_setCells]; exact o5⟩, K.sto.kept hg (by simp; omega), K.o0.kept hg (own_ne K.o0 (by omega)), K.o1.kept hg (own_ne K.o1 (by omega)), K.dis,
    World.rangeAt_setCells_same _ _ _ _ (by rw [recL_length hR]; exact K.tl), rangeAt_kept K.ra (by omega) hg (by simp; omega), rangeAt_kept K.rb (by omega) hg (by simp; omega),
    World.there_setCells K.tl _ _ _, World.there_setCells K.ta _ _ _, World.there_setCells K.tb _ _ _⟩
theorem KMem.setA (K : KMem w s pl pa pb v0 v1 x0 x1 bg L A B W) {R : List Nat} (hR : R.length = 50) : KMem w s pl pa pb v0 v1 x0 x1 bg L R B (W.setCells pa 0 (recL R)) := by
  obtain ⟨o1, o2, o3, o4, o5⟩ := K.ord
  have hg := gr_setCells (recL R) W pa 0
  exact ⟨K.bel.trans (below_setCells _ _ _ _ _ (by omega)), ⟨o1, o2, o3, o4, by rw [size_setCells]; exact o5⟩, K.sto.kept hg (by simp; omega), K.o0.kept hg (own_ne K.o0 (by omega)), K.o1.kept hg (own_ne K.o1 (by omega)), K.dis,
    rangeAt_kept K.rl (by omega) hg (by simp; omega), World.rangeAt_setCells_same _ _ _ _ (by rw [recL_length hR]; exact K.ta), rangeAt_kept K.rb (by omega) hg (by simp; omega),
    World.there_setCells K.tl _ _ _, World.there_setCells K.ta _ _ _, World.there_setCells K.tb _ _ _⟩
theorem KMem.setB (K : KMem w s pl pa pb v0 v1 x0 x1 bg L A B W) {R : List Nat} (hR : R.length = 50) : KMem w s pl pa pb v0 v1 x0 x1 bg L A R (W.setCells pb 0 (recL R)) := by
  obtain ⟨o1, o2, o3, o4, o5⟩ := K.ord
  have hg := gr_setCells (recL R) W pb 0
  exact ⟨K.bel.trans (below_setCells _ _ _ _ _ (by omega)), ⟨o1, o2, o3, o4, by rw [size_setCells]; exact o5⟩, K.sto.kept hg (by simp; omega), K.o0.kept hg (own_ne K.o0 (by omega)), K.o1.kept hg (own_ne K.o1 (by omega)), K.dis,
    rangeAt_kept K.rl (by omega) hg (by simp; omega), rangeAt_kept K.ra (by omega) hg (by simp; omega), World.rangeAt_setCells_same _ _ _ _ (by rw [recL_length hR]; exact K.tb),
    World.there_setCells K.tl _ _ _, World.there_setCells K.ta _ _ _, World.there_setCells K.tb _ _ _⟩
theorem KMem.rows (K : KMem w s pl pa pb v0 v1 x0 x1 bg L A B W) {row : Option Nat} (hg : W.grownBy W' row) (hr : ∀ b, row = some b → b = s ∨ pb < b) :
    Below w.heap.size w W' ∧ pb < W'.heap.size ∧ W'.rangeAt pl 0 (recL L) ∧ W'.rangeAt pa 0 (recL A) ∧ W'.rangeAt pb 0 (recL B) ∧ W'.there pl 0 50 ∧ W'.there pa 0 50 ∧ W'.there pb 0 50 := by
  obtain ⟨o1, o2, o3, o4, o5⟩ := K.ord
  have hl : some pl ≠ row := fun e => by rcases hr _ e.symm with h | h <;> omega
  have ha : some pa ≠ row := fun e => by rcases hr _ e.symm with h | h <;> omega
  have hb : some pb ≠ row := fun e => by rcases hr _ e.symm with h | h <;> omega
  exact ⟨K.bel.grown hg K.bel.size (fun b e => by rcases hr _ e with h | h <;> omega), Nat.lt_of_lt_of_le o5 hg.size, rangeAt_kept K.rl (by omega) hg hl, rangeAt_kept K.ra (by omega) hg ha, rangeAt_kept K.rb (by omega) hg hb,
    there_kept K.tl (by omega) hg hl, there_kept K.ta (by omega) hg ha, there_kept K.tb (by omega) hg hb⟩
theorem KMem.begun (K : KMem w s pl pa pb v0 v1 x0 x1 bg L A B W) {k : Nat} {C : List Nat} {e : Ending} (H : BegunR W s v0 v1 k C e W') :
    e = .returned (.int .i64 0) ∧ ∃ v0' v1', KMem w s pl pa pb v0' v1' (if k = 0 then 0 :: C else x0) (if k = 0 then x1 else 0 :: C) (k : Int) L A B W' := by
  obtain ⟨v, rfl, hs, ho, hg⟩ := H
  obtain ⟨r1, r2, r3, r4, r5, r6, r7, r8⟩ := K.rows hg (fun b e => .inl (by simpa using e.symm))
  obtain ⟨p1, p2, p3, p4, p5⟩ := K.ord
  have n0 := own_ne K.o0 (b := s) (by omega)
  have n1 := own_ne K.o1 (b := s) (by omega)
  refine ⟨rfl, _, _, r1, ⟨p1, p2, p3, p4, r2⟩, hs, ?_, ?_, ?_, r3, r4, r5, r6, r7, r8⟩
  · split
    · exact ho.mono (by omega)
    · exact K.o0.kept hg n0
  · split
    · exact K.o1.kept hg n1
    · exact ho.mono (by omega)
  · intro b hb
    split at hb
    · rename_i hk
      rw [if_pos hk]
      intro h
      have := ho.own _ hb
      have := (K.o1.2.lt _ h).2
      omega
    · rename_i hk
      rw [if_neg hk]
      intro h
      have := ho.own _ h
      have := (K.o0.2.lt _ hb).2
      omega
theorem own_slice {v : Value} {base : Nat} {xs : List Nat} (h : OwnB W base v xs) (hp : 0 < xs.length) : ∃ g cap, v = .slice (some ⟨g, 0, none⟩) xs.length cap ∧ base ≤ g ∧ g < W.heap.size :=
  h.shape (fun e => by subst e; have := Bts.len h.bts; omega)
end
theorem K_begin {w : World} {s pl pa pb : Nat} {v0 v1 : Value} {x0 x1 : List Nat} {bg : Int} {L A B : List Nat} {W : World} (K : KMem w s pl pa pb v0 v1 x0 x1 bg L A B W) (l0 : x0.length ≤ 141) (l1 : x1.length ≤ 141) {R : List Nat} (hR : RecOK R) (hR0 : seqOf R ≠ 0) :
    Calls Try.prog 48 #[.pointer (some ⟨s, 0, none⟩), .agg (recL R).toArray] W (fun e W' => e = .returned (.int .i64 0) ∧
      W.grownBy W' (some s) ∧ ∃ v0' v1', KMem w s pl pa pb v0' v1' (if nextK x0 x1 = 0 then halfB R else x0) (if nextK x0 x1 = 0 then x1 else halfB R) (nextK x0 x1 : Nat) L A B W') :=
  (Begin_made s v0 v1 x0 x1 bg R W K.sto K.o0.bts K.o1.bts (by omega) (by omega) hR hR0).mono fun e W' h => ⟨(K.begun h).1, (h.choose_spec).2.2.2, (K.begun h).2⟩
theorem K_finish0 {w : World} {s pl pa pb : Nat} {v0 v1 : Value} {x0 x1 : List Nat} {L A B : List Nat} {W : World} (K : KMem w s pl pa pb v0 v1 x0 x1 0 L A B W) (hp : 0 < x0.length) :
    Calls Try.prog 49 #[.pointer (some ⟨s, 0, none⟩)] W (fun e W' => e = .returned (.int .i64 0) ∧ KMem w s pl pa pb v0 v1 (x0.set 0 165) x1 (-1) L A B W') := by
  obtain ⟨g, cap, rfl, hg, hgl⟩ := own_slice K.o0 hp
  obtain ⟨p1, p2, p3, p4, p5⟩ := K.ord
  refine (Finish_made W s 0 g _ cap (pb + 1) _ v1 x0 K.sto (.inl ⟨rfl, rfl⟩) K.o0 hp (by omega)).mono ?_
  rintro e W' ⟨rfl, hw, hs, ho⟩
  obtain ⟨q1, q2, q3, q4, q5, q6, q7, q8⟩ := K.drew.rows (gr_set W.drew g 0 (.int .u8 165)) (fun b e => .inr (by simp at e; omega))
  have n1 : v1.ownBlock = none ∨ v1.ownBlock ≠ some g := .inr (fun e => K.dis g rfl e)
  have h1 := (K.drew.o1.kept (gr_set W.drew g 0 (.int .u8 165)) n1).kept (gr_set _ s 2 (.int .i64 (-1))) (own_ne K.o1 (by omega))
  have hg2 := gr_set (W.drew.setCell ⟨g, 0, none⟩ (.int .u8 165)) s 2 (.int .i64 (-1))
  have hz : (W.drew.setCell ⟨g, 0, none⟩ (.int .u8 165)).heap.size = W.heap.size := by rw [World.size_setCell]; rfl
  rw [← hw] at h1 hg2
  exact ⟨rfl, q1.grown hg2 q1.size (fun b e => by simp at e; omega), ⟨p1, p2, p3, p4, Nat.lt_of_lt_of_le q2 hg2.size⟩, hs, ho, h1, K.dis,
    rangeAt_kept q3 (by omega) hg2 (by simp; omega), rangeAt_kept q4 (by omega) hg2 (by simp; omega), rangeAt_kept q5 (by omega) hg2 (by simp; omega),
    there_kept q6 (by omega) hg2 (by simp; omega), there_kept q7 (by omega) hg2 (by simp; omega), there_kept q8 (by omega) hg2 (by simp; omega)⟩
theorem K_finish1 {w : World} {s pl pa pb : Nat} {v0 v1 : Value} {x0 x1 : List Nat} {L A B : List Nat} {W : World} (K : KMem w s pl pa pb v0 v1 x0 x1 1 L A B W) (hp : 0 < x1.length) :
    Calls Try.prog 49 #[.pointer (some ⟨s, 0, none⟩)] W (fun e W' => e = .returned (.int .i64 0) ∧ KMem w s pl pa pb v0 v1 x0 (x1.set 0 165) (-1) L A B W') := by
  obtain ⟨g, cap, rfl, hg, hgl⟩ := own_slice K.o1 hp
  obtain ⟨p1, p2, p3, p4, p5⟩ := K.ord
  refine (Finish_made W s 1 g _ cap (pb + 1) v0 _ x1 K.sto (.inr ⟨rfl, rfl⟩) K.o1 hp (by omega)).mono ?_
  rintro e W' ⟨rfl, hw, hs, ho⟩
  obtain ⟨q1, q2, q3, q4, q5, q6, q7, q8⟩ := K.drew.rows (gr_set W.drew g 0 (.int .u8 165)) (fun b e => .inr (by simp at e; omega))
  have n1 : v0.ownBlock = none ∨ v0.ownBlock ≠ some g := .inr (fun e => K.dis g e rfl)
  have h1 := (K.drew.o0.kept (gr_set W.drew g 0 (.int .u8 165)) n1).kept (gr_set _ s 2 (.int .i64 (-1))) (own_ne K.o0 (by omega))
  have hg2 := gr_set (W.drew.setCell ⟨g, 0, none⟩ (.int .u8 165)) s 2 (.int .i64 (-1))
  have hz : (W.drew.setCell ⟨g, 0, none⟩ (.int .u8 165)).heap.size = W.heap.size := by rw [World.size_setCell]; rfl
  rw [← hw] at h1 hg2
  exact ⟨rfl, q1.grown hg2 q1.size (fun b e => by simp at e; omega), ⟨p1, p2, p3, p4, Nat.lt_of_lt_of_le q2 hg2.size⟩, hs, h1, ho, K.dis,
    rangeAt_kept q3 (by omega) hg2 (by simp; omega), rangeAt_kept q4 (by omega) hg2 (by simp; omega), rangeAt_kept q5 (by omega) hg2 (by simp; omega),
    there_kept q6 (by omega) hg2 (by simp; omega), there_kept q7 (by omega) hg2 (by simp; omega), there_kept q8 (by omega) hg2 (by simp; omega)⟩
theorem K_lose {w : World} {s pl pa pb : Nat} {v0 v1 : Value} {x0 x1 : List Nat} {bg : Int} {L A B : List Nat} {W : World} (K : KMem w s pl pa pb v0 v1 x0 x1 bg L A B W) :
    Calls Try.prog 50 #[.pointer (some ⟨s, 0, none⟩)] W (fun e W' => (∃ v, e = .returned v) ∧ KMem w s pl pa pb v0 v1 x0 x1 (-1) L A B W') := by
  refine (Lose_made W s v0 v1 bg K.sto).mono ?_
  rintro e W' ⟨he, hs, hg⟩
  obtain ⟨p1, p2, p3, p4, p5⟩ := K.ord
  obtain ⟨r1, r2, r3, r4, r5, r6, r7, r8⟩ := K.rows hg (fun b e => .inl (by simpa using e.symm))
  exact ⟨he, r1, ⟨p1, p2, p3, p4, r2⟩, hs, K.o0.kept hg (own_ne K.o0 (by omega)), K.o1.kept hg (own_ne K.o1 (by omega)), K.dis, r3, r4, r5, r6, r7, r8⟩
theorem K_recover {w : World} {s pl pa pb : Nat} {v0 v1 : Value} {x0 x1 : List Nat} {bg : Int} {L A B : List Nat} {W : World} (K : KMem w s pl pa pb v0 v1 x0 x1 bg L A B W) (l0 : x0.length ≤ 141) (l1 : x1.length ≤ 141) {R : List Nat} {er : Int} (hR : rcvR x0 x1 = R ∧ rcvE x0 x1 = er) :
    Calls Try.prog 51 #[.pointer (some ⟨s, 0, none⟩)] W (Gives W (.tuple #[.agg (recL R).toArray, .int .i64 er])) := by
  rw [← hR.1, ← hR.2]
  exact Recover_made s v0 v1 x0 x1 bg W K.sto K.o0.bts K.o1.bts (by omega) (by omega)
end Go.Proofs.Ytjkgodhoonkinaa
