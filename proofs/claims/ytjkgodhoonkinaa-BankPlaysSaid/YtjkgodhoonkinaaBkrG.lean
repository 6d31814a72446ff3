/-
  An act, to both stores: finish, lose, spoil.
-/
import Derived.Test.YtjkgodhoonkinaaBkrC
/-
  A store of the program's and one of the reference's, beside each other.
-/
namespace Go.Proofs.Ytjkgodhoonkinaa
open Go.RowKit
set_option linter.unusedVariables false
set_option linter.unusedSimpArgs false

def Apart (v u : Value) : Prop := ∀ b, v.ownBlock = some b → u.ownBlock ≠ some b
theorem Apart.nil (v : Value) : Apart v (.slice none 0 0) := fun b _ h => by simp [Value.ownBlock] at h
theorem Apart.new {W1 W2 : World} {b1 b2 : Nat} {v u : Value} {xs ys : List Nat} (h : OwnB W1 b1 v xs) (k : OwnB W2 b2 u ys) (hb : W1.heap.size ≤ b2) : Apart v u := fun b e1 e2 => by
  have := (h.2.lt _ e1).2
  have := k.own _ e2
  omega
theorem Apart.symm {v u : Value} (h : Apart v u) : Apart u v := fun b e1 e2 => h b e2 e1
structure PMem (w : World) (s r : Nat) (v0 v1 u0 u1 : Value) (x0 x1 : List Nat) (bg : Int) (y0 y1 : List Nat) (bq : Int) (W : World) : Prop where
  bel : Below w.heap.size w W
  ord : w.heap.size ≤ s ∧ s < r ∧ r < W.heap.size
  sto : StoAt W s v0 v1 bg true
  rst : RstAt W r u0 u1 bq
  o0 : OwnB W (r + 1) v0 x0
  o1 : OwnB W (r + 1) v1 x1
  p0 : OwnB W (r + 1) u0 y0
  p1 : OwnB W (r + 1) u1 y1
  a01 : Apart v0 v1
  b00 : Apart v0 u0
  b01 : Apart v0 u1
  b10 : Apart v1 u0
  b11 : Apart v1 u1
theorem PMem.below {w : World} {s r : Nat} {v0 v1 u0 u1 : Value} {x0 x1 : List Nat} {bg : Int} {y0 y1 : List Nat} {bq : Int} {W : World} {W' : World} (K : PMem w s r v0 v1 u0 u1 x0 x1 bg y0 y1 bq W) (hb : Below W.heap.size W W') : PMem w s r v0 v1 u0 u1 x0 x1 bg y0 y1 bq W' := by
  obtain ⟨o1, o2, o3⟩ := K.ord
  exact ⟨K.bel.trans (hb.mono K.bel.size), ⟨o1, o2, Nat.lt_of_lt_of_le o3 hb.size⟩, K.sto.below hb K.sto.lt, K.rst.below hb K.rst.lt, K.o0.below hb (Nat.le_refl _), K.o1.below hb (Nat.le_refl _), K.p0.below hb (Nat.le_refl _), K.p1.below hb (Nat.le_refl _), K.a01, K.b00, K.b01, K.b10, K.b11⟩
theorem PMem.drew {w : World} {s r : Nat} {v0 v1 u0 u1 : Value} {x0 x1 : List Nat} {bg : Int} {y0 y1 : List Nat} {bq : Int} {W : World} (K : PMem w s r v0 v1 u0 u1 x0 x1 bg y0 y1 bq W) : PMem w s r v0 v1 u0 u1 x0 x1 bg y0 y1 bq W.drew := K.below (Below.drew (Below.refl _ _))
theorem PMem.bel_row {w : World} {s r : Nat} {v0 v1 u0 u1 : Value} {x0 x1 : List Nat} {bg : Int} {y0 y1 : List Nat} {bq : Int} {W : World} {W' : World} (K : PMem w s r v0 v1 u0 u1 x0 x1 bg y0 y1 bq W) {row : Option Nat} (hg : W.grownBy W' row) (hr : ∀ b, row = some b → b = s ∨ r ≤ b) : Below w.heap.size w W' ∧ r < W'.heap.size := by
  obtain ⟨o1, o2, o3⟩ := K.ord
  exact ⟨K.bel.grown hg K.bel.size (fun b e => by rcases hr _ e with h | h <;> omega), Nat.lt_of_lt_of_le o3 hg.size⟩
theorem PMem.begun {w : World} {s r : Nat} {v0 v1 u0 u1 : Value} {x0 x1 : List Nat} {bg : Int} {y0 y1 : List Nat} {bq : Int} {W : World} {W' : World} (K : PMem w s r v0 v1 u0 u1 x0 x1 bg y0 y1 bq W) {k : Nat} {C : List Nat} {e : Ending} (H : BegunR W s v0 v1 k C e W') :
    e = .returned (.int .i64 0) ∧ ∃ v0' v1', PMem w s r v0' v1' u0 u1 (if k = 0 then 0 :: C else x0) (if k = 0 then x1 else 0 :: C) (k : Int) y0 y1 bq W' := by
  obtain ⟨v, rfl, hs, ho, hg⟩ := H
  obtain ⟨o1, o2, o3⟩ := K.ord
  obtain ⟨r1, r2⟩ := K.bel_row hg (fun b e => .inl (by simpa using e.symm))
  have hov : OwnB W' (r + 1) v (0 :: C) := ho.mono (by omega)
  have hr := K.rst.kept hg (by simp; omega)
  have h0 := K.o0.kept hg (own_ne K.o0 (by omega))
  have h1 := K.o1.kept hg (own_ne K.o1 (by omega))
  have q0 := K.p0.kept hg (own_ne K.p0 (by omega))
  have q1 := K.p1.kept hg (own_ne K.p1 (by omega))
  have a0 := Apart.new K.o0 ho (Nat.le_refl _)
  have a1 := Apart.new K.o1 ho (Nat.le_refl _)
  have c0 := (Apart.new K.p0 ho (Nat.le_refl _)).symm
  have c1 := (Apart.new K.p1 ho (Nat.le_refl _)).symm
  by_cases hk : k = 0
  · subst hk
    exact ⟨rfl, v, v1, r1, ⟨o1, o2, r2⟩, hs, hr, hov, h1, q0, q1, a1.symm, c0, c1, K.b10, K.b11⟩
  · rw [if_neg hk, if_neg hk]
    rw [if_neg hk, if_neg hk] at hs
    exact ⟨rfl, v0, v, r1, ⟨o1, o2, r2⟩, hs, hr, h0, hov, q0, q1, a0, K.b00, K.b01, c0, c1⟩
theorem PMem.rput {w : World} {s r : Nat} {v0 v1 u0 u1 : Value} {x0 x1 : List Nat} {bg : Int} {y0 y1 : List Nat} {bq : Int} {W : World} {W' : World} (K : PMem w s r v0 v1 u0 u1 x0 x1 bg y0 y1 bq W) {k : Nat} {B : List Nat} {bn : Int} {e : Ending} (H : RPutR W r u0 u1 bn k B e W') :
    e = .returned (.int .i64 0) ∧ ∃ u0' u1', PMem w s r v0 v1 u0' u1' x0 x1 bg (if k = 0 then B else y0) (if k = 0 then y1 else B) bn W' := by
  obtain ⟨u, rfl, hs, ho, hg⟩ := H
  obtain ⟨o1, o2, o3⟩ := K.ord
  obtain ⟨r1, r2⟩ := K.bel_row hg (fun b e => .inr (by simp at e; omega))
  have hov : OwnB W' (r + 1) u B := ho.mono (by omega)
  have hr := K.sto.kept hg (by simp; omega)
  have h0 := K.o0.kept hg (own_ne K.o0 (by omega))
  have h1 := K.o1.kept hg (own_ne K.o1 (by omega))
  have q0 := K.p0.kept hg (own_ne K.p0 (by omega))
  have q1 := K.p1.kept hg (own_ne K.p1 (by omega))
  have a0 := Apart.new K.o0 ho (Nat.le_refl _)
  have a1 := Apart.new K.o1 ho (Nat.le_refl _)
  by_cases hk : k = 0
  · subst hk
    exact ⟨rfl, u, u1, r1, ⟨o1, o2, r2⟩, hr, hs, h0, h1, hov, q1, K.a01, a0, K.b01, a1, K.b11⟩
  · rw [if_neg hk, if_neg hk]
    rw [if_neg hk, if_neg hk] at hs
    exact ⟨rfl, u0, u, r1, ⟨o1, o2, r2⟩, hr, hs, h0, h1, q0, hov, K.a01, K.b00, a0, K.b10, a1⟩
theorem PMem.rlost {w : World} {s r : Nat} {v0 v1 u0 u1 : Value} {x0 x1 : List Nat} {bg : Int} {y0 y1 : List Nat} {bq : Int} {W : World} (K : PMem w s r v0 v1 u0 u1 x0 x1 bg y0 y1 bq W) : PMem w s r v0 v1 u0 u1 x0 x1 bg y0 y1 (-1) (W.setCell ⟨r, 2, none⟩ (.int .i64 (-1))) := by
  have hg := gr_set W r 2 (.int .i64 (-1))
  obtain ⟨o1, o2, o3⟩ := K.ord
  obtain ⟨r1, r2⟩ := K.bel_row hg (fun b e => .inr (by simp at e; omega))
  refine ⟨r1, ⟨o1, o2, r2⟩, K.sto.kept hg (by simp; omega), (K.rst.set 2 (by omega) _).same (fun i hi => ?_), K.o0.kept hg (own_ne K.o0 (by omega)), K.o1.kept hg (own_ne K.o1 (by omega)), K.p0.kept hg (own_ne K.p0 (by omega)), K.p1.kept hg (own_ne K.p1 (by omega)), K.a01, K.b00, K.b01, K.b10, K.b11⟩
  have : i = 0 ∨ i = 1 ∨ i = 2 := by omega
  rcases this with rfl | rfl | rfl <;> rfl
theorem P_lose {w : World} {s r : Nat} {v0 v1 u0 u1 : Value} {x0 x1 : List Nat} {bg : Int} {y0 y1 : List Nat} {bq : Int} {W : World} (K : PMem w s r v0 v1 u0 u1 x0 x1 bg y0 y1 bq W) :
    Calls Try.prog 50 #[.pointer (some ⟨s, 0, none⟩)] W (fun e W' => (∃ v, e = .returned v) ∧ PMem w s r v0 v1 u0 u1 x0 x1 (-1) y0 y1 bq W') := by
  refine (Lose_made W s v0 v1 bg K.sto).mono ?_
  rintro e W' ⟨he, hs, hg⟩
  obtain ⟨o1, o2, o3⟩ := K.ord
  obtain ⟨r1, r2⟩ := K.bel_row hg (fun b e => .inl (by simpa using e.symm))
  exact ⟨he, r1, ⟨o1, o2, r2⟩, hs, K.rst.kept hg (by simp; omega), K.o0.kept hg (own_ne K.o0 (by omega)), K.o1.kept hg (own_ne K.o1 (by omega)), K.p0.kept hg (own_ne K.p0 (by omega)), K.p1.kept hg (own_ne K.p1 (by omega)), K.a01, K.b00, K.b01, K.b10, K.b11⟩
theorem P_begin {w : World} {s r : Nat} {v0 v1 u0 u1 : Value} {x0 x1 : List Nat} {bg : Int} {y0 y1 : List Nat} {bq : Int} {W : World} (K : PMem w s r v0 v1 u0 u1 x0 x1 bg y0 y1 bq W) (l0 : x0.length ≤ 141) (l1 : x1.length ≤ 141) {R : List Nat} (hR : RecOK R) (hR0 : seqOf R ≠ 0) :
    Calls Try.prog 48 #[.pointer (some ⟨s, 0, none⟩), .agg (recL R).toArray] W (fun e W' => e = .returned (.int .i64 0) ∧ W.grownBy W' (some s) ∧ ∃ v0' v1', PMem w s r v0' v1' u0 u1 (if nextK x0 x1 = 0 then halfB R else x0) (if nextK x0 x1 = 0 then x1 else halfB R) (nextK x0 x1 : Nat) y0 y1 bq W') :=
  (Begin_made s v0 v1 x0 x1 bg R W K.sto K.o0.bts K.o1.bts (by omega) (by omega) hR hR0).mono fun e W' h => ⟨(K.begun h).1, (h.choose_spec).2.2.2, (K.begun h).2⟩
theorem P_rbegin {w : World} {s r : Nat} {v0 v1 u0 u1 : Value} {x0 x1 : List Nat} {bg : Int} {y0 y1 : List Nat} {bq : Int} {W : World} (K : PMem w s r v0 v1 u0 u1 x0 x1 bg y0 y1 bq W) (l0 : y0.length ≤ 141) (l1 : y1.length ≤ 141) {R : List Nat} (hR : RecOK R) (hR0 : seqOf R ≠ 0) :
    Calls Try.prog 78 #[.pointer (some ⟨r, 0, none⟩), .agg (recL R).toArray] W (fun e W' => e = .returned (.int .i64 0) ∧ ∃ u0' u1', PMem w s r v0 v1 u0' u1' x0 x1 bg (if nextK y0 y1 = 0 then halfB R else y0) (if nextK y0 y1 = 0 then y1 else halfB R) (nextK y0 y1 : Nat) W') :=
  (rBegin_made r u0 u1 y0 y1 bq R W K.rst K.p0.bts K.p1.bts (by omega) (by omega) hR hR0).mono fun e W' h => K.rput (bn := (nextK y0 y1 : Nat)) (B := halfB R) h
theorem P_finish0 {w : World} {s r : Nat} {v0 v1 u0 u1 : Value} {x0 x1 : List Nat}  {y0 y1 : List Nat} {bq : Int} {W : World} (K : PMem w s r v0 v1 u0 u1 x0 x1 0 y0 y1 bq W) (hp : 0 < x0.length) :
    Calls Try.prog 49 #[.pointer (some ⟨s, 0, none⟩)] W (fun e W' => e = .returned (.int .i64 0) ∧ PMem w s r v0 v1 u0 u1 (x0.set 0 165) x1 (-1) y0 y1 bq W') := by
  obtain ⟨g, cap, rfl, hg, hgl⟩ := own_slice K.o0 hp
  obtain ⟨o1, o2, o3⟩ := K.ord
  refine (Finish_made W s 0 g _ cap (r + 1) _ _ x0 K.sto (.inl ⟨rfl, rfl⟩) K.o0 hp (by omega)).mono ?_
  rintro e W' ⟨rfl, hw, hs, ho⟩
  have hg1 := gr_set W.drew g 0 (.int .u8 165)
  have hg2 := gr_set (W.drew.setCell ⟨g, 0, none⟩ (.int .u8 165)) s 2 (.int .i64 (-1))
  have h1 := (K.drew.o1.kept hg1 (.inr (fun e => K.a01 g rfl e))).kept hg2 (own_ne K.o1 (by omega))
  have q0 := (K.drew.p0.kept hg1 (.inr (fun e => K.b00 g rfl e))).kept hg2 (own_ne K.p0 (by omega))
  have q1 := (K.drew.p1.kept hg1 (.inr (fun e => K.b01 g rfl e))).kept hg2 (own_ne K.p1 (by omega))
  have hr := (K.drew.rst.kept hg1 (by simp; omega)).kept hg2 (by simp; omega)
  obtain ⟨t1, t2⟩ := K.drew.bel_row hg1 (fun b e => .inr (by simp at e; omega))
  rw [← hw] at h1 q0 q1 hr hg2
  have t3 := t1.grown hg2 t1.size (fun b e => by simp at e; omega)
  exact ⟨rfl, t3, ⟨o1, o2, Nat.lt_of_lt_of_le t2 hg2.size⟩, hs, hr, ho, h1, q0, q1, K.a01, K.b00, K.b01, K.b10, K.b11⟩
theorem P_spoil0 {w : World} {s r : Nat} {v0 v1 u0 u1 : Value} {x0 x1 : List Nat} {bg : Int} {y0 y1 : List Nat} {bq : Int} {W : World} (K : PMem w s r v0 v1 u0 u1 x0 x1 bg y0 y1 bq W) {b : Nat} (hb : b < 256) (i : Nat) (hp : i < x0.length) :
    Calls Try.prog 53 #[.pointer (some ⟨s, 0, none⟩), .int .i64 0, .int .i64 (i : Int), .int .u8 (b : Int)] W (fun e W' => e = .returned (.int .i64 0) ∧ W.grownBy W' v0.ownBlock ∧ PMem w s r v0 v1 u0 u1 (x0.set i (x0.getD i 0 ^^^ b)) x1 bg y0 y1 bq W') := by
  obtain ⟨g, cap, rfl, hg, hgl⟩ := own_slice K.o0 (Nat.lt_of_le_of_lt (Nat.zero_le _) hp)
  obtain ⟨o1, o2, o3⟩ := K.ord
  have hy : x0.getD i 0 < 256 := Bts.lt K.o0.bts i
  refine (Spoil_in W s 0 g _ cap i (x0.getD i 0) b _ _ bg K.sto (by omega) (K.sto.at_ 0 (by omega)) hp (K.o0.cell i hp) (K.o0.free i) hy hb).mono ?_
  rintro e W' ⟨rfl, rfl⟩
  have hgr := gr_set W g i (.int .u8 ((x0.getD i 0 ^^^ b : Nat) : Int))
  obtain ⟨t1, t2⟩ := K.bel_row hgr (fun b e => .inr (by simp at e; omega))
  have h1 := K.o1.kept hgr (.inr (fun e => K.a01 g rfl e))
  have h0 := K.o0.store i (x0.getD i 0 ^^^ b) (byte_xor hy hb)
  have q0 := K.p0.kept hgr (.inr (fun e => K.b00 g rfl e))
  have q1 := K.p1.kept hgr (.inr (fun e => K.b01 g rfl e))
  exact ⟨rfl, hgr, t1, ⟨o1, o2, t2⟩, K.sto.kept hgr (by simp; omega), K.rst.kept hgr (by simp; omega), h0, h1, q0, q1, K.a01, K.b00, K.b01, K.b10, K.b11⟩
theorem P_rfinish0 {w : World} {s r : Nat} {v0 v1 u0 u1 : Value} {x0 x1 : List Nat} {bg : Int} {y0 y1 : List Nat}  {W : World} (K : PMem w s r v0 v1 u0 u1 x0 x1 bg y0 y1 0 W) (hp : 0 < y0.length) (hl : y0.length ≤ 141) :
    Calls Try.prog 79 #[.pointer (some ⟨r, 0, none⟩)] W (fun e W' => e = .returned (.int .i64 0) ∧ ∃ u0' u1', PMem w s r v0 v1 u0' u1' x0 x1 bg (y0.set 0 165) y1 (-1) W') :=
  (rFinish_made W r 0 u0 u1 y0 K.rst (.inl ⟨rfl, K.p0.bts⟩) hp (by omega)).mono fun e W' h => K.rput h
theorem P_rspoil0 {w : World} {s r : Nat} {v0 v1 u0 u1 : Value} {x0 x1 : List Nat} {bg : Int} {y0 y1 : List Nat} {bq : Int} {W : World} (K : PMem w s r v0 v1 u0 u1 x0 x1 bg y0 y1 bq W) {b : Nat} (hb : b < 256) (i : Nat) (hp : i < y0.length) (hl : y0.length ≤ 141) :
    Calls Try.prog 80 #[.pointer (some ⟨r, 0, none⟩), .int .i64 0, .int .i64 (i : Int), .int .u8 (b : Int)] W (fun e W' => e = .returned (.int .i64 0) ∧ ∃ u0' u1', PMem w s r v0 v1 u0' u1' x0 x1 bg (y0.set i (y0.getD i 0 ^^^ b)) y1 bq W') :=
  (rSpoil_in W r 0 i b u0 u1 u0 bq y0 K.rst (by omega) (K.rst.at_ 0 (by omega)) K.p0.bts hp (by omega) hb).mono fun e W' h => K.rput h
theorem P_finish1 {w : World} {s r : Nat} {v0 v1 u0 u1 : Value} {x0 x1 : List Nat}  {y0 y1 : List Nat} {bq : Int} {W : World} (K : PMem w s r v0 v1 u0 u1 x0 x1 1 y0 y1 bq W) (hp : 0 < x1.length) :
    Calls Try.prog 49 #[.pointer (some ⟨s, 0, none⟩)] W (fun e W' => e = .returned (.int .i64 0) ∧ PMem w s r v0 v1 u0 u1 x0 (x1.set 0 165) (-1) y0 y1 bq W') := by
  obtain ⟨g, cap, rfl, hg, hgl⟩ := own_slice K.o1 hp
  obtain ⟨o1, o2, o3⟩ := K.ord
  refine (Finish_made W s 1 g _ cap (r + 1) _ _ x1 K.sto (.inr ⟨rfl, rfl⟩) K.o1 hp (by omega)).mono ?_
  rintro e W' ⟨rfl, hw, hs, ho⟩
  have hg1 := gr_set W.drew g 0 (.int .u8 165)
  have hg2 := gr_set (W.drew.setCell ⟨g, 0, none⟩ (.int .u8 165)) s 2 (.int .i64 (-1))
  have h1 := (K.drew.o0.kept hg1 (.inr (fun e => K.a01.symm g rfl e))).kept hg2 (own_ne K.o0 (by omega))
  have q0 := (K.drew.p0.kept hg1 (.inr (fun e => K.b10 g rfl e))).kept hg2 (own_ne K.p0 (by omega))
  have q1 := (K.drew.p1.kept hg1 (.inr (fun e => K.b11 g rfl e))).kept hg2 (own_ne K.p1 (by omega))
  have hr := (K.drew.rst.kept hg1 (by simp; omega)).kept hg2 (by simp; omega)
  obtain ⟨t1, t2⟩ := K.drew.bel_row hg1 (fun b e => .inr (by simp at e; omega))
  rw [← hw] at h1 q0 q1 hr hg2
  have t3 := t1.grown hg2 t1.size (fun b e => by simp at e; omega)
  exact ⟨rfl, t3, ⟨o1, o2, Nat.lt_of_lt_of_le t2 hg2.size⟩, hs, hr, h1, ho, q0, q1, K.a01, K.b00, K.b01, K.b10, K.b11⟩
theorem P_spoil1 {w : World} {s r : Nat} {v0 v1 u0 u1 : Value} {x0 x1 : List Nat} {bg : Int} {y0 y1 : List Nat} {bq : Int} {W : World} (K : PMem w s r v0 v1 u0 u1 x0 x1 bg y0 y1 bq W) {b : Nat} (hb : b < 256) (i : Nat) (hp : i < x1.length) :
    Calls Try.prog 53 #[.pointer (some ⟨s, 0, none⟩), .int .i64 1, .int .i64 (i : Int), .int .u8 (b : Int)] W (fun e W' => e = .returned (.int .i64 0) ∧ W.grownBy W' v1.ownBlock ∧ PMem w s r v0 v1 u0 u1 x0 (x1.set i (x1.getD i 0 ^^^ b)) bg y0 y1 bq W') := by
  obtain ⟨g, cap, rfl, hg, hgl⟩ := own_slice K.o1 (Nat.lt_of_le_of_lt (Nat.zero_le _) hp)
  obtain ⟨o1, o2, o3⟩ := K.ord
  have hy : x1.getD i 0 < 256 := Bts.lt K.o1.bts i
  refine (Spoil_in W s 1 g _ cap i (x1.getD i 0) b _ _ bg K.sto (by omega) (K.sto.at_ 1 (by omega)) hp (K.o1.cell i hp) (K.o1.free i) hy hb).mono ?_
  rintro e W' ⟨rfl, rfl⟩
  have hgr := gr_set W g i (.int .u8 ((x1.getD i 0 ^^^ b : Nat) : Int))
  obtain ⟨t1, t2⟩ := K.bel_row hgr (fun b e => .inr (by simp at e; omega))
  have h1 := K.o0.kept hgr (.inr (fun e => K.a01.symm g rfl e))
  have h0 := K.o1.store i (x1.getD i 0 ^^^ b) (byte_xor hy hb)
  have q0 := K.p0.kept hgr (.inr (fun e => K.b10 g rfl e))
  have q1 := K.p1.kept hgr (.inr (fun e => K.b11 g rfl e))
  exact ⟨rfl, hgr, t1, ⟨o1, o2, t2⟩, K.sto.kept hgr (by simp; omega), K.rst.kept hgr (by simp; omega), h1, h0, q0, q1, K.a01, K.b00, K.b01, K.b10, K.b11⟩
theorem P_rfinish1 {w : World} {s r : Nat} {v0 v1 u0 u1 : Value} {x0 x1 : List Nat} {bg : Int} {y0 y1 : List Nat}  {W : World} (K : PMem w s r v0 v1 u0 u1 x0 x1 bg y0 y1 1 W) (hp : 0 < y1.length) (hl : y1.length ≤ 141) :
    Calls Try.prog 79 #[.pointer (some ⟨r, 0, none⟩)] W (fun e W' => e = .returned (.int .i64 0) ∧ ∃ u0' u1', PMem w s r v0 v1 u0' u1' x0 x1 bg y0 (y1.set 0 165) (-1) W') :=
  (rFinish_made W r 1 u0 u1 y1 K.rst (.inr ⟨rfl, K.p1.bts⟩) hp (by omega)).mono fun e W' h => K.rput h
theorem P_rspoil1 {w : World} {s r : Nat} {v0 v1 u0 u1 : Value} {x0 x1 : List Nat} {bg : Int} {y0 y1 : List Nat} {bq : Int} {W : World} (K : PMem w s r v0 v1 u0 u1 x0 x1 bg y0 y1 bq W) {b : Nat} (hb : b < 256) (i : Nat) (hp : i < y1.length) (hl : y1.length ≤ 141) :
    Calls Try.prog 80 #[.pointer (some ⟨r, 0, none⟩), .int .i64 1, .int .i64 (i : Int), .int .u8 (b : Int)] W (fun e W' => e = .returned (.int .i64 0) ∧ ∃ u0' u1', PMem w s r v0 v1 u0' u1' x0 x1 bg y0 (y1.set i (y1.getD i 0 ^^^ b)) bq W') :=
  (rSpoil_in W r 1 i b u0 u1 u1 bq y1 K.rst (by omega) (K.rst.at_ 1 (by omega)) K.p1.bts hp (by omega) hb).mono fun e W' h => K.rput h
end Go.Proofs.Ytjkgodhoonkinaa

/-
  An act, to both stores.
-/
namespace Go.Proofs.Ytjkgodhoonkinaa
open Go.RowKit
set_option linter.unusedVariables false
set_option linter.unusedSimpArgs false

structure PLaw (x0 x1 : List Nat) (bg : Int) : Prop where
  l0 : x0.length ≤ 141
  l1 : x1.length ≤ 141
  bgc : bg = -1 ∨ (bg = 0 ∧ 0 < x0.length) ∨ (bg = 1 ∧ 0 < x1.length)
theorem PLaw.begin {x0 x1 : List Nat} {bg : Int} (h : PLaw x0 x1 bg) {R : List Nat} (hR : RecOK R) : PLaw (if nextK x0 x1 = 0 then halfB R else x0) (if nextK x0 x1 = 0 then x1 else halfB R) (nextK x0 x1 : Nat) := by
  have hl := half_length hR 0
  by_cases hk : nextK x0 x1 = 0
  · rw [hk, if_pos rfl, if_pos rfl]
    exact ⟨hl, h.l1, .inr (.inl ⟨rfl, by simp⟩)⟩
  · rw [if_neg hk, if_neg hk]
    have : nextK x0 x1 = 1 := by unfold nextK at hk ⊢; split at hk <;> simp_all
    rw [this]
    exact ⟨h.l0, hl, .inr (.inr ⟨rfl, by simp⟩)⟩
theorem PLaw.lost {x0 x1 : List Nat} {bg : Int} (h : PLaw x0 x1 bg) : PLaw x0 x1 (-1) := ⟨h.l0, h.l1, .inl rfl⟩
theorem PLaw.fin0 {x0 x1 : List Nat} {bg : Int} (h : PLaw x0 x1 bg) : PLaw (x0.set 0 165) x1 (-1) := ⟨by rw [List.length_set]; exact h.l0, h.l1, .inl rfl⟩
theorem PLaw.fin1 {x0 x1 : List Nat} {bg : Int} (h : PLaw x0 x1 bg) : PLaw x0 (x1.set 0 165) (-1) := ⟨h.l0, by rw [List.length_set]; exact h.l1, .inl rfl⟩
theorem PLaw.sp0 {x0 x1 : List Nat} {bg : Int} (h : PLaw x0 x1 bg) (i z : Nat) : PLaw (x0.set i z) x1 bg := ⟨by rw [List.length_set]; exact h.l0, h.l1, by rw [List.length_set]; exact h.bgc⟩
theorem PLaw.sp1 {x0 x1 : List Nat} {bg : Int} (h : PLaw x0 x1 bg) (i z : Nat) : PLaw x0 (x1.set i z) bg := ⟨h.l0, by rw [List.length_set]; exact h.l1, by rw [List.length_set]; exact h.bgc⟩
def PWorld (w : World) (s r : Nat) (W : World) : Prop := ∃ v0 v1 u0 u1 x0 x1 bg, PLaw x0 x1 bg ∧ PMem w s r v0 v1 u0 u1 x0 x1 bg x0 x1 bg W
def PDone (w : World) (s r : Nat) (e : Ending) (W : World) : Prop := e = .returned (.bool true) ∧ PWorld w s r W
set_option maxRecDepth 100000 in
set_option maxHeartbeats 8000000 in
theorem do_begin (w0 : World) (s r : Nat) (w : World) (v0 v1 u0 u1 : Value) (x0 x1 : List Nat) (bg : Int) (d : Int) (R : List Nat) (nx : Bool) (bk at_ : Int) (b : Nat) (hR : RecOK R) (hb : b < 256) (law : PLaw x0 x1 bg) (mem : PMem w0 s r v0 v1 u0 u1 x0 x1 bg x0 x1 bg w) (hm4 : amongV d 9 < 4) :
    Calls Try.prog 55 #[.pointer (some ⟨s, 0, none⟩), .pointer (some ⟨r, 0, none⟩), .agg (actL d R nx bk at_ b).toArray] w (PDone w0 s r) := by
  have HMEM := Lib.hid mem
  have HLAW := Lib.hid law
  have HA := Lib.hid (rangeAt_boxed (w := w) (g := w.heap.size) (actL d R nx bk at_ b) 86)
  obtain ⟨CS, hCS⟩ : ∃ C, C = actL d R nx bk at_ b := ⟨_, rfl⟩
  have HCS := Lib.hid (And.intro hCS (And.intro hR hb))
  rw [← hCS] at HA ⊢
  clear hCS mem law hR hb
  go_enter Try.func55, Try.ntmps55
  go_upto_region 1 with fail
  obtain ⟨q, hq⟩ : ∃ q, q = w.heap.size := ⟨_, rfl⟩
  rw [← hq]
  rw [← hq] at HA
  refine wp_gen (fun W => PMem w0 s r v0 v1 u0 u1 x0 x1 bg x0 x1 bg W ∧ W.rangeAt q 0 CS ∧ q < W.heap.size) ⟨HMEM.out.below ((Below.refl _ _).alloc (Nat.le_refl _) _), HA.out, by rw [hq]; simp⟩ ?_
  have HQ := Lib.hid (show r < q ∧ (∀ k, v0.ownBlock = some k → k < q) ∧ (∀ k, v1.ownBlock = some k → k < q) from by
    rw [hq]
    exact ⟨HMEM.out.ord.2.2, fun k hk => (HMEM.out.o0.2.lt _ hk).2, fun k hk => (HMEM.out.o1.2.lt _ hk).2⟩)
  clear HA HMEM hq
  rintro W1 ⟨hm1, hr1, hl1⟩
  have z0 : W1.cell? ⟨q, 0, none⟩ = some (.int .i64 d) := hr1 0 _ (by rw [HCS.out.1]; rfl)
  have htl := actL_tail (d := d) (nx := nx) (bk := bk) (at_ := at_) (b := b) HCS.out.2.1.1
  rw [← HCS.out.1] at htl
  have z51 : W1.cell? ⟨q, 51, none⟩ = some (.bool nx) := by have := hr1 51 _ htl.1; rwa [Nat.zero_add] at this
  have HZ := Lib.hid (show W1.cell? ⟨q, 52, none⟩ = some (.int .i64 bk) ∧ W1.cell? ⟨q, 53, none⟩ = some (.int .i64 at_) ∧ W1.cell? ⟨q, 54, none⟩ = some (.int .u8 ((b : Nat) : Int)) from by
    have h1 := hr1 52 _ htl.2.1
    have h2 := hr1 53 _ htl.2.2.1
    have h3 := hr1 54 _ htl.2.2.2
    rw [Nat.zero_add] at h1 h2 h3
    exact ⟨h1, h2, h3⟩)
  have HRR := Lib.hid (show W1.rangeAt q 1 (recL R) by have := rangeAt_sub hr1 1 50; rwa [HCS.out.1, actL_rec HCS.out.2.1.1, Nat.zero_add] at this)
  have HM1 := Lib.hid hm1
  have HL1 := Lib.hid hl1
  have hm := amongV_bd d 9 (by omega)
  have HAM := Lib.hid (Among_any d 9 W1 (by omega) (by omega))
  haveI hlq : LtSize q W1 := ⟨hl1⟩
  clear hm1 hr1 hl1 htl
  generalize amongV d 9 = m at *
  obtain ⟨RL0, hRL0⟩ : ∃ L, L = recL R := ⟨_, rfl⟩
  have hll0 : RL0.length = 50 := by rw [hRL0]; exact recL_length HCS.out.2.1.1
  have hs := store_newR W1 50 RL0 hll0 (by rw [hRL0]; exact recL_one HCS.out.2.1.1)
  have hst := hs.1
  rw [← hRL0] at HRR
  have HS := Lib.hid (And.intro hRL0 (And.intro hs.2 hll0))
  clear hs hRL0
  go_upto_region 4 with (first | (go_at_call 23; with_reducible refine Calls.tells (HAM.out) ?_) | (refine wpList_load_mid rfl 50 (.tmp 17) (by rfl) q 1 (by rfl) RL0 _ HRR.out Try.underlying50 (by rfl) (by rw [HS.out.2.2]; kernel_rfl) ?_))
  obtain ⟨q8, hq8e⟩ : ∃ q, q = W1.heap.size := ⟨_, rfl⟩
  rw [← hq8e]
  rw [← hq8e] at HS
  refine wp_gen (fun W => Below q8 W1 W ∧ W.rangeAt q8 0 RL0 ∧ W.there q8 0 50 ∧ q8 < W.heap.size ∧ W.cell? ⟨q, 51, none⟩ = some (.bool nx)) ?_ ?_
  · obtain ⟨e1, ⟨e2, e3, e4, e5⟩, e6⟩ := HS.out
    exact ⟨e2, e3, e4, e5, cell_below e2 (hq8e ▸ HL1.out) z51⟩
  have hq8 : s < q8 ∧ r < q8 := by have := HM1.out.ord; omega
  have HR0 := Lib.hid (show RL0 = recL R from HS.out.1)
  have HQ8 := Lib.hid (show q < q8 from hq8e ▸ HL1.out)
  have HPM := Lib.hid (fun (W : World) (hb : Below q8 W1 W) => (show PMem w0 s r v0 v1 u0 u1 x0 x1 bg x0 x1 bg W from HM1.out.below (hq8e ▸ hb)))
  clear hst hll0 HS HRR z0 z51 HZ HM1 HL1 HAM hlq hq8e
  rintro W4 ⟨hb4, hr4, ht4, hl4, zz⟩
  have hm4' := HPM.out W4 hb4
  haveI : LtSize q W4 := ⟨by have := HQ8.out; omega⟩
  cases nx
  · have hok := HCS.out.2.1
    obtain ⟨R1, hR1⟩ : ∃ X, X = R := ⟨_, rfl⟩
    rw [← hR1] at hok
    obtain ⟨RL, hRLe⟩ : ∃ X, X = RL0 := ⟨_, rfl⟩
    have hRL : RL = recL R1 := by rw [hRLe, hR1]; exact HR0.out
    rw [← hRLe] at hr4
    clear hRLe hR1 ht4
    go_upto_region 7 with fail
    refine wp_gen (fun W => PMem w0 s r v0 v1 u0 u1 x0 x1 bg x0 x1 bg W ∧ W.rangeAt q8 0 RL ∧ q8 < W.heap.size) ⟨hm4', hr4, hl4⟩ ?_
    clear hm4' hr4 hl4 zz HPM hb4
    rintro W7 ⟨hk7, hr7, hl7⟩
    have HRL := Lib.hid (And.intro hRL (show RL.length = 50 by rw [hRL]; exact recL_length hok.1))
    have HOK := Lib.hid hok
    have HPL := Lib.hid (fun (W : World) => plain_any R1 W hok)
    rw [← hRL] at HPL
    have HRS := Lib.hid hr7
    have HQS := Lib.hid (And.intro hq8 (show q8 < W7.heap.size from hl7))
    by_cases h0 : seqOf R1 = 0
    · have HB := Lib.hid (Begin_bad s v0 v1 bg R1 W7.drew hk7.drew.sto hok h0)
      have HBR := Lib.hid (fun (W : World) => rBegin_bad r R1 W hok h0)
      rw [← hRL] at HB HBR
      have HK := Lib.hid (And.intro HLAW.out hk7)
      clear hRL hok hr7 hk7 h0 hq8 hl7
      refine wp_region_slim [5, 6] [(0, 3), (1, 0), (3, 3), (4, 0), (2, 1), (5, 2), (6, 2), (7, 3), (8, 3)] (fun X => X.rangeAt q8 0 RL) (by kernel_rfl) (by kernel_rfl) (fun d v c a w h => by cases d <;> exact h) HRS.out ?_
      simp only [List.map_cons, List.map_nil, slim]
      refine wpSched_pure ?sv1 rfl (by rfl) (fun W => ?sh1) ?sr1; (case sh1 => (go_simp; try (with_reducible rfl))); simp only [Act.put, List.getElem_toArray, List.getElem_cons_zero, List.getElem_cons_succ, List.setIfInBounds_toArray, List.set_cons_zero, List.set_cons_succ]
      refine wpSched_load 50 (.tmp 8) q8 0 RL _ rfl rfl (by rfl) (by rfl) (fun X hX => hX) Try.underlying50 (by rfl) (by rw [HRL.out.2]; kernel_rfl) ?_
      simp only [Act.put, List.getElem_toArray, List.getElem_cons_zero, List.getElem_cons_succ, List.setIfInBounds_toArray, List.set_cons_zero, List.set_cons_succ]
      refine wpSched_pure ?sv2 rfl (by rfl) (fun W => ?sh2) ?sr2; (case sh2 => (go_simp; try (with_reducible rfl))); simp only [Act.put, List.getElem_toArray, List.getElem_cons_zero, List.getElem_cons_succ, List.setIfInBounds_toArray, List.set_cons_zero, List.set_cons_succ]
      refine wpSched_load 50 (.tmp 8) q8 0 RL _ rfl rfl (by rfl) (by rfl) (fun X hX => hX) Try.underlying50 (by rfl) (by rw [HRL.out.2]; kernel_rfl) ?_
      simp only [Act.put, List.getElem_toArray, List.getElem_cons_zero, List.getElem_cons_succ, List.setIfInBounds_toArray, List.set_cons_zero, List.set_cons_succ]
      refine wpSched_eff rfl (by rfl) (fun K hK => ?_); go_simp
      refine HB.out.mono ?_
      rintro e1 w1 ⟨rfl, y1, rfl⟩
      refine hK _ _ (rangeAt_below (up_below W7.drew y1) HQS.out.2 HRS.out) ?_
      clear hK K
      refine wpSched_tail rfl (by rfl) (fun K hK => ?_); go_simp
      refine (HPL.out _).mono ?_
      rintro e2 w2 ⟨rfl, y2, rfl⟩
      refine hK _ _ ?_
      clear hK K
      refine wpSched_tail rfl (by rfl) (fun K hK => ?_); go_simp
      refine (HBR.out _).mono ?_
      rintro e3 w3 ⟨rfl, y3, rfl⟩
      refine hK _ _ ?_
      clear hK K
      refine wpSched_pure ?sv3 rfl (by rfl) (fun W => ?sh3) ?sr3; (case sh3 => (go_simp; try (with_reducible rfl))); simp only [Act.put, List.getElem_toArray, List.getElem_cons_zero, List.getElem_cons_succ, List.setIfInBounds_toArray, List.set_cons_zero, List.set_cons_succ]
      refine wpSched_pure ?sv4 rfl (by rfl) (fun W => ?sh4) ?sr4; (case sh4 => (go_simp; try (with_reducible rfl))); simp only [Act.put, List.getElem_toArray, List.getElem_cons_zero, List.getElem_cons_succ, List.setIfInBounds_toArray, List.set_cons_zero, List.set_cons_succ]
      refine wpSched_nil ?_
      have HEND := Lib.hid (show PWorld w0 s r (up (up (up W7.drew y1) y2) y3) from ⟨_, _, _, _, _, _, _, HK.out.1, ((HK.out.2.drew.below (up_below _ _)).below (up_below _ _)).below (up_below _ _)⟩)
      go_wp2_with fail
      go_ret
      exact ⟨rfl, HEND.out⟩
    · have HB := Lib.hid (P_begin hk7.drew HLAW.out.l0 HLAW.out.l1 hok h0)
      have HBR := Lib.hid (fun (W : World) (v0' v1' u0' u1' : Value) (a0 a1 : List Nat) (ab : Int) (hh : PMem w0 s r v0' v1' u0' u1' a0 a1 ab x0 x1 bg W) => P_rbegin hh HLAW.out.l0 HLAW.out.l1 hok h0)
      rw [← hRL] at HB HBR
      clear hRL hok hr7 hk7 h0 hq8 hl7
      refine wp_region_slim [5, 6] [(0, 3), (1, 0), (3, 3), (4, 0), (2, 1), (5, 2), (6, 2), (7, 3), (8, 3)] (fun X => X.rangeAt q8 0 RL) (by kernel_rfl) (by kernel_rfl) (fun d v c a w h => by cases d <;> exact h) HRS.out ?_
      simp only [List.map_cons, List.map_nil, slim]
      refine wpSched_pure ?sv5 rfl (by rfl) (fun W => ?sh5) ?sr5; (case sh5 => (go_simp; try (with_reducible rfl))); simp only [Act.put, List.getElem_toArray, List.getElem_cons_zero, List.getElem_cons_succ, List.setIfInBounds_toArray, List.set_cons_zero, List.set_cons_succ]
      refine wpSched_load 50 (.tmp 8) q8 0 RL _ rfl rfl (by rfl) (by rfl) (fun X hX => hX) Try.underlying50 (by rfl) (by rw [HRL.out.2]; kernel_rfl) ?_
      simp only [Act.put, List.getElem_toArray, List.getElem_cons_zero, List.getElem_cons_succ, List.setIfInBounds_toArray, List.set_cons_zero, List.set_cons_succ]
      refine wpSched_pure ?sv6 rfl (by rfl) (fun W => ?sh6) ?sr6; (case sh6 => (go_simp; try (with_reducible rfl))); simp only [Act.put, List.getElem_toArray, List.getElem_cons_zero, List.getElem_cons_succ, List.setIfInBounds_toArray, List.set_cons_zero, List.set_cons_succ]
      refine wpSched_load 50 (.tmp 8) q8 0 RL _ rfl rfl (by rfl) (by rfl) (fun X hX => hX) Try.underlying50 (by rfl) (by rw [HRL.out.2]; kernel_rfl) ?_
      simp only [Act.put, List.getElem_toArray, List.getElem_cons_zero, List.getElem_cons_succ, List.setIfInBounds_toArray, List.set_cons_zero, List.set_cons_succ]
      refine wpSched_eff rfl (by rfl) (fun K hK => ?_); go_simp
      refine HB.out.mono ?_
      rintro e1 w1 ⟨rfl, hg1, v0', v1', hm1⟩
      refine hK _ _ (rangeAt_kept (w := W7.drew) (row := some s) HRS.out HQS.out.2 hg1 (by have := HQS.out.1; simp; omega)) ?_
      clear hK K
      refine wpSched_tail rfl (by rfl) (fun K hK => ?_); go_simp
      refine (HPL.out _).mono ?_
      rintro e2 w2 ⟨rfl, y2, rfl⟩
      refine hK _ _ ?_
      clear hK K
      have hm2 := hm1.below (up_below w1 y2)
      have HBR2 := Lib.hid (HBR.out _ _ _ _ _ _ _ _ hm2)
      clear hm1 hm2 hg1
      refine wpSched_tail rfl (by rfl) (fun K hK => ?_); go_simp
      refine HBR2.out.mono ?_
      rintro e3 w3 ⟨rfl, u0', u1', hm3⟩
      refine hK _ _ ?_
      clear hK K
      have HM3 := Lib.hid (And.intro (HLAW.out.begin HOK.out) hm3)
      clear hm3
      refine wpSched_pure ?sv7 rfl (by rfl) (fun W => ?sh7) ?sr7; (case sh7 => (go_simp; try (with_reducible rfl))); simp only [Act.put, List.getElem_toArray, List.getElem_cons_zero, List.getElem_cons_succ, List.setIfInBounds_toArray, List.set_cons_zero, List.set_cons_succ]
      refine wpSched_pure ?sv8 rfl (by rfl) (fun W => ?sh8) ?sr8; (case sh8 => (go_simp; try (with_reducible rfl))); simp only [Act.put, List.getElem_toArray, List.getElem_cons_zero, List.getElem_cons_succ, List.setIfInBounds_toArray, List.set_cons_zero, List.set_cons_succ]
      refine wpSched_nil ?_
      go_wp2_with fail
      go_ret
      exact ⟨rfl, _, _, _, _, _, _, _, HM3.out⟩
  · have HRC := Lib.hid (rRecover_any W4 r u0 u1 bg x0 x1 hm4'.rst hm4'.p0.bts hm4'.p1.bts (by have := HLAW.out.l0; omega) (by have := HLAW.out.l1; omega))
    have HRV := Lib.hid (show RecOK (rcvR x0 x1) from by
      have h0 := hm4'.p0.1
      have h1 := hm4'.p1.1
      rcases rcnt_cases x0 x1 with ⟨_, h, _⟩ | ⟨_, h, _⟩ | ⟨_, h, _⟩ <;> rw [h]
      · exact zeroR_ok
      · exact rdR_ok h0
      · exact rdR_ok h1)
    have H4 := Lib.hid (And.intro hb4 (And.intro hr4 (And.intro ht4 hl4)))
    clear hm4' hr4 ht4 hl4 hb4
    generalize rcvE x0 x1 = er at *
    generalize rcvR x0 x1 = RV at *
    obtain ⟨VL, hVL⟩ : ∃ L, L = recL RV := ⟨_, rfl⟩
    have HNX := Lib.hid (fun (W : World) => rNext_any RV W HRV.out)
    rw [← hVL] at HRC HNX
    have HVL := Lib.hid (show VL.length = 50 ∧ VL.toArray.all (·.oneCell') = true by rw [hVL]; exact ⟨recL_length HRV.out.1, recL_one HRV.out.1⟩)
    clear hVL
    have hnn : nextN RV < 4294967296 := by
      have := HRV.out.2 0 (by omega)
      have : RV.getD 0 0 < 4294967296 := this
      unfold nextN
      split <;> omega
    have hok := (set_ok HCS.out.2.1 hnn).1
    generalize nextN RV = nn at *
    go_wp2_with fail
    refine HRC.out.mono ?_
    rintro e5 w5 ⟨rfl, y5, rfl⟩
    have hs := store_newR (up W4 y5) 69 VL HVL.out.1 HVL.out.2
    have hst := hs.1
    have hvl := HVL.out.1
    have HS := Lib.hid hs.2
    clear hs HRC
    go_upto_region 6 with fail
    refine wp_gen (fun W => (Below q8 W1 W ∧ W.rangeAt q8 0 RL0 ∧ W.there q8 0 50 ∧ q8 < W.heap.size) ∧ W.rangeAt (up W4 y5).heap.size 0 VL) ?_ ?_
    · obtain ⟨a1, a2, a3, a4⟩ := H4.out
      have hb := (up_below W4 y5).trans (HS.out.1.mono (up_size W4 y5))
      exact ⟨⟨a1.trans (hb.mono (Nat.le_of_lt a4)), rangeAt_below hb a4 a2, there_below hb a4 a3, Nat.lt_of_lt_of_le a4 hb.size⟩, HS.out.2.1⟩
    clear hst hvl HS H4 zz
    generalize (up W4 y5).heap.size = q9
    rintro W6 ⟨h6, hr9⟩
    have H6 := Lib.hid h6
    have H9 := Lib.hid hr9
    clear h6 hr9
    go_wp2_with (refine wpList_load_mid rfl 69 (.tmp 9) (by rfl) q9 0 (by rfl) VL _ H9.out Try.underlying69 (by rfl) (by rw [HVL.out.1]; kernel_rfl) ?_)
    refine (HNX.out W6).mono ?_
    rintro e6 w6 ⟨rfl, y6, rfl⟩
    have c8 : (up W6 y6).cell? ⟨q8, 0, none⟩ = some (.int .u32 ((R.getD 0 0 : Nat) : Int)) := by
      have h1 := H6.out.2.1 0 _ (by rw [HR0.out]; exact recL_get HCS.out.2.1.1 0 (by omega))
      exact cell_below (up_below W6 y6) H6.out.2.2.2 h1
    have f8 : (up W6 y6).frozen? ⟨q8, 0, none⟩ = false := by
      have h1 := (H6.out.2.2.1 0 (by omega)).2
      rw [(up_below W6 y6).frozen (p := ⟨q8, 0, none⟩) H6.out.2.2.2]; exact h1
    generalize R.getD 0 0 = r0 at c8
    obtain ⟨RL, hRL⟩ : ∃ X, X = recL (R.set 0 nn) := ⟨_, rfl⟩
    go_upto_region 7 with fail
    refine wp_gen (fun W => PMem w0 s r v0 v1 u0 u1 x0 x1 bg x0 x1 bg W ∧ W.rangeAt q8 0 RL ∧ q8 < W.heap.size) ?_ ?_
    · have hb2 : Below q8 W1 (up W6 y6) := H6.out.1.trans ((up_below W6 y6).mono (Nat.le_of_lt H6.out.2.2.2))
      refine ⟨HPM.out _ (hb2.setCell (Nat.le_refl _) _), ?_, by rw [World.size_setCell]; exact Nat.lt_of_lt_of_le H6.out.2.2.2 (up_size _ _)⟩
      have := rangeAt_set (rangeAt_below (up_below W6 y6) H6.out.2.2.2 H6.out.2.1) 0 (.int .u32 ((nn : Nat) : Int))
      rw [hRL, recL_set HCS.out.2.1.1, ← HR0.out]
      exact this
    clear H6 H9 HNX HVL HRV c8 f8 HPM
    obtain ⟨R1, hR1⟩ : ∃ X, X = R.set 0 nn := ⟨_, rfl⟩
    rw [← hR1] at hok hRL
    clear hR1 hnn
    rintro W7 ⟨hk7, hr7, hl7⟩
    have HRL := Lib.hid (And.intro hRL (show RL.length = 50 by rw [hRL]; exact recL_length hok.1))
    have HOK := Lib.hid hok
    have HPL := Lib.hid (fun (W : World) => plain_any R1 W hok)
    rw [← hRL] at HPL
    have HRS := Lib.hid hr7
    have HQS := Lib.hid (And.intro hq8 (show q8 < W7.heap.size from hl7))
    by_cases h0 : seqOf R1 = 0
    · have HB := Lib.hid (Begin_bad s v0 v1 bg R1 W7.drew hk7.drew.sto hok h0)
      have HBR := Lib.hid (fun (W : World) => rBegin_bad r R1 W hok h0)
      rw [← hRL] at HB HBR
      have HK := Lib.hid (And.intro HLAW.out hk7)
      clear hRL hok hr7 hk7 h0 hq8 hl7
      refine wp_region_slim [5, 6] [(0, 3), (1, 0), (3, 3), (4, 0), (2, 1), (5, 2), (6, 2), (7, 3), (8, 3)] (fun X => X.rangeAt q8 0 RL) (by kernel_rfl) (by kernel_rfl) (fun d v c a w h => by cases d <;> exact h) HRS.out ?_
      simp only [List.map_cons, List.map_nil, slim]
      refine wpSched_pure ?sv9 rfl (by rfl) (fun W => ?sh9) ?sr9; (case sh9 => (go_simp; try (with_reducible rfl))); simp only [Act.put, List.getElem_toArray, List.getElem_cons_zero, List.getElem_cons_succ, List.setIfInBounds_toArray, List.set_cons_zero, List.set_cons_succ]
      refine wpSched_load 50 (.tmp 8) q8 0 RL _ rfl rfl (by rfl) (by rfl) (fun X hX => hX) Try.underlying50 (by rfl) (by rw [HRL.out.2]; kernel_rfl) ?_
      simp only [Act.put, List.getElem_toArray, List.getElem_cons_zero, List.getElem_cons_succ, List.setIfInBounds_toArray, List.set_cons_zero, List.set_cons_succ]
      refine wpSched_pure ?sv10 rfl (by rfl) (fun W => ?sh10) ?sr10; (case sh10 => (go_simp; try (with_reducible rfl))); simp only [Act.put, List.getElem_toArray, List.getElem_cons_zero, List.getElem_cons_succ, List.setIfInBounds_toArray, List.set_cons_zero, List.set_cons_succ]
      refine wpSched_load 50 (.tmp 8) q8 0 RL _ rfl rfl (by rfl) (by rfl) (fun X hX => hX) Try.underlying50 (by rfl) (by rw [HRL.out.2]; kernel_rfl) ?_
      simp only [Act.put, List.getElem_toArray, List.getElem_cons_zero, List.getElem_cons_succ, List.setIfInBounds_toArray, List.set_cons_zero, List.set_cons_succ]
      refine wpSched_eff rfl (by rfl) (fun K hK => ?_); go_simp
      refine HB.out.mono ?_
      rintro e1 w1 ⟨rfl, y1, rfl⟩
      refine hK _ _ (rangeAt_below (up_below W7.drew y1) HQS.out.2 HRS.out) ?_
      clear hK K
      refine wpSched_tail rfl (by rfl) (fun K hK => ?_); go_simp
      refine (HPL.out _).mono ?_
      rintro e2 w2 ⟨rfl, y2, rfl⟩
      refine hK _ _ ?_
      clear hK K
      refine wpSched_tail rfl (by rfl) (fun K hK => ?_); go_simp
      refine (HBR.out _).mono ?_
      rintro e3 w3 ⟨rfl, y3, rfl⟩
      refine hK _ _ ?_
      clear hK K
      refine wpSched_pure ?sv11 rfl (by rfl) (fun W => ?sh11) ?sr11; (case sh11 => (go_simp; try (with_reducible rfl))); simp only [Act.put, List.getElem_toArray, List.getElem_cons_zero, List.getElem_cons_succ, List.setIfInBounds_toArray, List.set_cons_zero, List.set_cons_succ]
      refine wpSched_pure ?sv12 rfl (by rfl) (fun W => ?sh12) ?sr12; (case sh12 => (go_simp; try (with_reducible rfl))); simp only [Act.put, List.getElem_toArray, List.getElem_cons_zero, List.getElem_cons_succ, List.setIfInBounds_toArray, List.set_cons_zero, List.set_cons_succ]
      refine wpSched_nil ?_
      have HEND := Lib.hid (show PWorld w0 s r (up (up (up W7.drew y1) y2) y3) from ⟨_, _, _, _, _, _, _, HK.out.1, ((HK.out.2.drew.below (up_below _ _)).below (up_below _ _)).below (up_below _ _)⟩)
      go_wp2_with fail
      go_ret
      exact ⟨rfl, HEND.out⟩
    · have HB := Lib.hid (P_begin hk7.drew HLAW.out.l0 HLAW.out.l1 hok h0)
      have HBR := Lib.hid (fun (W : World) (v0' v1' u0' u1' : Value) (a0 a1 : List Nat) (ab : Int) (hh : PMem w0 s r v0' v1' u0' u1' a0 a1 ab x0 x1 bg W) => P_rbegin hh HLAW.out.l0 HLAW.out.l1 hok h0)
      rw [← hRL] at HB HBR
      clear hRL hok hr7 hk7 h0 hq8 hl7
      refine wp_region_slim [5, 6] [(0, 3), (1, 0), (3, 3), (4, 0), (2, 1), (5, 2), (6, 2), (7, 3), (8, 3)] (fun X => X.rangeAt q8 0 RL) (by kernel_rfl) (by kernel_rfl) (fun d v c a w h => by cases d <;> exact h) HRS.out ?_
      simp only [List.map_cons, List.map_nil, slim]
      refine wpSched_pure ?sv13 rfl (by rfl) (fun W => ?sh13) ?sr13; (case sh13 => (go_simp; try (with_reducible rfl))); simp only [Act.put, List.getElem_toArray, List.getElem_cons_zero, List.getElem_cons_succ, List.setIfInBounds_toArray, List.set_cons_zero, List.set_cons_succ]
      refine wpSched_load 50 (.tmp 8) q8 0 RL _ rfl rfl (by rfl) (by rfl) (fun X hX => hX) Try.underlying50 (by rfl) (by rw [HRL.out.2]; kernel_rfl) ?_
      simp only [Act.put, List.getElem_toArray, List.getElem_cons_zero, List.getElem_cons_succ, List.setIfInBounds_toArray, List.set_cons_zero, List.set_cons_succ]
      refine wpSched_pure ?sv14 rfl (by rfl) (fun W => ?sh14) ?sr14; (case sh14 => (go_simp; try (with_reducible rfl))); simp only [Act.put, List.getElem_toArray, List.getElem_cons_zero, List.getElem_cons_succ, List.setIfInBounds_toArray, List.set_cons_zero, List.set_cons_succ]
      refine wpSched_load 50 (.tmp 8) q8 0 RL _ rfl rfl (by rfl) (by rfl) (fun X hX => hX) Try.underlying50 (by rfl) (by rw [HRL.out.2]; kernel_rfl) ?_
      simp only [Act.put, List.getElem_toArray, List.getElem_cons_zero, List.getElem_cons_succ, List.setIfInBounds_toArray, List.set_cons_zero, List.set_cons_succ]
      refine wpSched_eff rfl (by rfl) (fun K hK => ?_); go_simp
      refine HB.out.mono ?_
      rintro e1 w1 ⟨rfl, hg1, v0', v1', hm1⟩
      refine hK _ _ (rangeAt_kept (w := W7.drew) (row := some s) HRS.out HQS.out.2 hg1 (by have := HQS.out.1; simp; omega)) ?_
      clear hK K
      refine wpSched_tail rfl (by rfl) (fun K hK => ?_); go_simp
      refine (HPL.out _).mono ?_
      rintro e2 w2 ⟨rfl, y2, rfl⟩
      refine hK _ _ ?_
      clear hK K
      have hm2 := hm1.below (up_below w1 y2)
      have HBR2 := Lib.hid (HBR.out _ _ _ _ _ _ _ _ hm2)
      clear hm1 hm2 hg1
      refine wpSched_tail rfl (by rfl) (fun K hK => ?_); go_simp
      refine HBR2.out.mono ?_
      rintro e3 w3 ⟨rfl, u0', u1', hm3⟩
      refine hK _ _ ?_
      clear hK K
      have HM3 := Lib.hid (And.intro (HLAW.out.begin HOK.out) hm3)
      clear hm3
      refine wpSched_pure ?sv15 rfl (by rfl) (fun W => ?sh15) ?sr15; (case sh15 => (go_simp; try (with_reducible rfl))); simp only [Act.put, List.getElem_toArray, List.getElem_cons_zero, List.getElem_cons_succ, List.setIfInBounds_toArray, List.set_cons_zero, List.set_cons_succ]
      refine wpSched_pure ?sv16 rfl (by rfl) (fun W => ?sh16) ?sr16; (case sh16 => (go_simp; try (with_reducible rfl))); simp only [Act.put, List.getElem_toArray, List.getElem_cons_zero, List.getElem_cons_succ, List.setIfInBounds_toArray, List.set_cons_zero, List.set_cons_succ]
      refine wpSched_nil ?_
      go_wp2_with fail
      go_ret
      exact ⟨rfl, _, _, _, _, _, _, _, HM3.out⟩
end Go.Proofs.Ytjkgodhoonkinaa
namespace Go.Proofs.Ytjkgodhoonkinaa
open Go.RowKit
set_option linter.unusedVariables false
set_option linter.unusedSimpArgs false

set_option maxRecDepth 100000 in
set_option maxHeartbeats 8000000 in
theorem do_finish (w0 : World) (s r : Nat) (w : World) (v0 v1 u0 u1 : Value) (x0 x1 : List Nat) (bg : Int) (d : Int) (R : List Nat) (nx : Bool) (bk at_ : Int) (b : Nat) (hR : RecOK R) (hb : b < 256) (law : PLaw x0 x1 bg) (mem : PMem w0 s r v0 v1 u0 u1 x0 x1 bg x0 x1 bg w) (hm4 : ¬ amongV d 9 < 4) (hm7 : amongV d 9 < 7) :
    Calls Try.prog 55 #[.pointer (some ⟨s, 0, none⟩), .pointer (some ⟨r, 0, none⟩), .agg (actL d R nx bk at_ b).toArray] w (PDone w0 s r) := by
  have HMEM := Lib.hid mem
  have HLAW := Lib.hid law
  have HA := Lib.hid (rangeAt_boxed (w := w) (g := w.heap.size) (actL d R nx bk at_ b) 86)
  obtain ⟨CS, hCS⟩ : ∃ C, C = actL d R nx bk at_ b := ⟨_, rfl⟩
  have HCS := Lib.hid (And.intro hCS (And.intro hR hb))
  rw [← hCS] at HA ⊢
  clear hCS mem law hR hb
  go_enter Try.func55, Try.ntmps55
  go_upto_region 1 with fail
  obtain ⟨q, hq⟩ : ∃ q, q = w.heap.size := ⟨_, rfl⟩
  rw [← hq]
  rw [← hq] at HA
  refine wp_gen (fun W => PMem w0 s r v0 v1 u0 u1 x0 x1 bg x0 x1 bg W ∧ W.rangeAt q 0 CS ∧ q < W.heap.size) ⟨HMEM.out.below ((Below.refl _ _).alloc (Nat.le_refl _) _), HA.out, by rw [hq]; simp⟩ ?_
  have HQ := Lib.hid (show r < q ∧ (∀ k, v0.ownBlock = some k → k < q) ∧ (∀ k, v1.ownBlock = some k → k < q) from by
    rw [hq]
    exact ⟨HMEM.out.ord.2.2, fun k hk => (HMEM.out.o0.2.lt _ hk).2, fun k hk => (HMEM.out.o1.2.lt _ hk).2⟩)
  clear HA HMEM hq
  rintro W1 ⟨hm1, hr1, hl1⟩
  have z0 : W1.cell? ⟨q, 0, none⟩ = some (.int .i64 d) := hr1 0 _ (by rw [HCS.out.1]; rfl)
  have htl := actL_tail (d := d) (nx := nx) (bk := bk) (at_ := at_) (b := b) HCS.out.2.1.1
  rw [← HCS.out.1] at htl
  have z51 : W1.cell? ⟨q, 51, none⟩ = some (.bool nx) := by have := hr1 51 _ htl.1; rwa [Nat.zero_add] at this
  have HZ := Lib.hid (show W1.cell? ⟨q, 52, none⟩ = some (.int .i64 bk) ∧ W1.cell? ⟨q, 53, none⟩ = some (.int .i64 at_) ∧ W1.cell? ⟨q, 54, none⟩ = some (.int .u8 ((b : Nat) : Int)) from by
    have h1 := hr1 52 _ htl.2.1
    have h2 := hr1 53 _ htl.2.2.1
    have h3 := hr1 54 _ htl.2.2.2
    rw [Nat.zero_add] at h1 h2 h3
    exact ⟨h1, h2, h3⟩)
  have HRR := Lib.hid (show W1.rangeAt q 1 (recL R) by have := rangeAt_sub hr1 1 50; rwa [HCS.out.1, actL_rec HCS.out.2.1.1, Nat.zero_add] at this)
  have HM1 := Lib.hid hm1
  have HL1 := Lib.hid hl1
  have hm := amongV_bd d 9 (by omega)
  have HAM := Lib.hid (Among_any d 9 W1 (by omega) (by omega))
  haveI hlq : LtSize q W1 := ⟨hl1⟩
  clear hm1 hr1 hl1 htl
  generalize amongV d 9 = m at *
  go_upto_region 9 with (go_at_call 23; with_reducible refine Calls.tells (HAM.out) ?_)
  refine wp_gen (fun W => PMem w0 s r v0 v1 u0 u1 x0 x1 bg x0 x1 bg W) HM1.out ?_
  clear HM1 HAM z0 z51 HZ HRR HL1 hlq
  rintro W2 hm2
  rcases HLAW.out.bgc with rfl | ⟨rfl, _⟩ | ⟨rfl, _⟩
  · have HF := Lib.hid (Finish_none W2 s v0 v1 hm2.sto)
    have HG := Lib.hid (rFinish_none W2 r u0 u1 hm2.rst)
    have HEND := Lib.hid (show PWorld w0 s r W2 from ⟨_, _, _, _, _, _, _, HLAW.out, hm2⟩)
    clear hm2
    go_wp2_with (first | (go_at_call 49; with_reducible refine Calls.tells (HF.out) ?_) | (go_at_call 79; with_reducible refine Calls.tells (HG.out) ?_))
    go_ret
    exact ⟨rfl, HEND.out⟩
  · have hp : 0 < x0.length := by
      rcases HLAW.out.bgc with h | ⟨h, h'⟩ | ⟨h, h'⟩
      · cases h
      · exact h'
      · cases h
    have HF := Lib.hid (P_finish0 hm2 hp)
    have HG := Lib.hid (fun (W : World) (a0 a1 : List Nat) (ab : Int) (hh : PMem w0 s r v0 v1 u0 u1 a0 a1 ab x0 x1 0 W) => P_rfinish0 hh hp HLAW.out.l0)
    clear hm2 hp
    go_wp2_with fail
    refine HF.out.mono ?_
    rintro e3 W3 ⟨rfl, hm3⟩
    have HG3 := Lib.hid (HG.out _ _ _ _ hm3)
    clear hm3 HF HG
    go_wp2_with fail
    refine HG3.out.mono ?_
    rintro e4 W4 ⟨rfl, u0', u1', hm4'⟩
    have HEND := Lib.hid (show PWorld w0 s r W4 from ⟨_, _, _, _, _, _, _, HLAW.out.fin0, hm4'⟩)
    clear hm4'
    go_wp2_with fail
    go_ret
    exact ⟨rfl, HEND.out⟩
  · have hp : 0 < x1.length := by
      rcases HLAW.out.bgc with h | ⟨h, h'⟩ | ⟨h, h'⟩
      · cases h
      · cases h
      · exact h'
    have HF := Lib.hid (P_finish1 hm2 hp)
    have HG := Lib.hid (fun (W : World) (a0 a1 : List Nat) (ab : Int) (hh : PMem w0 s r v0 v1 u0 u1 a0 a1 ab x0 x1 1 W) => P_rfinish1 hh hp HLAW.out.l1)
    clear hm2 hp
    go_wp2_with fail
    refine HF.out.mono ?_
    rintro e3 W3 ⟨rfl, hm3⟩
    have HG3 := Lib.hid (HG.out _ _ _ _ hm3)
    clear hm3 HF HG
    go_wp2_with fail
    refine HG3.out.mono ?_
    rintro e4 W4 ⟨rfl, u0', u1', hm4'⟩
    have HEND := Lib.hid (show PWorld w0 s r W4 from ⟨_, _, _, _, _, _, _, HLAW.out.fin1, hm4'⟩)
    clear hm4'
    go_wp2_with fail
    go_ret
    exact ⟨rfl, HEND.out⟩
set_option maxRecDepth 100000 in
set_option maxHeartbeats 8000000 in
theorem do_lose (w0 : World) (s r : Nat) (w : World) (v0 v1 u0 u1 : Value) (x0 x1 : List Nat) (bg : Int) (d : Int) (R : List Nat) (nx : Bool) (bk at_ : Int) (b : Nat) (hR : RecOK R) (hb : b < 256) (law : PLaw x0 x1 bg) (mem : PMem w0 s r v0 v1 u0 u1 x0 x1 bg x0 x1 bg w) (hm7 : ¬ amongV d 9 < 7) (hm8 : amongV d 9 < 8) :
    Calls Try.prog 55 #[.pointer (some ⟨s, 0, none⟩), .pointer (some ⟨r, 0, none⟩), .agg (actL d R nx bk at_ b).toArray] w (PDone w0 s r) := by
  have HMEM := Lib.hid mem
  have HLAW := Lib.hid law
  have HA := Lib.hid (rangeAt_boxed (w := w) (g := w.heap.size) (actL d R nx bk at_ b) 86)
  obtain ⟨CS, hCS⟩ : ∃ C, C = actL d R nx bk at_ b := ⟨_, rfl⟩
  have HCS := Lib.hid (And.intro hCS (And.intro hR hb))
  rw [← hCS] at HA ⊢
  clear hCS mem law hR hb
  go_enter Try.func55, Try.ntmps55
  go_upto_region 1 with fail
  obtain ⟨q, hq⟩ : ∃ q, q = w.heap.size := ⟨_, rfl⟩
  rw [← hq]
  rw [← hq] at HA
  refine wp_gen (fun W => PMem w0 s r v0 v1 u0 u1 x0 x1 bg x0 x1 bg W ∧ W.rangeAt q 0 CS ∧ q < W.heap.size) ⟨HMEM.out.below ((Below.refl _ _).alloc (Nat.le_refl _) _), HA.out, by rw [hq]; simp⟩ ?_
  have HQ := Lib.hid (show r < q ∧ (∀ k, v0.ownBlock = some k → k < q) ∧ (∀ k, v1.ownBlock = some k → k < q) from by
    rw [hq]
    exact ⟨HMEM.out.ord.2.2, fun k hk => (HMEM.out.o0.2.lt _ hk).2, fun k hk => (HMEM.out.o1.2.lt _ hk).2⟩)
  clear HA HMEM hq
  rintro W1 ⟨hm1, hr1, hl1⟩
  have z0 : W1.cell? ⟨q, 0, none⟩ = some (.int .i64 d) := hr1 0 _ (by rw [HCS.out.1]; rfl)
  have htl := actL_tail (d := d) (nx := nx) (bk := bk) (at_ := at_) (b := b) HCS.out.2.1.1
  rw [← HCS.out.1] at htl
  have z51 : W1.cell? ⟨q, 51, none⟩ = some (.bool nx) := by have := hr1 51 _ htl.1; rwa [Nat.zero_add] at this
  have HZ := Lib.hid (show W1.cell? ⟨q, 52, none⟩ = some (.int .i64 bk) ∧ W1.cell? ⟨q, 53, none⟩ = some (.int .i64 at_) ∧ W1.cell? ⟨q, 54, none⟩ = some (.int .u8 ((b : Nat) : Int)) from by
    have h1 := hr1 52 _ htl.2.1
    have h2 := hr1 53 _ htl.2.2.1
    have h3 := hr1 54 _ htl.2.2.2
    rw [Nat.zero_add] at h1 h2 h3
    exact ⟨h1, h2, h3⟩)
  have HRR := Lib.hid (show W1.rangeAt q 1 (recL R) by have := rangeAt_sub hr1 1 50; rwa [HCS.out.1, actL_rec HCS.out.2.1.1, Nat.zero_add] at this)
  have HM1 := Lib.hid hm1
  have HL1 := Lib.hid hl1
  have hm := amongV_bd d 9 (by omega)
  have HAM := Lib.hid (Among_any d 9 W1 (by omega) (by omega))
  haveI hlq : LtSize q W1 := ⟨hl1⟩
  clear hm1 hr1 hl1 htl
  generalize amongV d 9 = m at *
  obtain rfl : m = 7 := by omega
  go_upto_region 11 with (go_at_call 23; with_reducible refine Calls.tells (HAM.out) ?_)
  refine wp_gen (fun W => PMem w0 s r v0 v1 u0 u1 x0 x1 bg x0 x1 bg W) HM1.out ?_
  clear HM1 HAM z0 z51 HZ HRR HL1 hlq
  rintro W2 hm2
  have HF := Lib.hid (P_lose hm2)
  clear hm2
  go_wp2_with fail
  refine HF.out.mono ?_
  rintro e3 W3 ⟨⟨v3, rfl⟩, hm3⟩
  have c2 : W3.cell? ⟨r, 2, none⟩ = some (.int .i64 bg) := hm3.rst.at_ 2 (by omega)
  have f2 := hm3.rst.free 2
  haveI : LtSize r W3 := ⟨hm3.rst.lt⟩
  have HEND := Lib.hid (show PWorld w0 s r (W3.setCell ⟨r, 2, none⟩ (.int .i64 (-1))) from ⟨_, _, _, _, _, _, _, HLAW.out.lost, hm3.rlost⟩)
  clear hm3 HF
  go_wp2_with fail
  go_ret
  exact ⟨rfl, HEND.out⟩
set_option maxRecDepth 100000 in
set_option maxHeartbeats 8000000 in
theorem do_spoil (w0 : World) (s r : Nat) (w : World) (v0 v1 u0 u1 : Value) (x0 x1 : List Nat) (bg : Int) (d : Int) (R : List Nat) (nx : Bool) (bk at_ : Int) (b : Nat) (hR : RecOK R) (hb : b < 256) (law : PLaw x0 x1 bg) (mem : PMem w0 s r v0 v1 u0 u1 x0 x1 bg x0 x1 bg w) (hm8 : ¬ amongV d 9 < 8) :
    Calls Try.prog 55 #[.pointer (some ⟨s, 0, none⟩), .pointer (some ⟨r, 0, none⟩), .agg (actL d R nx bk at_ b).toArray] w (PDone w0 s r) := by
  have HMEM := Lib.hid mem
  have HLAW := Lib.hid law
  have HA := Lib.hid (rangeAt_boxed (w := w) (g := w.heap.size) (actL d R nx bk at_ b) 86)
  obtain ⟨CS, hCS⟩ : ∃ C, C = actL d R nx bk at_ b := ⟨_, rfl⟩
  have HCS := Lib.hid (And.intro hCS (And.intro hR hb))
  rw [← hCS] at HA ⊢
  clear hCS mem law hR hb
  go_enter Try.func55, Try.ntmps55
  go_upto_region 1 with fail
  obtain ⟨q, hq⟩ : ∃ q, q = w.heap.size := ⟨_, rfl⟩
  rw [← hq]
  rw [← hq] at HA
  refine wp_gen (fun W => PMem w0 s r v0 v1 u0 u1 x0 x1 bg x0 x1 bg W ∧ W.rangeAt q 0 CS ∧ q < W.heap.size) ⟨HMEM.out.below ((Below.refl _ _).alloc (Nat.le_refl _) _), HA.out, by rw [hq]; simp⟩ ?_
  have HQ := Lib.hid (show r < q ∧ (∀ k, v0.ownBlock = some k → k < q) ∧ (∀ k, v1.ownBlock = some k → k < q) from by
    rw [hq]
    exact ⟨HMEM.out.ord.2.2, fun k hk => (HMEM.out.o0.2.lt _ hk).2, fun k hk => (HMEM.out.o1.2.lt _ hk).2⟩)
  clear HA HMEM hq
  rintro W1 ⟨hm1, hr1, hl1⟩
  have z0 : W1.cell? ⟨q, 0, none⟩ = some (.int .i64 d) := hr1 0 _ (by rw [HCS.out.1]; rfl)
  have htl := actL_tail (d := d) (nx := nx) (bk := bk) (at_ := at_) (b := b) HCS.out.2.1.1
  rw [← HCS.out.1] at htl
  have z51 : W1.cell? ⟨q, 51, none⟩ = some (.bool nx) := by have := hr1 51 _ htl.1; rwa [Nat.zero_add] at this
  have HZ := Lib.hid (show W1.cell? ⟨q, 52, none⟩ = some (.int .i64 bk) ∧ W1.cell? ⟨q, 53, none⟩ = some (.int .i64 at_) ∧ W1.cell? ⟨q, 54, none⟩ = some (.int .u8 ((b : Nat) : Int)) from by
    have h1 := hr1 52 _ htl.2.1
    have h2 := hr1 53 _ htl.2.2.1
    have h3 := hr1 54 _ htl.2.2.2
    rw [Nat.zero_add] at h1 h2 h3
    exact ⟨h1, h2, h3⟩)
  have HRR := Lib.hid (show W1.rangeAt q 1 (recL R) by have := rangeAt_sub hr1 1 50; rwa [HCS.out.1, actL_rec HCS.out.2.1.1, Nat.zero_add] at this)
  have HM1 := Lib.hid hm1
  have HL1 := Lib.hid hl1
  have hm := amongV_bd d 9 (by omega)
  have HAM := Lib.hid (Among_any d 9 W1 (by omega) (by omega))
  haveI hlq : LtSize q W1 := ⟨hl1⟩
  clear hm1 hr1 hl1 htl
  generalize amongV d 9 = m at *
  obtain rfl : m = 8 := by omega
  go_upto_region 14 with (go_at_call 23; with_reducible refine Calls.tells (HAM.out) ?_)
  clear HAM z0 z51 HRR
  by_cases hk : bk < 0 ∨ 2 ≤ bk
  · have HS1 := Lib.hid (Spoil_out W1.drew s v0 v1 bg bk at_ ((b : Nat) : Int) HM1.out.drew.sto hk)
    have HS2 := Lib.hid (rSpoil_out W1.drew r bk at_ ((b : Nat) : Int) hk)
    clear hk
    refine wp_region_slim [15] [(0, 3), (1, 3), (2, 0), (3, 3), (4, 0), (5, 3), (6, 0), (8, 3), (9, 3), (10, 0), (11, 3), (12, 0), (13, 3), (14, 0), (7, 1), (15, 2), (16, 3), (17, 3)] (fun X => X.cell? ⟨q, 52, none⟩ = some (.int .i64 bk) ∧ X.cell? ⟨q, 53, none⟩ = some (.int .i64 at_) ∧ X.cell? ⟨q, 54, none⟩ = some (.int .u8 ((b : Nat) : Int))) (by kernel_rfl) (by kernel_rfl) (fun d v c a w h => by cases d <;> exact h) HZ.out ?_
    simp only [List.map_cons, List.map_nil, slim]
    refine wpSched_pure ?sv17 rfl (by rfl) (fun W => ?sh17) ?sr17; (case sh17 => (go_simp; try (with_reducible rfl))); simp only [Act.put, List.getElem_toArray, List.getElem_cons_zero, List.getElem_cons_succ, List.setIfInBounds_toArray, List.set_cons_zero, List.set_cons_succ]
    refine wpSched_pure ?sv18 rfl (by rfl) (fun W => ?sh18) ?sr18; (case sh18 => (go_simp; try (with_reducible rfl))); simp only [Act.put, List.getElem_toArray, List.getElem_cons_zero, List.getElem_cons_succ, List.setIfInBounds_toArray, List.set_cons_zero, List.set_cons_succ]
    refine wpSched_still ?sv19 rfl (by rfl) (fun W hW => ?sh19) ?sr19; (case sh19 => (obtain ⟨h1, h2, h3⟩ := hW; go_simp; try (with_reducible rfl))); simp only [Act.put, List.getElem_toArray, List.getElem_cons_zero, List.getElem_cons_succ, List.setIfInBounds_toArray, List.set_cons_zero, List.set_cons_succ]
    refine wpSched_pure ?sv20 rfl (by rfl) (fun W => ?sh20) ?sr20; (case sh20 => (go_simp; try (with_reducible rfl))); simp only [Act.put, List.getElem_toArray, List.getElem_cons_zero, List.getElem_cons_succ, List.setIfInBounds_toArray, List.set_cons_zero, List.set_cons_succ]
    refine wpSched_still ?sv21 rfl (by rfl) (fun W hW => ?sh21) ?sr21; (case sh21 => (obtain ⟨h1, h2, h3⟩ := hW; go_simp; try (with_reducible rfl))); simp only [Act.put, List.getElem_toArray, List.getElem_cons_zero, List.getElem_cons_succ, List.setIfInBounds_toArray, List.set_cons_zero, List.set_cons_succ]
    refine wpSched_pure ?sv22 rfl (by rfl) (fun W => ?sh22) ?sr22; (case sh22 => (go_simp; try (with_reducible rfl))); simp only [Act.put, List.getElem_toArray, List.getElem_cons_zero, List.getElem_cons_succ, List.setIfInBounds_toArray, List.set_cons_zero, List.set_cons_succ]
    refine wpSched_still ?sv23 rfl (by rfl) (fun W hW => ?sh23) ?sr23; (case sh23 => (obtain ⟨h1, h2, h3⟩ := hW; go_simp; try (with_reducible rfl))); simp only [Act.put, List.getElem_toArray, List.getElem_cons_zero, List.getElem_cons_succ, List.setIfInBounds_toArray, List.set_cons_zero, List.set_cons_succ]
    refine wpSched_pure ?sv24 rfl (by rfl) (fun W => ?sh24) ?sr24; (case sh24 => (go_simp; try (with_reducible rfl))); simp only [Act.put, List.getElem_toArray, List.getElem_cons_zero, List.getElem_cons_succ, List.setIfInBounds_toArray, List.set_cons_zero, List.set_cons_succ]
    refine wpSched_pure ?sv25 rfl (by rfl) (fun W => ?sh25) ?sr25; (case sh25 => (go_simp; try (with_reducible rfl))); simp only [Act.put, List.getElem_toArray, List.getElem_cons_zero, List.getElem_cons_succ, List.setIfInBounds_toArray, List.set_cons_zero, List.set_cons_succ]
    refine wpSched_still ?sv26 rfl (by rfl) (fun W hW => ?sh26) ?sr26; (case sh26 => (obtain ⟨h1, h2, h3⟩ := hW; go_simp; try (with_reducible rfl))); simp only [Act.put, List.getElem_toArray, List.getElem_cons_zero, List.getElem_cons_succ, List.setIfInBounds_toArray, List.set_cons_zero, List.set_cons_succ]
    refine wpSched_pure ?sv27 rfl (by rfl) (fun W => ?sh27) ?sr27; (case sh27 => (go_simp; try (with_reducible rfl))); simp only [Act.put, List.getElem_toArray, List.getElem_cons_zero, List.getElem_cons_succ, List.setIfInBounds_toArray, List.set_cons_zero, List.set_cons_succ]
    refine wpSched_still ?sv28 rfl (by rfl) (fun W hW => ?sh28) ?sr28; (case sh28 => (obtain ⟨h1, h2, h3⟩ := hW; go_simp; try (with_reducible rfl))); simp only [Act.put, List.getElem_toArray, List.getElem_cons_zero, List.getElem_cons_succ, List.setIfInBounds_toArray, List.set_cons_zero, List.set_cons_succ]
    refine wpSched_pure ?sv29 rfl (by rfl) (fun W => ?sh29) ?sr29; (case sh29 => (go_simp; try (with_reducible rfl))); simp only [Act.put, List.getElem_toArray, List.getElem_cons_zero, List.getElem_cons_succ, List.setIfInBounds_toArray, List.set_cons_zero, List.set_cons_succ]
    refine wpSched_still ?sv30 rfl (by rfl) (fun W hW => ?sh30) ?sr30; (case sh30 => (obtain ⟨h1, h2, h3⟩ := hW; go_simp; try (with_reducible rfl))); simp only [Act.put, List.getElem_toArray, List.getElem_cons_zero, List.getElem_cons_succ, List.setIfInBounds_toArray, List.set_cons_zero, List.set_cons_succ]
    refine wpSched_eff rfl (by rfl) (fun K hK => ?_); go_simp
    refine HS1.out.mono ?_
    rintro e1 w1 ⟨rfl, rfl⟩
    refine hK _ _ HZ.out ?_
    clear hK K
    refine wpSched_tail rfl (by rfl) (fun K hK => ?_); go_simp
    refine HS2.out.mono ?_
    rintro e2 w2 ⟨rfl, rfl⟩
    refine hK _ _ ?_
    clear hK K
    refine wpSched_pure ?sv31 rfl (by rfl) (fun W => ?sh31) ?sr31; (case sh31 => (go_simp; try (with_reducible rfl))); simp only [Act.put, List.getElem_toArray, List.getElem_cons_zero, List.getElem_cons_succ, List.setIfInBounds_toArray, List.set_cons_zero, List.set_cons_succ]
    refine wpSched_pure ?sv32 rfl (by rfl) (fun W => ?sh32) ?sr32; (case sh32 => (go_simp; try (with_reducible rfl))); simp only [Act.put, List.getElem_toArray, List.getElem_cons_zero, List.getElem_cons_succ, List.setIfInBounds_toArray, List.set_cons_zero, List.set_cons_succ]
    refine wpSched_nil ?_
    have HEND := Lib.hid (show PWorld w0 s r W1.drew from ⟨_, _, _, _, _, _, _, HLAW.out, HM1.out.drew⟩)
    go_wp2_with fail
    go_ret
    exact ⟨rfl, HEND.out⟩
  rcases (show bk = 0 ∨ bk = 1 by omega) with rfl | rfl
  · clear hk
    by_cases ha : at_ < 0 ∨ (x0.length : Int) ≤ at_
    · obtain ⟨va, vn, vc, hve⟩ := HM1.out.o0.bts.slice
      have hvn : vn = x0.length := by have := HM1.out.o0.bts; rw [hve] at this; exact this.len
      obtain ⟨ua, un, uc, hue⟩ := HM1.out.p0.bts.slice
      have hun : un = x0.length := by have := HM1.out.p0.bts; rw [hue] at this; exact this.len
      have HS1 := Lib.hid (Spoil_place W1.drew s 0 vn vc va v0 v1 bg at_ ((b : Nat) : Int) HM1.out.drew.sto (by omega) (by rw [← hve]; exact HM1.out.drew.sto.at_ 0 (by omega)) (by rw [hvn]; exact ha))
      have HS2 := Lib.hid (rSpoil_place W1.drew r 0 un uc ua at_ ((b : Nat) : Int) HM1.out.drew.rst.lt (by omega) (by rw [← hue]; exact HM1.out.drew.rst.at_ 0 (by omega)) (by rw [hun]; exact ha))
      clear hve hvn hue hun ha
      refine wp_region_slim [15] [(0, 3), (1, 3), (2, 0), (3, 3), (4, 0), (5, 3), (6, 0), (8, 3), (9, 3), (10, 0), (11, 3), (12, 0), (13, 3), (14, 0), (7, 1), (15, 2), (16, 3), (17, 3)] (fun X => X.cell? ⟨q, 52, none⟩ = some (.int .i64 0) ∧ X.cell? ⟨q, 53, none⟩ = some (.int .i64 at_) ∧ X.cell? ⟨q, 54, none⟩ = some (.int .u8 ((b : Nat) : Int))) (by kernel_rfl) (by kernel_rfl) (fun d v c a w h => by cases d <;> exact h) HZ.out ?_
      simp only [List.map_cons, List.map_nil, slim]
      refine wpSched_pure ?sv33 rfl (by rfl) (fun W => ?sh33) ?sr33; (case sh33 => (go_simp; try (with_reducible rfl))); simp only [Act.put, List.getElem_toArray, List.getElem_cons_zero, List.getElem_cons_succ, List.setIfInBounds_toArray, List.set_cons_zero, List.set_cons_succ]
      refine wpSched_pure ?sv34 rfl (by rfl) (fun W => ?sh34) ?sr34; (case sh34 => (go_simp; try (with_reducible rfl))); simp only [Act.put, List.getElem_toArray, List.getElem_cons_zero, List.getElem_cons_succ, List.setIfInBounds_toArray, List.set_cons_zero, List.set_cons_succ]
      refine wpSched_still ?sv35 rfl (by rfl) (fun W hW => ?sh35) ?sr35; (case sh35 => (obtain ⟨h1, h2, h3⟩ := hW; go_simp; try (with_reducible rfl))); simp only [Act.put, List.getElem_toArray, List.getElem_cons_zero, List.getElem_cons_succ, List.setIfInBounds_toArray, List.set_cons_zero, List.set_cons_succ]
      refine wpSched_pure ?sv36 rfl (by rfl) (fun W => ?sh36) ?sr36; (case sh36 => (go_simp; try (with_reducible rfl))); simp only [Act.put, List.getElem_toArray, List.getElem_cons_zero, List.getElem_cons_succ, List.setIfInBounds_toArray, List.set_cons_zero, List.set_cons_succ]
      refine wpSched_still ?sv37 rfl (by rfl) (fun W hW => ?sh37) ?sr37; (case sh37 => (obtain ⟨h1, h2, h3⟩ := hW; go_simp; try (with_reducible rfl))); simp only [Act.put, List.getElem_toArray, List.getElem_cons_zero, List.getElem_cons_succ, List.setIfInBounds_toArray, List.set_cons_zero, List.set_cons_succ]
      refine wpSched_pure ?sv38 rfl (by rfl) (fun W => ?sh38) ?sr38; (case sh38 => (go_simp; try (with_reducible rfl))); simp only [Act.put, List.getElem_toArray, List.getElem_cons_zero, List.getElem_cons_succ, List.setIfInBounds_toArray, List.set_cons_zero, List.set_cons_succ]
      refine wpSched_still ?sv39 rfl (by rfl) (fun W hW => ?sh39) ?sr39; (case sh39 => (obtain ⟨h1, h2, h3⟩ := hW; go_simp; try (with_reducible rfl))); simp only [Act.put, List.getElem_toArray, List.getElem_cons_zero, List.getElem_cons_succ, List.setIfInBounds_toArray, List.set_cons_zero, List.set_cons_succ]
      refine wpSched_pure ?sv40 rfl (by rfl) (fun W => ?sh40) ?sr40; (case sh40 => (go_simp; try (with_reducible rfl))); simp only [Act.put, List.getElem_toArray, List.getElem_cons_zero, List.getElem_cons_succ, List.setIfInBounds_toArray, List.set_cons_zero, List.set_cons_succ]
      refine wpSched_pure ?sv41 rfl (by rfl) (fun W => ?sh41) ?sr41; (case sh41 => (go_simp; try (with_reducible rfl))); simp only [Act.put, List.getElem_toArray, List.getElem_cons_zero, List.getElem_cons_succ, List.setIfInBounds_toArray, List.set_cons_zero, List.set_cons_succ]
      refine wpSched_still ?sv42 rfl (by rfl) (fun W hW => ?sh42) ?sr42; (case sh42 => (obtain ⟨h1, h2, h3⟩ := hW; go_simp; try (with_reducible rfl))); simp only [Act.put, List.getElem_toArray, List.getElem_cons_zero, List.getElem_cons_succ, List.setIfInBounds_toArray, List.set_cons_zero, List.set_cons_succ]
      refine wpSched_pure ?sv43 rfl (by rfl) (fun W => ?sh43) ?sr43; (case sh43 => (go_simp; try (with_reducible rfl))); simp only [Act.put, List.getElem_toArray, List.getElem_cons_zero, List.getElem_cons_succ, List.setIfInBounds_toArray, List.set_cons_zero, List.set_cons_succ]
      refine wpSched_still ?sv44 rfl (by rfl) (fun W hW => ?sh44) ?sr44; (case sh44 => (obtain ⟨h1, h2, h3⟩ := hW; go_simp; try (with_reducible rfl))); simp only [Act.put, List.getElem_toArray, List.getElem_cons_zero, List.getElem_cons_succ, List.setIfInBounds_toArray, List.set_cons_zero, List.set_cons_succ]
      refine wpSched_pure ?sv45 rfl (by rfl) (fun W => ?sh45) ?sr45; (case sh45 => (go_simp; try (with_reducible rfl))); simp only [Act.put, List.getElem_toArray, List.getElem_cons_zero, List.getElem_cons_succ, List.setIfInBounds_toArray, List.set_cons_zero, List.set_cons_succ]
      refine wpSched_still ?sv46 rfl (by rfl) (fun W hW => ?sh46) ?sr46; (case sh46 => (obtain ⟨h1, h2, h3⟩ := hW; go_simp; try (with_reducible rfl))); simp only [Act.put, List.getElem_toArray, List.getElem_cons_zero, List.getElem_cons_succ, List.setIfInBounds_toArray, List.set_cons_zero, List.set_cons_succ]
      refine wpSched_eff rfl (by rfl) (fun K hK => ?_); go_simp
      refine HS1.out.mono ?_
      rintro e1 w1 ⟨rfl, rfl⟩
      refine hK _ _ HZ.out ?_
      clear hK K
      refine wpSched_tail rfl (by rfl) (fun K hK => ?_); go_simp
      refine HS2.out.mono ?_
      rintro e2 w2 ⟨rfl, rfl⟩
      refine hK _ _ ?_
      clear hK K
      refine wpSched_pure ?sv47 rfl (by rfl) (fun W => ?sh47) ?sr47; (case sh47 => (go_simp; try (with_reducible rfl))); simp only [Act.put, List.getElem_toArray, List.getElem_cons_zero, List.getElem_cons_succ, List.setIfInBounds_toArray, List.set_cons_zero, List.set_cons_succ]
      refine wpSched_pure ?sv48 rfl (by rfl) (fun W => ?sh48) ?sr48; (case sh48 => (go_simp; try (with_reducible rfl))); simp only [Act.put, List.getElem_toArray, List.getElem_cons_zero, List.getElem_cons_succ, List.setIfInBounds_toArray, List.set_cons_zero, List.set_cons_succ]
      refine wpSched_nil ?_
      have HEND := Lib.hid (show PWorld w0 s r W1.drew from ⟨_, _, _, _, _, _, _, HLAW.out, HM1.out.drew⟩)
      go_wp2_with fail
      go_ret
      exact ⟨rfl, HEND.out⟩
    · obtain ⟨an, rfl⟩ : ∃ an : Nat, at_ = (an : Int) := ⟨at_.toNat, by omega⟩
      have hai : an < x0.length := by omega
      have HS1 := Lib.hid (P_spoil0 HM1.out.drew HCS.out.2.2 an hai)
      have HG := Lib.hid (fun (W : World) (a0 a1 : List Nat) (ab : Int) (hh : PMem w0 s r v0 v1 u0 u1 a0 a1 ab x0 x1 bg W) => P_rspoil0 hh HCS.out.2.2 an hai HLAW.out.l0)
      have HQ2 := Lib.hid (fun k (hk : v0.ownBlock = some k) => (HQ.out.2.1 k hk))
      clear ha hai
      refine wp_region_slim [15] [(0, 3), (1, 3), (2, 0), (3, 3), (4, 0), (5, 3), (6, 0), (8, 3), (9, 3), (10, 0), (11, 3), (12, 0), (13, 3), (14, 0), (7, 1), (15, 2), (16, 3), (17, 3)] (fun X => X.cell? ⟨q, 52, none⟩ = some (.int .i64 0) ∧ X.cell? ⟨q, 53, none⟩ = some (.int .i64 ((an : Nat) : Int)) ∧ X.cell? ⟨q, 54, none⟩ = some (.int .u8 ((b : Nat) : Int))) (by kernel_rfl) (by kernel_rfl) (fun d v c a w h => by cases d <;> exact h) HZ.out ?_
      simp only [List.map_cons, List.map_nil, slim]
      refine wpSched_pure ?sv49 rfl (by rfl) (fun W => ?sh49) ?sr49; (case sh49 => (go_simp; try (with_reducible rfl))); simp only [Act.put, List.getElem_toArray, List.getElem_cons_zero, List.getElem_cons_succ, List.setIfInBounds_toArray, List.set_cons_zero, List.set_cons_succ]
      refine wpSched_pure ?sv50 rfl (by rfl) (fun W => ?sh50) ?sr50; (case sh50 => (go_simp; try (with_reducible rfl))); simp only [Act.put, List.getElem_toArray, List.getElem_cons_zero, List.getElem_cons_succ, List.setIfInBounds_toArray, List.set_cons_zero, List.set_cons_succ]
      refine wpSched_still ?sv51 rfl (by rfl) (fun W hW => ?sh51) ?sr51; (case sh51 => (obtain ⟨h1, h2, h3⟩ := hW; go_simp; try (with_reducible rfl))); simp only [Act.put, List.getElem_toArray, List.getElem_cons_zero, List.getElem_cons_succ, List.setIfInBounds_toArray, List.set_cons_zero, List.set_cons_succ]
      refine wpSched_pure ?sv52 rfl (by rfl) (fun W => ?sh52) ?sr52; (case sh52 => (go_simp; try (with_reducible rfl))); simp only [Act.put, List.getElem_toArray, List.getElem_cons_zero, List.getElem_cons_succ, List.setIfInBounds_toArray, List.set_cons_zero, List.set_cons_succ]
      refine wpSched_still ?sv53 rfl (by rfl) (fun W hW => ?sh53) ?sr53; (case sh53 => (obtain ⟨h1, h2, h3⟩ := hW; go_simp; try (with_reducible rfl))); simp only [Act.put, List.getElem_toArray, List.getElem_cons_zero, List.getElem_cons_succ, List.setIfInBounds_toArray, List.set_cons_zero, List.set_cons_succ]
      refine wpSched_pure ?sv54 rfl (by rfl) (fun W => ?sh54) ?sr54; (case sh54 => (go_simp; try (with_reducible rfl))); simp only [Act.put, List.getElem_toArray, List.getElem_cons_zero, List.getElem_cons_succ, List.setIfInBounds_toArray, List.set_cons_zero, List.set_cons_succ]
      refine wpSched_still ?sv55 rfl (by rfl) (fun W hW => ?sh55) ?sr55; (case sh55 => (obtain ⟨h1, h2, h3⟩ := hW; go_simp; try (with_reducible rfl))); simp only [Act.put, List.getElem_toArray, List.getElem_cons_zero, List.getElem_cons_succ, List.setIfInBounds_toArray, List.set_cons_zero, List.set_cons_succ]
      refine wpSched_pure ?sv56 rfl (by rfl) (fun W => ?sh56) ?sr56; (case sh56 => (go_simp; try (with_reducible rfl))); simp only [Act.put, List.getElem_toArray, List.getElem_cons_zero, List.getElem_cons_succ, List.setIfInBounds_toArray, List.set_cons_zero, List.set_cons_succ]
      refine wpSched_pure ?sv57 rfl (by rfl) (fun W => ?sh57) ?sr57; (case sh57 => (go_simp; try (with_reducible rfl))); simp only [Act.put, List.getElem_toArray, List.getElem_cons_zero, List.getElem_cons_succ, List.setIfInBounds_toArray, List.set_cons_zero, List.set_cons_succ]
      refine wpSched_still ?sv58 rfl (by rfl) (fun W hW => ?sh58) ?sr58; (case sh58 => (obtain ⟨h1, h2, h3⟩ := hW; go_simp; try (with_reducible rfl))); simp only [Act.put, List.getElem_toArray, List.getElem_cons_zero, List.getElem_cons_succ, List.setIfInBounds_toArray, List.set_cons_zero, List.set_cons_succ]
      refine wpSched_pure ?sv59 rfl (by rfl) (fun W => ?sh59) ?sr59; (case sh59 => (go_simp; try (with_reducible rfl))); simp only [Act.put, List.getElem_toArray, List.getElem_cons_zero, List.getElem_cons_succ, List.setIfInBounds_toArray, List.set_cons_zero, List.set_cons_succ]
      refine wpSched_still ?sv60 rfl (by rfl) (fun W hW => ?sh60) ?sr60; (case sh60 => (obtain ⟨h1, h2, h3⟩ := hW; go_simp; try (with_reducible rfl))); simp only [Act.put, List.getElem_toArray, List.getElem_cons_zero, List.getElem_cons_succ, List.setIfInBounds_toArray, List.set_cons_zero, List.set_cons_succ]
      refine wpSched_pure ?sv61 rfl (by rfl) (fun W => ?sh61) ?sr61; (case sh61 => (go_simp; try (with_reducible rfl))); simp only [Act.put, List.getElem_toArray, List.getElem_cons_zero, List.getElem_cons_succ, List.setIfInBounds_toArray, List.set_cons_zero, List.set_cons_succ]
      refine wpSched_still ?sv62 rfl (by rfl) (fun W hW => ?sh62) ?sr62; (case sh62 => (obtain ⟨h1, h2, h3⟩ := hW; go_simp; try (with_reducible rfl))); simp only [Act.put, List.getElem_toArray, List.getElem_cons_zero, List.getElem_cons_succ, List.setIfInBounds_toArray, List.set_cons_zero, List.set_cons_succ]
      refine wpSched_eff rfl (by rfl) (fun K hK => ?_); go_simp
      refine HS1.out.mono ?_
      rintro e1 w1 ⟨rfl, hg1, hm1⟩
      refine hK _ _ ?_ ?_
      · obtain ⟨h1, h2, h3⟩ := HZ.out
        have hne : v0.ownBlock ≠ some q := fun e => by have := HQ2.out _ e; omega
        exact ⟨kept_cell' (w := W1.drew) h1 hg1 hne, kept_cell' (w := W1.drew) h2 hg1 hne, kept_cell' (w := W1.drew) h3 hg1 hne⟩
      clear hK K hg1
      have HG3 := Lib.hid (HG.out _ _ _ _ hm1)
      clear hm1 HG
      refine wpSched_tail rfl (by rfl) (fun K hK => ?_); go_simp
      refine HG3.out.mono ?_
      rintro e2 w2 ⟨rfl, u0', u1', hm2⟩
      refine hK _ _ ?_
      clear hK K
      have HEND := Lib.hid (show PWorld w0 s r w2 from ⟨_, _, _, _, _, _, _, HLAW.out.sp0 _ _, hm2⟩)
      clear hm2 HG3
      refine wpSched_pure ?sv63 rfl (by rfl) (fun W => ?sh63) ?sr63; (case sh63 => (go_simp; try (with_reducible rfl))); simp only [Act.put, List.getElem_toArray, List.getElem_cons_zero, List.getElem_cons_succ, List.setIfInBounds_toArray, List.set_cons_zero, List.set_cons_succ]
      refine wpSched_pure ?sv64 rfl (by rfl) (fun W => ?sh64) ?sr64; (case sh64 => (go_simp; try (with_reducible rfl))); simp only [Act.put, List.getElem_toArray, List.getElem_cons_zero, List.getElem_cons_succ, List.setIfInBounds_toArray, List.set_cons_zero, List.set_cons_succ]
      refine wpSched_nil ?_
      go_wp2_with fail
      go_ret
      exact ⟨rfl, HEND.out⟩
  · clear hk
    by_cases ha : at_ < 0 ∨ (x1.length : Int) ≤ at_
    · obtain ⟨va, vn, vc, hve⟩ := HM1.out.o1.bts.slice
      have hvn : vn = x1.length := by have := HM1.out.o1.bts; rw [hve] at this; exact this.len
      obtain ⟨ua, un, uc, hue⟩ := HM1.out.p1.bts.slice
      have hun : un = x1.length := by have := HM1.out.p1.bts; rw [hue] at this; exact this.len
      have HS1 := Lib.hid (Spoil_place W1.drew s 1 vn vc va v0 v1 bg at_ ((b : Nat) : Int) HM1.out.drew.sto (by omega) (by rw [← hve]; exact HM1.out.drew.sto.at_ 1 (by omega)) (by rw [hvn]; exact ha))
      have HS2 := Lib.hid (rSpoil_place W1.drew r 1 un uc ua at_ ((b : Nat) : Int) HM1.out.drew.rst.lt (by omega) (by rw [← hue]; exact HM1.out.drew.rst.at_ 1 (by omega)) (by rw [hun]; exact ha))
      clear hve hvn hue hun ha
      refine wp_region_slim [15] [(0, 3), (1, 3), (2, 0), (3, 3), (4, 0), (5, 3), (6, 0), (8, 3), (9, 3), (10, 0), (11, 3), (12, 0), (13, 3), (14, 0), (7, 1), (15, 2), (16, 3), (17, 3)] (fun X => X.cell? ⟨q, 52, none⟩ = some (.int .i64 1) ∧ X.cell? ⟨q, 53, none⟩ = some (.int .i64 at_) ∧ X.cell? ⟨q, 54, none⟩ = some (.int .u8 ((b : Nat) : Int))) (by kernel_rfl) (by kernel_rfl) (fun d v c a w h => by cases d <;> exact h) HZ.out ?_
      simp only [List.map_cons, List.map_nil, slim]
      refine wpSched_pure ?sv65 rfl (by rfl) (fun W => ?sh65) ?sr65; (case sh65 => (go_simp; try (with_reducible rfl))); simp only [Act.put, List.getElem_toArray, List.getElem_cons_zero, List.getElem_cons_succ, List.setIfInBounds_toArray, List.set_cons_zero, List.set_cons_succ]
      refine wpSched_pure ?sv66 rfl (by rfl) (fun W => ?sh66) ?sr66; (case sh66 => (go_simp; try (with_reducible rfl))); simp only [Act.put, List.getElem_toArray, List.getElem_cons_zero, List.getElem_cons_succ, List.setIfInBounds_toArray, List.set_cons_zero, List.set_cons_succ]
      refine wpSched_still ?sv67 rfl (by rfl) (fun W hW => ?sh67) ?sr67; (case sh67 => (obtain ⟨h1, h2, h3⟩ := hW; go_simp; try (with_reducible rfl))); simp only [Act.put, List.getElem_toArray, List.getElem_cons_zero, List.getElem_cons_succ, List.setIfInBounds_toArray, List.set_cons_zero, List.set_cons_succ]
      refine wpSched_pure ?sv68 rfl (by rfl) (fun W => ?sh68) ?sr68; (case sh68 => (go_simp; try (with_reducible rfl))); simp only [Act.put, List.getElem_toArray, List.getElem_cons_zero, List.getElem_cons_succ, List.setIfInBounds_toArray, List.set_cons_zero, List.set_cons_succ]
      refine wpSched_still ?sv69 rfl (by rfl) (fun W hW => ?sh69) ?sr69; (case sh69 => (obtain ⟨h1, h2, h3⟩ := hW; go_simp; try (with_reducible rfl))); simp only [Act.put, List.getElem_toArray, List.getElem_cons_zero, List.getElem_cons_succ, List.setIfInBounds_toArray, List.set_cons_zero, List.set_cons_succ]
      refine wpSched_pure ?sv70 rfl (by rfl) (fun W => ?sh70) ?sr70; (case sh70 => (go_simp; try (with_reducible rfl))); simp only [Act.put, List.getElem_toArray, List.getElem_cons_zero, List.getElem_cons_succ, List.setIfInBounds_toArray, List.set_cons_zero, List.set_cons_succ]
      refine wpSched_still ?sv71 rfl (by rfl) (fun W hW => ?sh71) ?sr71; (case sh71 => (obtain ⟨h1, h2, h3⟩ := hW; go_simp; try (with_reducible rfl))); simp only [Act.put, List.getElem_toArray, List.getElem_cons_zero, List.getElem_cons_succ, List.setIfInBounds_toArray, List.set_cons_zero, List.set_cons_succ]
      refine wpSched_pure ?sv72 rfl (by rfl) (fun W => ?sh72) ?sr72; (case sh72 => (go_simp; try (with_reducible rfl))); simp only [Act.put, List.getElem_toArray, List.getElem_cons_zero, List.getElem_cons_succ, List.setIfInBounds_toArray, List.set_cons_zero, List.set_cons_succ]
      refine wpSched_pure ?sv73 rfl (by rfl) (fun W => ?sh73) ?sr73; (case sh73 => (go_simp; try (with_reducible rfl))); simp only [Act.put, List.getElem_toArray, List.getElem_cons_zero, List.getElem_cons_succ, List.setIfInBounds_toArray, List.set_cons_zero, List.set_cons_succ]
      refine wpSched_still ?sv74 rfl (by rfl) (fun W hW => ?sh74) ?sr74; (case sh74 => (obtain ⟨h1, h2, h3⟩ := hW; go_simp; try (with_reducible rfl))); simp only [Act.put, List.getElem_toArray, List.getElem_cons_zero, List.getElem_cons_succ, List.setIfInBounds_toArray, List.set_cons_zero, List.set_cons_succ]
      refine wpSched_pure ?sv75 rfl (by rfl) (fun W => ?sh75) ?sr75; (case sh75 => (go_simp; try (with_reducible rfl))); simp only [Act.put, List.getElem_toArray, List.getElem_cons_zero, List.getElem_cons_succ, List.setIfInBounds_toArray, List.set_cons_zero, List.set_cons_succ]
      refine wpSched_still ?sv76 rfl (by rfl) (fun W hW => ?sh76) ?sr76; (case sh76 => (obtain ⟨h1, h2, h3⟩ := hW; go_simp; try (with_reducible rfl))); simp only [Act.put, List.getElem_toArray, List.getElem_cons_zero, List.getElem_cons_succ, List.setIfInBounds_toArray, List.set_cons_zero, List.set_cons_succ]
      refine wpSched_pure ?sv77 rfl (by rfl) (fun W => ?sh77) ?sr77; (case sh77 => (go_simp; try (with_reducible rfl))); simp only [Act.put, List.getElem_toArray, List.getElem_cons_zero, List.getElem_cons_succ, List.setIfInBounds_toArray, List.set_cons_zero, List.set_cons_succ]
      refine wpSched_still ?sv78 rfl (by rfl) (fun W hW => ?sh78) ?sr78; (case sh78 => (obtain ⟨h1, h2, h3⟩ := hW; go_simp; try (with_reducible rfl))); simp only [Act.put, List.getElem_toArray, List.getElem_cons_zero, List.getElem_cons_succ, List.setIfInBounds_toArray, List.set_cons_zero, List.set_cons_succ]
      refine wpSched_eff rfl (by rfl) (fun K hK => ?_); go_simp
      refine HS1.out.mono ?_
      rintro e1 w1 ⟨rfl, rfl⟩
      refine hK _ _ HZ.out ?_
      clear hK K
      refine wpSched_tail rfl (by rfl) (fun K hK => ?_); go_simp
      refine HS2.out.mono ?_
      rintro e2 w2 ⟨rfl, rfl⟩
      refine hK _ _ ?_
      clear hK K
      refine wpSched_pure ?sv79 rfl (by rfl) (fun W => ?sh79) ?sr79; (case sh79 => (go_simp; try (with_reducible rfl))); simp only [Act.put, List.getElem_toArray, List.getElem_cons_zero, List.getElem_cons_succ, List.setIfInBounds_toArray, List.set_cons_zero, List.set_cons_succ]
      refine wpSched_pure ?sv80 rfl (by rfl) (fun W => ?sh80) ?sr80; (case sh80 => (go_simp; try (with_reducible rfl))); simp only [Act.put, List.getElem_toArray, List.getElem_cons_zero, List.getElem_cons_succ, List.setIfInBounds_toArray, List.set_cons_zero, List.set_cons_succ]
      refine wpSched_nil ?_
      have HEND := Lib.hid (show PWorld w0 s r W1.drew from ⟨_, _, _, _, _, _, _, HLAW.out, HM1.out.drew⟩)
      go_wp2_with fail
      go_ret
      exact ⟨rfl, HEND.out⟩
    · obtain ⟨an, rfl⟩ : ∃ an : Nat, at_ = (an : Int) := ⟨at_.toNat, by omega⟩
      have hai : an < x1.length := by omega
      have HS1 := Lib.hid (P_spoil1 HM1.out.drew HCS.out.2.2 an hai)
      have HG := Lib.hid (fun (W : World) (a0 a1 : List Nat) (ab : Int) (hh : PMem w0 s r v0 v1 u0 u1 a0 a1 ab x0 x1 bg W) => P_rspoil1 hh HCS.out.2.2 an hai HLAW.out.l1)
      have HQ2 := Lib.hid (fun k (hk : v1.ownBlock = some k) => (HQ.out.2.2 k hk))
      clear ha hai
      refine wp_region_slim [15] [(0, 3), (1, 3), (2, 0), (3, 3), (4, 0), (5, 3), (6, 0), (8, 3), (9, 3), (10, 0), (11, 3), (12, 0), (13, 3), (14, 0), (7, 1), (15, 2), (16, 3), (17, 3)] (fun X => X.cell? ⟨q, 52, none⟩ = some (.int .i64 1) ∧ X.cell? ⟨q, 53, none⟩ = some (.int .i64 ((an : Nat) : Int)) ∧ X.cell? ⟨q, 54, none⟩ = some (.int .u8 ((b : Nat) : Int))) (by kernel_rfl) (by kernel_rfl) (fun d v c a w h => by cases d <;> exact h) HZ.out ?_
      simp only [List.map_cons, List.map_nil, slim]
      refine wpSched_pure ?sv81 rfl (by rfl) (fun W => ?sh81) ?sr81; (case sh81 => (go_simp; try (with_reducible rfl))); simp only [Act.put, List.getElem_toArray, List.getElem_cons_zero, List.getElem_cons_succ, List.setIfInBounds_toArray, List.set_cons_zero, List.set_cons_succ]
      refine wpSched_pure ?sv82 rfl (by rfl) (fun W => ?sh82) ?sr82; (case sh82 => (go_simp; try (with_reducible rfl))); simp only [Act.put, List.getElem_toArray, List.getElem_cons_zero, List.getElem_cons_succ, List.setIfInBounds_toArray, List.set_cons_zero, List.set_cons_succ]
      refine wpSched_still ?sv83 rfl (by rfl) (fun W hW => ?sh83) ?sr83; (case sh83 => (obtain ⟨h1, h2, h3⟩ := hW; go_simp; try (with_reducible rfl))); simp only [Act.put, List.getElem_toArray, List.getElem_cons_zero, List.getElem_cons_succ, List.setIfInBounds_toArray, List.set_cons_zero, List.set_cons_succ]
      refine wpSched_pure ?sv84 rfl (by rfl) (fun W => ?sh84) ?sr84; (case sh84 => (go_simp; try (with_reducible rfl))); simp only [Act.put, List.getElem_toArray, List.getElem_cons_zero, List.getElem_cons_succ, List.setIfInBounds_toArray, List.set_cons_zero, List.set_cons_succ]
      refine wpSched_still ?sv85 rfl (by rfl) (fun W hW => ?sh85) ?sr85; (case sh85 => (obtain ⟨h1, h2, h3⟩ := hW; go_simp; try (with_reducible rfl))); simp only [Act.put, List.getElem_toArray, List.getElem_cons_zero, List.getElem_cons_succ, List.setIfInBounds_toArray, List.set_cons_zero, List.set_cons_succ]
      refine wpSched_pure ?sv86 rfl (by rfl) (fun W => ?sh86) ?sr86; (case sh86 => (go_simp; try (with_reducible rfl))); simp only [Act.put, List.getElem_toArray, List.getElem_cons_zero, List.getElem_cons_succ, List.setIfInBounds_toArray, List.set_cons_zero, List.set_cons_succ]
      refine wpSched_still ?sv87 rfl (by rfl) (fun W hW => ?sh87) ?sr87; (case sh87 => (obtain ⟨h1, h2, h3⟩ := hW; go_simp; try (with_reducible rfl))); simp only [Act.put, List.getElem_toArray, List.getElem_cons_zero, List.getElem_cons_succ, List.setIfInBounds_toArray, List.set_cons_zero, List.set_cons_succ]
      refine wpSched_pure ?sv88 rfl (by rfl) (fun W => ?sh88) ?sr88; (case sh88 => (go_simp; try (with_reducible rfl))); simp only [Act.put, List.getElem_toArray, List.getElem_cons_zero, List.getElem_cons_succ, List.setIfInBounds_toArray, List.set_cons_zero, List.set_cons_succ]
      refine wpSched_pure ?sv89 rfl (by rfl) (fun W => ?sh89) ?sr89; (case sh89 => (go_simp; try (with_reducible rfl))); simp only [Act.put, List.getElem_toArray, List.getElem_cons_zero, List.getElem_cons_succ, List.setIfInBounds_toArray, List.set_cons_zero, List.set_cons_succ]
      refine wpSched_still ?sv90 rfl (by rfl) (fun W hW => ?sh90) ?sr90; (case sh90 => (obtain ⟨h1, h2, h3⟩ := hW; go_simp; try (with_reducible rfl))); simp only [Act.put, List.getElem_toArray, List.getElem_cons_zero, List.getElem_cons_succ, List.setIfInBounds_toArray, List.set_cons_zero, List.set_cons_succ]
      refine wpSched_pure ?sv91 rfl (by rfl) (fun W => ?sh91) ?sr91; (case sh91 => (go_simp; try (with_reducible rfl))); simp only [Act.put, List.getElem_toArray, List.getElem_cons_zero, List.getElem_cons_succ, List.setIfInBounds_toArray, List.set_cons_zero, List.set_cons_succ]
      refine wpSched_still ?sv92 rfl (by rfl) (fun W hW => ?sh92) ?sr92; (case sh92 => (obtain ⟨h1, h2, h3⟩ := hW; go_simp; try (with_reducible rfl))); simp only [Act.put, List.getElem_toArray, List.getElem_cons_zero, List.getElem_cons_succ, List.setIfInBounds_toArray, List.set_cons_zero, List.set_cons_succ]
      refine wpSched_pure ?sv93 rfl (by rfl) (fun W => ?sh93) ?sr93; (case sh93 => (go_simp; try (with_reducible rfl))); simp only [Act.put, List.getElem_toArray, List.getElem_cons_zero, List.getElem_cons_succ, List.setIfInBounds_toArray, List.set_cons_zero, List.set_cons_succ]
      refine wpSched_still ?sv94 rfl (by rfl) (fun W hW => ?sh94) ?sr94; (case sh94 => (obtain ⟨h1, h2, h3⟩ := hW; go_simp; try (with_reducible rfl))); simp only [Act.put, List.getElem_toArray, List.getElem_cons_zero, List.getElem_cons_succ, List.setIfInBounds_toArray, List.set_cons_zero, List.set_cons_succ]
      refine wpSched_eff rfl (by rfl) (fun K hK => ?_); go_simp
      refine HS1.out.mono ?_
      rintro e1 w1 ⟨rfl, hg1, hm1⟩
      refine hK _ _ ?_ ?_
      · obtain ⟨h1, h2, h3⟩ := HZ.out
        have hne : v1.ownBlock ≠ some q := fun e => by have := HQ2.out _ e; omega
        exact ⟨kept_cell' (w := W1.drew) h1 hg1 hne, kept_cell' (w := W1.drew) h2 hg1 hne, kept_cell' (w := W1.drew) h3 hg1 hne⟩
      clear hK K hg1
      have HG3 := Lib.hid (HG.out _ _ _ _ hm1)
      clear hm1 HG
      refine wpSched_tail rfl (by rfl) (fun K hK => ?_); go_simp
      refine HG3.out.mono ?_
      rintro e2 w2 ⟨rfl, u0', u1', hm2⟩
      refine hK _ _ ?_
      clear hK K
      have HEND := Lib.hid (show PWorld w0 s r w2 from ⟨_, _, _, _, _, _, _, HLAW.out.sp1 _ _, hm2⟩)
      clear hm2 HG3
      refine wpSched_pure ?sv95 rfl (by rfl) (fun W => ?sh95) ?sr95; (case sh95 => (go_simp; try (with_reducible rfl))); simp only [Act.put, List.getElem_toArray, List.getElem_cons_zero, List.getElem_cons_succ, List.setIfInBounds_toArray, List.set_cons_zero, List.set_cons_succ]
      refine wpSched_pure ?sv96 rfl (by rfl) (fun W => ?sh96) ?sr96; (case sh96 => (go_simp; try (with_reducible rfl))); simp only [Act.put, List.getElem_toArray, List.getElem_cons_zero, List.getElem_cons_succ, List.setIfInBounds_toArray, List.set_cons_zero, List.set_cons_succ]
      refine wpSched_nil ?_
      go_wp2_with fail
      go_ret
      exact ⟨rfl, HEND.out⟩
end Go.Proofs.Ytjkgodhoonkinaa
