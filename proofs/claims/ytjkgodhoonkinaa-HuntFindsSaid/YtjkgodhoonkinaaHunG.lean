/-
  The law HuntFeeds: what holds in its loop.
-/
import Derived.Test.YtjkgodhoonkinaaHunA
import Derived.Test.YtjkgodhoonkinaaInts
namespace Go.Proofs.Ytjkgodhoonkinaa
open Go.RowKit
set_option linter.unusedVariables false
set_option linter.unusedSimpArgs false

theorem BtsL.elem {w : World} {a : Option Addr} {n cap : Nat} {ls : List (List Nat)} (h : BtsL w (.slice a n cap) ls) : n = ls.length ∧ n ≤ 9223372036854775807 ∧ (n = 0 ∨ ∃ b off : Nat, a = some ⟨b, off, none⟩ ∧ b < w.heap.size ∧ ∀ k, k < n → ∃ u, w.cell? ⟨b, off + k, none⟩ = some u ∧ Bts w u (ls.getD k [])) := by
  obtain ⟨h, rfl⟩ | ⟨_, _, h, rfl⟩ | ⟨b, off, c, h, h1, h2, h3, h4⟩ := h
  · cases h; exact ⟨rfl, by omega, .inl rfl⟩
  · cases h; exact ⟨rfl, by omega, .inl rfl⟩
  · cases h; exact ⟨rfl, by omega, .inr ⟨b, off, rfl, h3, h4⟩⟩
theorem FrsP.both {w : World} {v : Value} {fs : List FrmS} {P : Nat → Prop} (h : FrsP w v fs P) : FrsP w v fs (fun b => P b ∧ b < w.heap.size) := by
  obtain ⟨bvs, h1, h2, h3⟩ := h
  exact ⟨bvs, h1, h2, fun i f bv hf hb => ⟨(h3 i f bv hf hb).1, (h3 i f bv hf hb).2.1, fun b hb' => ⟨(h3 i f bv hf hb).2.2 b hb', ((h3 i f bv hf hb).1.2.lt b hb').2⟩⟩⟩
theorem own_sym {a b : Option Nat} (h : a = none ∨ a ≠ b) : b = none ∨ b ≠ a := by
  match b with
  | none => exact .inl rfl
  | some b => exact .inr (fun e => h.elim (fun h => by rw [← e] at h; cases h) (fun h => h e.symm))
structure FeedsAt (w : World) (h : Nat) (wr : World) (av gv tv hv : Value) (A : List Nat) (G T : List FrmS) (N M c d : Nat) : Prop where
  bel : Below w.heap.size w wr
  ord : w.heap.size ≤ h ∧ h < wr.heap.size
  all : OwnB wr 0 av A
  ab : ∀ b, av.ownBlock = some b → h < b
  got : FrsP wr gv G (fun b => h < b ∧ av.ownBlock ≠ some b)
  gb : ∀ b, gv.ownBlock = some b → h < b
  want : FrsP wr tv T (fun b => h < b ∧ av.ownBlock ≠ some b)
  tb : ∀ b, tv.ownBlock = some b → h < b
  gt : gv.ownBlock = none ∨ gv.ownBlock ≠ tv.ownBlock
  hun : HunAt wr h hv ((N + (says A).noise : Nat) : Int) ((M + (says A).sums : Nat) : Int) true
  hb : Bts wr hv (says A).held
  h8 : ∀ b, hv.ownBlock = some b → U8 wr b ∧ av.ownBlock ≠ some b
  eq : G = T ++ (says A).frames
  la : A.length ≤ 300 * c
  ln : N ≤ 10000 * d
  lm : M ≤ 10000 * d
  lt : T.length ≤ 10000 * d
theorem FeedsAt.below {w wr w' : World} {h : Nat} {av gv tv hv : Value} {A : List Nat} {G T : List FrmS} {N M c d : Nat} (H : FeedsAt w h wr av gv tv hv A G T N M c d) (hb : Below wr.heap.size wr w') : FeedsAt w h w' av gv tv hv A G T N M c d :=
  ⟨H.bel.trans (hb.mono H.bel.size), ⟨H.ord.1, Nat.lt_of_lt_of_le H.ord.2 hb.size⟩, H.all.below hb (Nat.le_refl _), H.ab, H.got.below hb, H.gb, H.want.below hb, H.tb, H.gt, H.hun.below hb H.ord.2, H.hb.below hb, fun b hb' => ⟨(H.h8 b hb').1.below hb, (H.h8 b hb').2⟩, H.eq, H.la, H.ln, H.lm, H.lt⟩
theorem FeedsAt.later {w wr : World} {h : Nat} {av gv tv hv : Value} {A : List Nat} {G T : List FrmS} {N M c d : Nat} (H : FeedsAt w h wr av gv tv hv A G T N M c d) : FeedsAt w h wr av gv tv hv A G T N M c (d + 1) :=
  ⟨H.bel, H.ord, H.all, H.ab, H.got, H.gb, H.want, H.tb, H.gt, H.hun, H.hb, H.h8, H.eq, H.la, by have := H.ln; omega, by have := H.lm; omega, by have := H.lt; omega⟩
/-- What the hunter finds in the next piece. -/
abbrev newS (A p : List Nat) : Said := says ((says A).held ++ p)
theorem newS_eq (A p : List Nat) : says (A ++ p) = ⟨(says A).frames ++ (newS A p).frames, (says A).noise + (newS A p).noise, (says A).sums + (newS A p).sums, (newS A p).held⟩ := says_two A p
theorem FeedsAt.feed {w wr : World} {h : Nat} {av gv tv hv : Value} {A : List Nat} {G T : List FrmS} {N M c d : Nat} (H : FeedsAt w h wr av gv tv hv A G T N M c d) {p : List Nat} (hp : p.length ≤ 300) (hpb : ∀ x ∈ p, x < 256) (hc : c ≤ 30)
    {w2 : World} {lv hv2 : Value} (hf : FrsO w2 wr.heap.size lv (newS A p).frames) (hh : HunAt w2 h hv2 ((N + (says A).noise + (newS A p).noise : Nat) : Int) ((M + (says A).sums + (newS A p).sums : Nat) : Int) true) (hb : Bts w2 hv2 (newS A p).held) (ho : ∀ b, hv2.ownBlock = some b → wr.heap.size ≤ b) (hg : wr.grownBy w2 (some h)) (h8 : ∀ b, hv2.ownBlock = some b → U8 w2 b) :
    FrsP w2 gv G (fun b => (h < b ∧ av.ownBlock ≠ some b) ∧ b < wr.heap.size) ∧ FrsP w2 lv (newS A p).frames (fun b => wr.heap.size ≤ b ∧ b < w2.heap.size) ∧ Below w.heap.size w w2 ∧
    ∀ gv' w3, FrsP w3 gv' (G ++ (newS A p).frames) (fun b => ((h < b ∧ av.ownBlock ≠ some b) ∧ b < wr.heap.size) ∨ (wr.heap.size ≤ b ∧ b < w2.heap.size)) → w2.grownBy w3 gv.ownBlock → (gv'.ownBlock = gv.ownBlock ∨ gv'.ownBlock = some w2.heap.size) →
      OwnB w3 0 av A ∧ Below w.heap.size w w3 ∧
      ∀ av' w4, OwnB w4 0 av' (A ++ p) → w3.grownBy w4 av.ownBlock → (av'.ownBlock = av.ownBlock ∨ av'.ownBlock = some w3.heap.size) →
        FeedsAt w h w4 av' gv' tv hv2 (A ++ p) (G ++ (newS A p).frames) T N M (c + 1) d := by
  obtain ⟨o1, o2⟩ := H.ord
  have hs2 : wr.heap.size ≤ w2.heap.size := hg.size
  have hbel2 : Below w.heap.size w w2 := H.bel.grown hg H.bel.size (fun b hb => by simp only [Option.some.injEq] at hb; omega)
  have hg2 : FrsP w2 gv G (fun b => (h < b ∧ av.ownBlock ≠ some b) ∧ b < wr.heap.size) := H.got.both.kept hg (.inr (fun e => by have := H.gb _ e; omega)) (fun b hb e => by simp only [Option.some.injEq] at e; omega)
  have ht2 : FrsP w2 tv T (fun b => (h < b ∧ av.ownBlock ≠ some b) ∧ b < wr.heap.size) := H.want.both.kept hg (.inr (fun e => by have := H.tb _ e; omega)) (fun b hb e => by simp only [Option.some.injEq] at e; omega)
  have ha2 : OwnB w2 0 av A := H.all.kept hg (.inr (fun e => by have := H.ab _ e; omega))
  have havl : ∀ b, av.ownBlock = some b → b < wr.heap.size := fun b hb => (H.all.2.lt b hb).2
  refine ⟨hg2, hf.frsP, hbel2, fun gv' w3 h1 h2 h3 => ?_⟩
  have hs3 : w2.heap.size ≤ w3.heap.size := h2.size
  have hbel3 : Below w.heap.size w w3 := hbel2.grown h2 hbel2.size (fun b hb => by have := H.gb b hb; omega)
  have ha3 : OwnB w3 0 av A := ha2.byFr hg2 h2
  have ht3 := ht2.byFr hg2 h2 (own_sym H.gt)
  have hh3 := hh.kept h2 (fun e => by have := H.gb _ e.symm; omega)
  have hb3 := bts_byFr hb h8 hg2 h2
  have h83 : ∀ b, hv2.ownBlock = some b → U8 w3 b := fun b hb => (h8 b hb).kept h2 (fun e => hg2.apart (h8 b hb) e.symm)
  refine ⟨ha3, hbel3, fun av' w4 k1 k2 k3 => ?_⟩
  have hs4 : w3.heap.size ≤ w4.heap.size := k2.size
  have hgap : gv'.ownBlock = none ∨ gv'.ownBlock ≠ av.ownBlock := by
    obtain ⟨bvs, _, r2, _⟩ := h1
    exact rows_apart r2 ha3.2 (by decide)
  have htap : tv.ownBlock = none ∨ tv.ownBlock ≠ av.ownBlock := by
    obtain ⟨bvs, _, r2, _⟩ := ht3
    exact rows_apart r2 ha3.2 (by decide)
  have hav' : ∀ b, b < w2.heap.size → av.ownBlock ≠ some b → av'.ownBlock ≠ some b := fun b hb hne e => by
    rcases k3 with k3 | k3
    · exact hne (by rw [← k3]; exact e)
    · rw [k3] at e; simp only [Option.some.injEq] at e; omega
  have hhv : hv2.ownBlock = none ∨ hv2.ownBlock ≠ av.ownBlock := by
    match hq : hv2.ownBlock with
    | none => exact .inl rfl
    | some b => exact .inr (fun e => by have := ho b hq; have := havl b e.symm; omega)
  have hgq := h1.kept k2 hgap (fun b hb e => by
    rcases hb with hb | hb
    · exact hb.1.2 e.symm
    · have := havl b e.symm; omega)
  have htq := ht3.kept k2 htap (fun b hb e => hb.1.2 e.symm)
  refine ⟨?_, ⟨o1, by omega⟩, k1, ?_, hgq.imp (fun b hb => ?_), ?_, htq.imp (fun b hb => ⟨hb.1.1, hav' b (by omega) hb.1.2⟩), H.tb, ?_, ?_, ?_, ?_, ?_, ?_, H.ln, H.lm, H.lt⟩
  · exact hbel3.grown k2 hbel3.size (fun b hb => by have := H.ab b hb; omega)
  · intro b hb
    rcases k3 with k3 | k3
    · exact H.ab b (by rw [← k3]; exact hb)
    · rw [k3] at hb; simp only [Option.some.injEq] at hb; omega
  · rcases hb with hb | hb
    · exact ⟨hb.1.1, hav' b (by omega) hb.1.2⟩
    · exact ⟨by omega, hav' b hb.2 (fun e => by have := havl b e; omega)⟩
  · intro b hb
    rcases h3 with h3 | h3
    · exact H.gb b (by rw [← h3]; exact hb)
    · rw [h3] at hb; simp only [Option.some.injEq] at hb; omega
  · rcases h3 with h3 | h3
    · rw [h3]; exact H.gt
    · rw [h3]
      refine .inr (fun e => ?_)
      have := ht2.lt _ e.symm
      omega
  · rw [newS_eq]
    have := hh3.kept k2 (fun e => by have := H.ab _ e.symm; omega)
    rw [show N + ((says A).noise + (newS A p).noise) = N + (says A).noise + (newS A p).noise by omega, show M + ((says A).sums + (newS A p).sums) = M + (says A).sums + (newS A p).sums by omega]
    exact this
  · rw [newS_eq]
    exact bts_kept hb3 k2 hhv
  · intro b hb
    have hne : av.ownBlock ≠ some b := fun e => by have := ho b hb; have := havl b e; omega
    refine ⟨(h83 b hb).kept k2 (fun e => hne e.symm), fun e => ?_⟩
    rcases k3 with k3 | k3
    · exact hne (by rw [← k3]; exact e)
    · rw [k3] at e
      simp only [Option.some.injEq] at e
      have hu := h8 b hb
      obtain ⟨_, _, hu⟩ := hu
      have := heap_lt hu
      omega
  · rw [newS_eq, H.eq, List.append_assoc]
  · rw [List.length_append]; have := H.la; omega
theorem FeedsAt.drop {w wr : World} {h : Nat} {av gv tv hv : Value} {A : List Nat} {G T : List FrmS} {N M c d : Nat} (H : FeedsAt w h wr av gv tv hv A G T N M c d) (hc : c ≤ 30) {w2 : World} {fv : Value} (hf : FrsP wr fv (says A).frames (fun b => h < b)) (hfb : ∀ b, fv.ownBlock = some b → h < b)
    (hh : HunAt w2 h (.slice none 0 0) ((N + (says A).noise + (says A).held.length : Nat) : Int) ((M + (says A).sums : Nat) : Int) true) (hg : wr.grownBy w2 (some h)) :
    FrsP w2 tv T (fun b => h < b ∧ av.ownBlock ≠ some b) ∧ FrsP w2 fv (says A).frames (fun b => h < b) ∧ Below w.heap.size w w2 ∧
    ∀ tv' w3, FrsP w3 tv' (T ++ (says A).frames) (fun b => (h < b ∧ av.ownBlock ≠ some b) ∨ h < b) → w2.grownBy w3 tv.ownBlock → (tv'.ownBlock = tv.ownBlock ∨ tv'.ownBlock = some w2.heap.size) →
      FeedsAt w h w3 (.slice none 0 0) gv tv' (.slice none 0 0) [] G (T ++ (says A).frames) (N + (says A).noise + (says A).held.length) (M + (says A).sums) c (d + 1) := by
  obtain ⟨o1, o2⟩ := H.ord
  have hs2 : wr.heap.size ≤ w2.heap.size := hg.size
  have hbel2 : Below w.heap.size w w2 := H.bel.grown hg H.bel.size (fun b hb => by simp only [Option.some.injEq] at hb; omega)
  have hg2 := H.got.kept hg (.inr (fun e => by have := H.gb _ e; omega)) (fun b hb e => by simp only [Option.some.injEq] at e; omega)
  have ht2 := H.want.kept hg (.inr (fun e => by have := H.tb _ e; omega)) (fun b hb e => by simp only [Option.some.injEq] at e; omega)
  have hf2 : FrsP w2 fv (says A).frames (fun b => h < b) := hf.kept hg (.inr (fun e => by have := hfb _ e; omega)) (fun b hb e => by simp only [Option.some.injEq] at e; omega)
  have hx := says_frames_len _ A (Nat.le_refl _)
  have hx2 := says_held_lt A
  have hla := H.la
  refine ⟨ht2, hf2, hbel2, fun tv' w3 h1 h2 h3 => ?_⟩
  have hs3 : w2.heap.size ≤ w3.heap.size := h2.size
  refine ⟨hbel2.grown h2 hbel2.size (fun b hb => by have := H.tb b hb; omega), ⟨o1, by omega⟩, OwnB.nil _ _, fun b hb => (by cases hb), (hg2.byFr ht2 h2 H.gt).imp (fun b hb => ⟨hb.1, fun e => by cases e⟩), H.gb, h1.imp (fun b hb => ⟨hb.elim (·.1) id, fun e => by cases e⟩), ?_, ?_, ?_, ?_, fun b hb => (by cases hb), ?_, by simp, ?_, ?_, ?_⟩
  · intro b hb
    rcases h3 with h3 | h3
    · exact H.tb b (by rw [← h3]; exact hb)
    · rw [h3] at hb; simp only [Option.some.injEq] at hb; omega
  · rcases h3 with h3 | h3
    · rw [h3]; exact H.gt
    · rw [h3]
      match hq : gv.ownBlock with
      | none => exact .inl rfl
      | some b => exact .inr (fun e => by simp only [Option.some.injEq] at e; have := H.got.lt b hq; omega)
  · rw [says_nil]
    exact hh.kept h2 (fun e => by have := H.tb _ e.symm; omega)
  · rw [says_nil]; exact nil_bts _
  · rw [says_nil, List.append_nil, H.eq]
  · have := H.ln; omega
  · have := H.lm; omega
  · rw [List.length_append]; have := H.lt; omega
end Go.Proofs.Ytjkgodhoonkinaa
