/-
  Feed of no hunter; a frame of a slice of frames.
-/
import Derived.Test.YtjkgodhoonkinaaHunR
namespace Go.Proofs.Ytjkgodhoonkinaa
open Go.RowKit
set_option linter.unusedVariables false
set_option linter.unusedSimpArgs false

theorem Feed_no (w : World) (p : Option Addr) (v : Value) (H : Calls Try.prog 73 #[.pointer p] w (Tells w (.bool false))) :
    Calls Try.prog 34 #[.pointer p, v] w (Tells w (.tuple #[.slice none 0 0, .int .i64 1])) := by
  have HH := Lib.hid H
  clear H
  go_enter Try.func34, Try.ntmps34
  go_wp2
  go_step3
  go_wp2_with (go_at_call 73; with_reducible refine Calls.tells (HH.out) ?_)
  simp only [Exit.noGoto]
  refine bodyPost_ret (v := .tuple #[.slice none 0 0, .int .i64 1]) ?_ rfl (Tells.mk rfl)
  simp only [results, show Try.func34.results = #[ResultVar.tmp 4, ResultVar.tmp 5] from rfl]
  simp
/-- Frame i of a slice of frames. -/
theorem rows_at : ∀ (fs : List FrmS) (bvs : List Value) (i : Nat) (f : FrmS) (bv : Value), bvs.length = fs.length → (∀ f ∈ fs, f.tag.length = 16) → fs[i]? = some f → bvs[i]? = some bv → ∀ (j : Nat) (u : Value), (frL f bv)[j]? = some u → (rowsOf fs bvs)[i * 21 + j]? = some u := by
  intro fs
  induction fs with
  | nil => intro bvs i f bv _ _ h; simp at h
  | cons f0 fs ih =>
    intro bvs i f bv hl ht hf hb j u hu
    match bvs, hl, hb with
    | b0 :: bvs, hl, hb =>
      have h21 := frL_length f0 b0 (ht f0 (by simp))
      have hr : rowsOf (f0 :: fs) (b0 :: bvs) = frL f0 b0 ++ rowsOf fs bvs := rfl
      rw [hr]
      cases i with
      | zero =>
        simp only [List.getElem?_cons_zero, Option.some.injEq] at hf hb
        subst hf; subst hb
        have hj : j < (frL f0 b0).length := by
          rcases Nat.lt_or_ge j (frL f0 b0).length with h | h
          · exact h
          · rw [List.getElem?_eq_none h] at hu; cases hu
        rw [Nat.zero_mul, Nat.zero_add, List.getElem?_append_left hj]; exact hu
      | succ i =>
        rw [List.getElem?_append_right (by rw [h21]; omega), h21, show (i + 1) * 21 + j - 21 = i * 21 + j by omega]
        exact ih bvs i f bv (by simpa using hl) (fun g hg => ht g (by simp [hg])) (by simpa using hf) (by simpa using hb) j u hu
theorem FrsO.at {w : World} {base g n c : Nat} {fs : List FrmS} (h : FrsO w base (.slice (some ⟨g, 0, none⟩) n c) fs) (i : Nat) (f : FrmS) (hf : fs[i]? = some f) : ∃ bv, w.rangeAt g (i * 21) (frL f bv) ∧ OwnB w base bv f.body ∧ FrLim f := by
  obtain ⟨bvs, h1, h2, h3⟩ := h
  have hi : i < fs.length := by
    rcases Nat.lt_or_ge i fs.length with h | h
    · exact h
    · rw [List.getElem?_eq_none h] at hf; cases hf
  obtain ⟨bv, hb⟩ : ∃ bv, bvs[i]? = some bv := ⟨_, List.getElem?_eq_getElem (by omega)⟩
  obtain ⟨h4, h5⟩ := h3 i f bv hf hb
  have hn : n = fs.length := by
    rcases h2.2 with ⟨e, _⟩ | ⟨_, _, _, e, _⟩
    · cases e
    · cases e; rfl
  subst hn
  refine ⟨bv, fun j u hu => ?_, h4, h5⟩
  have ht : ∀ f ∈ fs, f.tag.length = 16 := fun f' hf' => by
    obtain ⟨k, hk⟩ := List.getElem?_of_mem hf'
    have hkl : k < fs.length := by
      rcases Nat.lt_or_ge k fs.length with h | h
      · exact h
      · rw [List.getElem?_eq_none h] at hk; cases hk
    exact (h3 k f' _ hk (List.getElem?_eq_getElem (by omega))).2.2.2.1
  have hr := rows_at fs bvs i f bv h1 ht hf hb j u hu
  have hjl : j < 21 := by
    rw [← frL_length f bv h5.2.2.1]
    rcases Nat.lt_or_ge j (frL f bv).length with h | h
    · exact h
    · rw [List.getElem?_eq_none h] at hu; cases hu
  rw [h2.cellAt (i * 21 + j) (by omega)]; exact hr
end Go.Proofs.Ytjkgodhoonkinaa
