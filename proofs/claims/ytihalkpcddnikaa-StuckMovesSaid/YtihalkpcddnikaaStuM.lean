/-
  The plain law under StuckMoves: what changes by at most the rate is not flagged; what stays is stuck behind Same.
-/
import Derived.Test.YtihalkpcddnikaaStuV
namespace Go.Proofs.Ytihalkpcddnikaa
open Go.RowKit
set_option linter.unusedVariables false

def MvInv (f : Int → Option StO) (k A0 A1 A2 x y z : Int) : Prop :=
  (k = 0 → f 1 = none ∧ f 2 = none) ∧ (0 < k → f 1 = some ⟨A0, A1, A2, k - 1, 1⟩ ∧ f 2 = some ⟨x, y, z, k - 1, k⟩)
theorem lim_one {M : Int} (h : M ≤ 9223372036854775807) : limV M 1 = M := by
  unfold limV
  rw [show min (max (1 : Int) 1) 65535 = 1 by decide]
  rw [if_neg (by omega), Int.mul_one]
theorem far_same (a M : Int) (h : 0 ≤ M) : farB a a M = false := by
  unfold farB; rw [show subV a a = 0 by unfold subV; omega, show absV 0 = 0 by decide]; simp; omega
theorem far_near {a d M : Int} (h1 : -M ≤ d) (h2 : d ≤ M) (hM : M ≤ 2147483647) : farB (a + d) a M = false := by
  unfold farB
  have e : subV (a + d) a = d := by unfold subV; omega
  rw [e]
  unfold absV
  simp only [decide_eq_false_iff_not]
  split
  · split <;> omega
  · omega
theorem MvInv.one {f : Int → Option StO} {k A0 A1 A2 B0 B1 B2 x y z M same : Int} (h : MvInv f k A0 A1 A2 x y z) (hk : 0 ≤ k) (hk2 : k ≤ 1000) (hM : 0 ≤ M) (hM2 : M ≤ 2147483647) (hs : 1 ≤ same)
    (hne : sameV ⟨A0, A1, A2, k - 1, 1⟩ B0 B1 B2 = false) (h0 : farB B0 A0 M = false) (h1 : farB B1 A1 M = false) (h2 : farB B2 A2 M = false) :
    tkE f 1 k = 0 ∧ tkFl same M f 1 B0 B1 B2 k = 0 ∧ tkF f 1 B0 B1 B2 k = updS f 1 ⟨B0, B1, B2, k, 1⟩ := by
  have hsr : srcB 1 = true := by decide
  by_cases hk0 : k = 0
  · obtain ⟨e1, _⟩ := h.1 hk0
    have hl : lastO f 1 = StO.zero := by unfold lastO; rw [e1]; rfl
    have he : tkE f 1 k = 0 := by unfold tkE; rw [if_pos hsr, hl, if_neg (by simp [StO.zero]; omega)]
    have hr : nowRow f 1 B0 B1 B2 = 1 := by unfold nowRow; rw [e1]; simp
    refine ⟨he, ?_, ?_⟩
    · unfold tkFl; rw [if_pos he, hr, if_neg (by omega), e1]; simp
    · unfold tkF; rw [if_pos he, hr]
  · obtain ⟨e1, _⟩ := h.2 (by omega)
    have hl : lastO f 1 = ⟨A0, A1, A2, k - 1, 1⟩ := by unfold lastO; rw [e1]; rfl
    have he : tkE f 1 k = 0 := by unfold tkE; rw [if_pos hsr, hl, if_neg (by simp; omega)]
    have hr : nowRow f 1 B0 B1 B2 = 1 := by unfold nowRow; rw [hl, hne]; simp
    refine ⟨he, ?_, ?_⟩
    · unfold tkFl
      rw [if_pos he, hr, if_neg (by omega), hl]
      simp only [show k - (k - 1) = 1 by omega, lim_one (show M ≤ 9223372036854775807 by omega)]
      rw [show fastB ⟨B0, B1, B2, 0, 0⟩ ⟨A0, A1, A2, k - 1, 1⟩ M = false by unfold fastB; rw [h0, h1, h2]; rfl]
      simp
    · unfold tkF; rw [if_pos he, hr]
theorem MvInv.two {f : Int → Option StO} {k A0 A1 A2 x y z M same : Int} (h : MvInv f k A0 A1 A2 x y z) (o : StO) (hk : 0 ≤ k) (hk2 : k ≤ 1000) (hM : 0 ≤ M) (hM2 : M ≤ 2147483647) (hs : 1 ≤ same) :
    tkE (updS f 1 o) 2 k = 0 ∧ tkFl same M (updS f 1 o) 2 x y z k = (if same < k + 1 then 1 else 0) ∧ tkF (updS f 1 o) 2 x y z k = updS (updS f 1 o) 2 ⟨x, y, z, k, k + 1⟩ := by
  have hsr : srcB 2 = true := by decide
  have hu : (updS f 1 o) 2 = f 2 := updS_other f o (by decide)
  by_cases hk0 : k = 0
  · obtain ⟨_, e1⟩ := h.1 hk0
    have hl : lastO (updS f 1 o) 2 = StO.zero := by unfold lastO; rw [hu, e1]; rfl
    have he : tkE (updS f 1 o) 2 k = 0 := by unfold tkE; rw [if_pos hsr, hl, if_neg (by simp [StO.zero]; omega)]
    have hr : nowRow (updS f 1 o) 2 x y z = 1 := by unfold nowRow; rw [hu, e1]; simp
    subst hk0
    refine ⟨he, ?_, ?_⟩
    · unfold tkFl; rw [if_pos he, hr, hu, e1]; simp
    · unfold tkF; rw [if_pos he, hr]; rfl
  · obtain ⟨_, e1⟩ := h.2 (by omega)
    have hl : lastO (updS f 1 o) 2 = ⟨x, y, z, k - 1, k⟩ := by unfold lastO; rw [hu, e1]; rfl
    have he : tkE (updS f 1 o) 2 k = 0 := by unfold tkE; rw [if_pos hsr, hl, if_neg (by simp; omega)]
    have hr : nowRow (updS f 1 o) 2 x y z = k + 1 := by unfold nowRow; rw [hl, hu, e1]; simp [sameV]; omega
    refine ⟨he, ?_, ?_⟩
    · unfold tkFl
      rw [if_pos he, hr, hl]
      simp only [show k - (k - 1) = 1 by omega, lim_one (show M ≤ 9223372036854775807 by omega)]
      rw [show fastB ⟨x, y, z, 0, 0⟩ ⟨x, y, z, k - 1, k⟩ M = false by unfold fastB; simp only [far_same _ M hM]; rfl]
      simp
    · unfold tkF; rw [if_pos he, hr]
theorem MvInv.next {f : Int → Option StO} {k B0 B1 B2 x y z : Int} (hk : 0 ≤ k) : MvInv (updS (updS f 1 ⟨B0, B1, B2, k, 1⟩) 2 ⟨x, y, z, k, k + 1⟩) (k + 1) B0 B1 B2 x y z := by
  refine ⟨fun h => by omega, fun _ => ⟨?_, ?_⟩⟩
  · rw [updS_other _ _ (by decide), updS_same, show k + 1 - 1 = k by omega]
  · rw [updS_same, show k + 1 - 1 = k by omega]
end Go.Proofs.Ytihalkpcddnikaa
