/-
  The reference's store: which bank counts.
-/
import Derived.Test.YtjkgodhoonkinaaBnkJ
namespace Go.Proofs.Ytjkgodhoonkinaa
open Go.RowKit
set_option linter.unusedVariables false
set_option linter.unusedSimpArgs false

def rcnt (x0 x1 : List Nat) : Int := if goodX x0 = true ∧ (goodX x1 = false ∨ (rdR x1).getD 0 0 ≤ (rdR x0).getD 0 0) then 0 else if goodX x1 = true then 1 else -1
theorem rcnt_eq (x0 x1 : List Nat) : rcnt x0 x1 = (cntS x0 x1).1 := by
  unfold rcnt cntS stepC rdR
  cases h0 : goodX x0 <;> cases h1 : goodX x1 <;> simp
  by_cases h : (bnkR (x1.drop 1)).getD 0 0 ≤ (bnkR (x0.drop 1)).getD 0 0
  · rw [if_pos (by simpa using h), if_neg (by simp at h ⊢; omega)]
  · rw [if_neg (by simpa using h), if_pos (by simp at h ⊢; omega)]
theorem cntS_read (x0 x1 : List Nat) : (cntS x0 x1).2 = if (cntS x0 x1).1 = 0 then rdR x0 else if (cntS x0 x1).1 = 1 then rdR x1 else zeroR := by
  unfold cntS stepC rdR
  cases h0 : goodX x0 <;> cases h1 : goodX x1 <;> simp
  split <;> simp
end Go.Proofs.Ytjkgodhoonkinaa
