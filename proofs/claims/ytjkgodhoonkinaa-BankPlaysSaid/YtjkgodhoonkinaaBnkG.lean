/-
  Any record's bytes, and any bytes read, by both.
-/
import Derived.Test.YtjkgodhoonkinaaBnkD
import Derived.Test.YtjkgodhoonkinaaBnkX
import Derived.Test.YtjkgodhoonkinaaSched
namespace Go.Proofs.Ytjkgodhoonkinaa
open Go.RowKit
set_option linter.unusedVariables false
set_option linter.unusedSimpArgs false

theorem ints_mk : ∀ (ks : List IntKind), (∀ k ∈ ks, k = .u8 ∨ k = .u32 ∨ k = .u64) → ∀ (R : List Nat), R.length = ks.length → (∀ j, j < ks.length → R.getD j 0 < 256 ^ (ks.map kw).getD j 0) → IntCells (ks.map some) (List.zipWith (fun k (x : Nat) => Value.int k (x : Int)) ks R)
  | [], _, R, h, _ => trivial
  | k :: ks, hk, [], h, _ => by simp at h
  | k :: ks, hk, r :: R, h, hb => by
    refine ⟨⟨r, rfl, ?_⟩, ints_mk ks (fun k h => hk k (List.mem_cons_of_mem _ h)) R (by simpa using h) (fun j hj => hb (j + 1) (by simpa using hj))⟩
    have h0 : r < 256 ^ kw k := hb 0 (by simp)
    rcases hk k (List.mem_cons_self ..) with rfl | rfl | rfl
    · have : r < 256 ^ 1 := h0
      simp [Lit.wf, IntKind.min, IntKind.max, IntKind.signed, IntKind.bits]; omega
    · have : r < 256 ^ 4 := h0
      simp [Lit.wf, IntKind.min, IntKind.max, IntKind.signed, IntKind.bits]; omega
    · have : r < 256 ^ 8 := h0
      simp [Lit.wf, IntKind.min, IntKind.max, IntKind.signed, IntKind.bits]; omega
theorem rec_ints {R : List Nat} (h : RecOK R) : IntCells (kinds.map some) (recL R) := ints_mk kinds (by decide) R h.1 (fun j hj => h.2 j hj)
theorem rec_selfR (R : List Nat) (h : RecOK R) (W : World) : (Op.equalIn 10000 69 (.agg (recL R).toArray) (.agg (recL R).toArray)).run Try.prog W = .ok true W :=
  eq_self 9 (by omega) 69 _ (by kernel_rfl) (by kernel_rfl) _ (rec_ints h) (by unfold Value.formed; rw [Try.underlying69]; simp only [List.size_toArray, recL_length h.1]; kernel_rfl) W
end Go.Proofs.Ytjkgodhoonkinaa
