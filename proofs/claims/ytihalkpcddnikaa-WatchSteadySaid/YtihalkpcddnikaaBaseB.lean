/-
  The helpers of package pelorusbase.
-/
import Derived.Test.YtihalkpcddnikaaLib
import Derived.Test.YtihalkpcddnikaaProg
namespace Go.Proofs.Ytihalkpcddnikaa
open Go.RowKit

/-- Among: a number as one from 0 to n - 1. -/
def amongV (x n : Int) : Int := IntKind.u64.wrap x % n
theorem amongV_bd (x n : Int) (h : 1 ≤ n) : 0 ≤ amongV x n ∧ amongV x n < n := ⟨Int.emod_nonneg _ (by omega), Int.emod_lt_of_pos _ (by omega)⟩
theorem wrap_u64_nonneg (x : Int) : 0 ≤ IntKind.u64.wrap x := by simp [IntKind.wrap, IntKind.bits, IntKind.signed]; omega
theorem Among_any (x n : Int) (w : World) (hn : 1 ≤ n) (hn' : n ≤ 9223372036854775807) :
    Calls Try.prog 11 #[.int .i64 x, .int .i64 n] w (Tells w (.int .i64 (amongV x n))) := by
  have hv := Lib.hid (show wrap64 ((IntKind.u64.wrap x).tmod n) = amongV x n by
    have h1 := wrap_u64_nonneg x
    have hb := amongV_bd x n hn
    unfold amongV at *
    rw [Int.tmod_eq_emod_of_nonneg h1]
    exact IntWalk.wrap64_in _ ⟨by omega, by omega⟩)
  go_enter Try.func11, Try.ntmps11
  go_wp2_with fail
  go_ret
  exact Tells.mk (ret_int hv.out)
end Go.Proofs.Ytihalkpcddnikaa
