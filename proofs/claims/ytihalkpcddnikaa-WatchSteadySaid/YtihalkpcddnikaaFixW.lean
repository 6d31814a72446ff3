/-
  The walks over fix.Sub, Neg, Abs.
-/
import Derived.Test.YtihalkpcddnikaaFixP
import Derived.Test.YtihalkpcddnikaaProg
namespace Go.Proofs.Ytihalkpcddnikaa
open Go.RowKit

theorem fixSub_any (a b : Int) (w : World) (ha : -9223372036854775808 ≤ a) (ha' : a ≤ 9223372036854775807) (hb : -9223372036854775808 ≤ b) (hb' : b ≤ 9223372036854775807) :
    Calls Try.prog 50 #[.int .i64 a, .int .i64 b] w (Tells w (.tuple #[.int .i64 (subV a b), .bool (subO a b)])) := by
  have h1 := Lib.hid (@sub_in a b ha ha' hb hb')
  have h2 := Lib.hid (@sub_out a b ha ha' hb hb')
  by_cases h : 0 ≤ bits .and .i64 (bits .xor .i64 a b) (bits .xor .i64 a (wrap64 (a - b)))
  · obtain ⟨e1, e2⟩ := h1.out h
    rw [← e1, e2]
    clear e1 e2
    clear ha ha' hb hb'
    go_enter Try.func50, Try.ntmps50
    go_wp2_with fail
    go_ret2
    exact Tells.mk rfl
  · obtain ⟨e1, e2⟩ := h2.out (Int.not_le.1 h)
    rw [e1, e2]
    clear e1 e2
    clear ha ha' hb hb'
    by_cases h0 : a < 0
    · rw [if_pos h0]
      go_enter Try.func50, Try.ntmps50
      go_wp2_with fail
      go_ret2
      exact Tells.mk rfl
    · rw [if_neg h0]
      go_enter Try.func50, Try.ntmps50
      go_wp2_with fail
      go_ret2
      exact Tells.mk rfl
theorem fixNeg_any (a : Int) (w : World) (ha : -9223372036854775808 ≤ a) (ha' : a ≤ 9223372036854775807) :
    Calls Try.prog 69 #[.int .i64 a] w (Tells w (.tuple #[.int .i64 (subV 0 a), .bool (subO 0 a)])) := by
  go_enter Try.func69, Try.ntmps69
  go_wp2_with (go_at_call 50; refine (fixSub_any 0 a _ (by omega) (by omega) ha ha').mono ?_; rintro e w1 ⟨rfl, rfl⟩)
  go_ret2
  exact Tells.mk rfl
theorem fixAbs_any (a : Int) (w : World) (ha : -9223372036854775808 ≤ a) (ha' : a ≤ 9223372036854775807) :
    Calls Try.prog 51 #[.int .i64 a] w (Tells w (.tuple #[.int .i64 (absV a), .bool (absO a)])) := by
  by_cases h : 0 ≤ a
  · have e1 := Lib.hid (show absV a = a by unfold absV; split <;> omega)
    have e2 := Lib.hid (show absO a = false by unfold absO; simp; omega)
    go_enter Try.func51, Try.ntmps51
    go_wp2_with fail
    go_ret2
    exact Tells.mk (ret_ib e1.out.symm e2.out.symm)
  · have e1 := Lib.hid (show absV a = subV 0 a by unfold absV subV; split <;> (try split) <;> omega)
    have e2 := Lib.hid (show absO a = subO 0 a by unfold absO subO; rw [decide_eq_decide]; omega)
    go_enter Try.func51, Try.ntmps51
    go_wp2_with (go_at_call 69; refine (fixNeg_any a _ ha ha').mono ?_; rintro e w1 ⟨rfl, rfl⟩)
    go_ret2
    exact Tells.mk (ret_ib e1.out.symm e2.out.symm)
end Go.Proofs.Ytihalkpcddnikaa
