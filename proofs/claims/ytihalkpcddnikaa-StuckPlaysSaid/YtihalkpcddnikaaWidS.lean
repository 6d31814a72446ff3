/-
  The reference's difference and magnitude of numbers with a point.
-/
import Derived.Test.YtihalkpcddnikaaWidM
namespace Go.Proofs.Ytihalkpcddnikaa
open Go.RowKit
set_option linter.unusedVariables false
set_option linter.unusedSimpArgs false

set_option maxRecDepth 100000 in
theorem rclip_any (n : Nat) (w : World) (hn : n < 340282366920938463463374607431768211456) :
    Calls Try.prog 57 #[wideV n] w (Gives w (.tuple #[.int .i64 (clipV (toI n)), .bool (clipO (toI n))])) := by
  have HC := Lib.hid (fun W => Clip_any n W hn)
  unfold wideV at HC ⊢
  clear hn
  generalize clipV (toI n) = v at *
  generalize clipO (toI n) = o at *
  go_enter Try.func57, Try.ntmps57
  go_wp2_with (go_at_call 34; (first | with_reducible refine Calls.fold (HC.out _) ?_ | with_reducible refine Calls.fresh (HC.out _) ?_); intro x1)
  go_ret2
  exact Gives.mk rfl (by (repeat (first | (with_reducible exact Below.refl _ _) | (with_reducible assumption) | (with_reducible refine Below.alloc ?_ (by (repeat (first | (with_reducible exact Nat.le_refl _) | (with_reducible assumption) | (with_reducible refine le_up ?_) | (with_reducible refine le_alloc ?_) | (with_reducible refine le_setCell ?_) | (with_reducible refine le_drew ?_) | (with_reducible refine le_drewN ?_) | omega))) _) | (with_reducible refine Below.drew ?_) | (with_reducible refine Below.drewN ?_ _) | (with_reducible refine Below.setCell ?_ (by (repeat (first | (with_reducible exact Nat.le_refl _) | (with_reducible assumption) | (with_reducible refine le_up ?_) | (with_reducible refine le_alloc ?_) | (with_reducible refine le_setCell ?_) | (with_reducible refine le_drew ?_) | (with_reducible refine le_drewN ?_) | omega))) _) | (with_reducible refine Below.up ?_ (by (repeat (first | (with_reducible exact Nat.le_refl _) | (with_reducible assumption) | (with_reducible refine le_up ?_) | (with_reducible refine le_alloc ?_) | (with_reducible refine le_setCell ?_) | (with_reducible refine le_drew ?_) | (with_reducible refine le_drewN ?_) | omega)))))))
set_option maxRecDepth 100000 in
set_option maxHeartbeats 1600000 in
theorem rSub_any (a b : Int) (w : World) (a1 : -9223372036854775808 ≤ a) (a2 : a ≤ 9223372036854775807) (b1 : -9223372036854775808 ≤ b) (b2 : b ≤ 9223372036854775807) :
    Calls Try.prog 36 #[.int .i64 a, .int .i64 b] w (Gives w (.tuple #[.int .i64 (subV a b), .bool (subO a b)])) := by
  have HOA := Lib.hid (fun W => Of_any a W a1 a2)
  have HOB := Lib.hid (fun W => Of_any b W b1 b2)
  have HNG := Lib.hid (fun W => Neg_any (ofI b) W (ofI_lt b))
  have HAD := Lib.hid (fun W => Add_any (ofI a) (ofI (-b)) W (ofI_lt a) (ofI_lt _))
  have HCL := Lib.hid (fun W => rclip_any (ofI (a + -b)) W (ofI_lt _))
  rw [ofI_neg] at HNG
  rw [ofI_add] at HAD
  rw [toI_ofI (by omega) (by omega)] at HCL
  have hv : clipV (a + -b) = subV a b := by unfold clipV subV; rw [Int.sub_eq_add_neg]
  have ho : clipO (a + -b) = subO a b := by unfold clipO subO; rw [Int.sub_eq_add_neg]
  rw [hv, ho] at HCL
  clear hv ho a1 a2 b1 b2
  unfold wideV at HOA HOB HNG HAD HCL
  generalize ofI (a + -b) = n3 at *
  generalize ofI (-b) = n2 at *
  generalize ofI a = n0 at *
  generalize ofI b = n1 at *
  generalize subV a b = v at *
  generalize subO a b = o at *
  go_enter Try.func36, Try.ntmps36
  go_wp2_with (first | (go_at_call 53; (first | with_reducible refine Calls.fold (HOA.out _) ?_ | with_reducible refine Calls.fresh (HOA.out _) ?_); intro x1) | (go_at_call 53; (first | with_reducible refine Calls.fold (HOB.out _) ?_ | with_reducible refine Calls.fresh (HOB.out _) ?_); intro x1) | (go_at_call 56; (first | with_reducible refine Calls.fold (HNG.out _) ?_ | with_reducible refine Calls.fresh (HNG.out _) ?_); intro x1) | (go_at_call 55; (first | with_reducible refine Calls.fold (HAD.out _) ?_ | with_reducible refine Calls.fresh (HAD.out _) ?_); intro x1) | (go_at_call 57; (first | with_reducible refine Calls.fold (HCL.out _) ?_ | with_reducible refine Calls.fresh (HCL.out _) ?_); intro x1))
  go_ret2
  exact Gives.mk rfl (by (repeat (first | (with_reducible exact Below.refl _ _) | (with_reducible assumption) | (with_reducible refine Below.alloc ?_ (by (repeat (first | (with_reducible exact Nat.le_refl _) | (with_reducible assumption) | (with_reducible refine le_up ?_) | (with_reducible refine le_alloc ?_) | (with_reducible refine le_setCell ?_) | (with_reducible refine le_drew ?_) | (with_reducible refine le_drewN ?_) | omega))) _) | (with_reducible refine Below.drew ?_) | (with_reducible refine Below.drewN ?_ _) | (with_reducible refine Below.setCell ?_ (by (repeat (first | (with_reducible exact Nat.le_refl _) | (with_reducible assumption) | (with_reducible refine le_up ?_) | (with_reducible refine le_alloc ?_) | (with_reducible refine le_setCell ?_) | (with_reducible refine le_drew ?_) | (with_reducible refine le_drewN ?_) | omega))) _) | (with_reducible refine Below.up ?_ (by (repeat (first | (with_reducible exact Nat.le_refl _) | (with_reducible assumption) | (with_reducible refine le_up ?_) | (with_reducible refine le_alloc ?_) | (with_reducible refine le_setCell ?_) | (with_reducible refine le_drew ?_) | (with_reducible refine le_drewN ?_) | omega)))))))
set_option maxRecDepth 100000 in
theorem rNeg_any (a : Int) (w : World) (a1 : -9223372036854775808 ≤ a) (a2 : a ≤ 9223372036854775807) :
    Calls Try.prog 58 #[.int .i64 a] w (Gives w (.tuple #[.int .i64 (subV 0 a), .bool (subO 0 a)])) := by
  have HS := Lib.hid (fun W => rSub_any 0 a W (by omega) (by omega) a1 a2)
  generalize subV 0 a = v at *
  generalize subO 0 a = o at *
  go_enter Try.func58, Try.ntmps58
  go_wp2_with (go_at_call 36; (first | with_reducible refine Calls.fold (HS.out _) ?_ | with_reducible refine Calls.fresh (HS.out _) ?_); intro x1)
  go_ret2
  exact Gives.mk rfl (by (repeat (first | (with_reducible exact Below.refl _ _) | (with_reducible assumption) | (with_reducible refine Below.alloc ?_ (by (repeat (first | (with_reducible exact Nat.le_refl _) | (with_reducible assumption) | (with_reducible refine le_up ?_) | (with_reducible refine le_alloc ?_) | (with_reducible refine le_setCell ?_) | (with_reducible refine le_drew ?_) | (with_reducible refine le_drewN ?_) | omega))) _) | (with_reducible refine Below.drew ?_) | (with_reducible refine Below.drewN ?_ _) | (with_reducible refine Below.setCell ?_ (by (repeat (first | (with_reducible exact Nat.le_refl _) | (with_reducible assumption) | (with_reducible refine le_up ?_) | (with_reducible refine le_alloc ?_) | (with_reducible refine le_setCell ?_) | (with_reducible refine le_drew ?_) | (with_reducible refine le_drewN ?_) | omega))) _) | (with_reducible refine Below.up ?_ (by (repeat (first | (with_reducible exact Nat.le_refl _) | (with_reducible assumption) | (with_reducible refine le_up ?_) | (with_reducible refine le_alloc ?_) | (with_reducible refine le_setCell ?_) | (with_reducible refine le_drew ?_) | (with_reducible refine le_drewN ?_) | omega)))))))
/-- The second half of the answer is not used by the watcher. -/
def rabsO (a : Int) : Bool := if a < 0 then subO 0 a else false
set_option maxRecDepth 100000 in
theorem rAbs_any (a : Int) (w : World) (a1 : -9223372036854775808 ≤ a) (a2 : a ≤ 9223372036854775807) :
    Calls Try.prog 37 #[.int .i64 a] w (Gives w (.tuple #[.int .i64 (absV a), .bool (rabsO a)])) := by
  have HN := Lib.hid (fun W => rNeg_any a W a1 a2)
  by_cases h : a < 0
  · have hv : subV 0 a = absV a := by unfold subV absV; rw [if_pos h]; split <;> omega
    have ho : subO 0 a = rabsO a := by unfold rabsO; rw [if_pos h]
    rw [hv, ho] at HN
    generalize absV a = v at *
    generalize rabsO a = o at *
    clear hv ho
    go_enter Try.func37, Try.ntmps37
    go_wp2_with (go_at_call 58; (first | with_reducible refine Calls.fold (HN.out _) ?_ | with_reducible refine Calls.fresh (HN.out _) ?_); intro x1)
    go_ret2
    exact Gives.mk rfl (by (repeat (first | (with_reducible exact Below.refl _ _) | (with_reducible assumption) | (with_reducible refine Below.alloc ?_ (by (repeat (first | (with_reducible exact Nat.le_refl _) | (with_reducible assumption) | (with_reducible refine le_up ?_) | (with_reducible refine le_alloc ?_) | (with_reducible refine le_setCell ?_) | (with_reducible refine le_drew ?_) | (with_reducible refine le_drewN ?_) | omega))) _) | (with_reducible refine Below.drew ?_) | (with_reducible refine Below.drewN ?_ _) | (with_reducible refine Below.setCell ?_ (by (repeat (first | (with_reducible exact Nat.le_refl _) | (with_reducible assumption) | (with_reducible refine le_up ?_) | (with_reducible refine le_alloc ?_) | (with_reducible refine le_setCell ?_) | (with_reducible refine le_drew ?_) | (with_reducible refine le_drewN ?_) | omega))) _) | (with_reducible refine Below.up ?_ (by (repeat (first | (with_reducible exact Nat.le_refl _) | (with_reducible assumption) | (with_reducible refine le_up ?_) | (with_reducible refine le_alloc ?_) | (with_reducible refine le_setCell ?_) | (with_reducible refine le_drew ?_) | (with_reducible refine le_drewN ?_) | omega)))))))
  · rw [show absV a = a by unfold absV; rw [if_neg h], show rabsO a = false by unfold rabsO; rw [if_neg h]]
    clear HN
    go_enter Try.func37, Try.ntmps37
    go_wp2_with fail
    go_ret2
    exact Gives.mk rfl (by (repeat (first | (with_reducible exact Below.refl _ _) | (with_reducible assumption) | (with_reducible refine Below.alloc ?_ (by (repeat (first | (with_reducible exact Nat.le_refl _) | (with_reducible assumption) | (with_reducible refine le_up ?_) | (with_reducible refine le_alloc ?_) | (with_reducible refine le_setCell ?_) | (with_reducible refine le_drew ?_) | (with_reducible refine le_drewN ?_) | omega))) _) | (with_reducible refine Below.drew ?_) | (with_reducible refine Below.drewN ?_ _) | (with_reducible refine Below.setCell ?_ (by (repeat (first | (with_reducible exact Nat.le_refl _) | (with_reducible assumption) | (with_reducible refine le_up ?_) | (with_reducible refine le_alloc ?_) | (with_reducible refine le_setCell ?_) | (with_reducible refine le_drew ?_) | (with_reducible refine le_drewN ?_) | omega))) _) | (with_reducible refine Below.up ?_ (by (repeat (first | (with_reducible exact Nat.le_refl _) | (with_reducible assumption) | (with_reducible refine le_up ?_) | (with_reducible refine le_alloc ?_) | (with_reducible refine le_setCell ?_) | (with_reducible refine le_drew ?_) | (with_reducible refine le_drewN ?_) | omega)))))))
end Go.Proofs.Ytihalkpcddnikaa
