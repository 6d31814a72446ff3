/-
  The three laws of the slot layer, walked: each answers true.
-/
import Derived.Test.YtbfloidogdjccaaSlotX
namespace Go.Proofs.Ytbfloidogdjccaa
open Go.RowKit

theorem within_lo {a b t : Int} (hb : 1 ≤ b) (h : a ≤ t) : beginV a b (atV a b t) ≤ t := by
  have e1 : atV a b t ≤ (t - a) / b + 1 := by
    unfold atV numV; rw [begunV_hi h]; have := Int.ediv_nonneg (a := t - a) (b := b) (by omega) (by omega); omega
  have e2 := Int.ediv_mul_le (t - a) (b := b) (by omega)
  have e3 : (atV a b t - 1) * b ≤ ((t - a) / b) * b := Int.mul_le_mul_of_nonneg_right (by omega) (by omega)
  unfold beginV; omega
theorem within_hi {a b t : Int} (hb : 1 ≤ b) (h : a ≤ t) (hq : atV a b t ≠ 4294967295) : t < beginV a b (atV a b t + 1) := by
  have h0 := Int.ediv_nonneg (a := t - a) (b := b) (by omega) (by omega)
  have e1 : atV a b t = (t - a) / b + 1 := by
    unfold atV numV at *; rw [begunV_hi h] at *; omega
  have e2 := Int.lt_ediv_add_one_mul_self (t - a) (b := b) (by omega)
  unfold beginV; rw [e1, Int.add_sub_cancel]; omega
theorem at_zero {a b t : Int} (hb : 1 ≤ b) (h : atV a b t = 0) : t < a := by
  rcases Int.lt_or_le t a with h1 | h1
  · exact h1
  · unfold atV numV at h; rw [begunV_hi h1] at h
    have := Int.ediv_nonneg (a := t - a) (b := b) (by omega) (by omega)
    omega

set_option maxHeartbeats 800000 in
theorem SlotWithin_any (a b c d t : Int) (w : World) :
    Calls Try.prog 5 #[.agg #[.int .i64 a, .int .i64 b, .int .i64 c, .int .i64 d], .int .i64 t] w (Gives w (.bool true)) := by
  by_cases hs : schedOK a b c d = true ∧ tickOK t = true
  · obtain ⟨h, ht⟩ := hs
    obtain ⟨h1, h2, h3, h4, h5, h6, h7, h8⟩ := sched_of h
    by_cases hz : atV a b t = 0
    · have hlt := at_zero h3 hz
      go_enter Try.func5, Try.ntmps5
      go_wp2_with (first | (go_at_call 20; (first | with_reducible refine Calls.fold (works15 _) ?_ | with_reducible refine Calls.fresh (works15 _) ?_); intro x1) | (go_at_call 21; (first | with_reducible refine Calls.fold (At_t _ _ _ _ _ _ h ht) ?_ | with_reducible refine Calls.fresh (At_t _ _ _ _ _ _ h ht) ?_); intro x1))
      go_ret
      exact Gives.mk rfl (by (repeat (first | (with_reducible exact Below.refl _ _) | (with_reducible assumption) | (with_reducible refine Below.alloc ?_ (by (repeat (first | (with_reducible exact Nat.le_refl _) | (with_reducible assumption) | (with_reducible refine le_up ?_) | (with_reducible refine le_alloc ?_) | (with_reducible refine le_setCell ?_) | (with_reducible refine le_drew ?_) | (with_reducible refine le_drewN ?_) | omega))) _) | (with_reducible refine Below.drew ?_) | (with_reducible refine Below.drewN ?_ _) | (with_reducible refine Below.setCell ?_ (by (repeat (first | (with_reducible exact Nat.le_refl _) | (with_reducible assumption) | (with_reducible refine le_up ?_) | (with_reducible refine le_alloc ?_) | (with_reducible refine le_setCell ?_) | (with_reducible refine le_drew ?_) | (with_reducible refine le_drewN ?_) | omega))) _) | (with_reducible refine Below.up ?_ (by (repeat (first | (with_reducible exact Nat.le_refl _) | (with_reducible assumption) | (with_reducible refine le_up ?_) | (with_reducible refine le_alloc ?_) | (with_reducible refine le_setCell ?_) | (with_reducible refine le_drew ?_) | (with_reducible refine le_drewN ?_) | omega)))))))
    · obtain ⟨p1, p2⟩ := atV_bd a b t
      have hat : a ≤ t := by
        rcases Int.lt_or_le t a with h1 | h1
        · exact absurd (by unfold atV; rw [begunV_lo h1]; rfl) hz
        · exact h1
      have hb1 := within_lo h3 hat
      by_cases hm : atV a b t = 4294967295
      · have hzb : (atV a b t == 0) = false := by simpa using hz
        have hmb : (atV a b t == 4294967295) = true := by simpa using hm
        have p4 : 1 ≤ atV a b t := by omega
        clear hz hm
        go_enter Try.func5, Try.ntmps5
        go_wp2_with (first | (go_at_call 20; (first | with_reducible refine Calls.fold (works15 _) ?_ | with_reducible refine Calls.fresh (works15 _) ?_); intro x1) | (go_at_call 21; (first | with_reducible refine Calls.fold (At_t _ _ _ _ _ _ h ht) ?_ | with_reducible refine Calls.fresh (At_t _ _ _ _ _ _ h ht) ?_); intro x1) | (go_at_call 22; (first | with_reducible refine Calls.fold (Begin_t _ _ _ _ _ _ (by omega) (by omega) h) ?_ | with_reducible refine Calls.fresh (Begin_t _ _ _ _ _ _ (by omega) (by omega) h) ?_); intro x1))
        go_ret
        exact Gives.mk rfl (by (repeat (first | (with_reducible exact Below.refl _ _) | (with_reducible assumption) | (with_reducible refine Below.alloc ?_ (by (repeat (first | (with_reducible exact Nat.le_refl _) | (with_reducible assumption) | (with_reducible refine le_up ?_) | (with_reducible refine le_alloc ?_) | (with_reducible refine le_setCell ?_) | (with_reducible refine le_drew ?_) | (with_reducible refine le_drewN ?_) | omega))) _) | (with_reducible refine Below.drew ?_) | (with_reducible refine Below.drewN ?_ _) | (with_reducible refine Below.setCell ?_ (by (repeat (first | (with_reducible exact Nat.le_refl _) | (with_reducible assumption) | (with_reducible refine le_up ?_) | (with_reducible refine le_alloc ?_) | (with_reducible refine le_setCell ?_) | (with_reducible refine le_drew ?_) | (with_reducible refine le_drewN ?_) | omega))) _) | (with_reducible refine Below.up ?_ (by (repeat (first | (with_reducible exact Nat.le_refl _) | (with_reducible assumption) | (with_reducible refine le_up ?_) | (with_reducible refine le_alloc ?_) | (with_reducible refine le_setCell ?_) | (with_reducible refine le_drew ?_) | (with_reducible refine le_drewN ?_) | omega)))))))
      · have hc1 := within_hi h3 hat hm
        have p3 : atV a b t + 1 ≤ 4294967295 := by omega
        have hzb : (atV a b t == 0) = false := by simpa using hz
        have hmb : (atV a b t == 4294967295) = false := by simpa using hm
        go_enter Try.func5, Try.ntmps5
        go_wp2_with (first | (go_at_call 20; (first | with_reducible refine Calls.fold (works15 _) ?_ | with_reducible refine Calls.fresh (works15 _) ?_); intro x1) | (go_at_call 21; (first | with_reducible refine Calls.fold (At_t _ _ _ _ _ _ h ht) ?_ | with_reducible refine Calls.fresh (At_t _ _ _ _ _ _ h ht) ?_); intro x1) | (go_at_call 22; (first | with_reducible refine Calls.fold (Begin_t _ _ _ _ _ _ (by omega) (by omega) h) ?_ | with_reducible refine Calls.fresh (Begin_t _ _ _ _ _ _ (by omega) (by omega) h) ?_); intro x1))
        go_ret
        exact Gives.mk rfl (by (repeat (first | (with_reducible exact Below.refl _ _) | (with_reducible assumption) | (with_reducible refine Below.alloc ?_ (by (repeat (first | (with_reducible exact Nat.le_refl _) | (with_reducible assumption) | (with_reducible refine le_up ?_) | (with_reducible refine le_alloc ?_) | (with_reducible refine le_setCell ?_) | (with_reducible refine le_drew ?_) | (with_reducible refine le_drewN ?_) | omega))) _) | (with_reducible refine Below.drew ?_) | (with_reducible refine Below.drewN ?_ _) | (with_reducible refine Below.setCell ?_ (by (repeat (first | (with_reducible exact Nat.le_refl _) | (with_reducible assumption) | (with_reducible refine le_up ?_) | (with_reducible refine le_alloc ?_) | (with_reducible refine le_setCell ?_) | (with_reducible refine le_drew ?_) | (with_reducible refine le_drewN ?_) | omega))) _) | (with_reducible refine Below.up ?_ (by (repeat (first | (with_reducible exact Nat.le_refl _) | (with_reducible assumption) | (with_reducible refine le_up ?_) | (with_reducible refine le_alloc ?_) | (with_reducible refine le_setCell ?_) | (with_reducible refine le_drew ?_) | (with_reducible refine le_drewN ?_) | omega)))))))
  · have hs' : Hid (¬ (schedOK a b c d = true ∧ tickOK t = true)) := hs
    clear hs
    go_enter Try.func5, Try.ntmps5
    go_wp2_with (first | (go_at_call 20; (first | with_reducible refine Calls.fold (works15 _) ?_ | with_reducible refine Calls.fresh (works15 _) ?_); intro x1) | (go_at_call 21; (first | with_reducible refine Calls.fold (At_f _ _ _ _ _ _ hs'.out) ?_ | with_reducible refine Calls.fresh (At_f _ _ _ _ _ _ hs'.out) ?_); intro x1))
    go_ret
    exact Gives.mk rfl (by (repeat (first | (with_reducible exact Below.refl _ _) | (with_reducible assumption) | (with_reducible refine Below.alloc ?_ (by (repeat (first | (with_reducible exact Nat.le_refl _) | (with_reducible assumption) | (with_reducible refine le_up ?_) | (with_reducible refine le_alloc ?_) | (with_reducible refine le_setCell ?_) | (with_reducible refine le_drew ?_) | (with_reducible refine le_drewN ?_) | omega))) _) | (with_reducible refine Below.drew ?_) | (with_reducible refine Below.drewN ?_ _) | (with_reducible refine Below.setCell ?_ (by (repeat (first | (with_reducible exact Nat.le_refl _) | (with_reducible assumption) | (with_reducible refine le_up ?_) | (with_reducible refine le_alloc ?_) | (with_reducible refine le_setCell ?_) | (with_reducible refine le_drew ?_) | (with_reducible refine le_drewN ?_) | omega))) _) | (with_reducible refine Below.up ?_ (by (repeat (first | (with_reducible exact Nat.le_refl _) | (with_reducible assumption) | (with_reducible refine le_up ?_) | (with_reducible refine le_alloc ?_) | (with_reducible refine le_setCell ?_) | (with_reducible refine le_drew ?_) | (with_reducible refine le_drewN ?_) | omega)))))))
end Go.Proofs.Ytbfloidogdjccaa
