/-
  The walks over the slot layer, continued: Due, and the chapter's example.
-/
import Derived.Test.YtbfloidogdjccaaSlotW
namespace Go.Proofs.Ytbfloidogdjccaa
open Go.RowKit

/-! Due -/
def dueV (a b c t : Int) : Int := numV (begunV a b t - c)
theorem dueV_bd (a b c t : Int) : 0 ≤ dueV a b c t ∧ dueV a b c t ≤ 4294967295 := numV_bd _
set_option maxHeartbeats 400000 in
theorem Due_t (a b c d t : Int) (w : World) (h : schedOK a b c d = true) (ht : tickOK t = true) :
    Calls Try.prog 28 #[.agg #[.int .i64 a, .int .i64 b, .int .i64 c, .int .i64 d], .int .i64 t] w (Gives w (.tuple #[.int .u32 (dueV a b c t), .int .i64 0])) := by
  obtain ⟨g1, g2⟩ := begunV_bd h ht
  obtain ⟨h1, h2, h3, h4, h5, h6, h7, h8⟩ := sched_of h
  go_enter Try.func28, Try.ntmps28
  go_wp2_with (go_at_call 21; refine (At_t _ _ _ _ _ _ h ht).mono ?_; rintro e w1 ⟨rfl, x1, rfl⟩)
  (refine wp_region_up (by kernel_rfl) (by kernel_rfl) ?_; (repeat (go_big_quiet_step ((first | (go_at_call 56; exact Calls.up_gives (begun_any _ _ _ _ _ _ h ht)) | (go_at_call 55; exact Calls.up_tells (num_any _ _ (by omega))))))); refine wpQuiet_nil ?_; intro _ hw'; obtain ⟨xq, hw''⟩ := hw'; subst hw'')
  go_wp2
  go_ret2
  exact Gives.mk rfl (by (repeat (first | (with_reducible exact Below.refl _ _) | (with_reducible assumption) | (with_reducible refine Below.alloc ?_ (by (repeat (first | (with_reducible exact Nat.le_refl _) | (with_reducible assumption) | (with_reducible refine le_up ?_) | (with_reducible refine le_alloc ?_) | (with_reducible refine le_setCell ?_) | (with_reducible refine le_drew ?_) | (with_reducible refine le_drewN ?_) | omega))) _) | (with_reducible refine Below.drew ?_) | (with_reducible refine Below.drewN ?_ _) | (with_reducible refine Below.setCell ?_ (by (repeat (first | (with_reducible exact Nat.le_refl _) | (with_reducible assumption) | (with_reducible refine le_up ?_) | (with_reducible refine le_alloc ?_) | (with_reducible refine le_setCell ?_) | (with_reducible refine le_drew ?_) | (with_reducible refine le_drewN ?_) | omega))) _) | (with_reducible refine Below.up ?_ (by (repeat (first | (with_reducible exact Nat.le_refl _) | (with_reducible assumption) | (with_reducible refine le_up ?_) | (with_reducible refine le_alloc ?_) | (with_reducible refine le_setCell ?_) | (with_reducible refine le_drew ?_) | (with_reducible refine le_drewN ?_) | omega)))))))

set_option maxHeartbeats 400000 in
theorem Due_f (a b c d t : Int) (w : World) (h : ¬ (schedOK a b c d = true ∧ tickOK t = true)) :
    Calls Try.prog 28 #[.agg #[.int .i64 a, .int .i64 b, .int .i64 c, .int .i64 d], .int .i64 t] w (Gives w (.tuple #[.int .u32 0, .int .i64 2])) := by
  have hs' : Hid (¬ (schedOK a b c d = true ∧ tickOK t = true)) := h
  clear h
  go_enter Try.func28, Try.ntmps28
  go_wp2_with (go_at_call 21; (first | with_reducible refine Calls.fold (At_f _ _ _ _ _ _ hs'.out) ?_ | with_reducible refine Calls.fresh (At_f _ _ _ _ _ _ hs'.out) ?_); intro x1)
  go_ret2
  exact Gives.mk rfl (by (repeat (first | (with_reducible exact Below.refl _ _) | (with_reducible assumption) | (with_reducible refine Below.alloc ?_ (by (repeat (first | (with_reducible exact Nat.le_refl _) | (with_reducible assumption) | (with_reducible refine le_up ?_) | (with_reducible refine le_alloc ?_) | (with_reducible refine le_setCell ?_) | (with_reducible refine le_drew ?_) | (with_reducible refine le_drewN ?_) | omega))) _) | (with_reducible refine Below.drew ?_) | (with_reducible refine Below.drewN ?_ _) | (with_reducible refine Below.setCell ?_ (by (repeat (first | (with_reducible exact Nat.le_refl _) | (with_reducible assumption) | (with_reducible refine le_up ?_) | (with_reducible refine le_alloc ?_) | (with_reducible refine le_setCell ?_) | (with_reducible refine le_drew ?_) | (with_reducible refine le_drewN ?_) | omega))) _) | (with_reducible refine Below.up ?_ (by (repeat (first | (with_reducible exact Nat.le_refl _) | (with_reducible assumption) | (with_reducible refine le_up ?_) | (with_reducible refine le_alloc ?_) | (with_reducible refine le_setCell ?_) | (with_reducible refine le_drew ?_) | (with_reducible refine le_drewN ?_) | omega)))))))

/-! the chapter's example -/
set_option maxHeartbeats 800000 in
theorem works15 (w : World) : Calls Try.prog 20 #[] w (Gives w (.bool true)) := by
  have h : schedOK 100 10 2 3 = true := by decide
  have e1 : atV 100 10 125 = 3 := by decide
  have e2 : safeV 100 10 2 3 118 1 = false := by decide
  have e3 : safeV 100 10 2 3 116 2 = true := by decide
  go_enter Try.func20, Try.ntmps20
  go_wp2_with (first | (go_at_call 21; (first | with_reducible refine Calls.fold (At_t _ _ _ _ _ _ h (by decide)) ?_ | with_reducible refine Calls.fresh (At_t _ _ _ _ _ _ h (by decide)) ?_); intro x1) | (go_at_call 26; (first | with_reducible refine Calls.fold (Safe_t _ _ _ _ _ _ _ (by decide) (by decide) h (by decide)) ?_ | with_reducible refine Calls.fresh (Safe_t _ _ _ _ _ _ _ (by decide) (by decide) h (by decide)) ?_); intro x1) | (go_at_call 30; (first | with_reducible refine Calls.fold (Check_t _ _ _ _ _ h) ?_ | with_reducible refine Calls.fresh (Check_t _ _ _ _ _ h) ?_); intro x1))
  go_ret
  exact Gives.mk rfl (by (repeat (first | (with_reducible exact Below.refl _ _) | (with_reducible assumption) | (with_reducible refine Below.alloc ?_ (by (repeat (first | (with_reducible exact Nat.le_refl _) | (with_reducible assumption) | (with_reducible refine le_up ?_) | (with_reducible refine le_alloc ?_) | (with_reducible refine le_setCell ?_) | (with_reducible refine le_drew ?_) | (with_reducible refine le_drewN ?_) | omega))) _) | (with_reducible refine Below.drew ?_) | (with_reducible refine Below.drewN ?_ _) | (with_reducible refine Below.setCell ?_ (by (repeat (first | (with_reducible exact Nat.le_refl _) | (with_reducible assumption) | (with_reducible refine le_up ?_) | (with_reducible refine le_alloc ?_) | (with_reducible refine le_setCell ?_) | (with_reducible refine le_drew ?_) | (with_reducible refine le_drewN ?_) | omega))) _) | (with_reducible refine Below.up ?_ (by (repeat (first | (with_reducible exact Nat.le_refl _) | (with_reducible assumption) | (with_reducible refine le_up ?_) | (with_reducible refine le_alloc ?_) | (with_reducible refine le_setCell ?_) | (with_reducible refine le_drew ?_) | (with_reducible refine le_drewN ?_) | omega)))))))

end Go.Proofs.Ytbfloidogdjccaa
