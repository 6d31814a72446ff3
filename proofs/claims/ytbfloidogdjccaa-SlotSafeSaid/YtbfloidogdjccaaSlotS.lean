/-
  The slot layer, continued: the reference's At, Safe, Due; one contract for each function at every input; the laws SlotTells and SlotSafe, walked.
-/
import Derived.Test.YtbfloidogdjccaaSlotX
namespace Go.Proofs.Ytbfloidogdjccaa
open Go.RowKit

theorem plain_any (a b c d : Int) (w : World) :
    Calls Try.prog 24 #[.agg #[.int .i64 a, .int .i64 b, .int .i64 c, .int .i64 d]] w (Gives w (.agg #[.int .i64 a, .int .i64 b, .int .i64 c, .int .i64 d])) := by
  go_enter Try.func24, Try.ntmps24
  go_wp2
  go_returns
  exact Gives.mk rfl (by (repeat (first | (with_reducible exact Below.refl _ _) | (with_reducible assumption) | (with_reducible refine Below.alloc ?_ (by (repeat (first | (with_reducible exact Nat.le_refl _) | (with_reducible assumption) | (with_reducible refine le_up ?_) | (with_reducible refine le_alloc ?_) | (with_reducible refine le_setCell ?_) | (with_reducible refine le_drew ?_) | (with_reducible refine le_drewN ?_) | omega))) _) | (with_reducible refine Below.drew ?_) | (with_reducible refine Below.drewN ?_ _) | (with_reducible refine Below.setCell ?_ (by (repeat (first | (with_reducible exact Nat.le_refl _) | (with_reducible assumption) | (with_reducible refine le_up ?_) | (with_reducible refine le_alloc ?_) | (with_reducible refine le_setCell ?_) | (with_reducible refine le_drew ?_) | (with_reducible refine le_drewN ?_) | omega))) _) | (with_reducible refine Below.up ?_ (by (repeat (first | (with_reducible exact Nat.le_refl _) | (with_reducible assumption) | (with_reducible refine le_up ?_) | (with_reducible refine le_alloc ?_) | (with_reducible refine le_setCell ?_) | (with_reducible refine le_drew ?_) | (with_reducible refine le_drewN ?_) | omega)))))))

/-! the reference -/
theorem rAt_t (a b c d t : Int) (w : World) (h : schedOK a b c d = true) (ht : tickOK t = true) :
    Calls Try.prog 25 #[.agg #[.int .i64 a, .int .i64 b, .int .i64 c, .int .i64 d], .int .i64 t] w (Gives w (.tuple #[.int .u32 (atV a b t), .int .i64 0])) := by
  obtain ⟨h1, h2, h3, h4, h5, h6, h7, h8⟩ := sched_of h
  obtain ⟨t1, t2⟩ := tick_of ht
  obtain ⟨h9, h10⟩ := div_bound (t - a) b h3 (by omega) (by omega)
  by_cases hta : t < a
  · have hv : Hid (atV a b t = 0) := by unfold atV numV Hid; rw [begunV_lo hta]; rfl
    go_enter Try.func25, Try.ntmps25
    go_wp2_with (first | (go_at_call 31; (first | with_reducible refine Calls.fold (rCheck_t _ _ _ _ _ h) ?_ | with_reducible refine Calls.fresh (rCheck_t _ _ _ _ _ h) ?_); intro x1) | (go_at_call 57; refine (rtick_any _ _).mono ?_; rintro e w1 ⟨rfl, rfl⟩))
    go_ret2
    exact Gives.mk (ret_ii hv.out.symm rfl) (by (repeat (first | (with_reducible exact Below.refl _ _) | (with_reducible assumption) | (with_reducible refine Below.alloc ?_ (by (repeat (first | (with_reducible exact Nat.le_refl _) | (with_reducible assumption) | (with_reducible refine le_up ?_) | (with_reducible refine le_alloc ?_) | (with_reducible refine le_setCell ?_) | (with_reducible refine le_drew ?_) | (with_reducible refine le_drewN ?_) | omega))) _) | (with_reducible refine Below.drew ?_) | (with_reducible refine Below.drewN ?_ _) | (with_reducible refine Below.setCell ?_ (by (repeat (first | (with_reducible exact Nat.le_refl _) | (with_reducible assumption) | (with_reducible refine le_up ?_) | (with_reducible refine le_alloc ?_) | (with_reducible refine le_setCell ?_) | (with_reducible refine le_drew ?_) | (with_reducible refine le_drewN ?_) | omega))) _) | (with_reducible refine Below.up ?_ (by (repeat (first | (with_reducible exact Nat.le_refl _) | (with_reducible assumption) | (with_reducible refine le_up ?_) | (with_reducible refine le_alloc ?_) | (with_reducible refine le_setCell ?_) | (with_reducible refine le_drew ?_) | (with_reducible refine le_drewN ?_) | omega)))))))
  · have hat : a ≤ t := by omega
    have h0 := Int.ediv_nonneg (a := t - a) (b := b) (by omega) (by omega)
    have hv : Hid (atV a b t = min ((t - a) / b + 1) 4294967295) := by unfold atV numV Hid; rw [begunV_hi hat]; omega
    clear hta
    go_enter Try.func25, Try.ntmps25
    go_wp2_with (first | (go_at_call 31; (first | with_reducible refine Calls.fold (rCheck_t _ _ _ _ _ h) ?_ | with_reducible refine Calls.fresh (rCheck_t _ _ _ _ _ h) ?_); intro x1) | (go_at_call 57; refine (rtick_any _ _).mono ?_; rintro e w1 ⟨rfl, rfl⟩))
    all_goals
      go_ret2
      exact Gives.mk (ret_ii (by rw [hv.out]; omega) rfl) (by (repeat (first | (with_reducible exact Below.refl _ _) | (with_reducible assumption) | (with_reducible refine Below.alloc ?_ (by (repeat (first | (with_reducible exact Nat.le_refl _) | (with_reducible assumption) | (with_reducible refine le_up ?_) | (with_reducible refine le_alloc ?_) | (with_reducible refine le_setCell ?_) | (with_reducible refine le_drew ?_) | (with_reducible refine le_drewN ?_) | omega))) _) | (with_reducible refine Below.drew ?_) | (with_reducible refine Below.drewN ?_ _) | (with_reducible refine Below.setCell ?_ (by (repeat (first | (with_reducible exact Nat.le_refl _) | (with_reducible assumption) | (with_reducible refine le_up ?_) | (with_reducible refine le_alloc ?_) | (with_reducible refine le_setCell ?_) | (with_reducible refine le_drew ?_) | (with_reducible refine le_drewN ?_) | omega))) _) | (with_reducible refine Below.up ?_ (by (repeat (first | (with_reducible exact Nat.le_refl _) | (with_reducible assumption) | (with_reducible refine le_up ?_) | (with_reducible refine le_alloc ?_) | (with_reducible refine le_setCell ?_) | (with_reducible refine le_drew ?_) | (with_reducible refine le_drewN ?_) | omega)))))))
theorem rAt_f (a b c d t : Int) (w : World) (h : ¬ (schedOK a b c d = true ∧ tickOK t = true)) :
    Calls Try.prog 25 #[.agg #[.int .i64 a, .int .i64 b, .int .i64 c, .int .i64 d], .int .i64 t] w (Gives w (.tuple #[.int .u32 0, .int .i64 2])) := by
  by_cases hs : schedOK a b c d = true
  · have ht : tickOK t = false := by cases e : tickOK t <;> simp_all
    clear h
    go_enter Try.func25, Try.ntmps25
    go_wp2_with (first | (go_at_call 31; (first | with_reducible refine Calls.fold (rCheck_t _ _ _ _ _ hs) ?_ | with_reducible refine Calls.fresh (rCheck_t _ _ _ _ _ hs) ?_); intro x1) | (go_at_call 57; refine (rtick_any _ _).mono ?_; rintro e w1 ⟨rfl, rfl⟩))
    go_ret2
    exact Gives.mk rfl (by (repeat (first | (with_reducible exact Below.refl _ _) | (with_reducible assumption) | (with_reducible refine Below.alloc ?_ (by (repeat (first | (with_reducible exact Nat.le_refl _) | (with_reducible assumption) | (with_reducible refine le_up ?_) | (with_reducible refine le_alloc ?_) | (with_reducible refine le_setCell ?_) | (with_reducible refine le_drew ?_) | (with_reducible refine le_drewN ?_) | omega))) _) | (with_reducible refine Below.drew ?_) | (with_reducible refine Below.drewN ?_ _) | (with_reducible refine Below.setCell ?_ (by (repeat (first | (with_reducible exact Nat.le_refl _) | (with_reducible assumption) | (with_reducible refine le_up ?_) | (with_reducible refine le_alloc ?_) | (with_reducible refine le_setCell ?_) | (with_reducible refine le_drew ?_) | (with_reducible refine le_drewN ?_) | omega))) _) | (with_reducible refine Below.up ?_ (by (repeat (first | (with_reducible exact Nat.le_refl _) | (with_reducible assumption) | (with_reducible refine le_up ?_) | (with_reducible refine le_alloc ?_) | (with_reducible refine le_setCell ?_) | (with_reducible refine le_drew ?_) | (with_reducible refine le_drewN ?_) | omega)))))))
  · have hs' : schedOK a b c d = false := by simpa using hs
    clear h hs
    go_enter Try.func25, Try.ntmps25
    go_wp2_with (first | (go_at_call 31; (first | with_reducible refine Calls.fold (rCheck_f _ _ _ _ _ hs') ?_ | with_reducible refine Calls.fresh (rCheck_f _ _ _ _ _ hs') ?_); intro x1) | (go_at_call 57; refine (rtick_any _ _).mono ?_; rintro e w1 ⟨rfl, rfl⟩))
    go_ret2
    exact Gives.mk rfl (by (repeat (first | (with_reducible exact Below.refl _ _) | (with_reducible assumption) | (with_reducible refine Below.alloc ?_ (by (repeat (first | (with_reducible exact Nat.le_refl _) | (with_reducible assumption) | (with_reducible refine le_up ?_) | (with_reducible refine le_alloc ?_) | (with_reducible refine le_setCell ?_) | (with_reducible refine le_drew ?_) | (with_reducible refine le_drewN ?_) | omega))) _) | (with_reducible refine Below.drew ?_) | (with_reducible refine Below.drewN ?_ _) | (with_reducible refine Below.setCell ?_ (by (repeat (first | (with_reducible exact Nat.le_refl _) | (with_reducible assumption) | (with_reducible refine le_up ?_) | (with_reducible refine le_alloc ?_) | (with_reducible refine le_setCell ?_) | (with_reducible refine le_drew ?_) | (with_reducible refine le_drewN ?_) | omega))) _) | (with_reducible refine Below.up ?_ (by (repeat (first | (with_reducible exact Nat.le_refl _) | (with_reducible assumption) | (with_reducible refine le_up ?_) | (with_reducible refine le_alloc ?_) | (with_reducible refine le_setCell ?_) | (with_reducible refine le_drew ?_) | (with_reducible refine le_drewN ?_) | omega)))))))

theorem rSafe_t (a b c d t i : Int) (w : World) (hi : 1 ≤ i) (hi' : i ≤ 4294967295) (h : schedOK a b c d = true) (ht : tickOK t = true) :
    Calls Try.prog 27 #[.agg #[.int .i64 a, .int .i64 b, .int .i64 c, .int .i64 d], .int .i64 t, .int .u32 i] w (Gives w (.tuple #[.bool (safeV a b c d t i), .int .i64 0])) := by
  obtain ⟨h1, h2, h3, h4, h5, h6, h7, h8⟩ := sched_of h
  obtain ⟨t1, t2⟩ := tick_of ht
  obtain ⟨m1, m2⟩ := mulcb_bd h3 h4 h5 h6
  obtain ⟨n1, n2⟩ := beginV_bd h (by omega) hi'
  have hv : Hid (safeV a b c d t i = decide (t + d < beginV a b i + c * b)) := by unfold safeV Hid; rw [decide_eq_decide]; omega
  go_enter Try.func27, Try.ntmps27
  go_wp2_with (first | (go_at_call 23; (first | with_reducible refine Calls.fold (rBegin_t _ _ _ _ _ _ hi hi' h) ?_ | with_reducible refine Calls.fresh (rBegin_t _ _ _ _ _ _ hi hi' h) ?_); intro x1) | (go_at_call 57; refine (rtick_any _ _).mono ?_; rintro e w1 ⟨rfl, rfl⟩))
  go_ret2
  exact Gives.mk (ret_bi hv.out.symm rfl) (by (repeat (first | (with_reducible exact Below.refl _ _) | (with_reducible assumption) | (with_reducible refine Below.alloc ?_ (by (repeat (first | (with_reducible exact Nat.le_refl _) | (with_reducible assumption) | (with_reducible refine le_up ?_) | (with_reducible refine le_alloc ?_) | (with_reducible refine le_setCell ?_) | (with_reducible refine le_drew ?_) | (with_reducible refine le_drewN ?_) | omega))) _) | (with_reducible refine Below.drew ?_) | (with_reducible refine Below.drewN ?_ _) | (with_reducible refine Below.setCell ?_ (by (repeat (first | (with_reducible exact Nat.le_refl _) | (with_reducible assumption) | (with_reducible refine le_up ?_) | (with_reducible refine le_alloc ?_) | (with_reducible refine le_setCell ?_) | (with_reducible refine le_drew ?_) | (with_reducible refine le_drewN ?_) | omega))) _) | (with_reducible refine Below.up ?_ (by (repeat (first | (with_reducible exact Nat.le_refl _) | (with_reducible assumption) | (with_reducible refine le_up ?_) | (with_reducible refine le_alloc ?_) | (with_reducible refine le_setCell ?_) | (with_reducible refine le_drew ?_) | (with_reducible refine le_drewN ?_) | omega)))))))
theorem rSafe_f (a b c d t i : Int) (w : World) (hi : 0 ≤ i) (hi' : i ≤ 4294967295) (h : ¬ ((schedOK a b c d = true ∧ 1 ≤ i) ∧ tickOK t = true)) :
    Calls Try.prog 27 #[.agg #[.int .i64 a, .int .i64 b, .int .i64 c, .int .i64 d], .int .i64 t, .int .u32 i] w (Gives w (.tuple #[.bool false, .int .i64 2])) := by
  by_cases hs : schedOK a b c d = true ∧ 1 ≤ i
  · have ht : tickOK t = false := by cases e : tickOK t <;> simp_all
    clear h
    obtain ⟨hs, hi1⟩ := hs
    go_enter Try.func27, Try.ntmps27
    go_wp2_with (first | (go_at_call 23; (first | with_reducible refine Calls.fold (rBegin_t _ _ _ _ _ _ hi1 hi' hs) ?_ | with_reducible refine Calls.fresh (rBegin_t _ _ _ _ _ _ hi1 hi' hs) ?_); intro x1) | (go_at_call 57; refine (rtick_any _ _).mono ?_; rintro e w1 ⟨rfl, rfl⟩))
    go_ret2
    exact Gives.mk rfl (by (repeat (first | (with_reducible exact Below.refl _ _) | (with_reducible assumption) | (with_reducible refine Below.alloc ?_ (by (repeat (first | (with_reducible exact Nat.le_refl _) | (with_reducible assumption) | (with_reducible refine le_up ?_) | (with_reducible refine le_alloc ?_) | (with_reducible refine le_setCell ?_) | (with_reducible refine le_drew ?_) | (with_reducible refine le_drewN ?_) | omega))) _) | (with_reducible refine Below.drew ?_) | (with_reducible refine Below.drewN ?_ _) | (with_reducible refine Below.setCell ?_ (by (repeat (first | (with_reducible exact Nat.le_refl _) | (with_reducible assumption) | (with_reducible refine le_up ?_) | (with_reducible refine le_alloc ?_) | (with_reducible refine le_setCell ?_) | (with_reducible refine le_drew ?_) | (with_reducible refine le_drewN ?_) | omega))) _) | (with_reducible refine Below.up ?_ (by (repeat (first | (with_reducible exact Nat.le_refl _) | (with_reducible assumption) | (with_reducible refine le_up ?_) | (with_reducible refine le_alloc ?_) | (with_reducible refine le_setCell ?_) | (with_reducible refine le_drew ?_) | (with_reducible refine le_drewN ?_) | omega)))))))
  · have hs' : Hid (¬ (schedOK a b c d = true ∧ 1 ≤ i)) := hs
    clear h hs
    go_enter Try.func27, Try.ntmps27
    go_wp2_with (first | (go_at_call 23; (first | with_reducible refine Calls.fold (rBegin_f _ _ _ _ _ _ hi hi' hs'.out) ?_ | with_reducible refine Calls.fresh (rBegin_f _ _ _ _ _ _ hi hi' hs'.out) ?_); intro x1) | (go_at_call 57; refine (rtick_any _ _).mono ?_; rintro e w1 ⟨rfl, rfl⟩))
    go_ret2
    exact Gives.mk rfl (by (repeat (first | (with_reducible exact Below.refl _ _) | (with_reducible assumption) | (with_reducible refine Below.alloc ?_ (by (repeat (first | (with_reducible exact Nat.le_refl _) | (with_reducible assumption) | (with_reducible refine le_up ?_) | (with_reducible refine le_alloc ?_) | (with_reducible refine le_setCell ?_) | (with_reducible refine le_drew ?_) | (with_reducible refine le_drewN ?_) | omega))) _) | (with_reducible refine Below.drew ?_) | (with_reducible refine Below.drewN ?_ _) | (with_reducible refine Below.setCell ?_ (by (repeat (first | (with_reducible exact Nat.le_refl _) | (with_reducible assumption) | (with_reducible refine le_up ?_) | (with_reducible refine le_alloc ?_) | (with_reducible refine le_setCell ?_) | (with_reducible refine le_drew ?_) | (with_reducible refine le_drewN ?_) | omega))) _) | (with_reducible refine Below.up ?_ (by (repeat (first | (with_reducible exact Nat.le_refl _) | (with_reducible assumption) | (with_reducible refine le_up ?_) | (with_reducible refine le_alloc ?_) | (with_reducible refine le_setCell ?_) | (with_reducible refine le_drew ?_) | (with_reducible refine le_drewN ?_) | omega)))))))

theorem rDue_t (a b c d t : Int) (w : World) (h : schedOK a b c d = true) (ht : tickOK t = true) :
    Calls Try.prog 29 #[.agg #[.int .i64 a, .int .i64 b, .int .i64 c, .int .i64 d], .int .i64 t] w (Gives w (.tuple #[.int .u32 (dueV a b c t), .int .i64 0])) := by
  obtain ⟨h1, h2, h3, h4, h5, h6, h7, h8⟩ := sched_of h
  obtain ⟨t1, t2⟩ := tick_of ht
  obtain ⟨p1, p2⟩ := atV_bd a b t
  obtain ⟨h9, h10⟩ := div_bound (t - a) b h3 (by omega) (by omega)
  by_cases hm : atV a b t = 4294967295
  · have hat : a ≤ t := by
      rcases Int.lt_or_le t a with h1 | h1
      · rw [atV, begunV_lo h1] at hm; exact absurd hm (by decide)
      · exact h1
    have h11 : 4294967295 ≤ (t - a) / b + 1 := by rw [atV, begunV_hi hat] at hm; unfold numV at hm; omega
    have hv : Hid (dueV a b c t = min ((t - a) / b + 1 - c) 4294967295) := by unfold dueV numV Hid; rw [begunV_hi hat]; omega
    have hmb : (atV a b t == 4294967295) = true := by simpa using hm
    clear hm
    by_cases hmn : 4294967295 < (t - a) / b + 1 - c
    all_goals
      go_enter Try.func29, Try.ntmps29
      go_wp2_with (first | (go_at_call 25; (first | with_reducible refine Calls.fold (rAt_t _ _ _ _ _ _ h ht) ?_ | with_reducible refine Calls.fresh (rAt_t _ _ _ _ _ _ h ht) ?_); intro x1) | (refine wp_region_up (by kernel_rfl) (by kernel_rfl) ?_; (repeat (go_big_quiet_step (fail))); refine wpQuiet_nil ?_; intro _ hw'; obtain ⟨xq, hw''⟩ := hw'; subst hw''))
      all_goals
        go_ret2
        exact Gives.mk (ret_ii (by rw [hv.out]; omega) rfl) (by (repeat (first | (with_reducible exact Below.refl _ _) | (with_reducible assumption) | (with_reducible refine Below.alloc ?_ (by (repeat (first | (with_reducible exact Nat.le_refl _) | (with_reducible assumption) | (with_reducible refine le_up ?_) | (with_reducible refine le_alloc ?_) | (with_reducible refine le_setCell ?_) | (with_reducible refine le_drew ?_) | (with_reducible refine le_drewN ?_) | omega))) _) | (with_reducible refine Below.drew ?_) | (with_reducible refine Below.drewN ?_ _) | (with_reducible refine Below.setCell ?_ (by (repeat (first | (with_reducible exact Nat.le_refl _) | (with_reducible assumption) | (with_reducible refine le_up ?_) | (with_reducible refine le_alloc ?_) | (with_reducible refine le_setCell ?_) | (with_reducible refine le_drew ?_) | (with_reducible refine le_drewN ?_) | omega))) _) | (with_reducible refine Below.up ?_ (by (repeat (first | (with_reducible exact Nat.le_refl _) | (with_reducible assumption) | (with_reducible refine le_up ?_) | (with_reducible refine le_alloc ?_) | (with_reducible refine le_setCell ?_) | (with_reducible refine le_drew ?_) | (with_reducible refine le_drewN ?_) | omega)))))))
  · have hv : Hid (dueV a b c t = max (atV a b t - c) 0) := by
      unfold dueV atV numV Hid at *; have := begunV_bd h ht; omega
    have hmb : (atV a b t == 4294967295) = false := by simpa using hm
    clear hm
    go_enter Try.func29, Try.ntmps29
    go_wp2_with (go_at_call 25; (first | with_reducible refine Calls.fold (rAt_t _ _ _ _ _ _ h ht) ?_ | with_reducible refine Calls.fresh (rAt_t _ _ _ _ _ _ h ht) ?_); intro x1)
    all_goals
      go_ret2
      exact Gives.mk (ret_ii (by rw [hv.out]; omega) rfl) (by (repeat (first | (with_reducible exact Below.refl _ _) | (with_reducible assumption) | (with_reducible refine Below.alloc ?_ (by (repeat (first | (with_reducible exact Nat.le_refl _) | (with_reducible assumption) | (with_reducible refine le_up ?_) | (with_reducible refine le_alloc ?_) | (with_reducible refine le_setCell ?_) | (with_reducible refine le_drew ?_) | (with_reducible refine le_drewN ?_) | omega))) _) | (with_reducible refine Below.drew ?_) | (with_reducible refine Below.drewN ?_ _) | (with_reducible refine Below.setCell ?_ (by (repeat (first | (with_reducible exact Nat.le_refl _) | (with_reducible assumption) | (with_reducible refine le_up ?_) | (with_reducible refine le_alloc ?_) | (with_reducible refine le_setCell ?_) | (with_reducible refine le_drew ?_) | (with_reducible refine le_drewN ?_) | omega))) _) | (with_reducible refine Below.up ?_ (by (repeat (first | (with_reducible exact Nat.le_refl _) | (with_reducible assumption) | (with_reducible refine le_up ?_) | (with_reducible refine le_alloc ?_) | (with_reducible refine le_setCell ?_) | (with_reducible refine le_drew ?_) | (with_reducible refine le_drewN ?_) | omega)))))))
theorem rDue_f (a b c d t : Int) (w : World) (h : ¬ (schedOK a b c d = true ∧ tickOK t = true)) :
    Calls Try.prog 29 #[.agg #[.int .i64 a, .int .i64 b, .int .i64 c, .int .i64 d], .int .i64 t] w (Gives w (.tuple #[.int .u32 0, .int .i64 2])) := by
  have hs' : Hid (¬ (schedOK a b c d = true ∧ tickOK t = true)) := h
  clear h
  go_enter Try.func29, Try.ntmps29
  go_wp2_with (go_at_call 25; (first | with_reducible refine Calls.fold (rAt_f _ _ _ _ _ _ hs'.out) ?_ | with_reducible refine Calls.fresh (rAt_f _ _ _ _ _ _ hs'.out) ?_); intro x1)
  go_ret2
  exact Gives.mk rfl (by (repeat (first | (with_reducible exact Below.refl _ _) | (with_reducible assumption) | (with_reducible refine Below.alloc ?_ (by (repeat (first | (with_reducible exact Nat.le_refl _) | (with_reducible assumption) | (with_reducible refine le_up ?_) | (with_reducible refine le_alloc ?_) | (with_reducible refine le_setCell ?_) | (with_reducible refine le_drew ?_) | (with_reducible refine le_drewN ?_) | omega))) _) | (with_reducible refine Below.drew ?_) | (with_reducible refine Below.drewN ?_ _) | (with_reducible refine Below.setCell ?_ (by (repeat (first | (with_reducible exact Nat.le_refl _) | (with_reducible assumption) | (with_reducible refine le_up ?_) | (with_reducible refine le_alloc ?_) | (with_reducible refine le_setCell ?_) | (with_reducible refine le_drew ?_) | (with_reducible refine le_drewN ?_) | omega))) _) | (with_reducible refine Below.up ?_ (by (repeat (first | (with_reducible exact Nat.le_refl _) | (with_reducible assumption) | (with_reducible refine le_up ?_) | (with_reducible refine le_alloc ?_) | (with_reducible refine le_setCell ?_) | (with_reducible refine le_drew ?_) | (with_reducible refine le_drewN ?_) | omega)))))))

/-! one contract at every input -/
def BeginR (a b c d i : Int) : Int := if schedOK a b c d = true ∧ 1 ≤ i then beginV a b i else 0
def BeginE (a b c d i : Int) : Int := if schedOK a b c d = true ∧ 1 ≤ i then 0 else 2
def AtR (a b c d t : Int) : Int := if schedOK a b c d = true ∧ tickOK t = true then atV a b t else 0
def DueR (a b c d t : Int) : Int := if schedOK a b c d = true ∧ tickOK t = true then dueV a b c t else 0
def AtE (a b c d t : Int) : Int := if schedOK a b c d = true ∧ tickOK t = true then 0 else 2
def SafeR (a b c d t i : Int) : Bool := if (schedOK a b c d = true ∧ 1 ≤ i) ∧ tickOK t = true then safeV a b c d t i else false
def SafeE (a b c d t i : Int) : Int := if (schedOK a b c d = true ∧ 1 ≤ i) ∧ tickOK t = true then 0 else 2

theorem Begin_all (a b c d i : Int) (w : World) (hi : 0 ≤ i) (hi' : i ≤ 4294967295) :
    Calls Try.prog 22 #[.agg #[.int .i64 a, .int .i64 b, .int .i64 c, .int .i64 d], .int .u32 i] w (Gives w (.tuple #[.int .i64 (BeginR a b c d i), .int .i64 (BeginE a b c d i)])) := by
  by_cases h : schedOK a b c d = true ∧ 1 ≤ i
  · have := Begin_t a b c d i w h.2 hi' h.1; simpa only [BeginR, BeginE, if_pos h] using this
  · have := Begin_f a b c d i w hi hi' h; simpa only [BeginR, BeginE, if_neg h] using this
theorem rBegin_all (a b c d i : Int) (w : World) (hi : 0 ≤ i) (hi' : i ≤ 4294967295) :
    Calls Try.prog 23 #[.agg #[.int .i64 a, .int .i64 b, .int .i64 c, .int .i64 d], .int .u32 i] w (Gives w (.tuple #[.int .i64 (BeginR a b c d i), .int .i64 (BeginE a b c d i)])) := by
  by_cases h : schedOK a b c d = true ∧ 1 ≤ i
  · have := rBegin_t a b c d i w h.2 hi' h.1; simpa only [BeginR, BeginE, if_pos h] using this
  · have := rBegin_f a b c d i w hi hi' h; simpa only [BeginR, BeginE, if_neg h] using this
theorem At_all (a b c d t : Int) (w : World) :
    Calls Try.prog 21 #[.agg #[.int .i64 a, .int .i64 b, .int .i64 c, .int .i64 d], .int .i64 t] w (Gives w (.tuple #[.int .u32 (AtR a b c d t), .int .i64 (AtE a b c d t)])) := by
  by_cases h : schedOK a b c d = true ∧ tickOK t = true
  · have := At_t a b c d t w h.1 h.2; simpa only [AtR, AtE, if_pos h] using this
  · have := At_f a b c d t w h; simpa only [AtR, AtE, if_neg h] using this
theorem rAt_all (a b c d t : Int) (w : World) :
    Calls Try.prog 25 #[.agg #[.int .i64 a, .int .i64 b, .int .i64 c, .int .i64 d], .int .i64 t] w (Gives w (.tuple #[.int .u32 (AtR a b c d t), .int .i64 (AtE a b c d t)])) := by
  by_cases h : schedOK a b c d = true ∧ tickOK t = true
  · have := rAt_t a b c d t w h.1 h.2; simpa only [AtR, AtE, if_pos h] using this
  · have := rAt_f a b c d t w h; simpa only [AtR, AtE, if_neg h] using this
theorem Due_all (a b c d t : Int) (w : World) :
    Calls Try.prog 28 #[.agg #[.int .i64 a, .int .i64 b, .int .i64 c, .int .i64 d], .int .i64 t] w (Gives w (.tuple #[.int .u32 (DueR a b c d t), .int .i64 (AtE a b c d t)])) := by
  by_cases h : schedOK a b c d = true ∧ tickOK t = true
  · have := Due_t a b c d t w h.1 h.2; simpa only [DueR, AtE, if_pos h] using this
  · have := Due_f a b c d t w h; simpa only [DueR, AtE, if_neg h] using this
theorem rDue_all (a b c d t : Int) (w : World) :
    Calls Try.prog 29 #[.agg #[.int .i64 a, .int .i64 b, .int .i64 c, .int .i64 d], .int .i64 t] w (Gives w (.tuple #[.int .u32 (DueR a b c d t), .int .i64 (AtE a b c d t)])) := by
  by_cases h : schedOK a b c d = true ∧ tickOK t = true
  · have := rDue_t a b c d t w h.1 h.2; simpa only [DueR, AtE, if_pos h] using this
  · have := rDue_f a b c d t w h; simpa only [DueR, AtE, if_neg h] using this
theorem Safe_all (a b c d t i : Int) (w : World) (hi : 0 ≤ i) (hi' : i ≤ 4294967295) :
    Calls Try.prog 26 #[.agg #[.int .i64 a, .int .i64 b, .int .i64 c, .int .i64 d], .int .i64 t, .int .u32 i] w (Gives w (.tuple #[.bool (SafeR a b c d t i), .int .i64 (SafeE a b c d t i)])) := by
  by_cases h : (schedOK a b c d = true ∧ 1 ≤ i) ∧ tickOK t = true
  · have := Safe_t a b c d t i w h.1.2 hi' h.1.1 h.2; simpa only [SafeR, SafeE, if_pos h] using this
  · have := Safe_f a b c d t i w hi hi' h; simpa only [SafeR, SafeE, if_neg h] using this
theorem rSafe_all (a b c d t i : Int) (w : World) (hi : 0 ≤ i) (hi' : i ≤ 4294967295) :
    Calls Try.prog 27 #[.agg #[.int .i64 a, .int .i64 b, .int .i64 c, .int .i64 d], .int .i64 t, .int .u32 i] w (Gives w (.tuple #[.bool (SafeR a b c d t i), .int .i64 (SafeE a b c d t i)])) := by
  by_cases h : (schedOK a b c d = true ∧ 1 ≤ i) ∧ tickOK t = true
  · have := rSafe_t a b c d t i w h.1.2 hi' h.1.1 h.2; simpa only [SafeR, SafeE, if_pos h] using this
  · have := rSafe_f a b c d t i w hi hi' h; simpa only [SafeR, SafeE, if_neg h] using this
end Go.Proofs.Ytbfloidogdjccaa
