/-
  The laws SlotTells and SlotSafe, walked: each answers true.
-/
import Derived.Test.YtbfloidogdjccaaSlotS
namespace Go.Proofs.Ytbfloidogdjccaa
open Go.RowKit

set_option maxHeartbeats 1600000 in
theorem SlotTells_any (a b c d t i : Int) (w : World) (hi : 0 ≤ i) (hi' : i ≤ 4294967295) :
    Calls Try.prog 6 #[.agg #[.int .i64 a, .int .i64 b, .int .i64 c, .int .i64 d], .int .i64 t, .int .u32 i] w (Gives w (.bool true)) := by
  go_enter Try.func6, Try.ntmps6
  go_wp2_with (first | (go_at_call 22; (first | with_reducible refine Calls.fold (Begin_all _ _ _ _ _ _ hi hi') ?_ | with_reducible refine Calls.fresh (Begin_all _ _ _ _ _ _ hi hi') ?_); intro x1) | (go_at_call 23; (first | with_reducible refine Calls.fold (rBegin_all _ _ _ _ _ _ hi hi') ?_ | with_reducible refine Calls.fresh (rBegin_all _ _ _ _ _ _ hi hi') ?_); intro x1) | (go_at_call 21; (first | with_reducible refine Calls.fold (At_all _ _ _ _ _ _) ?_ | with_reducible refine Calls.fresh (At_all _ _ _ _ _ _) ?_); intro x1) | (go_at_call 25; (first | with_reducible refine Calls.fold (rAt_all _ _ _ _ _ _) ?_ | with_reducible refine Calls.fresh (rAt_all _ _ _ _ _ _) ?_); intro x1) | (go_at_call 26; (first | with_reducible refine Calls.fold (Safe_all _ _ _ _ _ _ _ hi hi') ?_ | with_reducible refine Calls.fresh (Safe_all _ _ _ _ _ _ _ hi hi') ?_); intro x1) | (go_at_call 27; (first | with_reducible refine Calls.fold (rSafe_all _ _ _ _ _ _ _ hi hi') ?_ | with_reducible refine Calls.fresh (rSafe_all _ _ _ _ _ _ _ hi hi') ?_); intro x1) | (go_at_call 28; (first | with_reducible refine Calls.fold (Due_all _ _ _ _ _ _) ?_ | with_reducible refine Calls.fresh (Due_all _ _ _ _ _ _) ?_); intro x1) | (go_at_call 29; (first | with_reducible refine Calls.fold (rDue_all _ _ _ _ _ _) ?_ | with_reducible refine Calls.fresh (rDue_all _ _ _ _ _ _) ?_); intro x1) | (go_at_call 24; (first | with_reducible refine Calls.fold (plain_any _ _ _ _ _) ?_ | with_reducible refine Calls.fresh (plain_any _ _ _ _ _) ?_); intro x1) | (go_at_call 30; (first | with_reducible refine Calls.fold (Check_any _ _ _ _ _) ?_ | with_reducible refine Calls.fresh (Check_any _ _ _ _ _) ?_); intro x1) | (go_at_call 31; (first | with_reducible refine Calls.fold (rCheck_any _ _ _ _ _) ?_ | with_reducible refine Calls.fresh (rCheck_any _ _ _ _ _) ?_); intro x1) | (go_at_call 20; (first | with_reducible refine Calls.fold (works15 _) ?_ | with_reducible refine Calls.fresh (works15 _) ?_); intro x1) | (refine wp_region_up (by kernel_rfl) (by kernel_rfl) ?_; (repeat (go_big_quiet_step ((first | (go_at_call 30; exact Calls.up_gives (Check_any _ _ _ _ _)) | (go_at_call 31; exact Calls.up_gives (rCheck_any _ _ _ _ _)) | (go_at_call 24; exact Calls.up_gives (plain_any _ _ _ _ _)) | (go_at_call 20; exact Calls.up_gives (works15 _)))))); refine wpQuiet_nil ?_; intro _ hw'; obtain ⟨xq, hw''⟩ := hw'; subst hw''))
  go_ret
  exact Gives.mk rfl (by (repeat (first | (with_reducible exact Below.refl _ _) | (with_reducible assumption) | (with_reducible refine Below.alloc ?_ (by (repeat (first | (with_reducible exact Nat.le_refl _) | (with_reducible assumption) | (with_reducible refine le_up ?_) | (with_reducible refine le_alloc ?_) | (with_reducible refine le_setCell ?_) | (with_reducible refine le_drew ?_) | (with_reducible refine le_drewN ?_) | omega))) _) | (with_reducible refine Below.drew ?_) | (with_reducible refine Below.drewN ?_ _) | (with_reducible refine Below.setCell ?_ (by (repeat (first | (with_reducible exact Nat.le_refl _) | (with_reducible assumption) | (with_reducible refine le_up ?_) | (with_reducible refine le_alloc ?_) | (with_reducible refine le_setCell ?_) | (with_reducible refine le_drew ?_) | (with_reducible refine le_drewN ?_) | omega))) _) | (with_reducible refine Below.up ?_ (by (repeat (first | (with_reducible exact Nat.le_refl _) | (with_reducible assumption) | (with_reducible refine le_up ?_) | (with_reducible refine le_alloc ?_) | (with_reducible refine le_setCell ?_) | (with_reducible refine le_drew ?_) | (with_reducible refine le_drewN ?_) | omega)))))))

/-! SlotSafe: the plain law -/
theorem safe_due {a b c d t a' i : Int} (h : schedOK a b c d = true) (hi : 1 ≤ i) (hs : safeV a b c d t i = true) (ha : a' ≤ d) : dueV a b c (t + a') < i := by
  obtain ⟨h1, h2, h3, h4, h5, h6, h7, h8⟩ := sched_of h
  have hs1 : d - c * b < beginV a b i - t := by simpa [safeV] using hs
  unfold beginV at hs1
  unfold dueV numV
  rcases Int.lt_or_le (t + a') a with hlt | hle
  · rw [begunV_lo hlt]; omega
  · rw [begunV_hi hle]
    have e : (t + a' - a) / b < i - 1 + c := by
      apply Int.ediv_lt_of_lt_mul (by omega)
      rw [Int.add_mul]; omega
    omega
theorem safe_later {a b c d t t' i : Int} (hs : safeV a b c d t i = false) (htt : t ≤ t') : safeV a b c d t' i = false := by
  unfold safeV at *; simp only [decide_eq_false_iff_not] at *; omega

/-- Where a message is not safe, it is not later. -/
theorem Safe_no (a b c d t i t' : Int) (w : World) (hi : 1 ≤ i) (hi' : i ≤ 4294967295) (h : schedOK a b c d = true) (hs : safeV a b c d t i = false) (h0 : 0 ≤ t) (h1 : t ≤ t') (h2 : t' ≤ 1099511627776) :
    Calls Try.prog 26 #[.agg #[.int .i64 a, .int .i64 b, .int .i64 c, .int .i64 d], .int .i64 t', .int .u32 i] w (Gives w (.tuple #[.bool false, .int .i64 0])) := by
  have := Safe_t a b c d t' i w hi hi' h (by unfold tickOK; simp; omega)
  rwa [safe_later hs h1] at this
/-- Where a message is safe, its key is not disclosed to a sender that is at most Off ahead. -/
theorem Due_lt (a b c d t i t' : Int) (w : World) (hi : 1 ≤ i) (h : schedOK a b c d = true) (hs : safeV a b c d t i = true) (h1 : 0 ≤ t') (h2 : t' ≤ 1099511627776) (h3 : t' ≤ t + d) :
    Calls Try.prog 28 #[.agg #[.int .i64 a, .int .i64 b, .int .i64 c, .int .i64 d], .int .i64 t'] w fun e w' => ∃ n : Int, n < i ∧ Gives w (.tuple #[.int .u32 n, .int .i64 0]) e w' := by
  refine (Due_t a b c d t' w h (by unfold tickOK; simp; omega)).mono fun e w' hg => ⟨_, ?_, hg⟩
  have := safe_due (a' := t' - t) h hi hs (by omega)
  rwa [show t + (t' - t) = t' from by omega] at this

set_option maxHeartbeats 1600000 in
theorem SlotSafe_any (a b c d t ahead later i : Int) (w : World) (hi : 0 ≤ i) (hi' : i ≤ 4294967295)
    (hl : -9223372036854775808 ≤ later) (hl' : later ≤ 9223372036854775807) :
    Calls Try.prog 7 #[.agg #[.int .i64 a, .int .i64 b, .int .i64 c, .int .i64 d], .int .i64 t, .int .i64 ahead, .int .i64 later, .int .u32 i] w (Gives w (.bool true)) := by
  by_cases hok : (schedOK a b c d = true ∧ 1 ≤ i) ∧ tickOK t = true
  · obtain ⟨⟨h, hi1⟩, ht⟩ := hok
    obtain ⟨t1, t2⟩ := tick_of ht
    obtain ⟨h1, h2, h3, h4, h5, h6, h7, h8⟩ := sched_of h
    cases hs : safeV a b c d t i
    · -- not safe, nor later
      have t3 : 0 ≤ 1099511627776 - t := by omega
      by_cases l1 : 0 < later <;> by_cases l2 : 1099511627776 - t < later <;> first | (exfalso; omega) | skip
      all_goals
        go_enter Try.func7, Try.ntmps7
        go_wp2_with (first | (go_at_call 20; (first | with_reducible refine Calls.fold (works15 _) ?_ | with_reducible refine Calls.fresh (works15 _) ?_); intro x1) | (go_at_call 26; (first | with_reducible refine Calls.fold (Safe_no _ _ _ _ _ _ _ _ hi1 hi' h hs t1 (by omega) (by omega)) ?_ | with_reducible refine Calls.fresh (Safe_no _ _ _ _ _ _ _ _ hi1 hi' h hs t1 (by omega) (by omega)) ?_); intro x1))
        all_goals
          go_ret
          exact Gives.mk rfl (by (repeat (first | (with_reducible exact Below.refl _ _) | (with_reducible assumption) | (with_reducible refine Below.alloc ?_ (by (repeat (first | (with_reducible exact Nat.le_refl _) | (with_reducible assumption) | (with_reducible refine le_up ?_) | (with_reducible refine le_alloc ?_) | (with_reducible refine le_setCell ?_) | (with_reducible refine le_drew ?_) | (with_reducible refine le_drewN ?_) | omega))) _) | (with_reducible refine Below.drew ?_) | (with_reducible refine Below.drewN ?_ _) | (with_reducible refine Below.setCell ?_ (by (repeat (first | (with_reducible exact Nat.le_refl _) | (with_reducible assumption) | (with_reducible refine le_up ?_) | (with_reducible refine le_alloc ?_) | (with_reducible refine le_setCell ?_) | (with_reducible refine le_drew ?_) | (with_reducible refine le_drewN ?_) | omega))) _) | (with_reducible refine Below.up ?_ (by (repeat (first | (with_reducible exact Nat.le_refl _) | (with_reducible assumption) | (with_reducible refine le_up ?_) | (with_reducible refine le_alloc ?_) | (with_reducible refine le_setCell ?_) | (with_reducible refine le_drew ?_) | (with_reducible refine le_drewN ?_) | omega)))))))
    · by_cases a1 : -t ≤ ahead <;> by_cases a2 : d ≤ ahead <;> by_cases a3 : 1099511627776 - t ≤ ahead <;> by_cases a4 : 1099511627776 - t ≤ d <;> first | (exfalso; omega) | skip
      all_goals
        go_enter Try.func7, Try.ntmps7
        go_wp2_with (first | (go_at_call 20; (first | with_reducible refine Calls.fold (works15 _) ?_ | with_reducible refine Calls.fresh (works15 _) ?_); intro x1) | (go_at_call 26; (first | with_reducible refine Calls.fold (Safe_t _ _ _ _ _ _ _ hi1 hi' h ht) ?_ | with_reducible refine Calls.fresh (Safe_t _ _ _ _ _ _ _ hi1 hi' h ht) ?_); intro x1) | (go_at_call 28; refine (Due_lt _ _ _ _ _ _ _ _ hi1 h hs (by omega) (by omega) (by omega)).mono ?_; rintro e w1 ⟨n, hn, rfl, x1, rfl⟩))
        all_goals
          go_ret
          exact Gives.mk rfl (by (repeat (first | (with_reducible exact Below.refl _ _) | (with_reducible assumption) | (with_reducible refine Below.alloc ?_ (by (repeat (first | (with_reducible exact Nat.le_refl _) | (with_reducible assumption) | (with_reducible refine le_up ?_) | (with_reducible refine le_alloc ?_) | (with_reducible refine le_setCell ?_) | (with_reducible refine le_drew ?_) | (with_reducible refine le_drewN ?_) | omega))) _) | (with_reducible refine Below.drew ?_) | (with_reducible refine Below.drewN ?_ _) | (with_reducible refine Below.setCell ?_ (by (repeat (first | (with_reducible exact Nat.le_refl _) | (with_reducible assumption) | (with_reducible refine le_up ?_) | (with_reducible refine le_alloc ?_) | (with_reducible refine le_setCell ?_) | (with_reducible refine le_drew ?_) | (with_reducible refine le_drewN ?_) | omega))) _) | (with_reducible refine Below.up ?_ (by (repeat (first | (with_reducible exact Nat.le_refl _) | (with_reducible assumption) | (with_reducible refine le_up ?_) | (with_reducible refine le_alloc ?_) | (with_reducible refine le_setCell ?_) | (with_reducible refine le_drew ?_) | (with_reducible refine le_drewN ?_) | omega)))))))
  · have hok' : Hid (¬ ((schedOK a b c d = true ∧ 1 ≤ i) ∧ tickOK t = true)) := hok
    clear hok
    go_enter Try.func7, Try.ntmps7
    go_wp2_with (first | (go_at_call 20; (first | with_reducible refine Calls.fold (works15 _) ?_ | with_reducible refine Calls.fresh (works15 _) ?_); intro x1) | (go_at_call 26; (first | with_reducible refine Calls.fold (Safe_f _ _ _ _ _ _ _ hi hi' hok'.out) ?_ | with_reducible refine Calls.fresh (Safe_f _ _ _ _ _ _ _ hi hi' hok'.out) ?_); intro x1))
    go_ret
    exact Gives.mk rfl (by (repeat (first | (with_reducible exact Below.refl _ _) | (with_reducible assumption) | (with_reducible refine Below.alloc ?_ (by (repeat (first | (with_reducible exact Nat.le_refl _) | (with_reducible assumption) | (with_reducible refine le_up ?_) | (with_reducible refine le_alloc ?_) | (with_reducible refine le_setCell ?_) | (with_reducible refine le_drew ?_) | (with_reducible refine le_drewN ?_) | omega))) _) | (with_reducible refine Below.drew ?_) | (with_reducible refine Below.drewN ?_ _) | (with_reducible refine Below.setCell ?_ (by (repeat (first | (with_reducible exact Nat.le_refl _) | (with_reducible assumption) | (with_reducible refine le_up ?_) | (with_reducible refine le_alloc ?_) | (with_reducible refine le_setCell ?_) | (with_reducible refine le_drew ?_) | (with_reducible refine le_drewN ?_) | omega))) _) | (with_reducible refine Below.up ?_ (by (repeat (first | (with_reducible exact Nat.le_refl _) | (with_reducible assumption) | (with_reducible refine le_up ?_) | (with_reducible refine le_alloc ?_) | (with_reducible refine le_setCell ?_) | (with_reducible refine le_drew ?_) | (with_reducible refine le_drewN ?_) | omega)))))))
end Go.Proofs.Ytbfloidogdjccaa
