/-
  The walks over the gate layer.
-/
import Derived.Test.YtbfloidogdjccaaFixW
namespace Go.Proofs.Ytbfloidogdjccaa
open Go.RowKit

def gateOK (o g m : Int) : Bool := decide (0 ≤ o ∧ 0 ≤ g ∧ o ≤ m)
theorem gate_of {o g m : Int} (h : gateOK o g m = true) : 0 ≤ o ∧ 0 ≤ g ∧ o ≤ m := by simpa [gateOK] using h
theorem gateCheck_t (o g m : Int) (w : World) (h : gateOK o g m = true) :
    Calls Try.prog 60 #[.agg #[.int .i64 o, .int .i64 g, .int .i64 m]] w (Gives w (.int .i64 0)) := by
  obtain ⟨h1, h2, h3⟩ := gate_of h
  clear h
  go_enter Try.func60, Try.ntmps60
  go_wp2
  go_ret
  exact Gives.mk rfl (by (repeat (first | (with_reducible exact Below.refl _ _) | (with_reducible assumption) | (with_reducible refine Below.alloc ?_ (by (repeat (first | (with_reducible exact Nat.le_refl _) | (with_reducible assumption) | (with_reducible refine le_up ?_) | (with_reducible refine le_alloc ?_) | (with_reducible refine le_setCell ?_) | (with_reducible refine le_drew ?_) | (with_reducible refine le_drewN ?_) | omega))) _) | (with_reducible refine Below.drew ?_) | (with_reducible refine Below.drewN ?_ _) | (with_reducible refine Below.setCell ?_ (by (repeat (first | (with_reducible exact Nat.le_refl _) | (with_reducible assumption) | (with_reducible refine le_up ?_) | (with_reducible refine le_alloc ?_) | (with_reducible refine le_setCell ?_) | (with_reducible refine le_drew ?_) | (with_reducible refine le_drewN ?_) | omega))) _) | (with_reducible refine Below.up ?_ (by (repeat (first | (with_reducible exact Nat.le_refl _) | (with_reducible assumption) | (with_reducible refine le_up ?_) | (with_reducible refine le_alloc ?_) | (with_reducible refine le_setCell ?_) | (with_reducible refine le_drew ?_) | (with_reducible refine le_drewN ?_) | omega)))))))
theorem gateCheck_f (o g m : Int) (w : World) (h : gateOK o g m = false) :
    Calls Try.prog 60 #[.agg #[.int .i64 o, .int .i64 g, .int .i64 m]] w (Gives w (.int .i64 2)) := by
  have h' : ¬ (0 ≤ o ∧ 0 ≤ g ∧ o ≤ m) := by simpa [gateOK] using h
  clear h
  by_cases h1 : o < 0 <;> by_cases h2 : g < 0 <;> by_cases h3 : m < o <;> first | (exfalso; omega) | skip
  all_goals
    clear h'
    go_enter Try.func60, Try.ntmps60
    go_wp2
    go_ret
    exact Gives.mk rfl (by (repeat (first | (with_reducible exact Below.refl _ _) | (with_reducible assumption) | (with_reducible refine Below.alloc ?_ (by (repeat (first | (with_reducible exact Nat.le_refl _) | (with_reducible assumption) | (with_reducible refine le_up ?_) | (with_reducible refine le_alloc ?_) | (with_reducible refine le_setCell ?_) | (with_reducible refine le_drew ?_) | (with_reducible refine le_drewN ?_) | omega))) _) | (with_reducible refine Below.drew ?_) | (with_reducible refine Below.drewN ?_ _) | (with_reducible refine Below.setCell ?_ (by (repeat (first | (with_reducible exact Nat.le_refl _) | (with_reducible assumption) | (with_reducible refine le_up ?_) | (with_reducible refine le_alloc ?_) | (with_reducible refine le_setCell ?_) | (with_reducible refine le_drew ?_) | (with_reducible refine le_drewN ?_) | omega))) _) | (with_reducible refine Below.up ?_ (by (repeat (first | (with_reducible exact Nat.le_refl _) | (with_reducible assumption) | (with_reducible refine le_up ?_) | (with_reducible refine le_alloc ?_) | (with_reducible refine le_setCell ?_) | (with_reducible refine le_drew ?_) | (with_reducible refine le_drewN ?_) | omega)))))))

def ageV (a : Int) : Int := min (max a 0) 65535
/-- A gate's limit. -/
def limV (o g m a : Int) : Int := min (o + g * ageV a) m
theorem lim_bd {o g m a : Int} (h : gateOK o g m = true) : o ≤ limV o g m a ∧ limV o g m a ≤ m := by
  obtain ⟨h1, h2, h3⟩ := gate_of h
  have : 0 ≤ g * ageV a := Int.mul_nonneg h2 (by unfold ageV; omega)
  unfold limV; omega
theorem lim_mono {o g m a b : Int} (h : gateOK o g m = true) (hab : a ≤ b) : limV o g m a ≤ limV o g m b := by
  obtain ⟨h1, h2, h3⟩ := gate_of h
  have : g * ageV a ≤ g * ageV b := Int.mul_le_mul_of_nonneg_left (by unfold ageV; omega) h2
  unfold limV; omega

theorem lim_over {o g m a n : Int} (hn : ageV a = n) (h1 : 0 < n) (h : (m - o) / n < g) : limV o g m a = m := by
  have h3 : m - o < g * n := by
    have := Int.lt_mul_of_ediv_lt h1 h
    exact this
  unfold limV; rw [hn]; omega
theorem lim_under {o g m a n : Int} (hn : ageV a = n) (h1 : 0 < n) (h : g ≤ (m - o) / n) : limV o g m a = o + g * n ∧ g * n ≤ m - o := by
  have h3 : g * n ≤ m - o := Int.le_trans (Int.mul_le_mul_of_nonneg_right h (by omega)) (Int.ediv_mul_le _ (by omega))
  unfold limV; rw [hn]; omega

set_option maxHeartbeats 800000 in
theorem Limit_t (o g m a : Int) (w : World) (h : gateOK o g m = true) (hm : m ≤ 9223372036854775807) :
    Calls Try.prog 39 #[.agg #[.int .i64 o, .int .i64 g, .int .i64 m], .int .i64 a] w (Gives w (.tuple #[.int .i64 (limV o g m a), .int .i64 0])) := by
  obtain ⟨h1, h2, h3⟩ := gate_of h
  by_cases ha : a ≤ 0
  · have hv := Lib.hid (show limV o g m a = o by unfold limV ageV; rw [show min (max a 0) 65535 = 0 from by omega]; simp; omega)
    by_cases ha0 : a = 0
    · subst ha0
      clear ha
      go_enter Try.func39, Try.ntmps39
      go_wp2_with (first | (go_at_call 60; (first | with_reducible refine Calls.fold (gateCheck_t _ _ _ _ h) ?_ | with_reducible refine Calls.fresh (gateCheck_t _ _ _ _ h) ?_); intro x1) | (refine wp_region_up (by kernel_rfl) (by kernel_rfl) ?_; (repeat (go_big_quiet_step (fail))); refine wpQuiet_nil ?_; intro _ hw'; obtain ⟨xq, hw''⟩ := hw'; subst hw''))
      go_ret2
      exact Gives.mk (ret_ii (by rw [hv.out]; try simp) rfl) (by (repeat (first | (with_reducible exact Below.refl _ _) | (with_reducible assumption) | (with_reducible refine Below.alloc ?_ (by (repeat (first | (with_reducible exact Nat.le_refl _) | (with_reducible assumption) | (with_reducible refine le_up ?_) | (with_reducible refine le_alloc ?_) | (with_reducible refine le_setCell ?_) | (with_reducible refine le_drew ?_) | (with_reducible refine le_drewN ?_) | omega))) _) | (with_reducible refine Below.drew ?_) | (with_reducible refine Below.drewN ?_ _) | (with_reducible refine Below.setCell ?_ (by (repeat (first | (with_reducible exact Nat.le_refl _) | (with_reducible assumption) | (with_reducible refine le_up ?_) | (with_reducible refine le_alloc ?_) | (with_reducible refine le_setCell ?_) | (with_reducible refine le_drew ?_) | (with_reducible refine le_drewN ?_) | omega))) _) | (with_reducible refine Below.up ?_ (by (repeat (first | (with_reducible exact Nat.le_refl _) | (with_reducible assumption) | (with_reducible refine le_up ?_) | (with_reducible refine le_alloc ?_) | (with_reducible refine le_setCell ?_) | (with_reducible refine le_drew ?_) | (with_reducible refine le_drewN ?_) | omega)))))))
    · have ha2 : a < 0 := by omega
      clear ha ha0
      go_enter Try.func39, Try.ntmps39
      go_wp2_with (first | (go_at_call 60; (first | with_reducible refine Calls.fold (gateCheck_t _ _ _ _ h) ?_ | with_reducible refine Calls.fresh (gateCheck_t _ _ _ _ h) ?_); intro x1) | (refine wp_region_up (by kernel_rfl) (by kernel_rfl) ?_; (repeat (go_big_quiet_step (fail))); refine wpQuiet_nil ?_; intro _ hw'; obtain ⟨xq, hw''⟩ := hw'; subst hw''))
      go_ret2
      exact Gives.mk (ret_ii (by rw [hv.out]; try simp) rfl) (by (repeat (first | (with_reducible exact Below.refl _ _) | (with_reducible assumption) | (with_reducible refine Below.alloc ?_ (by (repeat (first | (with_reducible exact Nat.le_refl _) | (with_reducible assumption) | (with_reducible refine le_up ?_) | (with_reducible refine le_alloc ?_) | (with_reducible refine le_setCell ?_) | (with_reducible refine le_drew ?_) | (with_reducible refine le_drewN ?_) | omega))) _) | (with_reducible refine Below.drew ?_) | (with_reducible refine Below.drewN ?_ _) | (with_reducible refine Below.setCell ?_ (by (repeat (first | (with_reducible exact Nat.le_refl _) | (with_reducible assumption) | (with_reducible refine le_up ?_) | (with_reducible refine le_alloc ?_) | (with_reducible refine le_setCell ?_) | (with_reducible refine le_drew ?_) | (with_reducible refine le_drewN ?_) | omega))) _) | (with_reducible refine Below.up ?_ (by (repeat (first | (with_reducible exact Nat.le_refl _) | (with_reducible assumption) | (with_reducible refine le_up ?_) | (with_reducible refine le_alloc ?_) | (with_reducible refine le_setCell ?_) | (with_reducible refine le_drew ?_) | (with_reducible refine le_drewN ?_) | omega)))))))
  · have ha2 : 0 < a := by omega
    clear ha
    by_cases hb : a ≤ 65535
    · have hn : ageV a = a := by unfold ageV; omega
      obtain ⟨q1, q2⟩ : 0 ≤ (m - o) / a ∧ (m - o) / a ≤ m - o := ⟨Int.ediv_nonneg (by omega) (by omega), Int.ediv_le_self _ (by omega)⟩
      by_cases hg : (m - o) / a < g
      · have hv := Lib.hid (lim_over (o := o) (m := m) hn (by omega) hg)
        clear hn
        go_enter Try.func39, Try.ntmps39
        go_wp2_with (first | (go_at_call 60; (first | with_reducible refine Calls.fold (gateCheck_t _ _ _ _ h) ?_ | with_reducible refine Calls.fresh (gateCheck_t _ _ _ _ h) ?_); intro x1) | (refine wp_region_up (by kernel_rfl) (by kernel_rfl) ?_; (repeat (go_big_quiet_step (fail))); refine wpQuiet_nil ?_; intro _ hw'; obtain ⟨xq, hw''⟩ := hw'; subst hw''))
        go_ret2
        exact Gives.mk (ret_ii hv.out.symm rfl) (by (repeat (first | (with_reducible exact Below.refl _ _) | (with_reducible assumption) | (with_reducible refine Below.alloc ?_ (by (repeat (first | (with_reducible exact Nat.le_refl _) | (with_reducible assumption) | (with_reducible refine le_up ?_) | (with_reducible refine le_alloc ?_) | (with_reducible refine le_setCell ?_) | (with_reducible refine le_drew ?_) | (with_reducible refine le_drewN ?_) | omega))) _) | (with_reducible refine Below.drew ?_) | (with_reducible refine Below.drewN ?_ _) | (with_reducible refine Below.setCell ?_ (by (repeat (first | (with_reducible exact Nat.le_refl _) | (with_reducible assumption) | (with_reducible refine le_up ?_) | (with_reducible refine le_alloc ?_) | (with_reducible refine le_setCell ?_) | (with_reducible refine le_drew ?_) | (with_reducible refine le_drewN ?_) | omega))) _) | (with_reducible refine Below.up ?_ (by (repeat (first | (with_reducible exact Nat.le_refl _) | (with_reducible assumption) | (with_reducible refine le_up ?_) | (with_reducible refine le_alloc ?_) | (with_reducible refine le_setCell ?_) | (with_reducible refine le_drew ?_) | (with_reducible refine le_drewN ?_) | omega)))))))
      · obtain ⟨hv', hv2⟩ := lim_under (o := o) (m := m) (g := g) hn (by omega) (by omega)
        have hv := Lib.hid hv'
        have hv3 : 0 ≤ g * a := Int.mul_nonneg h2 (by omega)
        clear hn hv'
        go_enter Try.func39, Try.ntmps39
        go_wp2_with (first | (go_at_call 60; (first | with_reducible refine Calls.fold (gateCheck_t _ _ _ _ h) ?_ | with_reducible refine Calls.fresh (gateCheck_t _ _ _ _ h) ?_); intro x1) | (refine wp_region_up (by kernel_rfl) (by kernel_rfl) ?_; (repeat (go_big_quiet_step (fail))); refine wpQuiet_nil ?_; intro _ hw'; obtain ⟨xq, hw''⟩ := hw'; subst hw''))
        go_ret2
        exact Gives.mk (ret_ii hv.out.symm rfl) (by (repeat (first | (with_reducible exact Below.refl _ _) | (with_reducible assumption) | (with_reducible refine Below.alloc ?_ (by (repeat (first | (with_reducible exact Nat.le_refl _) | (with_reducible assumption) | (with_reducible refine le_up ?_) | (with_reducible refine le_alloc ?_) | (with_reducible refine le_setCell ?_) | (with_reducible refine le_drew ?_) | (with_reducible refine le_drewN ?_) | omega))) _) | (with_reducible refine Below.drew ?_) | (with_reducible refine Below.drewN ?_ _) | (with_reducible refine Below.setCell ?_ (by (repeat (first | (with_reducible exact Nat.le_refl _) | (with_reducible assumption) | (with_reducible refine le_up ?_) | (with_reducible refine le_alloc ?_) | (with_reducible refine le_setCell ?_) | (with_reducible refine le_drew ?_) | (with_reducible refine le_drewN ?_) | omega))) _) | (with_reducible refine Below.up ?_ (by (repeat (first | (with_reducible exact Nat.le_refl _) | (with_reducible assumption) | (with_reducible refine le_up ?_) | (with_reducible refine le_alloc ?_) | (with_reducible refine le_setCell ?_) | (with_reducible refine le_drew ?_) | (with_reducible refine le_drewN ?_) | omega)))))))
    · have hn : ageV a = 65535 := by unfold ageV; omega
      have hb2 : 65535 < a := by omega
      clear hb
      obtain ⟨q1, q2⟩ : 0 ≤ (m - o) / 65535 ∧ (m - o) / 65535 ≤ m - o := ⟨Int.ediv_nonneg (by omega) (by omega), Int.ediv_le_self _ (by omega)⟩
      by_cases hg : (m - o) / 65535 < g
      · have hv := Lib.hid (lim_over (o := o) (m := m) hn (by omega) hg)
        clear hn
        go_enter Try.func39, Try.ntmps39
        go_wp2_with (first | (go_at_call 60; (first | with_reducible refine Calls.fold (gateCheck_t _ _ _ _ h) ?_ | with_reducible refine Calls.fresh (gateCheck_t _ _ _ _ h) ?_); intro x1) | (refine wp_region_up (by kernel_rfl) (by kernel_rfl) ?_; (repeat (go_big_quiet_step (fail))); refine wpQuiet_nil ?_; intro _ hw'; obtain ⟨xq, hw''⟩ := hw'; subst hw''))
        go_ret2
        exact Gives.mk (ret_ii hv.out.symm rfl) (by (repeat (first | (with_reducible exact Below.refl _ _) | (with_reducible assumption) | (with_reducible refine Below.alloc ?_ (by (repeat (first | (with_reducible exact Nat.le_refl _) | (with_reducible assumption) | (with_reducible refine le_up ?_) | (with_reducible refine le_alloc ?_) | (with_reducible refine le_setCell ?_) | (with_reducible refine le_drew ?_) | (with_reducible refine le_drewN ?_) | omega))) _) | (with_reducible refine Below.drew ?_) | (with_reducible refine Below.drewN ?_ _) | (with_reducible refine Below.setCell ?_ (by (repeat (first | (with_reducible exact Nat.le_refl _) | (with_reducible assumption) | (with_reducible refine le_up ?_) | (with_reducible refine le_alloc ?_) | (with_reducible refine le_setCell ?_) | (with_reducible refine le_drew ?_) | (with_reducible refine le_drewN ?_) | omega))) _) | (with_reducible refine Below.up ?_ (by (repeat (first | (with_reducible exact Nat.le_refl _) | (with_reducible assumption) | (with_reducible refine le_up ?_) | (with_reducible refine le_alloc ?_) | (with_reducible refine le_setCell ?_) | (with_reducible refine le_drew ?_) | (with_reducible refine le_drewN ?_) | omega)))))))
      · obtain ⟨hv', hv2⟩ := lim_under (o := o) (m := m) (g := g) hn (by omega) (by omega)
        have hv := Lib.hid hv'
        have hv3 : 0 ≤ g * 65535 := Int.mul_nonneg h2 (by omega)
        clear hn hv'
        go_enter Try.func39, Try.ntmps39
        go_wp2_with (first | (go_at_call 60; (first | with_reducible refine Calls.fold (gateCheck_t _ _ _ _ h) ?_ | with_reducible refine Calls.fresh (gateCheck_t _ _ _ _ h) ?_); intro x1) | (refine wp_region_up (by kernel_rfl) (by kernel_rfl) ?_; (repeat (go_big_quiet_step (fail))); refine wpQuiet_nil ?_; intro _ hw'; obtain ⟨xq, hw''⟩ := hw'; subst hw''))
        go_ret2
        exact Gives.mk (ret_ii hv.out.symm rfl) (by (repeat (first | (with_reducible exact Below.refl _ _) | (with_reducible assumption) | (with_reducible refine Below.alloc ?_ (by (repeat (first | (with_reducible exact Nat.le_refl _) | (with_reducible assumption) | (with_reducible refine le_up ?_) | (with_reducible refine le_alloc ?_) | (with_reducible refine le_setCell ?_) | (with_reducible refine le_drew ?_) | (with_reducible refine le_drewN ?_) | omega))) _) | (with_reducible refine Below.drew ?_) | (with_reducible refine Below.drewN ?_ _) | (with_reducible refine Below.setCell ?_ (by (repeat (first | (with_reducible exact Nat.le_refl _) | (with_reducible assumption) | (with_reducible refine le_up ?_) | (with_reducible refine le_alloc ?_) | (with_reducible refine le_setCell ?_) | (with_reducible refine le_drew ?_) | (with_reducible refine le_drewN ?_) | omega))) _) | (with_reducible refine Below.up ?_ (by (repeat (first | (with_reducible exact Nat.le_refl _) | (with_reducible assumption) | (with_reducible refine le_up ?_) | (with_reducible refine le_alloc ?_) | (with_reducible refine le_setCell ?_) | (with_reducible refine le_drew ?_) | (with_reducible refine le_drewN ?_) | omega)))))))
theorem Limit_f (o g m a : Int) (w : World) (h : gateOK o g m = false) :
    Calls Try.prog 39 #[.agg #[.int .i64 o, .int .i64 g, .int .i64 m], .int .i64 a] w (Gives w (.tuple #[.int .i64 0, .int .i64 2])) := by
  go_enter Try.func39, Try.ntmps39
  go_wp2_with (go_at_call 60; (first | with_reducible refine Calls.fold (gateCheck_f _ _ _ _ h) ?_ | with_reducible refine Calls.fresh (gateCheck_f _ _ _ _ h) ?_); intro x1)
  go_ret2
  exact Gives.mk rfl (by (repeat (first | (with_reducible exact Below.refl _ _) | (with_reducible assumption) | (with_reducible refine Below.alloc ?_ (by (repeat (first | (with_reducible exact Nat.le_refl _) | (with_reducible assumption) | (with_reducible refine le_up ?_) | (with_reducible refine le_alloc ?_) | (with_reducible refine le_setCell ?_) | (with_reducible refine le_drew ?_) | (with_reducible refine le_drewN ?_) | omega))) _) | (with_reducible refine Below.drew ?_) | (with_reducible refine Below.drewN ?_ _) | (with_reducible refine Below.setCell ?_ (by (repeat (first | (with_reducible exact Nat.le_refl _) | (with_reducible assumption) | (with_reducible refine le_up ?_) | (with_reducible refine le_alloc ?_) | (with_reducible refine le_setCell ?_) | (with_reducible refine le_drew ?_) | (with_reducible refine le_drewN ?_) | omega))) _) | (with_reducible refine Below.up ?_ (by (repeat (first | (with_reducible exact Nat.le_refl _) | (with_reducible assumption) | (with_reducible refine le_up ?_) | (with_reducible refine le_alloc ?_) | (with_reducible refine le_setCell ?_) | (with_reducible refine le_drew ?_) | (with_reducible refine le_drewN ?_) | omega)))))))

/-- One number: is it far? -/
def farB (lim r : Int) : Int := if lim < absV r then 1 else 0
theorem farB_t {lim r : Int} (h : lim < absV r) : farB lim r = 1 := if_pos h
theorem farB_f {lim r : Int} (h : ¬ lim < absV r) : farB lim r = 0 := if_neg h
set_option maxHeartbeats 800000 in
theorem Far_1 (o g m a r : Int) (b : Nat) (w : World) [hb : LtSize b w] (h : gateOK o g m = true) (hm : m ≤ 9223372036854775807) (hr : -9223372036854775808 ≤ r) (hr' : r ≤ 9223372036854775807) (hc : w.cell? ⟨b, 0, none⟩ = some (.int .i64 r)) :
    Calls Try.prog 40 #[.agg #[.int .i64 o, .int .i64 g, .int .i64 m], .int .i64 a, .slice (some ⟨b, 0, none⟩) 1 1] w (Gives w (.tuple #[.int .i64 (farB (limV o g m a) r), .int .i64 0])) := by
  have hneq : ¬ b = w.heap.size := by have := hb.lt; omega
  by_cases hf : limV o g m a < absV r
  · rw [farB_t hf]
    go_enter Try.func40, Try.ntmps40
    go_wp2_with (go_at_call 39; (first | with_reducible refine Calls.fold (Limit_t _ _ _ _ _ h hm) ?_ | with_reducible refine Calls.fresh (Limit_t _ _ _ _ _ h hm) ?_); intro x1)
    refine wp_loop_rounds 2 ?_
    rw [rounds_succ]
    go_wp2_with (go_at_call 61; refine (fixAbs_any r _ hr hr').mono ?_; rintro e w1 ⟨rfl, rfl⟩)
    rw [rounds_succ]
    go_wp2_with fail
    go_ret2
    exact Gives.mk (ret_ii (by decide) rfl) (by (repeat (first | (with_reducible exact Below.refl _ _) | (with_reducible assumption) | (with_reducible refine Below.alloc ?_ (by (repeat (first | (with_reducible exact Nat.le_refl _) | (with_reducible assumption) | (with_reducible refine le_up ?_) | (with_reducible refine le_alloc ?_) | (with_reducible refine le_setCell ?_) | (with_reducible refine le_drew ?_) | (with_reducible refine le_drewN ?_) | omega))) _) | (with_reducible refine Below.drew ?_) | (with_reducible refine Below.drewN ?_ _) | (with_reducible refine Below.setCell ?_ (by (repeat (first | (with_reducible exact Nat.le_refl _) | (with_reducible assumption) | (with_reducible refine le_up ?_) | (with_reducible refine le_alloc ?_) | (with_reducible refine le_setCell ?_) | (with_reducible refine le_drew ?_) | (with_reducible refine le_drewN ?_) | omega))) _) | (with_reducible refine Below.up ?_ (by (repeat (first | (with_reducible exact Nat.le_refl _) | (with_reducible assumption) | (with_reducible refine le_up ?_) | (with_reducible refine le_alloc ?_) | (with_reducible refine le_setCell ?_) | (with_reducible refine le_drew ?_) | (with_reducible refine le_drewN ?_) | omega)))))))
  · rw [farB_f hf]
    go_enter Try.func40, Try.ntmps40
    go_wp2_with (go_at_call 39; (first | with_reducible refine Calls.fold (Limit_t _ _ _ _ _ h hm) ?_ | with_reducible refine Calls.fresh (Limit_t _ _ _ _ _ h hm) ?_); intro x1)
    refine wp_loop_rounds 2 ?_
    rw [rounds_succ]
    go_wp2_with (go_at_call 61; refine (fixAbs_any r _ hr hr').mono ?_; rintro e w1 ⟨rfl, rfl⟩)
    rw [rounds_succ]
    go_wp2_with fail
    go_ret2
    exact Gives.mk (ret_ii (by decide) rfl) (by (repeat (first | (with_reducible exact Below.refl _ _) | (with_reducible assumption) | (with_reducible refine Below.alloc ?_ (by (repeat (first | (with_reducible exact Nat.le_refl _) | (with_reducible assumption) | (with_reducible refine le_up ?_) | (with_reducible refine le_alloc ?_) | (with_reducible refine le_setCell ?_) | (with_reducible refine le_drew ?_) | (with_reducible refine le_drewN ?_) | omega))) _) | (with_reducible refine Below.drew ?_) | (with_reducible refine Below.drewN ?_ _) | (with_reducible refine Below.setCell ?_ (by (repeat (first | (with_reducible exact Nat.le_refl _) | (with_reducible assumption) | (with_reducible refine le_up ?_) | (with_reducible refine le_alloc ?_) | (with_reducible refine le_setCell ?_) | (with_reducible refine le_drew ?_) | (with_reducible refine le_drewN ?_) | omega))) _) | (with_reducible refine Below.up ?_ (by (repeat (first | (with_reducible exact Nat.le_refl _) | (with_reducible assumption) | (with_reducible refine le_up ?_) | (with_reducible refine le_alloc ?_) | (with_reducible refine le_setCell ?_) | (with_reducible refine le_drew ?_) | (with_reducible refine le_drewN ?_) | omega)))))))

/-! the chapter's example -/
set_option maxHeartbeats 800000 in
theorem Far_2 (b : Nat) (w : World) [hb : LtSize b w] (hc0 : w.cell? ⟨b, 0, none⟩ = some (.int .i64 6)) (hc1 : w.cell? ⟨b, 1, none⟩ = some (.int .i64 (-7))) :
    Calls Try.prog 40 #[.agg #[.int .i64 5, .int .i64 1, .int .i64 7], .int .i64 1, .slice (some ⟨b, 0, none⟩) 2 2] w (Gives w (.tuple #[.int .i64 2, .int .i64 0])) := by
  have hneq : ¬ b = w.heap.size := by have := hb.lt; omega
  have e1 : limV 5 1 7 1 = 6 := by decide
  have e2 : absV 6 = 6 := by decide
  have e3 : absV (-7) = 7 := by decide
  go_enter Try.func40, Try.ntmps40
  go_wp2_with (go_at_call 39; (first | with_reducible refine Calls.fold (Limit_t _ _ _ _ _ (by decide) (by decide)) ?_ | with_reducible refine Calls.fresh (Limit_t _ _ _ _ _ (by decide) (by decide)) ?_); intro x1)
  refine wp_loop_rounds 3 ?_
  rw [rounds_succ]
  go_wp2_with (go_at_call 61; refine (fixAbs_any _ _ (by decide) (by decide)).mono ?_; rintro e w1 ⟨rfl, rfl⟩)
  rw [rounds_succ]
  go_wp2_with (go_at_call 61; refine (fixAbs_any _ _ (by decide) (by decide)).mono ?_; rintro e w1 ⟨rfl, rfl⟩)
  rw [rounds_succ]
  go_wp2_with fail
  go_ret2
  exact Gives.mk (ret_ii (by decide) rfl) (by (repeat (first | (with_reducible exact Below.refl _ _) | (with_reducible assumption) | (with_reducible refine Below.alloc ?_ (by (repeat (first | (with_reducible exact Nat.le_refl _) | (with_reducible assumption) | (with_reducible refine le_up ?_) | (with_reducible refine le_alloc ?_) | (with_reducible refine le_setCell ?_) | (with_reducible refine le_drew ?_) | (with_reducible refine le_drewN ?_) | omega))) _) | (with_reducible refine Below.drew ?_) | (with_reducible refine Below.drewN ?_ _) | (with_reducible refine Below.setCell ?_ (by (repeat (first | (with_reducible exact Nat.le_refl _) | (with_reducible assumption) | (with_reducible refine le_up ?_) | (with_reducible refine le_alloc ?_) | (with_reducible refine le_setCell ?_) | (with_reducible refine le_drew ?_) | (with_reducible refine le_drewN ?_) | omega))) _) | (with_reducible refine Below.up ?_ (by (repeat (first | (with_reducible exact Nat.le_refl _) | (with_reducible assumption) | (with_reducible refine le_up ?_) | (with_reducible refine le_alloc ?_) | (with_reducible refine le_setCell ?_) | (with_reducible refine le_drew ?_) | (with_reducible refine le_drewN ?_) | omega)))))))
set_option maxHeartbeats 800000 in
theorem Worst_3 (b : Nat) (w : World) (hc0 : w.cell? ⟨b, 0, none⟩ = some (.int .i64 1)) (hc1 : w.cell? ⟨b, 1, none⟩ = some (.int .i64 (-9))) (hc2 : w.cell? ⟨b, 2, none⟩ = some (.int .i64 9)) :
    Calls Try.prog 59 #[.slice (some ⟨b, 0, none⟩) 3 3] w (Tells w (.tuple #[.int .i64 1, .int .i64 9])) := by
  have e1 : absV 1 = 1 := by decide
  have e2 : absV (-9) = 9 := by decide
  have e3 : absV 9 = 9 := by decide
  go_enter Try.func59, Try.ntmps59
  go_wp2_with fail
  refine wp_loop_rounds 4 ?_
  rw [rounds_succ]
  go_wp2_with (go_at_call 61; refine (fixAbs_any _ _ (by decide) (by decide)).mono ?_; rintro e w1 ⟨rfl, rfl⟩)
  rw [rounds_succ]
  go_wp2_with (go_at_call 61; refine (fixAbs_any _ _ (by decide) (by decide)).mono ?_; rintro e w1 ⟨rfl, rfl⟩)
  rw [rounds_succ]
  go_wp2_with (go_at_call 61; refine (fixAbs_any _ _ (by decide) (by decide)).mono ?_; rintro e w1 ⟨rfl, rfl⟩)
  rw [rounds_succ]
  go_wp2_with fail
  go_ret2
  exact Tells.mk rfl
set_option maxHeartbeats 1600000 in
theorem works22 (w : World) : Calls Try.prog 38 #[] w (Gives w (.bool true)) := by
  have e1 : limV 5 1 7 1 = 6 := by decide
  go_enter Try.func38, Try.ntmps38
  go_wp2_with (first | (go_at_call 39; (first | with_reducible refine Calls.fold (Limit_t _ _ _ _ _ (by decide) (by decide)) ?_ | with_reducible refine Calls.fresh (Limit_t _ _ _ _ _ (by decide) (by decide)) ?_); intro x1) | (go_at_call 40; (first | with_reducible refine Calls.fold (Far_2 _ _ (by simp) (by simp)) ?_ | with_reducible refine Calls.fresh (Far_2 _ _ (by simp) (by simp)) ?_); intro x1) | (go_at_call 59; refine (Worst_3 _ _ (by simp) (by simp) (by simp)).mono ?_; rintro e w1 ⟨rfl, rfl⟩))
  go_ret
  exact Gives.mk rfl (by (repeat (first | (with_reducible exact Below.refl _ _) | (with_reducible assumption) | (with_reducible refine Below.alloc ?_ (by (repeat (first | (with_reducible exact Nat.le_refl _) | (with_reducible assumption) | (with_reducible refine le_up ?_) | (with_reducible refine le_alloc ?_) | (with_reducible refine le_setCell ?_) | (with_reducible refine le_drew ?_) | (with_reducible refine le_drewN ?_) | omega))) _) | (with_reducible refine Below.drew ?_) | (with_reducible refine Below.drewN ?_ _) | (with_reducible refine Below.setCell ?_ (by (repeat (first | (with_reducible exact Nat.le_refl _) | (with_reducible assumption) | (with_reducible refine le_up ?_) | (with_reducible refine le_alloc ?_) | (with_reducible refine le_setCell ?_) | (with_reducible refine le_drew ?_) | (with_reducible refine le_drewN ?_) | omega))) _) | (with_reducible refine Below.up ?_ (by (repeat (first | (with_reducible exact Nat.le_refl _) | (with_reducible assumption) | (with_reducible refine le_up ?_) | (with_reducible refine le_alloc ?_) | (with_reducible refine le_setCell ?_) | (with_reducible refine le_drew ?_) | (with_reducible refine le_drewN ?_) | omega)))))))

set_option maxHeartbeats 1600000 in
theorem GateOpens_any (o g m a l r : Int) (w : World) (hm : m ≤ 9223372036854775807) (hr : -9223372036854775808 ≤ r) (hr' : r ≤ 9223372036854775807) :
    Calls Try.prog 9 #[.agg #[.int .i64 o, .int .i64 g, .int .i64 m], .int .i64 a, .int .i64 l, .int .i64 r] w (Gives w (.bool true)) := by
  by_cases h : gateOK o g m = true
  · obtain ⟨b1, b2⟩ := lim_bd (a := min a l) h
    obtain ⟨b3, b4⟩ := lim_bd (a := max a l) h
    have b5 := lim_mono h (show min a l ≤ max a l by omega)
    have f1 : farB (limV o g m (max a l)) r ≤ farB (limV o g m (min a l)) r ∧ farB (limV o g m (min a l)) r ≤ 1 := by unfold farB; split <;> split <;> omega
    obtain ⟨f1, f2⟩ := f1
    rcases Int.lt_trichotomy a l with hal | rfl | hal
    · rw [show min a l = a from by omega] at *
      rw [show max a l = l from by omega] at *
      go_enter Try.func9, Try.ntmps9
      go_wp2_with (first | (go_at_call 38; (first | with_reducible refine Calls.fold (works22 _) ?_ | with_reducible refine Calls.fresh (works22 _) ?_); intro x1) | (go_at_call 39; (first | with_reducible refine Calls.fold (Limit_t _ _ _ _ _ h hm) ?_ | with_reducible refine Calls.fresh (Limit_t _ _ _ _ _ h hm) ?_); intro x1) | (go_at_call 40; (first | with_reducible refine Calls.fold (Far_1 _ _ _ _ r _ _ h hm hr hr' (by simp)) ?_ | with_reducible refine Calls.fresh (Far_1 _ _ _ _ r _ _ h hm hr hr' (by simp)) ?_); intro x1))
      go_ret
      exact Gives.mk rfl (by (repeat (first | (with_reducible exact Below.refl _ _) | (with_reducible assumption) | (with_reducible refine Below.alloc ?_ (by (repeat (first | (with_reducible exact Nat.le_refl _) | (with_reducible assumption) | (with_reducible refine le_up ?_) | (with_reducible refine le_alloc ?_) | (with_reducible refine le_setCell ?_) | (with_reducible refine le_drew ?_) | (with_reducible refine le_drewN ?_) | omega))) _) | (with_reducible refine Below.drew ?_) | (with_reducible refine Below.drewN ?_ _) | (with_reducible refine Below.setCell ?_ (by (repeat (first | (with_reducible exact Nat.le_refl _) | (with_reducible assumption) | (with_reducible refine le_up ?_) | (with_reducible refine le_alloc ?_) | (with_reducible refine le_setCell ?_) | (with_reducible refine le_drew ?_) | (with_reducible refine le_drewN ?_) | omega))) _) | (with_reducible refine Below.up ?_ (by (repeat (first | (with_reducible exact Nat.le_refl _) | (with_reducible assumption) | (with_reducible refine le_up ?_) | (with_reducible refine le_alloc ?_) | (with_reducible refine le_setCell ?_) | (with_reducible refine le_drew ?_) | (with_reducible refine le_drewN ?_) | omega)))))))
    · rw [show min a a = a from by omega] at *
      rw [show max a a = a from by omega] at *
      go_enter Try.func9, Try.ntmps9
      go_wp2_with (first | (go_at_call 38; (first | with_reducible refine Calls.fold (works22 _) ?_ | with_reducible refine Calls.fresh (works22 _) ?_); intro x1) | (go_at_call 39; (first | with_reducible refine Calls.fold (Limit_t _ _ _ _ _ h hm) ?_ | with_reducible refine Calls.fresh (Limit_t _ _ _ _ _ h hm) ?_); intro x1) | (go_at_call 40; (first | with_reducible refine Calls.fold (Far_1 _ _ _ _ r _ _ h hm hr hr' (by simp)) ?_ | with_reducible refine Calls.fresh (Far_1 _ _ _ _ r _ _ h hm hr hr' (by simp)) ?_); intro x1))
      go_ret
      exact Gives.mk rfl (by (repeat (first | (with_reducible exact Below.refl _ _) | (with_reducible assumption) | (with_reducible refine Below.alloc ?_ (by (repeat (first | (with_reducible exact Nat.le_refl _) | (with_reducible assumption) | (with_reducible refine le_up ?_) | (with_reducible refine le_alloc ?_) | (with_reducible refine le_setCell ?_) | (with_reducible refine le_drew ?_) | (with_reducible refine le_drewN ?_) | omega))) _) | (with_reducible refine Below.drew ?_) | (with_reducible refine Below.drewN ?_ _) | (with_reducible refine Below.setCell ?_ (by (repeat (first | (with_reducible exact Nat.le_refl _) | (with_reducible assumption) | (with_reducible refine le_up ?_) | (with_reducible refine le_alloc ?_) | (with_reducible refine le_setCell ?_) | (with_reducible refine le_drew ?_) | (with_reducible refine le_drewN ?_) | omega))) _) | (with_reducible refine Below.up ?_ (by (repeat (first | (with_reducible exact Nat.le_refl _) | (with_reducible assumption) | (with_reducible refine le_up ?_) | (with_reducible refine le_alloc ?_) | (with_reducible refine le_setCell ?_) | (with_reducible refine le_drew ?_) | (with_reducible refine le_drewN ?_) | omega)))))))
    · rw [show min a l = l from by omega] at *
      rw [show max a l = a from by omega] at *
      go_enter Try.func9, Try.ntmps9
      go_wp2_with (first | (go_at_call 38; (first | with_reducible refine Calls.fold (works22 _) ?_ | with_reducible refine Calls.fresh (works22 _) ?_); intro x1) | (go_at_call 39; (first | with_reducible refine Calls.fold (Limit_t _ _ _ _ _ h hm) ?_ | with_reducible refine Calls.fresh (Limit_t _ _ _ _ _ h hm) ?_); intro x1) | (go_at_call 40; (first | with_reducible refine Calls.fold (Far_1 _ _ _ _ r _ _ h hm hr hr' (by simp)) ?_ | with_reducible refine Calls.fresh (Far_1 _ _ _ _ r _ _ h hm hr hr' (by simp)) ?_); intro x1))
      go_ret
      exact Gives.mk rfl (by (repeat (first | (with_reducible exact Below.refl _ _) | (with_reducible assumption) | (with_reducible refine Below.alloc ?_ (by (repeat (first | (with_reducible exact Nat.le_refl _) | (with_reducible assumption) | (with_reducible refine le_up ?_) | (with_reducible refine le_alloc ?_) | (with_reducible refine le_setCell ?_) | (with_reducible refine le_drew ?_) | (with_reducible refine le_drewN ?_) | omega))) _) | (with_reducible refine Below.drew ?_) | (with_reducible refine Below.drewN ?_ _) | (with_reducible refine Below.setCell ?_ (by (repeat (first | (with_reducible exact Nat.le_refl _) | (with_reducible assumption) | (with_reducible refine le_up ?_) | (with_reducible refine le_alloc ?_) | (with_reducible refine le_setCell ?_) | (with_reducible refine le_drew ?_) | (with_reducible refine le_drewN ?_) | omega))) _) | (with_reducible refine Below.up ?_ (by (repeat (first | (with_reducible exact Nat.le_refl _) | (with_reducible assumption) | (with_reducible refine le_up ?_) | (with_reducible refine le_alloc ?_) | (with_reducible refine le_setCell ?_) | (with_reducible refine le_drew ?_) | (with_reducible refine le_drewN ?_) | omega)))))))
  · have h' : gateOK o g m = false := by simpa using h
    clear h
    rcases Int.lt_trichotomy a l with hal | rfl | hal
    all_goals
      go_enter Try.func9, Try.ntmps9
      go_wp2_with (first | (go_at_call 38; (first | with_reducible refine Calls.fold (works22 _) ?_ | with_reducible refine Calls.fresh (works22 _) ?_); intro x1) | (go_at_call 39; (first | with_reducible refine Calls.fold (Limit_f _ _ _ _ _ h') ?_ | with_reducible refine Calls.fresh (Limit_f _ _ _ _ _ h') ?_); intro x1))
      go_ret
      exact Gives.mk rfl (by (repeat (first | (with_reducible exact Below.refl _ _) | (with_reducible assumption) | (with_reducible refine Below.alloc ?_ (by (repeat (first | (with_reducible exact Nat.le_refl _) | (with_reducible assumption) | (with_reducible refine le_up ?_) | (with_reducible refine le_alloc ?_) | (with_reducible refine le_setCell ?_) | (with_reducible refine le_drew ?_) | (with_reducible refine le_drewN ?_) | omega))) _) | (with_reducible refine Below.drew ?_) | (with_reducible refine Below.drewN ?_ _) | (with_reducible refine Below.setCell ?_ (by (repeat (first | (with_reducible exact Nat.le_refl _) | (with_reducible assumption) | (with_reducible refine le_up ?_) | (with_reducible refine le_alloc ?_) | (with_reducible refine le_setCell ?_) | (with_reducible refine le_drew ?_) | (with_reducible refine le_drewN ?_) | omega))) _) | (with_reducible refine Below.up ?_ (by (repeat (first | (with_reducible exact Nat.le_refl _) | (with_reducible assumption) | (with_reducible refine le_up ?_) | (with_reducible refine le_alloc ?_) | (with_reducible refine le_setCell ?_) | (with_reducible refine le_drew ?_) | (with_reducible refine le_drewN ?_) | omega)))))))
end Go.Proofs.Ytbfloidogdjccaa
