/-
  The walks over the gate layer.
-/
import Derived.Test.YtihalkpcddnikaaFixW
namespace Go.Proofs.Ytihalkpcddnikaa.G
open Go.RowKit

def gateOK (o g m : Int) : Bool := decide (0 ≤ o ∧ 0 ≤ g ∧ o ≤ m)
theorem gate_of {o g m : Int} (h : gateOK o g m = true) : 0 ≤ o ∧ 0 ≤ g ∧ o ≤ m := by simpa [gateOK] using h
theorem gateCheck_t (o g m : Int) (w : World) (h : gateOK o g m = true) :
    Calls Try.prog 39 #[.agg #[.int .i64 o, .int .i64 g, .int .i64 m]] w (Gives w (.int .i64 0)) := by
  obtain ⟨h1, h2, h3⟩ := gate_of h
  clear h
  go_enter Try.func39, Try.ntmps39
  go_wp2
  go_ret
  exact Gives.mk rfl (by (repeat (first | (with_reducible exact Below.refl _ _) | (with_reducible assumption) | (with_reducible refine Below.alloc ?_ (by (repeat (first | (with_reducible exact Nat.le_refl _) | (with_reducible assumption) | (with_reducible refine le_up ?_) | (with_reducible refine le_alloc ?_) | (with_reducible refine le_setCell ?_) | (with_reducible refine le_drew ?_) | (with_reducible refine le_drewN ?_) | omega))) _) | (with_reducible refine Below.drew ?_) | (with_reducible refine Below.drewN ?_ _) | (with_reducible refine Below.setCell ?_ (by (repeat (first | (with_reducible exact Nat.le_refl _) | (with_reducible assumption) | (with_reducible refine le_up ?_) | (with_reducible refine le_alloc ?_) | (with_reducible refine le_setCell ?_) | (with_reducible refine le_drew ?_) | (with_reducible refine le_drewN ?_) | omega))) _) | (with_reducible refine Below.up ?_ (by (repeat (first | (with_reducible exact Nat.le_refl _) | (with_reducible assumption) | (with_reducible refine le_up ?_) | (with_reducible refine le_alloc ?_) | (with_reducible refine le_setCell ?_) | (with_reducible refine le_drew ?_) | (with_reducible refine le_drewN ?_) | omega)))))))
theorem gateCheck_f (o g m : Int) (w : World) (h : gateOK o g m = false) :
    Calls Try.prog 39 #[.agg #[.int .i64 o, .int .i64 g, .int .i64 m]] w (Gives w (.int .i64 2)) := by
  have h' : ¬ (0 ≤ o ∧ 0 ≤ g ∧ o ≤ m) := by simpa [gateOK] using h
  clear h
  by_cases h1 : o < 0 <;> by_cases h2 : g < 0 <;> by_cases h3 : m < o <;> first | (exfalso; omega) | skip
  all_goals
    clear h'
    go_enter Try.func39, Try.ntmps39
    go_wp2
    go_ret
    exact Gives.mk rfl (by (repeat (first | (with_reducible exact Below.refl _ _) | (with_reducible assumption) | (with_reducible refine Below.alloc ?_ (by (repeat (first | (with_reducible exact Nat.le_refl _) | (with_reducible assumption) | (with_reducible refine le_up ?_) | (with_reducible refine le_alloc ?_) | (with_reducible refine le_setCell ?_) | (with_reducible refine le_drew ?_) | (with_reducible refine le_drewN ?_) | omega))) _) | (with_reducible refine Below.drew ?_) | (with_reducible refine Below.drewN ?_ _) | (with_reducible refine Below.setCell ?_ (by (repeat (first | (with_reducible exact Nat.le_refl _) | (with_reducible assumption) | (with_reducible refine le_up ?_) | (with_reducible refine le_alloc ?_) | (with_reducible refine le_setCell ?_) | (with_reducible refine le_drew ?_) | (with_reducible refine le_drewN ?_) | omega))) _) | (with_reducible refine Below.up ?_ (by (repeat (first | (with_reducible exact Nat.le_refl _) | (with_reducible assumption) | (with_reducible refine le_up ?_) | (with_reducible refine le_alloc ?_) | (with_reducible refine le_setCell ?_) | (with_reducible refine le_drew ?_) | (with_reducible refine le_drewN ?_) | omega)))))))

def ageV (a : Int) : Int := min (max a 0) 65535
/-- A gate's limit. -/
def limV (o g m a : Int) : Int := min (o + g * ageV a) m
theorem lim_bd {o g m a : Int} (h : gateOK o g m = true) : o ≤ limV o g m a ∧ limV o g m a ≤ m := by
  obtain ⟨h1, h2, h3⟩ := gate_of h
  have : 0 ≤ g * ageV a := Int.mul_nonneg h2 (by unfold ageV; omega)
  unfold limV; omega
theorem lim_mono {o g m a b : Int} (h : gateOK o g m = true) (hab : a ≤ b) : limV o g m a ≤ limV o g m b := by
  obtain ⟨h1, h2, h3⟩ := gate_of h
  have : g * ageV a ≤ g * ageV b := Int.mul_le_mul_of_nonneg_left (by unfold ageV; omega) h2
  unfold limV; omega

theorem lim_over {o g m a n : Int} (hn : ageV a = n) (h1 : 0 < n) (h : (m - o) / n < g) : limV o g m a = m := by
  have h3 : m - o < g * n := by
    have := Int.lt_mul_of_ediv_lt h1 h
    exact this
  unfold limV; rw [hn]; omega
theorem lim_under {o g m a n : Int} (hn : ageV a = n) (h1 : 0 < n) (h : g ≤ (m - o) / n) : limV o g m a = o + g * n ∧ g * n ≤ m - o := by
  have h3 : g * n ≤ m - o := Int.le_trans (Int.mul_le_mul_of_nonneg_right h (by omega)) (Int.ediv_mul_le _ (by omega))
  unfold limV; rw [hn]; omega

set_option maxHeartbeats 800000 in
theorem Limit_t (o g m a : Int) (w : World) (h : gateOK o g m = true) (hm : m ≤ 9223372036854775807) :
    Calls Try.prog 71 #[.agg #[.int .i64 o, .int .i64 g, .int .i64 m], .int .i64 a] w (Gives w (.tuple #[.int .i64 (limV o g m a), .int .i64 0])) := by
  obtain ⟨h1, h2, h3⟩ := gate_of h
  by_cases ha : a ≤ 0
  · have hv := Lib.hid (show limV o g m a = o by unfold limV ageV; rw [show min (max a 0) 65535 = 0 from by omega]; simp; omega)
    by_cases ha0 : a = 0
    · subst ha0
      clear ha
      go_enter Try.func71, Try.ntmps71
      go_wp2_with (first | (go_at_call 39; (first | with_reducible refine Calls.fold (gateCheck_t _ _ _ _ h) ?_ | with_reducible refine Calls.fresh (gateCheck_t _ _ _ _ h) ?_); intro x1) | (refine wp_region_up (by kernel_rfl) (by kernel_rfl) ?_; (repeat (go_big_quiet_step (fail))); refine wpQuiet_nil ?_; intro _ hw'; obtain ⟨xq, hw''⟩ := hw'; subst hw''))
      go_ret2
      exact Gives.mk (ret_ii (by rw [hv.out]; try simp) rfl) (by (repeat (first | (with_reducible exact Below.refl _ _) | (with_reducible assumption) | (with_reducible refine Below.alloc ?_ (by (repeat (first | (with_reducible exact Nat.le_refl _) | (with_reducible assumption) | (with_reducible refine le_up ?_) | (with_reducible refine le_alloc ?_) | (with_reducible refine le_setCell ?_) | (with_reducible refine le_drew ?_) | (with_reducible refine le_drewN ?_) | omega))) _) | (with_reducible refine Below.drew ?_) | (with_reducible refine Below.drewN ?_ _) | (with_reducible refine Below.setCell ?_ (by (repeat (first | (with_reducible exact Nat.le_refl _) | (with_reducible assumption) | (with_reducible refine le_up ?_) | (with_reducible refine le_alloc ?_) | (with_reducible refine le_setCell ?_) | (with_reducible refine le_drew ?_) | (with_reducible refine le_drewN ?_) | omega))) _) | (with_reducible refine Below.up ?_ (by (repeat (first | (with_reducible exact Nat.le_refl _) | (with_reducible assumption) | (with_reducible refine le_up ?_) | (with_reducible refine le_alloc ?_) | (with_reducible refine le_setCell ?_) | (with_reducible refine le_drew ?_) | (with_reducible refine le_drewN ?_) | omega)))))))
    · have ha2 : a < 0 := by omega
      clear ha ha0
      go_enter Try.func71, Try.ntmps71
      go_wp2_with (first | (go_at_call 39; (first | with_reducible refine Calls.fold (gateCheck_t _ _ _ _ h) ?_ | with_reducible refine Calls.fresh (gateCheck_t _ _ _ _ h) ?_); intro x1) | (refine wp_region_up (by kernel_rfl) (by kernel_rfl) ?_; (repeat (go_big_quiet_step (fail))); refine wpQuiet_nil ?_; intro _ hw'; obtain ⟨xq, hw''⟩ := hw'; subst hw''))
      go_ret2
      exact Gives.mk (ret_ii (by rw [hv.out]; try simp) rfl) (by (repeat (first | (with_reducible exact Below.refl _ _) | (with_reducible assumption) | (with_reducible refine Below.alloc ?_ (by (repeat (first | (with_reducible exact Nat.le_refl _) | (with_reducible assumption) | (with_reducible refine le_up ?_) | (with_reducible refine le_alloc ?_) | (with_reducible refine le_setCell ?_) | (with_reducible refine le_drew ?_) | (with_reducible refine le_drewN ?_) | omega))) _) | (with_reducible refine Below.drew ?_) | (with_reducible refine Below.drewN ?_ _) | (with_reducible refine Below.setCell ?_ (by (repeat (first | (with_reducible exact Nat.le_refl _) | (with_reducible assumption) | (with_reducible refine le_up ?_) | (with_reducible refine le_alloc ?_) | (with_reducible refine le_setCell ?_) | (with_reducible refine le_drew ?_) | (with_reducible refine le_drewN ?_) | omega))) _) | (with_reducible refine Below.up ?_ (by (repeat (first | (with_reducible exact Nat.le_refl _) | (with_reducible assumption) | (with_reducible refine le_up ?_) | (with_reducible refine le_alloc ?_) | (with_reducible refine le_setCell ?_) | (with_reducible refine le_drew ?_) | (with_reducible refine le_drewN ?_) | omega)))))))
  · have ha2 : 0 < a := by omega
    clear ha
    by_cases hb : a ≤ 65535
    · have hn : ageV a = a := by unfold ageV; omega
      obtain ⟨q1, q2⟩ : 0 ≤ (m - o) / a ∧ (m - o) / a ≤ m - o := ⟨Int.ediv_nonneg (by omega) (by omega), Int.ediv_le_self _ (by omega)⟩
      by_cases hg : (m - o) / a < g
      · have hv := Lib.hid (lim_over (o := o) (m := m) hn (by omega) hg)
        clear hn
        go_enter Try.func71, Try.ntmps71
        go_wp2_with (first | (go_at_call 39; (first | with_reducible refine Calls.fold (gateCheck_t _ _ _ _ h) ?_ | with_reducible refine Calls.fresh (gateCheck_t _ _ _ _ h) ?_); intro x1) | (refine wp_region_up (by kernel_rfl) (by kernel_rfl) ?_; (repeat (go_big_quiet_step (fail))); refine wpQuiet_nil ?_; intro _ hw'; obtain ⟨xq, hw''⟩ := hw'; subst hw''))
        go_ret2
        exact Gives.mk (ret_ii hv.out.symm rfl) (by (repeat (first | (with_reducible exact Below.refl _ _) | (with_reducible assumption) | (with_reducible refine Below.alloc ?_ (by (repeat (first | (with_reducible exact Nat.le_refl _) | (with_reducible assumption) | (with_reducible refine le_up ?_) | (with_reducible refine le_alloc ?_) | (with_reducible refine le_setCell ?_) | (with_reducible refine le_drew ?_) | (with_reducible refine le_drewN ?_) | omega))) _) | (with_reducible refine Below.drew ?_) | (with_reducible refine Below.drewN ?_ _) | (with_reducible refine Below.setCell ?_ (by (repeat (first | (with_reducible exact Nat.le_refl _) | (with_reducible assumption) | (with_reducible refine le_up ?_) | (with_reducible refine le_alloc ?_) | (with_reducible refine le_setCell ?_) | (with_reducible refine le_drew ?_) | (with_reducible refine le_drewN ?_) | omega))) _) | (with_reducible refine Below.up ?_ (by (repeat (first | (with_reducible exact Nat.le_refl _) | (with_reducible assumption) | (with_reducible refine le_up ?_) | (with_reducible refine le_alloc ?_) | (with_reducible refine le_setCell ?_) | (with_reducible refine le_drew ?_) | (with_reducible refine le_drewN ?_) | omega)))))))
      · obtain ⟨hv', hv2⟩ := lim_under (o := o) (m := m) (g := g) hn (by omega) (by omega)
        have hv := Lib.hid hv'
        have hv3 : 0 ≤ g * a := Int.mul_nonneg h2 (by omega)
        clear hn hv'
        go_enter Try.func71, Try.ntmps71
        go_wp2_with (first | (go_at_call 39; (first | with_reducible refine Calls.fold (gateCheck_t _ _ _ _ h) ?_ | with_reducible refine Calls.fresh (gateCheck_t _ _ _ _ h) ?_); intro x1) | (refine wp_region_up (by kernel_rfl) (by kernel_rfl) ?_; (repeat (go_big_quiet_step (fail))); refine wpQuiet_nil ?_; intro _ hw'; obtain ⟨xq, hw''⟩ := hw'; subst hw''))
        go_ret2
        exact Gives.mk (ret_ii hv.out.symm rfl) (by (repeat (first | (with_reducible exact Below.refl _ _) | (with_reducible assumption) | (with_reducible refine Below.alloc ?_ (by (repeat (first | (with_reducible exact Nat.le_refl _) | (with_reducible assumption) | (with_reducible refine le_up ?_) | (with_reducible refine le_alloc ?_) | (with_reducible refine le_setCell ?_) | (with_reducible refine le_drew ?_) | (with_reducible refine le_drewN ?_) | omega))) _) | (with_reducible refine Below.drew ?_) | (with_reducible refine Below.drewN ?_ _) | (with_reducible refine Below.setCell ?_ (by (repeat (first | (with_reducible exact Nat.le_refl _) | (with_reducible assumption) | (with_reducible refine le_up ?_) | (with_reducible refine le_alloc ?_) | (with_reducible refine le_setCell ?_) | (with_reducible refine le_drew ?_) | (with_reducible refine le_drewN ?_) | omega))) _) | (with_reducible refine Below.up ?_ (by (repeat (first | (with_reducible exact Nat.le_refl _) | (with_reducible assumption) | (with_reducible refine le_up ?_) | (with_reducible refine le_alloc ?_) | (with_reducible refine le_setCell ?_) | (with_reducible refine le_drew ?_) | (with_reducible refine le_drewN ?_) | omega)))))))
    · have hn : ageV a = 65535 := by unfold ageV; omega
      have hb2 : 65535 < a := by omega
      clear hb
      obtain ⟨q1, q2⟩ : 0 ≤ (m - o) / 65535 ∧ (m - o) / 65535 ≤ m - o := ⟨Int.ediv_nonneg (by omega) (by omega), Int.ediv_le_self _ (by omega)⟩
      by_cases hg : (m - o) / 65535 < g
      · have hv := Lib.hid (lim_over (o := o) (m := m) hn (by omega) hg)
        clear hn
        go_enter Try.func71, Try.ntmps71
        go_wp2_with (first | (go_at_call 39; (first | with_reducible refine Calls.fold (gateCheck_t _ _ _ _ h) ?_ | with_reducible refine Calls.fresh (gateCheck_t _ _ _ _ h) ?_); intro x1) | (refine wp_region_up (by kernel_rfl) (by kernel_rfl) ?_; (repeat (go_big_quiet_step (fail))); refine wpQuiet_nil ?_; intro _ hw'; obtain ⟨xq, hw''⟩ := hw'; subst hw''))
        go_ret2
        exact Gives.mk (ret_ii hv.out.symm rfl) (by (repeat (first | (with_reducible exact Below.refl _ _) | (with_reducible assumption) | (with_reducible refine Below.alloc ?_ (by (repeat (first | (with_reducible exact Nat.le_refl _) | (with_reducible assumption) | (with_reducible refine le_up ?_) | (with_reducible refine le_alloc ?_) | (with_reducible refine le_setCell ?_) | (with_reducible refine le_drew ?_) | (with_reducible refine le_drewN ?_) | omega))) _) | (with_reducible refine Below.drew ?_) | (with_reducible refine Below.drewN ?_ _) | (with_reducible refine Below.setCell ?_ (by (repeat (first | (with_reducible exact Nat.le_refl _) | (with_reducible assumption) | (with_reducible refine le_up ?_) | (with_reducible refine le_alloc ?_) | (with_reducible refine le_setCell ?_) | (with_reducible refine le_drew ?_) | (with_reducible refine le_drewN ?_) | omega))) _) | (with_reducible refine Below.up ?_ (by (repeat (first | (with_reducible exact Nat.le_refl _) | (with_reducible assumption) | (with_reducible refine le_up ?_) | (with_reducible refine le_alloc ?_) | (with_reducible refine le_setCell ?_) | (with_reducible refine le_drew ?_) | (with_reducible refine le_drewN ?_) | omega)))))))
      · obtain ⟨hv', hv2⟩ := lim_under (o := o) (m := m) (g := g) hn (by omega) (by omega)
        have hv := Lib.hid hv'
        have hv3 : 0 ≤ g * 65535 := Int.mul_nonneg h2 (by omega)
        clear hn hv'
        go_enter Try.func71, Try.ntmps71
        go_wp2_with (first | (go_at_call 39; (first | with_reducible refine Calls.fold (gateCheck_t _ _ _ _ h) ?_ | with_reducible refine Calls.fresh (gateCheck_t _ _ _ _ h) ?_); intro x1) | (refine wp_region_up (by kernel_rfl) (by kernel_rfl) ?_; (repeat (go_big_quiet_step (fail))); refine wpQuiet_nil ?_; intro _ hw'; obtain ⟨xq, hw''⟩ := hw'; subst hw''))
        go_ret2
        exact Gives.mk (ret_ii hv.out.symm rfl) (by (repeat (first | (with_reducible exact Below.refl _ _) | (with_reducible assumption) | (with_reducible refine Below.alloc ?_ (by (repeat (first | (with_reducible exact Nat.le_refl _) | (with_reducible assumption) | (with_reducible refine le_up ?_) | (with_reducible refine le_alloc ?_) | (with_reducible refine le_setCell ?_) | (with_reducible refine le_drew ?_) | (with_reducible refine le_drewN ?_) | omega))) _) | (with_reducible refine Below.drew ?_) | (with_reducible refine Below.drewN ?_ _) | (with_reducible refine Below.setCell ?_ (by (repeat (first | (with_reducible exact Nat.le_refl _) | (with_reducible assumption) | (with_reducible refine le_up ?_) | (with_reducible refine le_alloc ?_) | (with_reducible refine le_setCell ?_) | (with_reducible refine le_drew ?_) | (with_reducible refine le_drewN ?_) | omega))) _) | (with_reducible refine Below.up ?_ (by (repeat (first | (with_reducible exact Nat.le_refl _) | (with_reducible assumption) | (with_reducible refine le_up ?_) | (with_reducible refine le_alloc ?_) | (with_reducible refine le_setCell ?_) | (with_reducible refine le_drew ?_) | (with_reducible refine le_drewN ?_) | omega)))))))
theorem Limit_f (o g m a : Int) (w : World) (h : gateOK o g m = false) :
    Calls Try.prog 71 #[.agg #[.int .i64 o, .int .i64 g, .int .i64 m], .int .i64 a] w (Gives w (.tuple #[.int .i64 0, .int .i64 2])) := by
  go_enter Try.func71, Try.ntmps71
  go_wp2_with (go_at_call 39; (first | with_reducible refine Calls.fold (gateCheck_f _ _ _ _ h) ?_ | with_reducible refine Calls.fresh (gateCheck_f _ _ _ _ h) ?_); intro x1)
  go_ret2
  exact Gives.mk rfl (by (repeat (first | (with_reducible exact Below.refl _ _) | (with_reducible assumption) | (with_reducible refine Below.alloc ?_ (by (repeat (first | (with_reducible exact Nat.le_refl _) | (with_reducible assumption) | (with_reducible refine le_up ?_) | (with_reducible refine le_alloc ?_) | (with_reducible refine le_setCell ?_) | (with_reducible refine le_drew ?_) | (with_reducible refine le_drewN ?_) | omega))) _) | (with_reducible refine Below.drew ?_) | (with_reducible refine Below.drewN ?_ _) | (with_reducible refine Below.setCell ?_ (by (repeat (first | (with_reducible exact Nat.le_refl _) | (with_reducible assumption) | (with_reducible refine le_up ?_) | (with_reducible refine le_alloc ?_) | (with_reducible refine le_setCell ?_) | (with_reducible refine le_drew ?_) | (with_reducible refine le_drewN ?_) | omega))) _) | (with_reducible refine Below.up ?_ (by (repeat (first | (with_reducible exact Nat.le_refl _) | (with_reducible assumption) | (with_reducible refine le_up ?_) | (with_reducible refine le_alloc ?_) | (with_reducible refine le_setCell ?_) | (with_reducible refine le_drew ?_) | (with_reducible refine le_drewN ?_) | omega)))))))

/-- One number: is it far? -/
def farB (lim r : Int) : Int := if lim < absV r then 1 else 0
theorem farB_t {lim r : Int} (h : lim < absV r) : farB lim r = 1 := if_pos h
theorem farB_f {lim r : Int} (h : ¬ lim < absV r) : farB lim r = 0 := if_neg h
set_option maxHeartbeats 800000 in
theorem Far_1 (o g m a r : Int) (b : Nat) (w : World) [hb : LtSize b w] (h : gateOK o g m = true) (hm : m ≤ 9223372036854775807) (hr : -9223372036854775808 ≤ r) (hr' : r ≤ 9223372036854775807) (hc : w.cell? ⟨b, 0, none⟩ = some (.int .i64 r)) :
    Calls Try.prog 60 #[.agg #[.int .i64 o, .int .i64 g, .int .i64 m], .int .i64 a, .slice (some ⟨b, 0, none⟩) 1 1] w (Gives w (.tuple #[.int .i64 (farB (limV o g m a) r), .int .i64 0])) := by
  have hneq : ¬ b = w.heap.size := by have := hb.lt; omega
  by_cases hf : limV o g m a < absV r
  · rw [farB_t hf]
    go_enter Try.func60, Try.ntmps60
    go_wp2_with (go_at_call 71; (first | with_reducible refine Calls.fold (Limit_t _ _ _ _ _ h hm) ?_ | with_reducible refine Calls.fresh (Limit_t _ _ _ _ _ h hm) ?_); intro x1)
    refine wp_loop_rounds 2 ?_
    rw [rounds_succ]
    go_wp2_with (go_at_call 51; refine (fixAbs_any r _ hr hr').mono ?_; rintro e w1 ⟨rfl, rfl⟩)
    rw [rounds_succ]
    go_wp2_with fail
    go_ret2
    exact Gives.mk (ret_ii (by decide) rfl) (by (repeat (first | (with_reducible exact Below.refl _ _) | (with_reducible assumption) | (with_reducible refine Below.alloc ?_ (by (repeat (first | (with_reducible exact Nat.le_refl _) | (with_reducible assumption) | (with_reducible refine le_up ?_) | (with_reducible refine le_alloc ?_) | (with_reducible refine le_setCell ?_) | (with_reducible refine le_drew ?_) | (with_reducible refine le_drewN ?_) | omega))) _) | (with_reducible refine Below.drew ?_) | (with_reducible refine Below.drewN ?_ _) | (with_reducible refine Below.setCell ?_ (by (repeat (first | (with_reducible exact Nat.le_refl _) | (with_reducible assumption) | (with_reducible refine le_up ?_) | (with_reducible refine le_alloc ?_) | (with_reducible refine le_setCell ?_) | (with_reducible refine le_drew ?_) | (with_reducible refine le_drewN ?_) | omega))) _) | (with_reducible refine Below.up ?_ (by (repeat (first | (with_reducible exact Nat.le_refl _) | (with_reducible assumption) | (with_reducible refine le_up ?_) | (with_reducible refine le_alloc ?_) | (with_reducible refine le_setCell ?_) | (with_reducible refine le_drew ?_) | (with_reducible refine le_drewN ?_) | omega)))))))
  · rw [farB_f hf]
    go_enter Try.func60, Try.ntmps60
    go_wp2_with (go_at_call 71; (first | with_reducible refine Calls.fold (Limit_t _ _ _ _ _ h hm) ?_ | with_reducible refine Calls.fresh (Limit_t _ _ _ _ _ h hm) ?_); intro x1)
    refine wp_loop_rounds 2 ?_
    rw [rounds_succ]
    go_wp2_with (go_at_call 51; refine (fixAbs_any r _ hr hr').mono ?_; rintro e w1 ⟨rfl, rfl⟩)
    rw [rounds_succ]
    go_wp2_with fail
    go_ret2
    exact Gives.mk (ret_ii (by decide) rfl) (by (repeat (first | (with_reducible exact Below.refl _ _) | (with_reducible assumption) | (with_reducible refine Below.alloc ?_ (by (repeat (first | (with_reducible exact Nat.le_refl _) | (with_reducible assumption) | (with_reducible refine le_up ?_) | (with_reducible refine le_alloc ?_) | (with_reducible refine le_setCell ?_) | (with_reducible refine le_drew ?_) | (with_reducible refine le_drewN ?_) | omega))) _) | (with_reducible refine Below.drew ?_) | (with_reducible refine Below.drewN ?_ _) | (with_reducible refine Below.setCell ?_ (by (repeat (first | (with_reducible exact Nat.le_refl _) | (with_reducible assumption) | (with_reducible refine le_up ?_) | (with_reducible refine le_alloc ?_) | (with_reducible refine le_setCell ?_) | (with_reducible refine le_drew ?_) | (with_reducible refine le_drewN ?_) | omega))) _) | (with_reducible refine Below.up ?_ (by (repeat (first | (with_reducible exact Nat.le_refl _) | (with_reducible assumption) | (with_reducible refine le_up ?_) | (with_reducible refine le_alloc ?_) | (with_reducible refine le_setCell ?_) | (with_reducible refine le_drew ?_) | (with_reducible refine le_drewN ?_) | omega)))))))

end Go.Proofs.Ytihalkpcddnikaa.G
