/-
  The reference's keeper of another clock: Beacon, Sure.
-/
import Derived.Test.YtcdhhnodfgpkiaaSyncC
import Derived.Deep.CutRange
import Derived.RegionTactic
namespace Go.Proofs.Ytcdhhnodfgpkiaa
open Go.RowKit
set_option linter.unusedVariables false

theorem SyncAt.learnK {w : World} {c : Nat} {S : SyncS} (h : SyncAt w c S) (hk : S.known = true) (lo hi t : Int) :
    SyncAt ((((w.setCell ⟨c, 4, none⟩ (.int .i64 lo)).setCell ⟨c, 5, none⟩ (.int .i64 hi)).setCell ⟨c, 6, none⟩ (.int .i64 t)).setCell ⟨c, 7, none⟩ (.int .i64 0)) c (S.learn lo hi t) := by
  refine (Cells.set (Cells.set (Cells.set (Cells.set h 4 (by omega) (.int .i64 lo)) 5 (by omega) (.int .i64 hi)) 6 (by omega) (.int .i64 t)) 7 (by omega) (.int .i64 0)).same (fun i hi => ?_)
  rcases i with _ | _ | _ | _ | _ | _ | _ | _ | i <;> first | rfl | (simp [syncV, SyncS.learn, hk]; done) | omega
set_option maxRecDepth 100000 in
theorem rBeacon_bad (c : Nat) (t u : Int) (S : SyncS) (w : World) (h : SyncAt w c S) (ok : SyncOK S) (u0 : 0 ≤ u) (hb : badB S t u = true) :
    Calls Try.prog 36 #[.pointer (some ⟨c, 0, none⟩), .int .i64 t, .int .u64 u] w (SyncR w c 2 S) := by
  have H := Lib.hid h
  have z3 := h.free 3
  have z4 := h.free 4
  have z5 := h.free 5
  have z6 := h.free 6
  have z7 := h.free 7
  obtain ⟨c0, c1, c2, c3, c4, c5, c6, c7⟩ := h.cells
  haveI : LtSize c w := ⟨h.lt⟩
  have hcl := h.lt
  clear h
  have a0 := ok.a0
  have e0 := ok.d0
  have e1 := ok.d1
  have o0 := ok.o0
  have o1 := ok.o1
  have o2 := ok.m1
  rcases bad_ways hb with b1 | ⟨b1, b2⟩ | ⟨b1, b2, b3⟩
  · clear hb
    go_enter Try.func36, Try.ntmps36
    go_wp2_with fail
    go_ret
    exact ⟨rfl, H.out, gr_refl _ _⟩
  · have d1 : decide (t < S.at_) = false := by simp; omega
    have d4 : decide (t < 0) = false := by simp; omega
    clear hb
    go_enter Try.func36, Try.ntmps36
    go_wp2_with fail
    go_ret
    exact ⟨rfl, H.out, gr_refl _ _⟩
  · have d1 : decide (t < S.at_) = false := by simp; omega
    have d4 : decide (t < 0) = false := by simp; omega
    have d2 : decide (1099511627776 < t) = false := by simp; omega
    clear hb
    go_enter Try.func36, Try.ntmps36
    go_wp2_with fail
    go_ret
    exact ⟨rfl, H.out, gr_refl _ _⟩
set_option maxRecDepth 100000 in
set_option maxHeartbeats 1600000 in
theorem rBeacon_first (c : Nat) (t u : Int) (S : SyncS) (w : World) (h : SyncAt w c S) (ok : SyncOK S) (u0 : 0 ≤ u) (hb : badB S t u = false) (hk : S.known = false) :
    Calls Try.prog 36 #[.pointer (some ⟨c, 0, none⟩), .int .i64 t, .int .u64 u] w (SyncR w c 0 (S.learn (u - t) (u - t + S.delay) t)) := by
  have H := Lib.hid h
  have z3 := h.free 3
  have z4 := h.free 4
  have z5 := h.free 5
  have z6 := h.free 6
  have z7 := h.free 7
  obtain ⟨c0, c1, c2, c3, c4, c5, c6, c7⟩ := h.cells
  haveI : LtSize c w := ⟨h.lt⟩
  have hcl := h.lt
  clear h
  have a0 := ok.a0
  have e0 := ok.d0
  have e1 := ok.d1
  have o0 := ok.o0
  have o1 := ok.o1
  have o2 := ok.m1
  obtain ⟨b1, b2, b3⟩ := bad_no hb
  have d1 : decide (t < S.at_) = false := by simp; omega
  have d2 : decide (1099511627776 < t) = false := by simp; omega
  have d3 : decide (1099511627776 < u) = false := by simp; omega
  have d4 : decide (t < 0) = false := by simp; omega
  have hu : IntKind.i64.wrap u = u := by rw [IntKind.wrap_i64]; omega
  rw [hk] at c3
  clear hb
  have hbd : boundsV S t = (0, 0, false) := by simp [boundsV, hk]
  have hle : u - t ≤ u - t + S.delay := by omega
  go_enter Try.func36, Try.ntmps36
  go_wp2_with (go_at_call 37; (first | with_reducible refine Calls.fold (rBounds_is H.out ok (by omega) (by omega) hbd) ?_ | with_reducible refine Calls.fresh (rBounds_is H.out ok (by omega) (by omega) hbd) ?_); intro x1)
  go_ret
  exact ⟨rfl, (H.out.up.learnt _ _ _), by (repeat (first | (with_reducible exact gr_refl _ _) | (with_reducible assumption) | (with_reducible refine gr_to_drew ?_) | (with_reducible refine gr_to_drewN _ ?_) | (with_reducible refine gr_to_set ?_) | (with_reducible refine gr_to_up ?_ _) | (with_reducible refine gr_to_up ?_) | (with_reducible refine gr_to_alloc ?_)))⟩
set_option maxRecDepth 100000 in
set_option maxHeartbeats 1600000 in
theorem rBeacon_fit (c : Nat) (t u : Int) (S : SyncS) (w : World) (h : SyncAt w c S) (ok : SyncOK S) (u0 : 0 ≤ u) (hb : badB S t u = false) (hk : S.known = true) (hm : max (u - t) (S.lo - byN S t) ≤ min (u - t + S.delay) (S.hi + byN S t)) :
    Calls Try.prog 36 #[.pointer (some ⟨c, 0, none⟩), .int .i64 t, .int .u64 u] w (SyncR w c 0 (S.learn (max (u - t) (S.lo - byN S t)) (min (u - t + S.delay) (S.hi + byN S t)) t)) := by
  have H := Lib.hid h
  have z3 := h.free 3
  have z4 := h.free 4
  have z5 := h.free 5
  have z6 := h.free 6
  have z7 := h.free 7
  obtain ⟨c0, c1, c2, c3, c4, c5, c6, c7⟩ := h.cells
  haveI : LtSize c w := ⟨h.lt⟩
  have hcl := h.lt
  clear h
  have a0 := ok.a0
  have e0 := ok.d0
  have e1 := ok.d1
  have o0 := ok.o0
  have o1 := ok.o1
  have o2 := ok.m1
  obtain ⟨b1, b2, b3⟩ := bad_no hb
  have d1 : decide (t < S.at_) = false := by simp; omega
  have d2 : decide (1099511627776 < t) = false := by simp; omega
  have d3 : decide (1099511627776 < u) = false := by simp; omega
  have d4 : decide (t < 0) = false := by simp; omega
  have hu : IntKind.i64.wrap u = u := by rw [IntKind.wrap_i64]; omega
  rw [hk] at c3
  clear hb
  have hbd : boundsV S t = (S.lo - byN S t, S.hi + byN S t, true) := by simp [boundsV, hk]
  obtain ⟨A, hA⟩ : ∃ A, S.lo - byN S t = A := ⟨_, rfl⟩
  obtain ⟨B, hB⟩ : ∃ B, S.hi + byN S t = B := ⟨_, rfl⟩
  rw [hA, hB] at hbd hm
  rw [hA, hB]
  clear hA hB
  go_enter Try.func36, Try.ntmps36
  go_upto_if 51 with (go_at_call 37; (first | with_reducible refine Calls.fold (rBounds_is H.out ok (by omega) (by omega) hbd) ?_ | with_reducible refine Calls.fresh (rBounds_is H.out ok (by omega) (by omega) hbd) ?_); intro x1)
  go_cut [12, 13] from 52 to 57 (fun v12 v13 wc => v12 = .int .i64 (max (u - t) A) ∧ v13 = .int .i64 (min (u - t + S.delay) B) ∧ ∃ x, wc = up w x)
  case first =>
    rcases (show (u - t < A ∧ max (u - t) A = A) ∨ (A ≤ u - t ∧ max (u - t) A = u - t) by omega) with ⟨k1, k2⟩ | ⟨k1, k2⟩
    all_goals rcases (show (B < u - t + S.delay ∧ min (u - t + S.delay) B = B) ∨ (u - t + S.delay ≤ B ∧ min (u - t + S.delay) B = u - t + S.delay) by omega) with ⟨k3, k4⟩ | ⟨k3, k4⟩
    all_goals
      have K2 := Lib.hid k2
      have K4 := Lib.hid k4
      clear k2 k4
      go_wp2_with fail
      go_meet
      exact ⟨by rw [K2.out], by rw [K4.out], _, rfl⟩
  case rest =>
    obtain ⟨rfl, rfl, x, rfl⟩ := hcut
    generalize max (u - t) A = p at *
    generalize min (u - t + S.delay) B = q at *
    go_wp2_with fail
    go_ret
    exact ⟨rfl, (H.out.up.learnt _ _ _), by (repeat (first | (with_reducible exact gr_refl _ _) | (with_reducible assumption) | (with_reducible refine gr_to_drew ?_) | (with_reducible refine gr_to_drewN _ ?_) | (with_reducible refine gr_to_set ?_) | (with_reducible refine gr_to_up ?_ _) | (with_reducible refine gr_to_up ?_) | (with_reducible refine gr_to_alloc ?_)))⟩
set_option maxRecDepth 100000 in
set_option maxHeartbeats 1600000 in
theorem rBeacon_odd (c : Nat) (t u : Int) (S : SyncS) (w : World) (h : SyncAt w c S) (ok : SyncOK S) (u0 : 0 ≤ u) (hb : badB S t u = false) (hk : S.known = true) (hm : ¬ max (u - t) (S.lo - byN S t) ≤ min (u - t + S.delay) (S.hi + byN S t)) (ho : S.odd + 1 ≠ S.most) :
    Calls Try.prog 36 #[.pointer (some ⟨c, 0, none⟩), .int .i64 t, .int .u64 u] w (SyncR w c 350 (⟨S.delay, S.rate, S.most, S.known, S.lo, S.hi, S.at_, S.odd + 1⟩)) := by
  have H := Lib.hid h
  have z3 := h.free 3
  have z4 := h.free 4
  have z5 := h.free 5
  have z6 := h.free 6
  have z7 := h.free 7
  obtain ⟨c0, c1, c2, c3, c4, c5, c6, c7⟩ := h.cells
  haveI : LtSize c w := ⟨h.lt⟩
  have hcl := h.lt
  clear h
  have a0 := ok.a0
  have e0 := ok.d0
  have e1 := ok.d1
  have o0 := ok.o0
  have o1 := ok.o1
  have o2 := ok.m1
  obtain ⟨b1, b2, b3⟩ := bad_no hb
  have d1 : decide (t < S.at_) = false := by simp; omega
  have d2 : decide (1099511627776 < t) = false := by simp; omega
  have d3 : decide (1099511627776 < u) = false := by simp; omega
  have d4 : decide (t < 0) = false := by simp; omega
  have hu : IntKind.i64.wrap u = u := by rw [IntKind.wrap_i64]; omega
  rw [hk] at c3
  clear hb
  have hbd : boundsV S t = (S.lo - byN S t, S.hi + byN S t, true) := by simp [boundsV, hk]
  obtain ⟨A, hA⟩ : ∃ A, S.lo - byN S t = A := ⟨_, rfl⟩
  obtain ⟨B, hB⟩ : ∃ B, S.hi + byN S t = B := ⟨_, rfl⟩
  rw [hA, hB] at hbd hm
  clear hA hB
  go_enter Try.func36, Try.ntmps36
  go_upto_if 51 with (go_at_call 37; (first | with_reducible refine Calls.fold (rBounds_is H.out ok (by omega) (by omega) hbd) ?_ | with_reducible refine Calls.fresh (rBounds_is H.out ok (by omega) (by omega) hbd) ?_); intro x1)
  go_cut [12, 13] from 52 to 57 (fun v12 v13 wc => v12 = .int .i64 (max (u - t) A) ∧ v13 = .int .i64 (min (u - t + S.delay) B) ∧ ∃ x, wc = up w x)
  case first =>
    rcases (show (u - t < A ∧ max (u - t) A = A) ∨ (A ≤ u - t ∧ max (u - t) A = u - t) by omega) with ⟨k1, k2⟩ | ⟨k1, k2⟩
    all_goals rcases (show (B < u - t + S.delay ∧ min (u - t + S.delay) B = B) ∨ (u - t + S.delay ≤ B ∧ min (u - t + S.delay) B = u - t + S.delay) by omega) with ⟨k3, k4⟩ | ⟨k3, k4⟩
    all_goals
      have K2 := Lib.hid k2
      have K4 := Lib.hid k4
      clear k2 k4
      go_wp2_with fail
      go_meet
      exact ⟨by rw [K2.out], by rw [K4.out], _, rfl⟩
  case rest =>
    obtain ⟨rfl, rfl, x, rfl⟩ := hcut
    generalize max (u - t) A = p at *
    generalize min (u - t + S.delay) B = q at *
    have hm' : decide (p ≤ q) = false := by simp; omega
    have hod : (S.odd + 1 == S.most) = false := by simpa using ho
    clear hm
    go_wp2_with fail
    (refine wp_region_up (by kernel_rfl) (by kernel_rfl) ?_; (repeat (go_big_quiet_step (fail))); refine wpQuiet_nil ?_; intro _ hw'; obtain ⟨xq, hw''⟩ := hw'; subst hw'')
    go_wp2_with fail
    go_ret
    exact ⟨rfl, SyncAt.up (H.out.up.setOdd _), by (repeat (first | (with_reducible exact gr_refl _ _) | (with_reducible assumption) | (with_reducible refine gr_to_drew ?_) | (with_reducible refine gr_to_drewN _ ?_) | (with_reducible refine gr_to_set ?_) | (with_reducible refine gr_to_up ?_ _) | (with_reducible refine gr_to_up ?_) | (with_reducible refine gr_to_alloc ?_)))⟩
set_option maxRecDepth 100000 in
set_option maxHeartbeats 1600000 in
theorem rBeacon_clash (c : Nat) (t u : Int) (S : SyncS) (w : World) (h : SyncAt w c S) (ok : SyncOK S) (u0 : 0 ≤ u) (hb : badB S t u = false) (hk : S.known = true) (hm : ¬ max (u - t) (S.lo - byN S t) ≤ min (u - t + S.delay) (S.hi + byN S t)) (ho : S.odd + 1 = S.most) :
    Calls Try.prog 36 #[.pointer (some ⟨c, 0, none⟩), .int .i64 t, .int .u64 u] w (SyncR w c 350 (S.learn (u - t) (u - t + S.delay) t)) := by
  have H := Lib.hid h
  have z3 := h.free 3
  have z4 := h.free 4
  have z5 := h.free 5
  have z6 := h.free 6
  have z7 := h.free 7
  obtain ⟨c0, c1, c2, c3, c4, c5, c6, c7⟩ := h.cells
  haveI : LtSize c w := ⟨h.lt⟩
  have hcl := h.lt
  clear h
  have a0 := ok.a0
  have e0 := ok.d0
  have e1 := ok.d1
  have o0 := ok.o0
  have o1 := ok.o1
  have o2 := ok.m1
  obtain ⟨b1, b2, b3⟩ := bad_no hb
  have d1 : decide (t < S.at_) = false := by simp; omega
  have d2 : decide (1099511627776 < t) = false := by simp; omega
  have d3 : decide (1099511627776 < u) = false := by simp; omega
  have d4 : decide (t < 0) = false := by simp; omega
  have hu : IntKind.i64.wrap u = u := by rw [IntKind.wrap_i64]; omega
  rw [hk] at c3
  clear hb
  have hbd : boundsV S t = (S.lo - byN S t, S.hi + byN S t, true) := by simp [boundsV, hk]
  obtain ⟨A, hA⟩ : ∃ A, S.lo - byN S t = A := ⟨_, rfl⟩
  obtain ⟨B, hB⟩ : ∃ B, S.hi + byN S t = B := ⟨_, rfl⟩
  rw [hA, hB] at hbd hm
  clear hA hB
  go_enter Try.func36, Try.ntmps36
  go_upto_if 51 with (go_at_call 37; (first | with_reducible refine Calls.fold (rBounds_is H.out ok (by omega) (by omega) hbd) ?_ | with_reducible refine Calls.fresh (rBounds_is H.out ok (by omega) (by omega) hbd) ?_); intro x1)
  go_cut [12, 13] from 52 to 57 (fun v12 v13 wc => v12 = .int .i64 (max (u - t) A) ∧ v13 = .int .i64 (min (u - t + S.delay) B) ∧ ∃ x, wc = up w x)
  case first =>
    rcases (show (u - t < A ∧ max (u - t) A = A) ∨ (A ≤ u - t ∧ max (u - t) A = u - t) by omega) with ⟨k1, k2⟩ | ⟨k1, k2⟩
    all_goals rcases (show (B < u - t + S.delay ∧ min (u - t + S.delay) B = B) ∨ (u - t + S.delay ≤ B ∧ min (u - t + S.delay) B = u - t + S.delay) by omega) with ⟨k3, k4⟩ | ⟨k3, k4⟩
    all_goals
      have K2 := Lib.hid k2
      have K4 := Lib.hid k4
      clear k2 k4
      go_wp2_with fail
      go_meet
      exact ⟨by rw [K2.out], by rw [K4.out], _, rfl⟩
  case rest =>
    obtain ⟨rfl, rfl, x, rfl⟩ := hcut
    generalize max (u - t) A = p at *
    generalize min (u - t + S.delay) B = q at *
    have hm' : decide (p ≤ q) = false := by simp; omega
    clear hm
    have L := Lib.hid (H.out.up (x := x) |>.setOdd S.most)
    have hL : S.learn (u - t) (u - t + S.delay) t = SyncS.learn ⟨S.delay, S.rate, S.most, S.known, S.lo, S.hi, S.at_, S.most⟩ (u - t) (u - t + S.delay) t := rfl
    go_wp2_with fail
    (refine wp_region_up (by kernel_rfl) (by kernel_rfl) ?_; (repeat (go_big_quiet_step (fail))); refine wpQuiet_nil ?_; intro _ hw'; obtain ⟨xq, hw''⟩ := hw'; subst hw'')
    go_wp2_with fail
    go_ret
    exact ⟨rfl, hL ▸ SyncAt.learnK (SyncAt.up L.out) hk _ _ _, by (repeat (first | (with_reducible exact gr_refl _ _) | (with_reducible assumption) | (with_reducible refine gr_to_drew ?_) | (with_reducible refine gr_to_drewN _ ?_) | (with_reducible refine gr_to_set ?_) | (with_reducible refine gr_to_up ?_ _) | (with_reducible refine gr_to_up ?_) | (with_reducible refine gr_to_alloc ?_)))⟩
theorem rBeacon_any (c : Nat) (t u : Int) (S : SyncS) (w : World) (h : SyncAt w c S) (ok : SyncOK S) (u0 : 0 ≤ u) :
    Calls Try.prog 36 #[.pointer (some ⟨c, 0, none⟩), .int .i64 t, .int .u64 u] w (SyncR w c (beacE S t u) (beacS S t u)) := by
  unfold beacE beacS
  cases hb : badB S t u
  · cases hk : S.known
    · exact rBeacon_first c t u S w h ok u0 hb hk
    · cases hm : meetB S t u
      · have hf := of_decide_eq_false hm
        by_cases ho : S.odd + 1 = S.most
        · simp only [Bool.false_eq_true, if_false, if_true, if_pos ho]
          exact rBeacon_clash c t u S w h ok u0 hb hk hf ho
        · simp only [Bool.false_eq_true, if_false, if_true, if_neg ho]
          have := rBeacon_odd c t u S w h ok u0 hb hk hf ho
          rwa [hk] at this
      · exact rBeacon_fit c t u S w h ok u0 hb hk (of_decide_eq_true hm)
  · exact rBeacon_bad c t u S w h ok u0 hb
set_option maxRecDepth 100000 in
theorem rSure_any (c : Nat) (t o : Int) (S : SyncS) (w : World) (h : SyncAt w c S) (ok : SyncOK S) (t1 : -9223372036854775808 ≤ t) (t2 : t ≤ 9223372036854775807) (o2 : o ≤ 9223372036854775807) :
    Calls Try.prog 39 #[.pointer (some ⟨c, 0, none⟩), .int .i64 t, .int .i64 o] w (Gives w (.bool (sureV S t o))) := by
  have H := Lib.hid h
  haveI : LtSize c w := ⟨h.lt⟩
  clear h
  cases hk : S.known
  · have hbd : boundsV S t = (0, 0, false) := by simp [boundsV, hk]
    rw [show sureV S t o = false by simp [sureV, hk]]
    go_enter Try.func39, Try.ntmps39
    go_wp2_with (go_at_call 37; (first | with_reducible refine Calls.fold (rBounds_is H.out ok t1 t2 hbd) ?_ | with_reducible refine Calls.fresh (rBounds_is H.out ok t1 t2 hbd) ?_); intro x1)
    go_ret
    exact Gives.mk rfl (by (repeat (first | (with_reducible exact Below.refl _ _) | (with_reducible assumption) | (with_reducible refine Below.alloc ?_ (by (repeat (first | (with_reducible exact Nat.le_refl _) | (with_reducible assumption) | (with_reducible refine le_up ?_) | (with_reducible refine le_alloc ?_) | (with_reducible refine le_setCell ?_) | (with_reducible refine le_drew ?_) | (with_reducible refine le_drewN ?_) | omega))) _) | (with_reducible refine Below.drew ?_) | (with_reducible refine Below.drewN ?_ _) | (with_reducible refine Below.setCell ?_ (by (repeat (first | (with_reducible exact Nat.le_refl _) | (with_reducible assumption) | (with_reducible refine le_up ?_) | (with_reducible refine le_alloc ?_) | (with_reducible refine le_setCell ?_) | (with_reducible refine le_drew ?_) | (with_reducible refine le_drewN ?_) | omega))) _) | (with_reducible refine Below.up ?_ (by (repeat (first | (with_reducible exact Nat.le_refl _) | (with_reducible assumption) | (with_reducible refine le_up ?_) | (with_reducible refine le_alloc ?_) | (with_reducible refine le_setCell ?_) | (with_reducible refine le_drew ?_) | (with_reducible refine le_drewN ?_) | omega)))))))
  · have hbd : boundsV S t = (S.lo - byN S t, S.hi + byN S t, true) := by simp [boundsV, hk]
    by_cases ho : 0 ≤ o
    · by_cases h1 : -o ≤ S.lo - byN S t
      · rw [show sureV S t o = decide (S.hi + byN S t ≤ o) by simp [sureV, hk, ho, h1]]
        go_enter Try.func39, Try.ntmps39
        go_wp2_with (go_at_call 37; (first | with_reducible refine Calls.fold (rBounds_is H.out ok t1 t2 hbd) ?_ | with_reducible refine Calls.fresh (rBounds_is H.out ok t1 t2 hbd) ?_); intro x1)
        go_ret
        exact Gives.mk rfl (by (repeat (first | (with_reducible exact Below.refl _ _) | (with_reducible assumption) | (with_reducible refine Below.alloc ?_ (by (repeat (first | (with_reducible exact Nat.le_refl _) | (with_reducible assumption) | (with_reducible refine le_up ?_) | (with_reducible refine le_alloc ?_) | (with_reducible refine le_setCell ?_) | (with_reducible refine le_drew ?_) | (with_reducible refine le_drewN ?_) | omega))) _) | (with_reducible refine Below.drew ?_) | (with_reducible refine Below.drewN ?_ _) | (with_reducible refine Below.setCell ?_ (by (repeat (first | (with_reducible exact Nat.le_refl _) | (with_reducible assumption) | (with_reducible refine le_up ?_) | (with_reducible refine le_alloc ?_) | (with_reducible refine le_setCell ?_) | (with_reducible refine le_drew ?_) | (with_reducible refine le_drewN ?_) | omega))) _) | (with_reducible refine Below.up ?_ (by (repeat (first | (with_reducible exact Nat.le_refl _) | (with_reducible assumption) | (with_reducible refine le_up ?_) | (with_reducible refine le_alloc ?_) | (with_reducible refine le_setCell ?_) | (with_reducible refine le_drew ?_) | (with_reducible refine le_drewN ?_) | omega)))))))
      · rw [show sureV S t o = false by simp [sureV, h1]]
        have h1' : decide (-o ≤ S.lo - byN S t) = false := decide_eq_false h1
        go_enter Try.func39, Try.ntmps39
        go_wp2_with (go_at_call 37; (first | with_reducible refine Calls.fold (rBounds_is H.out ok t1 t2 hbd) ?_ | with_reducible refine Calls.fresh (rBounds_is H.out ok t1 t2 hbd) ?_); intro x1)
        go_ret
        exact Gives.mk rfl (by (repeat (first | (with_reducible exact Below.refl _ _) | (with_reducible assumption) | (with_reducible refine Below.alloc ?_ (by (repeat (first | (with_reducible exact Nat.le_refl _) | (with_reducible assumption) | (with_reducible refine le_up ?_) | (with_reducible refine le_alloc ?_) | (with_reducible refine le_setCell ?_) | (with_reducible refine le_drew ?_) | (with_reducible refine le_drewN ?_) | omega))) _) | (with_reducible refine Below.drew ?_) | (with_reducible refine Below.drewN ?_ _) | (with_reducible refine Below.setCell ?_ (by (repeat (first | (with_reducible exact Nat.le_refl _) | (with_reducible assumption) | (with_reducible refine le_up ?_) | (with_reducible refine le_alloc ?_) | (with_reducible refine le_setCell ?_) | (with_reducible refine le_drew ?_) | (with_reducible refine le_drewN ?_) | omega))) _) | (with_reducible refine Below.up ?_ (by (repeat (first | (with_reducible exact Nat.le_refl _) | (with_reducible assumption) | (with_reducible refine le_up ?_) | (with_reducible refine le_alloc ?_) | (with_reducible refine le_setCell ?_) | (with_reducible refine le_drew ?_) | (with_reducible refine le_drewN ?_) | omega)))))))
    · rw [show sureV S t o = false by simp [sureV, ho]]
      have hd : decide (0 ≤ o) = false := by simp; omega
      go_enter Try.func39, Try.ntmps39
      go_wp2_with (go_at_call 37; (first | with_reducible refine Calls.fold (rBounds_is H.out ok t1 t2 hbd) ?_ | with_reducible refine Calls.fresh (rBounds_is H.out ok t1 t2 hbd) ?_); intro x1)
      go_ret
      exact Gives.mk rfl (by (repeat (first | (with_reducible exact Below.refl _ _) | (with_reducible assumption) | (with_reducible refine Below.alloc ?_ (by (repeat (first | (with_reducible exact Nat.le_refl _) | (with_reducible assumption) | (with_reducible refine le_up ?_) | (with_reducible refine le_alloc ?_) | (with_reducible refine le_setCell ?_) | (with_reducible refine le_drew ?_) | (with_reducible refine le_drewN ?_) | omega))) _) | (with_reducible refine Below.drew ?_) | (with_reducible refine Below.drewN ?_ _) | (with_reducible refine Below.setCell ?_ (by (repeat (first | (with_reducible exact Nat.le_refl _) | (with_reducible assumption) | (with_reducible refine le_up ?_) | (with_reducible refine le_alloc ?_) | (with_reducible refine le_setCell ?_) | (with_reducible refine le_drew ?_) | (with_reducible refine le_drewN ?_) | omega))) _) | (with_reducible refine Below.up ?_ (by (repeat (first | (with_reducible exact Nat.le_refl _) | (with_reducible assumption) | (with_reducible refine le_up ?_) | (with_reducible refine le_alloc ?_) | (with_reducible refine le_setCell ?_) | (with_reducible refine le_drew ?_) | (with_reducible refine le_drewN ?_) | omega)))))))
end Go.Proofs.Ytcdhhnodfgpkiaa
