/-
  The walks over the keeper of another clock, continued: Beacon, whatever comes.
-/
import Derived.Test.YtcdhhnodfgpkiaaSyncZ
import Derived.Test.YtcdhhnodfgpkiaaGen
namespace Go.Proofs.Ytcdhhnodfgpkiaa
open Go.RowKit

theorem gr_to_up {a b x : World} {row : Option Nat} (h : a.grownBy b row) : a.grownBy (up b x) row := gr_trans h (gr_below row (up_below b x))
theorem bad_ways {S : SyncS} {t u : Int} (h : badB S t u = true) : t < S.at_ ∨ (S.at_ ≤ t ∧ 1099511627776 < t) ∨ (S.at_ ≤ t ∧ t ≤ 1099511627776 ∧ 1099511627776 < u) := by
  simp [badB] at h; omega
set_option maxRecDepth 100000 in
set_option maxHeartbeats 800000 in
theorem Beacon_bad (c : Nat) (t u : Int) (S : SyncS) (w : World) (h : SyncAt w c S) (ok : SyncOK S) (hb : badB S t u = true) :
    Calls Try.prog 27 #[.pointer (some ⟨c, 0, none⟩), .int .i64 t, .int .u64 u] w (SyncR w c 2 S) := by
  have H := Lib.hid h
  obtain ⟨c0, c1, c2, c3, c4, c5, c6, c7⟩ := h.cells
  haveI : LtSize c w := ⟨h.lt⟩
  clear h
  rcases bad_ways hb with b1 | ⟨b1, b2⟩ | ⟨b1, b2, b3⟩
  ·
    clear hb
    go_enter Try.func27, Try.ntmps27
    go_wp2
    refine wp_scope_once 0 rfl ?_
    go_wp2_with (go_at_call 50; with_reducible refine Calls.tells (sis_t c S _ H.out.alloc.alloc ok) ?_)
    go_step3
    refine ⟨rfl, ?_⟩
    go_wp2
    (try go_step3)
    go_wp2
    (try rw [Exit.noGoto_ret])
    go_ret
    exact ⟨rfl, H.out.alloc.alloc, gr_below _ (by (repeat (first | (with_reducible exact Below.refl _ _) | (with_reducible assumption) | (with_reducible refine Below.alloc ?_ (by (repeat (first | (with_reducible exact Nat.le_refl _) | (with_reducible assumption) | (with_reducible refine le_up ?_) | (with_reducible refine le_alloc ?_) | (with_reducible refine le_setCell ?_) | (with_reducible refine le_drew ?_) | (with_reducible refine le_drewN ?_) | omega))) _) | (with_reducible refine Below.drew ?_) | (with_reducible refine Below.drewN ?_ _) | (with_reducible refine Below.setCell ?_ (by (repeat (first | (with_reducible exact Nat.le_refl _) | (with_reducible assumption) | (with_reducible refine le_up ?_) | (with_reducible refine le_alloc ?_) | (with_reducible refine le_setCell ?_) | (with_reducible refine le_drew ?_) | (with_reducible refine le_drewN ?_) | omega))) _) | (with_reducible refine Below.up ?_ (by (repeat (first | (with_reducible exact Nat.le_refl _) | (with_reducible assumption) | (with_reducible refine le_up ?_) | (with_reducible refine le_alloc ?_) | (with_reducible refine le_setCell ?_) | (with_reducible refine le_drew ?_) | (with_reducible refine le_drewN ?_) | omega)))))))⟩
  · have d1 : decide (t < S.at_) = false := by simp; omega
    clear hb
    go_enter Try.func27, Try.ntmps27
    go_wp2
    refine wp_scope_once 0 rfl ?_
    go_wp2_with (go_at_call 50; with_reducible refine Calls.tells (sis_t c S _ H.out.alloc.alloc ok) ?_)
    go_step3
    refine ⟨rfl, ?_⟩
    go_wp2
    (try go_step3)
    go_wp2
    (try rw [Exit.noGoto_ret])
    go_ret
    exact ⟨rfl, H.out.alloc.alloc, gr_below _ (by (repeat (first | (with_reducible exact Below.refl _ _) | (with_reducible assumption) | (with_reducible refine Below.alloc ?_ (by (repeat (first | (with_reducible exact Nat.le_refl _) | (with_reducible assumption) | (with_reducible refine le_up ?_) | (with_reducible refine le_alloc ?_) | (with_reducible refine le_setCell ?_) | (with_reducible refine le_drew ?_) | (with_reducible refine le_drewN ?_) | omega))) _) | (with_reducible refine Below.drew ?_) | (with_reducible refine Below.drewN ?_ _) | (with_reducible refine Below.setCell ?_ (by (repeat (first | (with_reducible exact Nat.le_refl _) | (with_reducible assumption) | (with_reducible refine le_up ?_) | (with_reducible refine le_alloc ?_) | (with_reducible refine le_setCell ?_) | (with_reducible refine le_drew ?_) | (with_reducible refine le_drewN ?_) | omega))) _) | (with_reducible refine Below.up ?_ (by (repeat (first | (with_reducible exact Nat.le_refl _) | (with_reducible assumption) | (with_reducible refine le_up ?_) | (with_reducible refine le_alloc ?_) | (with_reducible refine le_setCell ?_) | (with_reducible refine le_drew ?_) | (with_reducible refine le_drewN ?_) | omega)))))))⟩
  · have d1 : decide (t < S.at_) = false := by simp; omega
    have d2 : decide (1099511627776 < t) = false := by simp; omega
    clear hb
    go_enter Try.func27, Try.ntmps27
    go_wp2
    refine wp_scope_once 0 rfl ?_
    go_wp2_with (go_at_call 50; with_reducible refine Calls.tells (sis_t c S _ H.out.alloc.alloc ok) ?_)
    go_step3
    refine ⟨rfl, ?_⟩
    go_wp2
    (try go_step3)
    go_wp2
    (try rw [Exit.noGoto_ret])
    go_ret
    exact ⟨rfl, H.out.alloc.alloc, gr_below _ (by (repeat (first | (with_reducible exact Below.refl _ _) | (with_reducible assumption) | (with_reducible refine Below.alloc ?_ (by (repeat (first | (with_reducible exact Nat.le_refl _) | (with_reducible assumption) | (with_reducible refine le_up ?_) | (with_reducible refine le_alloc ?_) | (with_reducible refine le_setCell ?_) | (with_reducible refine le_drew ?_) | (with_reducible refine le_drewN ?_) | omega))) _) | (with_reducible refine Below.drew ?_) | (with_reducible refine Below.drewN ?_ _) | (with_reducible refine Below.setCell ?_ (by (repeat (first | (with_reducible exact Nat.le_refl _) | (with_reducible assumption) | (with_reducible refine le_up ?_) | (with_reducible refine le_alloc ?_) | (with_reducible refine le_setCell ?_) | (with_reducible refine le_drew ?_) | (with_reducible refine le_drewN ?_) | omega))) _) | (with_reducible refine Below.up ?_ (by (repeat (first | (with_reducible exact Nat.le_refl _) | (with_reducible assumption) | (with_reducible refine le_up ?_) | (with_reducible refine le_alloc ?_) | (with_reducible refine le_setCell ?_) | (with_reducible refine le_drew ?_) | (with_reducible refine le_drewN ?_) | omega)))))))⟩
set_option maxRecDepth 100000 in
set_option maxHeartbeats 800000 in
theorem Beacon_odd (c : Nat) (t u : Int) (S : SyncS) (w : World) (h : SyncAt w c S) (ok : SyncOK S) (u0 : 0 ≤ u) (hb : badB S t u = false) (hk : S.known = true) (hf : max (u - t) (S.lo - byN S t) ≤ min (u - t + S.delay) (S.hi + byN S t) → False) (ho : S.odd + 1 ≠ S.most) :
    Calls Try.prog 27 #[.pointer (some ⟨c, 0, none⟩), .int .i64 t, .int .u64 u] w (SyncR w c 350 ⟨S.delay, S.rate, S.most, S.known, S.lo, S.hi, S.at_, S.odd + 1⟩) := by
  have H := Lib.hid h
  have h7 := h.free 7
  obtain ⟨c0, c1, c2, c3, c4, c5, c6, c7⟩ := h.cells
  haveI : LtSize c w := ⟨h.lt⟩
  have hcl := h.lt
  have hne : ¬ c = w.heap.size := by omega
  have hne' : ¬ w.heap.size = c := by omega
  have hne2 : ¬ c = w.heap.size + 1 := by omega
  have hne2' : ¬ w.heap.size + 1 = c := by omega
  clear h
  obtain ⟨b1, b2, b3⟩ := bad_no hb
  have d1 : decide (t < S.at_) = false := by simp; omega
  have d2 : decide (1099511627776 < t) = false := by simp; omega
  have d3 : decide (1099511627776 < u) = false := by simp; omega
  have a0 := ok.a0
  have e0 := ok.d0
  have e1 := ok.d1
  have hu : IntKind.i64.wrap u = u := by rw [IntKind.wrap_i64]; omega
  rw [hk] at c3
  have hfd : decide (max (u - t) (S.lo - byN S t) ≤ min (u - t + S.delay) (S.hi + byN S t)) = false := decide_eq_false hf
  have z7 := h7
  have o0 := ok.o0
  have o1 := ok.o1
  have o2 := ok.m1
  have hod : (S.odd + 1 == S.most) = false := by simpa using ho
  clear hb
  go_enter Try.func27, Try.ntmps27
  go_wp2
  refine wp_scope_once 0 rfl ?_
  go_wp2_with (go_at_call 50; with_reducible refine Calls.tells (sis_t c S _ H.out.alloc.alloc ok) ?_)
  (refine wp_region_tail 8 (by kernel_rfl) (by kernel_rfl) ?_; simp only [List.take_succ_cons, List.take_zero, List.drop_succ_cons, List.drop_zero]; still_step; still_step; still_step; still_step; still_step; still_step; still_step; still_step; (with_reducible refine wpStill_nil ?_))
  go_wp2_with fail
  go_region_held (fun W => W.cell? ⟨w.heap.size, 0, none⟩ = some (.int .i64 (u - t)) ∧ W.cell? ⟨w.heap.size, 1, none⟩ = some (.int .i64 (u - t + S.delay)))
    (first | exact ⟨by simp, by simp⟩ | exact ⟨by go_simp, by go_simp⟩)
    (first | (go_at_call 51; refine (span_any c t S _ H.out.alloc.alloc.drew.drew ok (by omega) (by omega)).mono ?_; rintro e w6 ⟨rfl, x, rfl⟩) | (go_at_call 52; refine (both_any _ _ _ _ _).mono ?_; rintro e w7 ⟨rfl, x2, rfl⟩))
  go_upto_region 16 with fail
  refine wp_gen (fun W => Below w.heap.size w W ∧ W.cell? ⟨w.heap.size, 0, none⟩ = some (.int .i64 (u - t)) ∧ W.cell? ⟨w.heap.size, 1, none⟩ = some (.int .i64 (u - t + S.delay))) ⟨by (repeat (first | (with_reducible exact Below.refl _ _) | (with_reducible assumption) | (with_reducible refine Below.alloc ?_ (by (repeat (first | (with_reducible exact Nat.le_refl _) | (with_reducible assumption) | (with_reducible refine le_blk ?_) | (with_reducible refine le_up ?_) | (with_reducible refine le_alloc ?_) | (with_reducible refine le_setCell ?_) | (with_reducible refine le_drew ?_) | (with_reducible refine le_drewN ?_) | (with_reducible refine le_add1 ?_)))) _) | (with_reducible refine Below.drew ?_) | (with_reducible refine Below.drewN ?_ _) | (with_reducible refine Below.setCell ?_ (by (repeat (first | (with_reducible exact Nat.le_refl _) | (with_reducible assumption) | (with_reducible refine le_blk ?_) | (with_reducible refine le_up ?_) | (with_reducible refine le_alloc ?_) | (with_reducible refine le_setCell ?_) | (with_reducible refine le_drew ?_) | (with_reducible refine le_drewN ?_) | (with_reducible refine le_add1 ?_)))) _) | (with_reducible refine Below.up ?_ (by (repeat (first | (with_reducible exact Nat.le_refl _) | (with_reducible assumption) | (with_reducible refine le_blk ?_) | (with_reducible refine le_up ?_) | (with_reducible refine le_alloc ?_) | (with_reducible refine le_setCell ?_) | (with_reducible refine le_drew ?_) | (with_reducible refine le_drewN ?_) | (with_reducible refine le_add1 ?_))))))), by go_simp, by go_simp⟩ ?_
  rintro w5 ⟨hb5, p0, p1⟩
  have h5 := H.out.below hb5 hcl
  clear c0 c1 c2 c3 c4 c5 c6 c7 h7 z7
  obtain ⟨c0, c1, c2, c3, c4, c5, c6, c7⟩ := h5.cells
  have z7 := h5.free 7
  haveI : LtSize c w5 := ⟨h5.lt⟩
  haveI : LtSize w.heap.size w5 := ⟨World.block_lt_of_cell? w5 ⟨w.heap.size, 0, none⟩ p0⟩
  have H5 := Lib.hid h5
  have hg5 : w.grownBy w5 (some c) := gr_below _ hb5
  have HB5 := Lib.hid hb5
  have hsz5 := hb5.size
  clear h5 hb5
  go_wp2_with fail
  (refine wp_region_up (by kernel_rfl) (by kernel_rfl) ?_; (repeat (go_big_quiet_step (fail))); refine wpQuiet_nil ?_; intro _ hw'; obtain ⟨xq, hw''⟩ := hw'; subst hw'')
  go_wp2_with fail
  go_step3
  go_wp2
  (try rw [Exit.noGoto_ret])
  go_ret
  exact ⟨rfl, SyncAt.up (SyncAt.setOdd H5.out (S.odd + 1)), gr_to_up (gr_to_set hg5)⟩
set_option maxRecDepth 100000 in
set_option maxHeartbeats 800000 in
theorem Beacon_clash (c : Nat) (t u : Int) (S : SyncS) (w : World) (h : SyncAt w c S) (ok : SyncOK S) (u0 : 0 ≤ u) (hb : badB S t u = false) (hk : S.known = true) (hf : max (u - t) (S.lo - byN S t) ≤ min (u - t + S.delay) (S.hi + byN S t) → False) (ho : S.odd + 1 = S.most) :
    Calls Try.prog 27 #[.pointer (some ⟨c, 0, none⟩), .int .i64 t, .int .u64 u] w (SyncR w c 350 (S.learn (u - t) (u - t + S.delay) t)) := by
  have H := Lib.hid h
  have h7 := h.free 7
  obtain ⟨c0, c1, c2, c3, c4, c5, c6, c7⟩ := h.cells
  haveI : LtSize c w := ⟨h.lt⟩
  have hcl := h.lt
  have hne : ¬ c = w.heap.size := by omega
  have hne' : ¬ w.heap.size = c := by omega
  have hne2 : ¬ c = w.heap.size + 1 := by omega
  have hne2' : ¬ w.heap.size + 1 = c := by omega
  clear h
  obtain ⟨b1, b2, b3⟩ := bad_no hb
  have d1 : decide (t < S.at_) = false := by simp; omega
  have d2 : decide (1099511627776 < t) = false := by simp; omega
  have d3 : decide (1099511627776 < u) = false := by simp; omega
  have a0 := ok.a0
  have e0 := ok.d0
  have e1 := ok.d1
  have hu : IntKind.i64.wrap u = u := by rw [IntKind.wrap_i64]; omega
  rw [hk] at c3
  have hfd : decide (max (u - t) (S.lo - byN S t) ≤ min (u - t + S.delay) (S.hi + byN S t)) = false := decide_eq_false hf
  have z7 := h7
  have o0 := ok.o0
  have o1 := ok.o1
  have o2 := ok.m1
  clear hb
  go_enter Try.func27, Try.ntmps27
  go_wp2
  refine wp_scope_once 0 rfl ?_
  go_wp2_with (go_at_call 50; with_reducible refine Calls.tells (sis_t c S _ H.out.alloc.alloc ok) ?_)
  (refine wp_region_tail 8 (by kernel_rfl) (by kernel_rfl) ?_; simp only [List.take_succ_cons, List.take_zero, List.drop_succ_cons, List.drop_zero]; still_step; still_step; still_step; still_step; still_step; still_step; still_step; still_step; (with_reducible refine wpStill_nil ?_))
  go_wp2_with fail
  go_region_held (fun W => W.cell? ⟨w.heap.size, 0, none⟩ = some (.int .i64 (u - t)) ∧ W.cell? ⟨w.heap.size, 1, none⟩ = some (.int .i64 (u - t + S.delay)))
    (first | exact ⟨by simp, by simp⟩ | exact ⟨by go_simp, by go_simp⟩)
    (first | (go_at_call 51; refine (span_any c t S _ H.out.alloc.alloc.drew.drew ok (by omega) (by omega)).mono ?_; rintro e w6 ⟨rfl, x, rfl⟩) | (go_at_call 52; refine (both_any _ _ _ _ _).mono ?_; rintro e w7 ⟨rfl, x2, rfl⟩))
  go_upto_region 16 with fail
  refine wp_gen (fun W => Below w.heap.size w W ∧ W.cell? ⟨w.heap.size, 0, none⟩ = some (.int .i64 (u - t)) ∧ W.cell? ⟨w.heap.size, 1, none⟩ = some (.int .i64 (u - t + S.delay))) ⟨by (repeat (first | (with_reducible exact Below.refl _ _) | (with_reducible assumption) | (with_reducible refine Below.alloc ?_ (by (repeat (first | (with_reducible exact Nat.le_refl _) | (with_reducible assumption) | (with_reducible refine le_blk ?_) | (with_reducible refine le_up ?_) | (with_reducible refine le_alloc ?_) | (with_reducible refine le_setCell ?_) | (with_reducible refine le_drew ?_) | (with_reducible refine le_drewN ?_) | (with_reducible refine le_add1 ?_)))) _) | (with_reducible refine Below.drew ?_) | (with_reducible refine Below.drewN ?_ _) | (with_reducible refine Below.setCell ?_ (by (repeat (first | (with_reducible exact Nat.le_refl _) | (with_reducible assumption) | (with_reducible refine le_blk ?_) | (with_reducible refine le_up ?_) | (with_reducible refine le_alloc ?_) | (with_reducible refine le_setCell ?_) | (with_reducible refine le_drew ?_) | (with_reducible refine le_drewN ?_) | (with_reducible refine le_add1 ?_)))) _) | (with_reducible refine Below.up ?_ (by (repeat (first | (with_reducible exact Nat.le_refl _) | (with_reducible assumption) | (with_reducible refine le_blk ?_) | (with_reducible refine le_up ?_) | (with_reducible refine le_alloc ?_) | (with_reducible refine le_setCell ?_) | (with_reducible refine le_drew ?_) | (with_reducible refine le_drewN ?_) | (with_reducible refine le_add1 ?_))))))), by go_simp, by go_simp⟩ ?_
  rintro w5 ⟨hb5, p0, p1⟩
  have h5 := H.out.below hb5 hcl
  clear c0 c1 c2 c3 c4 c5 c6 c7 h7 z7
  obtain ⟨c0, c1, c2, c3, c4, c5, c6, c7⟩ := h5.cells
  have z7 := h5.free 7
  haveI : LtSize c w5 := ⟨h5.lt⟩
  haveI : LtSize w.heap.size w5 := ⟨World.block_lt_of_cell? w5 ⟨w.heap.size, 0, none⟩ p0⟩
  have H5 := Lib.hid h5
  have hg5 : w.grownBy w5 (some c) := gr_below _ hb5
  have HB5 := Lib.hid hb5
  have hsz5 := hb5.size
  clear h5 hb5
  go_wp2_with fail
  (refine wp_region_up (by kernel_rfl) (by kernel_rfl) ?_; (repeat (go_big_quiet_step (fail))); refine wpQuiet_nil ?_; intro _ hw'; obtain ⟨xq, hw''⟩ := hw'; subst hw'')
  go_wp2_with fail
  refine (learn_any c (u - t) (u - t + S.delay) t ⟨S.delay, S.rate, S.most, S.known, S.lo, S.hi, S.at_, S.odd + 1⟩ (up (w5.setCell ⟨c, 7, none⟩ (.int .i64 S.most)) xq) (by rw [ho]; exact SyncAt.up (SyncAt.setOdd H5.out S.most))).mono ?_
  rintro e w5 ⟨rfl, hs, hg⟩
  have HS := Lib.hid hs
  have HG := Lib.hid hg
  clear hs hg
  go_wp2_with fail
  go_step3
  go_wp2
  (try rw [Exit.noGoto_ret])
  go_ret
  refine ⟨rfl, HS.out, gr_trans ?_ HG.out⟩
  exact gr_to_up (gr_to_set hg5)
end Go.Proofs.Ytcdhhnodfgpkiaa
