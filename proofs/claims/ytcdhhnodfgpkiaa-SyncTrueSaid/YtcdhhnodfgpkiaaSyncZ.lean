/-
  The walks over the keeper of another clock, continued: Beacon, where it fits.
-/
import Derived.Test.YtcdhhnodfgpkiaaSyncY
namespace Go.Proofs.Ytcdhhnodfgpkiaa
open Go.RowKit

theorem le_blk {B n o : Nat} (h : B ≤ n) : B ≤ (Addr.mk n o none).block := h
theorem le_add1 {B n k : Nat} (h : B ≤ n) : B ≤ n + k := Nat.le_trans h (Nat.le_add_right n k)
def badB (S : SyncS) (t u : Int) : Bool := decide (t < S.at_ ∨ 1099511627776 < t ∨ 1099511627776 < u)
def SyncR (w : World) (c : Nat) (code : Int) (S : SyncS) (e : Ending) (w' : World) : Prop := e = .returned (.int .i64 code) ∧ SyncAt w' c S ∧ w.grownBy w' (some c)
theorem bad_no {S : SyncS} {t u : Int} (h : badB S t u = false) : S.at_ ≤ t ∧ t ≤ 1099511627776 ∧ u ≤ 1099511627776 := by
  simp [badB] at h; omega

set_option maxRecDepth 100000 in
set_option maxHeartbeats 800000 in
theorem Beacon_first (c : Nat) (t u : Int) (S : SyncS) (w : World) (h : SyncAt w c S) (ok : SyncOK S) (u0 : 0 ≤ u) (hb : badB S t u = false) (hk : S.known = false) :
    Calls Try.prog 27 #[.pointer (some ⟨c, 0, none⟩), .int .i64 t, .int .u64 u] w (SyncR w c 0 (S.learn (u - t) (u - t + S.delay) t)) := by
  have H := Lib.hid h
  obtain ⟨c0, c1, c2, c3, c4, c5, c6, c7⟩ := h.cells
  haveI : LtSize c w := ⟨h.lt⟩
  have hcl := h.lt
  have hne : ¬ c = w.heap.size := by omega
  have hne' : ¬ w.heap.size = c := by omega
  have hne2 : ¬ c = w.heap.size + 1 := by omega
  have hne2' : ¬ w.heap.size + 1 = c := by omega
  clear h
  obtain ⟨b1, b2, b3⟩ := bad_no hb
  have d1 : decide (t < S.at_) = false := by simp; omega
  have d2 : decide (1099511627776 < t) = false := by simp; omega
  have d3 : decide (1099511627776 < u) = false := by simp; omega
  have a0 := ok.a0
  have e0 := ok.d0
  have e1 := ok.d1
  have hu : IntKind.i64.wrap u = u := by rw [IntKind.wrap_i64]; omega
  rw [hk] at c3
  clear hb
  go_enter Try.func27, Try.ntmps27
  go_wp2
  refine wp_scope_once 0 rfl ?_
  go_wp2_with (go_at_call 50; with_reducible refine Calls.tells (sis_t c S _ H.out.alloc.alloc ok) ?_)
  (refine wp_region_tail 8 (by kernel_rfl) (by kernel_rfl) ?_; simp only [List.take_succ_cons, List.take_zero, List.drop_succ_cons, List.drop_zero]; still_step; still_step; still_step; still_step; still_step; still_step; still_step; still_step; (with_reducible refine wpStill_nil ?_))
  go_wp2_with fail
  refine (learn_any c (u - t) (u - t + S.delay) t S _ (H.out.below (B := w.heap.size) (by (repeat (first | (with_reducible exact Below.refl _ _) | (with_reducible assumption) | (with_reducible refine Below.alloc ?_ (by (repeat (first | (with_reducible exact Nat.le_refl _) | (with_reducible assumption) | (with_reducible refine le_up ?_) | (with_reducible refine le_alloc ?_) | (with_reducible refine le_setCell ?_) | (with_reducible refine le_drew ?_) | (with_reducible refine le_drewN ?_) | omega))) _) | (with_reducible refine Below.drew ?_) | (with_reducible refine Below.drewN ?_ _) | (with_reducible refine Below.setCell ?_ (by (repeat (first | (with_reducible exact Nat.le_refl _) | (with_reducible assumption) | (with_reducible refine le_up ?_) | (with_reducible refine le_alloc ?_) | (with_reducible refine le_setCell ?_) | (with_reducible refine le_drew ?_) | (with_reducible refine le_drewN ?_) | omega))) _) | (with_reducible refine Below.up ?_ (by (repeat (first | (with_reducible exact Nat.le_refl _) | (with_reducible assumption) | (with_reducible refine le_up ?_) | (with_reducible refine le_alloc ?_) | (with_reducible refine le_setCell ?_) | (with_reducible refine le_drew ?_) | (with_reducible refine le_drewN ?_) | omega))))))) hcl)).mono ?_
  rintro e w5 ⟨rfl, hs, hg⟩
  have HS := Lib.hid hs
  have HG := Lib.hid hg
  clear hs hg
  go_wp2_with fail
  (try rw [Exit.noGoto_ret])
  go_ret
  exact ⟨rfl, HS.out, gr_trans (gr_below _ (by (repeat (first | (with_reducible exact Below.refl _ _) | (with_reducible assumption) | (with_reducible refine Below.alloc ?_ (by (repeat (first | (with_reducible exact Nat.le_refl _) | (with_reducible assumption) | (with_reducible refine le_up ?_) | (with_reducible refine le_alloc ?_) | (with_reducible refine le_setCell ?_) | (with_reducible refine le_drew ?_) | (with_reducible refine le_drewN ?_) | omega))) _) | (with_reducible refine Below.drew ?_) | (with_reducible refine Below.drewN ?_ _) | (with_reducible refine Below.setCell ?_ (by (repeat (first | (with_reducible exact Nat.le_refl _) | (with_reducible assumption) | (with_reducible refine le_up ?_) | (with_reducible refine le_alloc ?_) | (with_reducible refine le_setCell ?_) | (with_reducible refine le_drew ?_) | (with_reducible refine le_drewN ?_) | omega))) _) | (with_reducible refine Below.up ?_ (by (repeat (first | (with_reducible exact Nat.le_refl _) | (with_reducible assumption) | (with_reducible refine le_up ?_) | (with_reducible refine le_alloc ?_) | (with_reducible refine le_setCell ?_) | (with_reducible refine le_drew ?_) | (with_reducible refine le_drewN ?_) | omega)))))))) HG.out⟩
set_option maxRecDepth 100000 in
set_option maxHeartbeats 800000 in
theorem Beacon_fit (c : Nat) (t u : Int) (S : SyncS) (w : World) (h : SyncAt w c S) (ok : SyncOK S) (u0 : 0 ≤ u) (hb : badB S t u = false) (hk : S.known = true) (hf : max (u - t) (S.lo - byN S t) ≤ min (u - t + S.delay) (S.hi + byN S t)) :
    Calls Try.prog 27 #[.pointer (some ⟨c, 0, none⟩), .int .i64 t, .int .u64 u] w (SyncR w c 0 (S.learn (max (u - t) (S.lo - byN S t)) (min (u - t + S.delay) (S.hi + byN S t)) t)) := by
  have H := Lib.hid h
  obtain ⟨c0, c1, c2, c3, c4, c5, c6, c7⟩ := h.cells
  haveI : LtSize c w := ⟨h.lt⟩
  have hcl := h.lt
  have hne : ¬ c = w.heap.size := by omega
  have hne' : ¬ w.heap.size = c := by omega
  have hne2 : ¬ c = w.heap.size + 1 := by omega
  have hne2' : ¬ w.heap.size + 1 = c := by omega
  clear h
  obtain ⟨b1, b2, b3⟩ := bad_no hb
  have d1 : decide (t < S.at_) = false := by simp; omega
  have d2 : decide (1099511627776 < t) = false := by simp; omega
  have d3 : decide (1099511627776 < u) = false := by simp; omega
  have a0 := ok.a0
  have e0 := ok.d0
  have e1 := ok.d1
  have hu : IntKind.i64.wrap u = u := by rw [IntKind.wrap_i64]; omega
  rw [hk] at c3
  have hfd : decide (max (u - t) (S.lo - byN S t) ≤ min (u - t + S.delay) (S.hi + byN S t)) = true := decide_eq_true hf
  clear hb
  go_enter Try.func27, Try.ntmps27
  go_wp2
  refine wp_scope_once 0 rfl ?_
  go_wp2_with (go_at_call 50; with_reducible refine Calls.tells (sis_t c S _ H.out.alloc.alloc ok) ?_)
  (refine wp_region_tail 8 (by kernel_rfl) (by kernel_rfl) ?_; simp only [List.take_succ_cons, List.take_zero, List.drop_succ_cons, List.drop_zero]; still_step; still_step; still_step; still_step; still_step; still_step; still_step; still_step; (with_reducible refine wpStill_nil ?_))
  go_wp2_with fail
  go_region_held (fun W => W.cell? ⟨w.heap.size, 0, none⟩ = some (.int .i64 (u - t)) ∧ W.cell? ⟨w.heap.size, 1, none⟩ = some (.int .i64 (u - t + S.delay)))
    (first | exact ⟨by simp, by simp⟩ | exact ⟨by go_simp, by go_simp⟩)
    (first | (go_at_call 51; refine (span_any c t S _ H.out.alloc.alloc.drew.drew ok (by omega) (by omega)).mono ?_; rintro e w6 ⟨rfl, x, rfl⟩) | (go_at_call 52; refine (both_any _ _ _ _ _).mono ?_; rintro e w7 ⟨rfl, x2, rfl⟩))
  go_wp2_with fail
  refine (learn_any c (max (u - t) (S.lo - byN S t)) (min (u - t + S.delay) (S.hi + byN S t)) t S _ (H.out.below (B := w.heap.size) (by (repeat (first | (with_reducible exact Below.refl _ _) | (with_reducible assumption) | (with_reducible refine Below.alloc ?_ (by (repeat (first | (with_reducible exact Nat.le_refl _) | (with_reducible assumption) | (with_reducible refine le_blk ?_) | (with_reducible refine le_up ?_) | (with_reducible refine le_alloc ?_) | (with_reducible refine le_setCell ?_) | (with_reducible refine le_drew ?_) | (with_reducible refine le_drewN ?_) | (with_reducible refine le_add1 ?_)))) _) | (with_reducible refine Below.drew ?_) | (with_reducible refine Below.drewN ?_ _) | (with_reducible refine Below.setCell ?_ (by (repeat (first | (with_reducible exact Nat.le_refl _) | (with_reducible assumption) | (with_reducible refine le_blk ?_) | (with_reducible refine le_up ?_) | (with_reducible refine le_alloc ?_) | (with_reducible refine le_setCell ?_) | (with_reducible refine le_drew ?_) | (with_reducible refine le_drewN ?_) | (with_reducible refine le_add1 ?_)))) _) | (with_reducible refine Below.up ?_ (by (repeat (first | (with_reducible exact Nat.le_refl _) | (with_reducible assumption) | (with_reducible refine le_blk ?_) | (with_reducible refine le_up ?_) | (with_reducible refine le_alloc ?_) | (with_reducible refine le_setCell ?_) | (with_reducible refine le_drew ?_) | (with_reducible refine le_drewN ?_) | (with_reducible refine le_add1 ?_)))))))) hcl)).mono ?_
  rintro e w5 ⟨rfl, hs, hg⟩
  have HS := Lib.hid hs
  have HG := Lib.hid hg
  clear hs hg
  go_wp2_with fail
  (try rw [Exit.noGoto_ret])
  go_ret
  exact ⟨rfl, HS.out, gr_trans (gr_below _ (by (repeat (first | (with_reducible exact Below.refl _ _) | (with_reducible assumption) | (with_reducible refine Below.alloc ?_ (by (repeat (first | (with_reducible exact Nat.le_refl _) | (with_reducible assumption) | (with_reducible refine le_blk ?_) | (with_reducible refine le_up ?_) | (with_reducible refine le_alloc ?_) | (with_reducible refine le_setCell ?_) | (with_reducible refine le_drew ?_) | (with_reducible refine le_drewN ?_) | (with_reducible refine le_add1 ?_)))) _) | (with_reducible refine Below.drew ?_) | (with_reducible refine Below.drewN ?_ _) | (with_reducible refine Below.setCell ?_ (by (repeat (first | (with_reducible exact Nat.le_refl _) | (with_reducible assumption) | (with_reducible refine le_blk ?_) | (with_reducible refine le_up ?_) | (with_reducible refine le_alloc ?_) | (with_reducible refine le_setCell ?_) | (with_reducible refine le_drew ?_) | (with_reducible refine le_drewN ?_) | (with_reducible refine le_add1 ?_)))) _) | (with_reducible refine Below.up ?_ (by (repeat (first | (with_reducible exact Nat.le_refl _) | (with_reducible assumption) | (with_reducible refine le_blk ?_) | (with_reducible refine le_up ?_) | (with_reducible refine le_alloc ?_) | (with_reducible refine le_setCell ?_) | (with_reducible refine le_drew ?_) | (with_reducible refine le_drewN ?_) | (with_reducible refine le_add1 ?_))))))))) HG.out⟩
end Go.Proofs.Ytcdhhnodfgpkiaa
