/-
  The walks over the keeper of another clock.
-/
import Derived.Test.YtcdhhnodfgpkiaaSyncP
import Derived.Deep.CutRange
namespace Go.Proofs.Ytcdhhnodfgpkiaa
open Go.RowKit

theorem sis_t (c : Nat) (S : SyncS) (w : World) (h : SyncAt w c S) (ok : SyncOK S) :
    Calls Try.prog 50 #[.pointer (some ⟨c, 0, none⟩)] w (Tells w (.bool true)) := by
  have c2 := h.cells.2.2.1
  have hm := ok.m0
  have hm' : decide (0 < S.most) = true := by simp; omega
  clear h
  go_enter Try.func50, Try.ntmps50
  go_wp2
  go_ret
  exact Tells.mk rfl
theorem sis_nil (w : World) : Calls Try.prog 50 #[.pointer none] w (Tells w (.bool false)) := by
  go_enter Try.func50, Try.ntmps50
  go_wp2
  go_ret
  exact Tells.mk rfl
theorem sis_void (c : Nat) (w : World) (hc : w.cell? ⟨c, 2, none⟩ = some (.int .i64 0)) : Calls Try.prog 50 #[.pointer (some ⟨c, 0, none⟩)] w (Tells w (.bool false)) := by
  go_enter Try.func50, Try.ntmps50
  go_wp2
  go_ret
  exact Tells.mk rfl
theorem wider_any (a b n : Int) (w : World) (h1 : -4611686018427387904 ≤ a) (h2 : a ≤ 4611686018427387904) (h3 : -4611686018427387904 ≤ b) (h4 : b ≤ 4611686018427387904) (h5 : 0 ≤ n) (h6 : n ≤ 1099511627776) :
    Calls Try.prog 60 #[.agg #[.int .i64 a, .int .i64 b], .int .i64 n] w (Gives w (.agg #[.int .i64 (a - n), .int .i64 (b + n)])) := by
  go_enter Try.func60, Try.ntmps60
  go_wp2
  (try simp only [Exit.inBlock, Exit.then])
  refine bodyPost_ret (v := .agg #[.int .i64 (a - n), .int .i64 (b + n)]) ?_ rfl (Gives.mk rfl (by (repeat (first | (with_reducible exact Below.refl _ _) | (with_reducible assumption) | (with_reducible refine Below.alloc ?_ (by (repeat (first | (with_reducible exact Nat.le_refl _) | (with_reducible assumption) | (with_reducible refine le_up ?_) | (with_reducible refine le_alloc ?_) | (with_reducible refine le_setCell ?_) | (with_reducible refine le_drew ?_) | (with_reducible refine le_drewN ?_) | omega))) _) | (with_reducible refine Below.drew ?_) | (with_reducible refine Below.drewN ?_ _) | (with_reducible refine Below.setCell ?_ (by (repeat (first | (with_reducible exact Nat.le_refl _) | (with_reducible assumption) | (with_reducible refine le_up ?_) | (with_reducible refine le_alloc ?_) | (with_reducible refine le_setCell ?_) | (with_reducible refine le_drew ?_) | (with_reducible refine le_drewN ?_) | omega))) _) | (with_reducible refine Below.up ?_ (by (repeat (first | (with_reducible exact Nat.le_refl _) | (with_reducible assumption) | (with_reducible refine le_up ?_) | (with_reducible refine le_alloc ?_) | (with_reducible refine le_setCell ?_) | (with_reducible refine le_drew ?_) | (with_reducible refine le_drewN ?_) | omega))))))))
  (simp only [results, show Try.f60.results = #[ResultVar.cell 4 85] from rfl]; go_simp)

theorem wider_is {a b m n : Int} {w : World} (e : m = n) (h1 : -4611686018427387904 ≤ a) (h2 : a ≤ 4611686018427387904) (h3 : -4611686018427387904 ≤ b) (h4 : b ≤ 4611686018427387904) (h5 : 0 ≤ n) (h6 : n ≤ 1099511627776) :
    Calls Try.prog 60 #[.agg #[.int .i64 a, .int .i64 b], .int .i64 m] w (Gives w (.agg #[.int .i64 (a - n), .int .i64 (b + n)])) := by rw [e]; exact wider_any a b n w h1 h2 h3 h4 h5 h6
set_option maxRecDepth 100000 in
theorem span_any (c : Nat) (t : Int) (S : SyncS) (w : World) (h : SyncAt w c S) (ok : SyncOK S) (t1 : -9223372036854775808 ≤ t) (t2 : t ≤ 9223372036854775807) :
    Calls Try.prog 51 #[.pointer (some ⟨c, 0, none⟩), .int .i64 t] w (Gives w (.agg #[.int .i64 (S.lo - byN S t), .int .i64 (S.hi + byN S t)])) := by
  obtain ⟨c0, c1, c2, c3, c4, c5, c6, c7⟩ := h.cells
  haveI : LtSize c w := ⟨h.lt⟩
  have hne : ¬ c = w.heap.size := by have := h.lt; omega
  have a0 := ok.a0
  have a1 := ok.a1
  obtain ⟨m1, m2⟩ := mul_bd ok t
  obtain ⟨n1, n2⟩ := by_bd ok t
  have l0 := ok.l0
  have l1 := ok.lh
  have l2 := ok.h1
  clear h ok
  go_enter Try.func51, Try.ntmps51
  go_upto_region 1 with fail
  go_cut [5] from 6 to 17 (fun v5 wc => v5 = .int .i64 (goneN S t) ∧ ∃ x, wc = up (w.alloc (Obj.cells #[.int .i64 0, .int .i64 0] 85)) x)
  case first =>
    by_cases ht : t < S.at_
    · have hg : goneN S t = 0 := if_pos ht
      (refine wp_region_up (by kernel_rfl) (by kernel_rfl) ?_; (repeat (go_big_quiet_step (fail))); refine wpQuiet_nil ?_; intro _ hw'; obtain ⟨xq, hw''⟩ := hw'; subst hw'')
      go_wp2_with fail
      go_meet
      exact ⟨by rw [hg], xq, rfl⟩
    · by_cases ht2 : t ≤ 1099511627776
      · have hg : goneN S t = t - S.at_ := by unfold goneN; rw [if_neg ht, if_pos ht2]
        (refine wp_region_up (by kernel_rfl) (by kernel_rfl) ?_; (repeat (go_big_quiet_step (fail))); refine wpQuiet_nil ?_; intro _ hw'; obtain ⟨xq, hw''⟩ := hw'; subst hw'')
        go_wp2_with fail
        go_meet
        exact ⟨by rw [hg], xq, rfl⟩
      · have hg : goneN S t = 1099511627776 - S.at_ := by unfold goneN; rw [if_neg ht, if_neg ht2]
        (refine wp_region_up (by kernel_rfl) (by kernel_rfl) ?_; (repeat (go_big_quiet_step (fail))); refine wpQuiet_nil ?_; intro _ hw'; obtain ⟨xq, hw''⟩ := hw'; subst hw'')
        go_wp2_with fail
        go_meet
        exact ⟨by rw [hg], xq, rfl⟩
  case rest =>
    obtain ⟨rfl, x, rfl⟩ := hcut
    have hby : (goneN S t * S.rate + 1048576 - 1) / 1048576 = byN S t := by unfold byN; congr 1; omega
    generalize goneN S t = n at *
    go_upto_region 2 with fail
    (refine wp_region_tail 13 (by kernel_rfl) (by kernel_rfl) ?_; simp only [List.take_succ_cons, List.take_zero, List.drop_succ_cons, List.drop_zero]; still_step; still_step; still_step; still_step; still_step; still_step; still_step; still_step; still_step; still_step; still_step; still_step; still_step; (with_reducible refine wpStill_nil ?_))
    go_wp2_with (go_at_call 60; (first | with_reducible refine Calls.fold (wider_is hby (by omega) (by omega) (by omega) (by omega) n1 n2) ?_ | with_reducible refine Calls.fresh (wider_is hby (by omega) (by omega) (by omega) (by omega) n1 n2) ?_); intro x1)
    (try simp only [Exit.inBlock, Exit.then])
    refine bodyPost_ret (v := .agg #[.int .i64 (S.lo - byN S t), .int .i64 (S.hi + byN S t)]) ?_ rfl (Gives.mk rfl (by (repeat (first | (with_reducible exact Below.refl _ _) | (with_reducible assumption) | (with_reducible refine Below.alloc ?_ (by (repeat (first | (with_reducible exact Nat.le_refl _) | (with_reducible assumption) | (with_reducible refine le_up ?_) | (with_reducible refine le_alloc ?_) | (with_reducible refine le_setCell ?_) | (with_reducible refine le_drew ?_) | (with_reducible refine le_drewN ?_) | omega))) _) | (with_reducible refine Below.drew ?_) | (with_reducible refine Below.drewN ?_ _) | (with_reducible refine Below.setCell ?_ (by (repeat (first | (with_reducible exact Nat.le_refl _) | (with_reducible assumption) | (with_reducible refine le_up ?_) | (with_reducible refine le_alloc ?_) | (with_reducible refine le_setCell ?_) | (with_reducible refine le_drew ?_) | (with_reducible refine le_drewN ?_) | omega))) _) | (with_reducible refine Below.up ?_ (by (repeat (first | (with_reducible exact Nat.le_refl _) | (with_reducible assumption) | (with_reducible refine le_up ?_) | (with_reducible refine le_alloc ?_) | (with_reducible refine le_setCell ?_) | (with_reducible refine le_drew ?_) | (with_reducible refine le_drewN ?_) | omega))))))))
    (simp only [results, show Try.f51.results = #[ResultVar.cell 4 85] from rfl]; go_simp)
end Go.Proofs.Ytcdhhnodfgpkiaa
