/-
  The walks over the keeper of another clock, continued: both, learn, Bounds, Odd, Sure.
-/
import Derived.Test.YtcdhhnodfgpkiaaSyncW
namespace Go.Proofs.Ytcdhhnodfgpkiaa
open Go.RowKit

set_option maxRecDepth 100000 in
theorem both_any (a b c d : Int) (w : World) :
    Calls Try.prog 52 #[.agg #[.int .i64 a, .int .i64 b], .agg #[.int .i64 c, .int .i64 d]] w (Gives w (.tuple #[.agg #[.int .i64 (max a c), .int .i64 (min b d)], .bool (decide (max a c ≤ min b d))])) := by
  obtain ⟨p, hp⟩ : ∃ p, p = max a c := ⟨_, rfl⟩
  obtain ⟨q, hq⟩ : ∃ q, q = min b d := ⟨_, rfl⟩
  rw [← hp, ← hq]
  rcases (show (a < c ∧ p = c) ∨ (c ≤ a ∧ p = a) by omega) with ⟨h1, rfl⟩ | ⟨h1, rfl⟩
  all_goals rcases (show (d < b ∧ q = d) ∨ (b ≤ d ∧ q = b) by omega) with ⟨h2, rfl⟩ | ⟨h2, rfl⟩
  all_goals
    clear hp hq
    go_enter Try.func52, Try.ntmps52
    go_wp2_with fail
    go_region
    go_wp2_with fail
    (try simp only [Exit.inBlock, Exit.then])
    refine bodyPost_ret (v := .tuple #[.agg #[.int .i64 _, .int .i64 _], .bool _]) ?_ rfl (Gives.mk rfl (by (repeat (first | (with_reducible exact Below.refl _ _) | (with_reducible assumption) | (with_reducible refine Below.alloc ?_ (by (repeat (first | (with_reducible exact Nat.le_refl _) | (with_reducible assumption) | (with_reducible refine le_up ?_) | (with_reducible refine le_alloc ?_) | (with_reducible refine le_setCell ?_) | (with_reducible refine le_drew ?_) | (with_reducible refine le_drewN ?_) | omega))) _) | (with_reducible refine Below.drew ?_) | (with_reducible refine Below.drewN ?_ _) | (with_reducible refine Below.setCell ?_ (by (repeat (first | (with_reducible exact Nat.le_refl _) | (with_reducible assumption) | (with_reducible refine le_up ?_) | (with_reducible refine le_alloc ?_) | (with_reducible refine le_setCell ?_) | (with_reducible refine le_drew ?_) | (with_reducible refine le_drewN ?_) | omega))) _) | (with_reducible refine Below.up ?_ (by (repeat (first | (with_reducible exact Nat.le_refl _) | (with_reducible assumption) | (with_reducible refine le_up ?_) | (with_reducible refine le_alloc ?_) | (with_reducible refine le_setCell ?_) | (with_reducible refine le_drew ?_) | (with_reducible refine le_drewN ?_) | omega))))))))
    (simp only [results, show Try.f52.results = #[ResultVar.cell 4 85, ResultVar.tmp 5] from rfl]; go_simp)

theorem gr_to_drew {a b : World} {row : Option Nat} (h : a.grownBy b row) : a.grownBy b.drew row := gr_trans h ⟨rfl, rfl, rfl, Nat.le_refl _, fun _ _ _ => rfl⟩
theorem gr_to_set {a b : World} {c i : Nat} {v : Value} (h : a.grownBy b (some c)) : a.grownBy (b.setCell ⟨c, i, none⟩ v) (some c) := gr_trans h (gr_set b c i v)
def SyncS.learn (S : SyncS) (lo hi t : Int) : SyncS := ⟨S.delay, S.rate, S.most, true, lo, hi, t, 0⟩
theorem SyncAt.learnt {w : World} {c : Nat} {S : SyncS} (h : SyncAt w c S) (lo hi t : Int) :
    SyncAt (((((w.setCell ⟨c, 3, none⟩ (.bool true)).setCell ⟨c, 4, none⟩ (.int .i64 lo)).setCell ⟨c, 5, none⟩ (.int .i64 hi)).setCell ⟨c, 6, none⟩ (.int .i64 t)).setCell ⟨c, 7, none⟩ (.int .i64 0)) c (S.learn lo hi t) := by
  refine (Cells.set (Cells.set (Cells.set (Cells.set (Cells.set h 3 (by omega) (.bool true)) 4 (by omega) (.int .i64 lo)) 5 (by omega) (.int .i64 hi)) 6 (by omega) (.int .i64 t)) 7 (by omega) (.int .i64 0)).same (fun i hi => ?_)
  rcases i with _ | _ | _ | _ | _ | _ | _ | _ | i <;> first | rfl | omega
theorem SyncAt.setOdd {w : World} {c : Nat} {S : SyncS} (h : SyncAt w c S) (v : Int) :
    SyncAt (w.setCell ⟨c, 7, none⟩ (.int .i64 v)) c ⟨S.delay, S.rate, S.most, S.known, S.lo, S.hi, S.at_, v⟩ := by
  refine (Cells.set h 7 (by omega) (.int .i64 v)).same (fun i hi => ?_)
  rcases i with _ | _ | _ | _ | _ | _ | _ | _ | i <;> first | rfl | omega
set_option maxRecDepth 100000 in
set_option maxHeartbeats 1600000 in
theorem learn_any (c : Nat) (lo hi t : Int) (S : SyncS) (w : World) (h : SyncAt w c S) :
    Calls Try.prog 53 #[.pointer (some ⟨c, 0, none⟩), .agg #[.int .i64 lo, .int .i64 hi], .int .i64 t] w (fun e w' => e = .returned (.tuple #[]) ∧ SyncAt w' c (S.learn lo hi t) ∧ w.grownBy w' (some c)) := by
  have H := Lib.hid h
  obtain ⟨c0, c1, c2, c3, c4, c5, c6, c7⟩ := h.cells
  have z3 := h.free 3
  have z4 := h.free 4
  have z5 := h.free 5
  have z6 := h.free 6
  have z7 := h.free 7
  haveI : LtSize c w := ⟨h.lt⟩
  have hne : ¬ c = w.heap.size := by have := h.lt; omega
  have hne' : ¬ w.heap.size = c := fun e => hne e.symm
  clear h
  go_enter Try.func53, Try.ntmps53
  go_wp2_with fail
  go_region
  go_wp2_with fail
  go_end0
  exact ⟨rfl, (H.out.alloc.learnt lo hi t).drew, gr_to_drew (gr_to_set (gr_to_set (gr_to_set (gr_to_set (gr_to_set (gr_below _ ((Below.refl _ w).alloc (Nat.le_refl _) _))))))) ⟩
theorem Odd_any (c : Nat) (S : SyncS) (w : World) (h : SyncAt w c S) (ok : SyncOK S) :
    Calls Try.prog 28 #[.pointer (some ⟨c, 0, none⟩)] w (Tells w (.int .i64 S.odd)) := by
  have H := Lib.hid h
  obtain ⟨c0, c1, c2, c3, c4, c5, c6, c7⟩ := h.cells
  clear h
  go_enter Try.func28, Try.ntmps28
  go_wp2_with (go_at_call 50; with_reducible refine Calls.tells (sis_t c S _ H.out ok) ?_)
  go_ret
  exact Tells.mk rfl
/-- What is known at a tick. -/
def boundsV (S : SyncS) (t : Int) : Int × Int × Bool := if S.known then (S.lo - byN S t, S.hi + byN S t, true) else (0, 0, false)
set_option maxRecDepth 100000 in
theorem Bounds_any (c : Nat) (t : Int) (S : SyncS) (w : World) (h : SyncAt w c S) (ok : SyncOK S) (t1 : -9223372036854775808 ≤ t) (t2 : t ≤ 9223372036854775807) :
    Calls Try.prog 26 #[.pointer (some ⟨c, 0, none⟩), .int .i64 t] w (Gives w (.tuple #[.int .i64 (boundsV S t).1, .int .i64 (boundsV S t).2.1, .bool (boundsV S t).2.2])) := by
  have H := Lib.hid h
  obtain ⟨c0, c1, c2, c3, c4, c5, c6, c7⟩ := h.cells
  haveI : LtSize c w := ⟨h.lt⟩
  clear h
  cases hk : S.known
  · have hb : boundsV S t = (0, 0, false) := by simp [boundsV, hk]
    rw [hb]
    rw [hk] at c3
    go_enter Try.func26, Try.ntmps26
    go_wp2_with (go_at_call 50; with_reducible refine Calls.tells (sis_t c S _ H.out ok) ?_)
    go_ret3
    exact Gives.mk rfl (Below.refl _ _)
  · have hb : boundsV S t = (S.lo - byN S t, S.hi + byN S t, true) := by simp [boundsV, hk]
    rw [hb]
    rw [hk] at c3
    go_enter Try.func26, Try.ntmps26
    go_wp2_with (first | (go_at_call 50; with_reducible refine Calls.tells (sis_t c S _ H.out ok) ?_) | (go_at_call 51; (first | with_reducible refine Calls.fold (span_any c t S _ H.out ok t1 t2) ?_ | with_reducible refine Calls.fresh (span_any c t S _ H.out ok t1 t2) ?_); intro x1))
    (refine wp_region_up (by kernel_rfl) (by kernel_rfl) ?_; (repeat (go_big_quiet_step (fail))); refine wpQuiet_nil ?_; intro _ hw'; obtain ⟨xq, hw''⟩ := hw'; subst hw'')
    go_wp2_with fail
    go_ret3
    exact Gives.mk rfl (by (repeat (first | (with_reducible exact Below.refl _ _) | (with_reducible assumption) | (with_reducible refine Below.alloc ?_ (by (repeat (first | (with_reducible exact Nat.le_refl _) | (with_reducible assumption) | (with_reducible refine le_up ?_) | (with_reducible refine le_alloc ?_) | (with_reducible refine le_setCell ?_) | (with_reducible refine le_drew ?_) | (with_reducible refine le_drewN ?_) | omega))) _) | (with_reducible refine Below.drew ?_) | (with_reducible refine Below.drewN ?_ _) | (with_reducible refine Below.setCell ?_ (by (repeat (first | (with_reducible exact Nat.le_refl _) | (with_reducible assumption) | (with_reducible refine le_up ?_) | (with_reducible refine le_alloc ?_) | (with_reducible refine le_setCell ?_) | (with_reducible refine le_drew ?_) | (with_reducible refine le_drewN ?_) | omega))) _) | (with_reducible refine Below.up ?_ (by (repeat (first | (with_reducible exact Nat.le_refl _) | (with_reducible assumption) | (with_reducible refine le_up ?_) | (with_reducible refine le_alloc ?_) | (with_reducible refine le_setCell ?_) | (with_reducible refine le_drew ?_) | (with_reducible refine le_drewN ?_) | omega)))))))
end Go.Proofs.Ytcdhhnodfgpkiaa
