/-
  The keeper of another clock: Beacon in one contract, Sure; the reference's maker, Bounds, Sure.
-/
import Derived.Test.YtcdhhnodfgpkiaaSyncB
import Derived.Test.YtcdhhnodfgpkiaaSyncV
namespace Go.Proofs.Ytcdhhnodfgpkiaa
open Go.RowKit
set_option linter.unusedVariables false

def meetB (S : SyncS) (t u : Int) : Bool := decide (max (u - t) (S.lo - byN S t) ≤ min (u - t + S.delay) (S.hi + byN S t))
def beacE (S : SyncS) (t u : Int) : Int := if badB S t u then 2 else if S.known then (if meetB S t u then 0 else 350) else 0
def beacS (S : SyncS) (t u : Int) : SyncS :=
  if badB S t u then S else if S.known then
    (if meetB S t u then S.learn (max (u - t) (S.lo - byN S t)) (min (u - t + S.delay) (S.hi + byN S t)) t
     else if S.odd + 1 = S.most then S.learn (u - t) (u - t + S.delay) t else ⟨S.delay, S.rate, S.most, S.known, S.lo, S.hi, S.at_, S.odd + 1⟩)
  else S.learn (u - t) (u - t + S.delay) t
theorem SyncOK.beac {S : SyncS} (ok : SyncOK S) {t u : Int} (u0 : 0 ≤ u) : SyncOK (beacS S t u) := by
  unfold beacS
  have a0 := ok.a0; have a1 := ok.a1; have d0 := ok.d0; have d1 := ok.d1; have m0 := ok.m0; have o0 := ok.o0; have o1 := ok.o1; have l0 := ok.l0; have lh := ok.lh; have h1 := ok.h1
  split
  · exact ok
  · rename_i hb
    obtain ⟨b1, b2, b3⟩ := bad_no (by simpa using hb : badB S t u = false)
    split
    · split
      · rename_i hm
        have hm := of_decide_eq_true hm
        exact ⟨ok.d0, ok.d1, ok.r0, ok.r1, ok.m0, ok.m1, by simp [SyncS.learn]; omega, by simp [SyncS.learn]; omega, by simp [SyncS.learn]; omega, by simpa [SyncS.learn] using hm, by simp [SyncS.learn]; omega, by simp [SyncS.learn], by simp [SyncS.learn]; omega⟩
      · split
        · exact ⟨ok.d0, ok.d1, ok.r0, ok.r1, ok.m0, ok.m1, by simp [SyncS.learn]; omega, by simp [SyncS.learn]; omega, by simp [SyncS.learn]; omega, by simp [SyncS.learn]; omega, by simp [SyncS.learn]; omega, by simp [SyncS.learn], by simp [SyncS.learn]; omega⟩
        · exact ⟨ok.d0, ok.d1, ok.r0, ok.r1, ok.m0, ok.m1, ok.a0, ok.a1, ok.l0, ok.lh, ok.h1, by simp; omega, by simp; omega⟩
    · exact ⟨ok.d0, ok.d1, ok.r0, ok.r1, ok.m0, ok.m1, by simp [SyncS.learn]; omega, by simp [SyncS.learn]; omega, by simp [SyncS.learn]; omega, by simp [SyncS.learn]; omega, by simp [SyncS.learn]; omega, by simp [SyncS.learn], by simp [SyncS.learn]; omega⟩
theorem Beacon_any (c : Nat) (t u : Int) (S : SyncS) (w : World) (h : SyncAt w c S) (ok : SyncOK S) (u0 : 0 ≤ u) :
    Calls Try.prog 27 #[.pointer (some ⟨c, 0, none⟩), .int .i64 t, .int .u64 u] w (SyncR w c (beacE S t u) (beacS S t u)) := by
  unfold beacE beacS
  cases hb : badB S t u
  · cases hk : S.known
    · exact Beacon_first c t u S w h ok u0 hb hk
    · cases hm : meetB S t u
      · have hf := of_decide_eq_false hm
        by_cases ho : S.odd + 1 = S.most
        · simp only [Bool.false_eq_true, if_false, if_true, if_pos ho]
          exact Beacon_clash c t u S w h ok u0 hb hk hf ho
        · simp only [Bool.false_eq_true, if_false, if_true, if_neg ho]
          have := Beacon_odd c t u S w h ok u0 hb hk hf ho
          rwa [hk] at this
      · exact Beacon_fit c t u S w h ok u0 hb hk (of_decide_eq_true hm)
  · exact Beacon_bad c t u S w h ok hb
/-- Is it surely near? -/
def sureV (S : SyncS) (t o : Int) : Bool := S.known && (decide (0 ≤ o) && (decide (-o ≤ S.lo - byN S t) && decide (S.hi + byN S t ≤ o)))
set_option maxRecDepth 100000 in
theorem Sure_any (c : Nat) (t o : Int) (S : SyncS) (w : World) (h : SyncAt w c S) (ok : SyncOK S) (t1 : -9223372036854775808 ≤ t) (t2 : t ≤ 9223372036854775807) (o2 : o ≤ 9223372036854775807) :
    Calls Try.prog 38 #[.pointer (some ⟨c, 0, none⟩), .int .i64 t, .int .i64 o] w (Gives w (.bool (sureV S t o))) := by
  have H := Lib.hid h
  obtain ⟨c0, c1, c2, c3, c4, c5, c6, c7⟩ := h.cells
  haveI : LtSize c w := ⟨h.lt⟩
  clear h
  cases hk : S.known
  · rw [show sureV S t o = false by simp [sureV, hk]]
    rw [hk] at c3
    go_enter Try.func38, Try.ntmps38
    go_wp2_with (go_at_call 50; with_reducible refine Calls.tells (sis_t c S _ H.out ok) ?_)
    go_ret
    exact Gives.mk rfl (Below.refl _ _)
  · rw [hk] at c3
    by_cases ho : 0 ≤ o
    · have hd : decide (o < 0) = false := by simp; omega
      by_cases h1 : -o ≤ S.lo - byN S t
      · rw [show sureV S t o = decide (S.hi + byN S t ≤ o) by simp [sureV, hk, ho, h1]]
        go_enter Try.func38, Try.ntmps38
        go_wp2_with (first | (go_at_call 50; with_reducible refine Calls.tells (sis_t c S _ H.out ok) ?_) | (go_at_call 51; (first | with_reducible refine Calls.fold (span_any c t S _ H.out ok t1 t2) ?_ | with_reducible refine Calls.fresh (span_any c t S _ H.out ok t1 t2) ?_); intro x1))
        go_ret
        exact Gives.mk rfl (by (repeat (first | (with_reducible exact Below.refl _ _) | (with_reducible assumption) | (with_reducible refine Below.alloc ?_ (by (repeat (first | (with_reducible exact Nat.le_refl _) | (with_reducible assumption) | (with_reducible refine le_up ?_) | (with_reducible refine le_alloc ?_) | (with_reducible refine le_setCell ?_) | (with_reducible refine le_drew ?_) | (with_reducible refine le_drewN ?_) | omega))) _) | (with_reducible refine Below.drew ?_) | (with_reducible refine Below.drewN ?_ _) | (with_reducible refine Below.setCell ?_ (by (repeat (first | (with_reducible exact Nat.le_refl _) | (with_reducible assumption) | (with_reducible refine le_up ?_) | (with_reducible refine le_alloc ?_) | (with_reducible refine le_setCell ?_) | (with_reducible refine le_drew ?_) | (with_reducible refine le_drewN ?_) | omega))) _) | (with_reducible refine Below.up ?_ (by (repeat (first | (with_reducible exact Nat.le_refl _) | (with_reducible assumption) | (with_reducible refine le_up ?_) | (with_reducible refine le_alloc ?_) | (with_reducible refine le_setCell ?_) | (with_reducible refine le_drew ?_) | (with_reducible refine le_drewN ?_) | omega)))))))
      · rw [show sureV S t o = false by simp [sureV, h1]]
        have h1' : decide (-o ≤ S.lo - byN S t) = false := decide_eq_false h1
        go_enter Try.func38, Try.ntmps38
        go_wp2_with (first | (go_at_call 50; with_reducible refine Calls.tells (sis_t c S _ H.out ok) ?_) | (go_at_call 51; (first | with_reducible refine Calls.fold (span_any c t S _ H.out ok t1 t2) ?_ | with_reducible refine Calls.fresh (span_any c t S _ H.out ok t1 t2) ?_); intro x1))
        go_ret
        exact Gives.mk rfl (by (repeat (first | (with_reducible exact Below.refl _ _) | (with_reducible assumption) | (with_reducible refine Below.alloc ?_ (by (repeat (first | (with_reducible exact Nat.le_refl _) | (with_reducible assumption) | (with_reducible refine le_up ?_) | (with_reducible refine le_alloc ?_) | (with_reducible refine le_setCell ?_) | (with_reducible refine le_drew ?_) | (with_reducible refine le_drewN ?_) | omega))) _) | (with_reducible refine Below.drew ?_) | (with_reducible refine Below.drewN ?_ _) | (with_reducible refine Below.setCell ?_ (by (repeat (first | (with_reducible exact Nat.le_refl _) | (with_reducible assumption) | (with_reducible refine le_up ?_) | (with_reducible refine le_alloc ?_) | (with_reducible refine le_setCell ?_) | (with_reducible refine le_drew ?_) | (with_reducible refine le_drewN ?_) | omega))) _) | (with_reducible refine Below.up ?_ (by (repeat (first | (with_reducible exact Nat.le_refl _) | (with_reducible assumption) | (with_reducible refine le_up ?_) | (with_reducible refine le_alloc ?_) | (with_reducible refine le_setCell ?_) | (with_reducible refine le_drew ?_) | (with_reducible refine le_drewN ?_) | omega)))))))
    · rw [show sureV S t o = false by simp [sureV, ho]]
      have hd : o < 0 := by omega
      go_enter Try.func38, Try.ntmps38
      go_wp2_with (go_at_call 50; with_reducible refine Calls.tells (sis_t c S _ H.out ok) ?_)
      go_ret
      exact Gives.mk rfl (Below.refl _ _)
theorem sNew_bad {d r m : Int} (w : World) (h : new3B d r m = false) :
    Calls Try.prog 25 #[.int .i64 d, .int .i64 r, .int .i64 m] w (Tells w (.tuple #[.pointer none, .int .i64 2])) := by
  have h' : d < 0 ∨ (¬ d < 0 ∧ 65535 < d) ∨ (¬ d < 0 ∧ ¬ 65535 < d ∧ r < 0) ∨ (¬ d < 0 ∧ ¬ 65535 < d ∧ ¬ r < 0 ∧ 1048576 < r) ∨ (¬ d < 0 ∧ ¬ 65535 < d ∧ ¬ r < 0 ∧ ¬ 1048576 < r ∧ m < 1) ∨ (¬ d < 0 ∧ ¬ 65535 < d ∧ ¬ r < 0 ∧ ¬ 1048576 < r ∧ ¬ m < 1 ∧ 100 < m) := by simp [new3B] at h; omega
  clear h
  rcases h' with h1 | ⟨h1, h2⟩ | ⟨h1, h2, h3⟩ | ⟨h1, h2, h3, h4⟩ | ⟨h1, h2, h3, h4, h5⟩ | ⟨h1, h2, h3, h4, h5, h6⟩
  all_goals
    go_enter Try.func25, Try.ntmps25
    go_wp2
    go_ret2
    exact Tells.mk rfl
theorem srNew_bad {d r m : Int} (w : World) (h : new3B d r m = false) :
    Calls Try.prog 35 #[.int .i64 d, .int .i64 r, .int .i64 m] w (Tells w (.tuple #[.pointer none, .int .i64 2])) := by
  have h' : d < 0 ∨ (¬ d < 0 ∧ 65535 < d) ∨ (¬ d < 0 ∧ ¬ 65535 < d ∧ r < 0) ∨ (¬ d < 0 ∧ ¬ 65535 < d ∧ ¬ r < 0 ∧ 1048576 < r) ∨ (¬ d < 0 ∧ ¬ 65535 < d ∧ ¬ r < 0 ∧ ¬ 1048576 < r ∧ m < 1) ∨ (¬ d < 0 ∧ ¬ 65535 < d ∧ ¬ r < 0 ∧ ¬ 1048576 < r ∧ ¬ m < 1 ∧ 100 < m) := by simp [new3B] at h; omega
  clear h
  rcases h' with h1 | ⟨h1, h2⟩ | ⟨h1, h2, h3⟩ | ⟨h1, h2, h3, h4⟩ | ⟨h1, h2, h3, h4, h5⟩ | ⟨h1, h2, h3, h4, h5, h6⟩
  all_goals
    go_enter Try.func35, Try.ntmps35
    go_wp2
    go_ret2
    exact Tells.mk rfl
theorem srNew_good {d r m : Int} (w : World) (h : new3B d r m = true) :
    Calls Try.prog 35 #[.int .i64 d, .int .i64 r, .int .i64 m] w fun e w' => ∃ c, e = .returned (.tuple #[.pointer (some ⟨c, 0, none⟩), .int .i64 0]) ∧ w.heap.size ≤ c ∧ SyncAt w' c (SyncS.new d r m) ∧ Below w.heap.size w w' := by
  have h' : ¬ d < 0 ∧ ¬ 65535 < d ∧ ¬ r < 0 ∧ ¬ 1048576 < r ∧ ¬ m < 1 ∧ ¬ 100 < m := by simp [new3B] at h; omega
  clear h
  obtain ⟨h1, h2, h3, h4, h5, h6⟩ := h'
  go_enter Try.func35, Try.ntmps35
  go_wp2
  go_ret2
  exact ⟨_, rfl, Nat.le_refl _, SyncAt.new w _ d r m, by (repeat (first | (with_reducible exact Below.refl _ _) | (with_reducible assumption) | (with_reducible refine Below.alloc ?_ (by (repeat (first | (with_reducible exact Nat.le_refl _) | (with_reducible assumption) | (with_reducible refine le_up ?_) | (with_reducible refine le_alloc ?_) | (with_reducible refine le_setCell ?_) | (with_reducible refine le_drew ?_) | (with_reducible refine le_drewN ?_) | omega))) _) | (with_reducible refine Below.drew ?_) | (with_reducible refine Below.drewN ?_ _) | (with_reducible refine Below.setCell ?_ (by (repeat (first | (with_reducible exact Nat.le_refl _) | (with_reducible assumption) | (with_reducible refine le_up ?_) | (with_reducible refine le_alloc ?_) | (with_reducible refine le_setCell ?_) | (with_reducible refine le_drew ?_) | (with_reducible refine le_drewN ?_) | omega))) _) | (with_reducible refine Below.up ?_ (by (repeat (first | (with_reducible exact Nat.le_refl _) | (with_reducible assumption) | (with_reducible refine le_up ?_) | (with_reducible refine le_alloc ?_) | (with_reducible refine le_setCell ?_) | (with_reducible refine le_drew ?_) | (with_reducible refine le_drewN ?_) | omega))))))⟩
theorem ret_iib {a b a' b' : Int} {x : Bool} (h : a = b) (h' : a' = b') : Ending.returned (.tuple #[.int .i64 a, .int .i64 a', .bool x]) = .returned (.tuple #[.int .i64 b, .int .i64 b', .bool x]) := by rw [h, h']
set_option maxRecDepth 100000 in
theorem rBounds_any (c : Nat) (t : Int) (S : SyncS) (w : World) (h : SyncAt w c S) (ok : SyncOK S) (t1 : -9223372036854775808 ≤ t) (t2 : t ≤ 9223372036854775807) :
    Calls Try.prog 37 #[.pointer (some ⟨c, 0, none⟩), .int .i64 t] w (Gives w (.tuple #[.int .i64 (boundsV S t).1, .int .i64 (boundsV S t).2.1, .bool (boundsV S t).2.2])) := by
  have H := Lib.hid h
  obtain ⟨c0, c1, c2, c3, c4, c5, c6, c7⟩ := h.cells
  haveI : LtSize c w := ⟨h.lt⟩
  have a0 := ok.a0
  have a1 := ok.a1
  obtain ⟨m1, m2⟩ := mul_bd ok t
  obtain ⟨n1, n2⟩ := by_bd ok t
  have l0 := ok.l0
  have l1 := ok.lh
  have l2 := ok.h1
  clear h ok
  cases hk : S.known
  · have hb : boundsV S t = (0, 0, false) := by simp [boundsV, hk]
    rw [hb]
    rw [hk] at c3
    go_enter Try.func37, Try.ntmps37
    go_wp2_with fail
    go_ret3
    exact Gives.mk rfl (Below.refl _ _)
  · have hb : boundsV S t = (S.lo - byN S t, S.hi + byN S t, true) := by simp [boundsV, hk]
    rw [hb]
    rw [hk] at c3
    go_enter Try.func37, Try.ntmps37
    go_upto_region 3 with fail
    go_cut [7] from 14 to 25 (fun v7 wc => v7 = .int .i64 (goneN S t) ∧ ∃ x, wc = up w x)
    case first =>
      by_cases ht : t < S.at_
      · have hg : goneN S t = 0 := if_pos ht
        (refine wp_region_up (by kernel_rfl) (by kernel_rfl) ?_; (repeat (go_big_quiet_step (fail))); refine wpQuiet_nil ?_; intro _ hw'; obtain ⟨xq, hw''⟩ := hw'; subst hw'')
        go_wp2_with fail
        go_meet
        exact ⟨by rw [hg], xq, rfl⟩
      · by_cases ht2 : t ≤ 1099511627776
        · have hg : goneN S t = t - S.at_ := by unfold goneN; rw [if_neg ht, if_pos ht2]
          (refine wp_region_up (by kernel_rfl) (by kernel_rfl) ?_; (repeat (go_big_quiet_step (fail))); refine wpQuiet_nil ?_; intro _ hw'; obtain ⟨xq, hw''⟩ := hw'; subst hw'')
          go_wp2_with fail
          go_meet
          exact ⟨by rw [hg], xq, rfl⟩
        · have hg : goneN S t = 1099511627776 - S.at_ := by unfold goneN; rw [if_neg ht, if_neg ht2]
          (refine wp_region_up (by kernel_rfl) (by kernel_rfl) ?_; (repeat (go_big_quiet_step (fail))); refine wpQuiet_nil ?_; intro _ hw'; obtain ⟨xq, hw''⟩ := hw'; subst hw'')
          go_wp2_with fail
          go_meet
          exact ⟨by rw [hg], xq, rfl⟩
    case rest =>
      obtain ⟨rfl, x, rfl⟩ := hcut
      have hbn : byN S t = (goneN S t * S.rate + 1048575) / 1048576 := rfl
      generalize goneN S t = n at *
      have hq0 : 0 ≤ n * S.rate / 1048576 := by omega
      have hq1 : n * S.rate / 1048576 ≤ 1099511627776 := by omega
      by_cases hrem : n * S.rate % 1048576 = 0
      · have hr : (n * S.rate % 1048576 != 0) = false := by simpa using hrem
        have hby : n * S.rate / 1048576 = byN S t := by omega
        have HBY := Lib.hid hby
        clear hby hbn hrem
        go_wp2_with fail
        (refine wp_region_up (by kernel_rfl) (by kernel_rfl) ?_; (repeat (go_big_quiet_step (fail))); refine wpQuiet_nil ?_; intro _ hw'; obtain ⟨xq, hw''⟩ := hw'; subst hw'')
        go_wp2_with fail
        go_ret3
        exact Gives.mk (ret_iib (by rw [HBY.out]) (by rw [HBY.out])) (by (repeat (first | (with_reducible exact Below.refl _ _) | (with_reducible assumption) | (with_reducible refine Below.alloc ?_ (by (repeat (first | (with_reducible exact Nat.le_refl _) | (with_reducible assumption) | (with_reducible refine le_up ?_) | (with_reducible refine le_alloc ?_) | (with_reducible refine le_setCell ?_) | (with_reducible refine le_drew ?_) | (with_reducible refine le_drewN ?_) | omega))) _) | (with_reducible refine Below.drew ?_) | (with_reducible refine Below.drewN ?_ _) | (with_reducible refine Below.setCell ?_ (by (repeat (first | (with_reducible exact Nat.le_refl _) | (with_reducible assumption) | (with_reducible refine le_up ?_) | (with_reducible refine le_alloc ?_) | (with_reducible refine le_setCell ?_) | (with_reducible refine le_drew ?_) | (with_reducible refine le_drewN ?_) | omega))) _) | (with_reducible refine Below.up ?_ (by (repeat (first | (with_reducible exact Nat.le_refl _) | (with_reducible assumption) | (with_reducible refine le_up ?_) | (with_reducible refine le_alloc ?_) | (with_reducible refine le_setCell ?_) | (with_reducible refine le_drew ?_) | (with_reducible refine le_drewN ?_) | omega)))))))
      · have hr : (n * S.rate % 1048576 != 0) = true := by simpa using hrem
        have hby : n * S.rate / 1048576 + 1 = byN S t := by omega
        have HBY := Lib.hid hby
        clear hby hbn hrem
        go_wp2_with fail
        (refine wp_region_up (by kernel_rfl) (by kernel_rfl) ?_; (repeat (go_big_quiet_step (fail))); refine wpQuiet_nil ?_; intro _ hw'; obtain ⟨xq, hw''⟩ := hw'; subst hw'')
        go_wp2_with fail
        go_ret3
        exact Gives.mk (ret_iib (by rw [HBY.out]) (by rw [HBY.out])) (by (repeat (first | (with_reducible exact Below.refl _ _) | (with_reducible assumption) | (with_reducible refine Below.alloc ?_ (by (repeat (first | (with_reducible exact Nat.le_refl _) | (with_reducible assumption) | (with_reducible refine le_up ?_) | (with_reducible refine le_alloc ?_) | (with_reducible refine le_setCell ?_) | (with_reducible refine le_drew ?_) | (with_reducible refine le_drewN ?_) | omega))) _) | (with_reducible refine Below.drew ?_) | (with_reducible refine Below.drewN ?_ _) | (with_reducible refine Below.setCell ?_ (by (repeat (first | (with_reducible exact Nat.le_refl _) | (with_reducible assumption) | (with_reducible refine le_up ?_) | (with_reducible refine le_alloc ?_) | (with_reducible refine le_setCell ?_) | (with_reducible refine le_drew ?_) | (with_reducible refine le_drewN ?_) | omega))) _) | (with_reducible refine Below.up ?_ (by (repeat (first | (with_reducible exact Nat.le_refl _) | (with_reducible assumption) | (with_reducible refine le_up ?_) | (with_reducible refine le_alloc ?_) | (with_reducible refine le_setCell ?_) | (with_reducible refine le_drew ?_) | (with_reducible refine le_drewN ?_) | omega)))))))
theorem rBounds_is {c : Nat} {t a b : Int} {k : Bool} {S : SyncS} {w : World} (h : SyncAt w c S) (ok : SyncOK S) (t1 : -9223372036854775808 ≤ t) (t2 : t ≤ 9223372036854775807) (e : boundsV S t = (a, b, k)) :
    Calls Try.prog 37 #[.pointer (some ⟨c, 0, none⟩), .int .i64 t] w (Gives w (.tuple #[.int .i64 a, .int .i64 b, .bool k])) := by
  have := rBounds_any c t S w h ok t1 t2
  rwa [e] at this
end Go.Proofs.Ytcdhhnodfgpkiaa
