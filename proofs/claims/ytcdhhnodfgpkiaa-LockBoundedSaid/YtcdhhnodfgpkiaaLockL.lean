/-
  The law LockPlays, walked.
-/
import Derived.Test.YtcdhhnodfgpkiaaLockD
import Derived.Test.YtcdhhnodfgpkiaaElemB
namespace Go.Proofs.Ytcdhhnodfgpkiaa
open Go.RowKit

theorem Fails_is {c : Nat} {s : Int} {S : LockS} {n r : Int} {w : World} (h : LockAt w c S) (ok : LockOK S n) (e : (lookO S s).fails = r) :
    Calls Try.prog 16 #[.pointer (some ⟨c, 0, none⟩), .int .i64 s] w (Gives w (.int .i64 r)) := by rw [← e]; exact Fails_any c s S n w h ok
theorem Until_is {c : Nat} {s : Int} {S : LockS} {n r : Int} {w : World} (h : LockAt w c S) (ok : LockOK S n) (e : (lookO S s).til = r) :
    Calls Try.prog 18 #[.pointer (some ⟨c, 0, none⟩), .int .i64 s] w (Gives w (.int .i64 r)) := by rw [← e]; exact Until_any c s S n w h ok
theorem LockOK.act {S : LockS} {n : Int} (h : LockOK S n) (hn : 0 ≤ n) (d s t : Int) : LockOK (actS S d s t) (n + 1) := by
  unfold actS
  split
  · exact (h.good hn s).mono (by omega)
  · exact h.fail s t

structure Lock2 (w : World) (c y : Nat) (S : LockS) (wr : World) : Prop where
  x : LockAt wr c S
  y : LockAt wr y S
  bel : Below w.heap.size w wr

set_option maxRecDepth 100000 in
set_option maxHeartbeats 3200000 in
theorem LockPlays_any (most time : Int) (a : Option Addr) (len cap : Nat) (w : World) (hr : Elems w [some .i64, some .i64, some .i64] a len) :
    Calls Try.prog 3 #[.int .i64 most, .int .i64 time, .slice a len cap] w (Gives w (.bool true)) := by
  have HR := Lib.hid hr
  have hlen := hr.1
  clear hr
  cases hnew : newB most time
  · by_cases h0 : 0 < len
    all_goals
      go_enter Try.func3, Try.ntmps3
      go_wp2_with (first | (go_at_call 13; with_reducible refine Calls.tells (New_bad _ hnew) ?_) | (go_at_call 14; with_reducible refine Calls.tells (rNew_bad _ hnew) ?_))
      refine wp_loop_rounds 1 ?_
      rw [rounds_succ]
      go_wp2_with (go_at_call 19; (first | with_reducible refine Calls.fold (works18 _) ?_ | with_reducible refine Calls.fresh (works18 _) ?_); intro x1)
      go_ret
      exact Gives.mk rfl (by (repeat (first | (with_reducible exact Below.refl _ _) | (with_reducible assumption) | (with_reducible refine Below.alloc ?_ (by (repeat (first | (with_reducible exact Nat.le_refl _) | (with_reducible assumption) | (with_reducible refine le_up ?_) | (with_reducible refine le_alloc ?_) | (with_reducible refine le_setCell ?_) | (with_reducible refine le_drew ?_) | (with_reducible refine le_drewN ?_) | omega))) _) | (with_reducible refine Below.drew ?_) | (with_reducible refine Below.drewN ?_ _) | (with_reducible refine Below.setCell ?_ (by (repeat (first | (with_reducible exact Nat.le_refl _) | (with_reducible assumption) | (with_reducible refine le_up ?_) | (with_reducible refine le_alloc ?_) | (with_reducible refine le_setCell ?_) | (with_reducible refine le_drew ?_) | (with_reducible refine le_drewN ?_) | omega))) _) | (with_reducible refine Below.up ?_ (by (repeat (first | (with_reducible exact Nat.le_refl _) | (with_reducible assumption) | (with_reducible refine le_up ?_) | (with_reducible refine le_alloc ?_) | (with_reducible refine le_setCell ?_) | (with_reducible refine le_drew ?_) | (with_reducible refine le_drewN ?_) | omega)))))))
  · go_enter Try.func3, Try.ntmps3
    go_wp2_with fail
    refine (New_good _ hnew).mono ?_
    rintro e w1 ⟨c, rfl, hc, hx, hb1⟩
    have HX := Lib.hid hx
    have HB1 := Lib.hid hb1
    have hc1 := hx.lt
    clear hx hb1
    go_wp2_with fail
    refine (rNew_good _ hnew).mono ?_
    rintro e w2 ⟨y, rfl, hy, hy', hb2⟩
    have hst : Lock2 w c y (LockS.new most time) w2 := ⟨HX.out.below hb2 hc1, hy', HB1.out.trans (hb2.mono HB1.out.size)⟩
    have HST := Lib.hid hst
    have hcy : c ≠ y := by omega
    have hyw : w.heap.size ≤ y := Nat.le_trans HB1.out.size hy
    have OK0 := LockOK.new hnew
    clear hst hy' hb2 HB1 HX hnew
    go_wp2_with fail
    go_loopw [11] (fun v11 wr => ∃ (k : Nat) (S : LockS), k ≤ 60 ∧ v11 = .int .i64 k ∧ LockOK S k ∧ Lock2 w c y S wr) (fun v11 _ => 60 - (intOf v11).toNat)
    case atStart => exact ⟨0, _, by omega, rfl, OK0, HST.out⟩
    case round =>
      clear HST OK0
      obtain ⟨k, S, hk, rfl, ok, ha⟩ := hrel
      have HA := Lib.hid ha
      clear ha
      by_cases hkl : k < len
      · by_cases hk60 : k < 60
        · obtain ⟨_, h0 | ⟨Bq, off, rfl, hBq, hcell⟩⟩ := HR.out
          · omega
          · obtain ⟨cs, hic, hcs⟩ := hcell k hkl
            obtain ⟨d, cs, rfl, hw0, hic⟩ := hic.cons
            obtain ⟨s, cs, rfl, hw1, hic⟩ := hic.cons
            obtain ⟨t, cs, rfl, hw2, hic⟩ := hic.cons
            obtain rfl := hic.nil
            have hsz := HA.out.bel.size
            have hkI : (k : Int) < 60 := by omega
            have hkd : decide ((k : Int) < 60) = true := by simp; omega
            haveI : LtSize Bq wr := ⟨by omega⟩
            have x0 : wr.cell? ⟨Bq, off + k * 3, none⟩ = some (.int .i64 d) := by rw [HA.out.bel.cell (p := ⟨Bq, _, none⟩) hBq]; exact hcs 0 (by decide)
            have x1 : wr.cell? ⟨Bq, off + k * 3 + 1, none⟩ = some (.int .i64 s) := by rw [HA.out.bel.cell (p := ⟨Bq, _, none⟩) hBq]; exact hcs 1 (by decide)
            have x2 : wr.cell? ⟨Bq, off + k * 3 + 2, none⟩ = some (.int .i64 t) := by rw [HA.out.bel.cell (p := ⟨Bq, _, none⟩) hBq]; exact hcs 2 (by decide)
            clear hcell hcs hw0 hw1 hw2
            go_wp2_with fail
            refine (do18_any c y w.heap.size S k d s t _ HA.out.x HA.out.y ok (by omega) hcy hsz hc hyw).mono ?_
            rintro e w5 ⟨rfl, hx5, hy5, hb5⟩
            have ok5 : LockOK (actS S d s t) ((k + 1 : Nat) : Int) := by have := ok.act (by omega) d s t; simpa using this
            generalize actS S d s t = S5 at *
            have HX := Lib.hid hx5
            have HY := Lib.hid hy5
            have HB5 := Lib.hid (HA.out.bel.trans hb5)
            have hcl := hx5.lt
            have hyl := hy5.lt
            clear hx5 hy5 hb5 x0 x1 x2 HA
            go_wp2_with fail
            go_loopw [12] (fun v12 wq => ∃ q : Int, -1 ≤ q ∧ q ≤ 9 ∧ v12 = .int .i64 q ∧ ∃ x, wq = up w5 x) (fun v12 _ => (9 - intOf v12).toNat)
            case atStart => exact ⟨-1, by omega, by omega, rfl, ex_up (Below.refl _ _)⟩
            case round =>
              obtain ⟨q, q1, q2, rfl, x, rfl⟩ := hrel
              haveI : LtSize c w5 := ⟨hcl⟩
              haveI : LtSize y w5 := ⟨hyl⟩
              by_cases hq9 : q < 9
              · cases hqs : srcB q
                · have f0 : lookO S5 q = OneS.zero := by simp [lookO, hqs]
                  have f1 : (lookO S5 q).fails = 0 := by rw [f0]; rfl
                  have f2 : (lookO S5 q).total = 0 := by rw [f0]; rfl
                  have f3 : (lookO S5 q).til = 0 := by rw [f0]; rfl
                  rcases src_out hqs with hq | hq
                  ·
                    go_wp2_with fail
                    (refine wp_region_up (by kernel_rfl) (by kernel_rfl) ?_; (repeat (go_big_quiet_step (first | (go_at_call 16; exact Calls.up_gives (Fails_is (HX.out.up.alloc.up) ok5 f1)) | (go_at_call 17; exact Calls.up_gives (Total_is (HX.out.up.alloc.up) ok5 f2)) | (go_at_call 18; exact Calls.up_gives (Until_is (HX.out.up.alloc.up) ok5 f3))))); refine wpQuiet_nil ?_; intro _ hw'; obtain ⟨xq, hw''⟩ := hw'; subst hw'')
                    go_wp2_with fail
                    exact ⟨⟨_, by omega, by omega, rfl, ex_up (by (repeat (first | (with_reducible exact Below.refl _ _) | (with_reducible assumption) | (with_reducible refine Below.alloc ?_ (by (repeat (first | (with_reducible exact Nat.le_refl _) | (with_reducible assumption) | (with_reducible refine le_up ?_) | (with_reducible refine le_alloc ?_) | (with_reducible refine le_setCell ?_) | (with_reducible refine le_drew ?_) | (with_reducible refine le_drewN ?_) | omega))) _) | (with_reducible refine Below.drew ?_) | (with_reducible refine Below.drewN ?_ _) | (with_reducible refine Below.setCell ?_ (by (repeat (first | (with_reducible exact Nat.le_refl _) | (with_reducible assumption) | (with_reducible refine le_up ?_) | (with_reducible refine le_alloc ?_) | (with_reducible refine le_setCell ?_) | (with_reducible refine le_drew ?_) | (with_reducible refine le_drewN ?_) | omega))) _) | (with_reducible refine Below.up ?_ (by (repeat (first | (with_reducible exact Nat.le_refl _) | (with_reducible assumption) | (with_reducible refine le_up ?_) | (with_reducible refine le_alloc ?_) | (with_reducible refine le_setCell ?_) | (with_reducible refine le_drew ?_) | (with_reducible refine le_drewN ?_) | omega)))))))⟩, by simp [intOf]; omega⟩
                  · have d1 : decide (0 ≤ q) = true := by simp; omega
                    go_wp2_with fail
                    (refine wp_region_up (by kernel_rfl) (by kernel_rfl) ?_; (repeat (go_big_quiet_step (first | (go_at_call 16; exact Calls.up_gives (Fails_is (HX.out.up.alloc.up) ok5 f1)) | (go_at_call 17; exact Calls.up_gives (Total_is (HX.out.up.alloc.up) ok5 f2)) | (go_at_call 18; exact Calls.up_gives (Until_is (HX.out.up.alloc.up) ok5 f3))))); refine wpQuiet_nil ?_; intro _ hw'; obtain ⟨xq, hw''⟩ := hw'; subst hw'')
                    go_wp2_with fail
                    exact ⟨⟨_, by omega, by omega, rfl, ex_up (by (repeat (first | (with_reducible exact Below.refl _ _) | (with_reducible assumption) | (with_reducible refine Below.alloc ?_ (by (repeat (first | (with_reducible exact Nat.le_refl _) | (with_reducible assumption) | (with_reducible refine le_up ?_) | (with_reducible refine le_alloc ?_) | (with_reducible refine le_setCell ?_) | (with_reducible refine le_drew ?_) | (with_reducible refine le_drewN ?_) | omega))) _) | (with_reducible refine Below.drew ?_) | (with_reducible refine Below.drewN ?_ _) | (with_reducible refine Below.setCell ?_ (by (repeat (first | (with_reducible exact Nat.le_refl _) | (with_reducible assumption) | (with_reducible refine le_up ?_) | (with_reducible refine le_alloc ?_) | (with_reducible refine le_setCell ?_) | (with_reducible refine le_drew ?_) | (with_reducible refine le_drewN ?_) | omega))) _) | (with_reducible refine Below.up ?_ (by (repeat (first | (with_reducible exact Nat.le_refl _) | (with_reducible assumption) | (with_reducible refine le_up ?_) | (with_reducible refine le_alloc ?_) | (with_reducible refine le_setCell ?_) | (with_reducible refine le_drew ?_) | (with_reducible refine le_drewN ?_) | omega)))))))⟩, by simp [intOf]; omega⟩
                · obtain ⟨j, hj, rfl⟩ := src_in hqs
                  have f0 : lookO S5 (j : Int) = S5.l j := by simp [lookO, hqs]
                  have f1 : (lookO S5 (j : Int)).fails = (S5.l j).fails := by rw [f0]
                  have f2 : (lookO S5 (j : Int)).total = (S5.l j).total := by rw [f0]
                  have f3 : (lookO S5 (j : Int)).til = (S5.l j).til := by rw [f0]
                  have c1 := HY.out.fails j hj
                  have c2 := HY.out.total j hj
                  have c3 := HY.out.til j hj
                  have hjI : (j : Int) < 8 := by omega
                  go_wp2_with fail
                  (refine wp_region_up (by kernel_rfl) (by kernel_rfl) ?_; (repeat (go_big_quiet_step (first | (go_at_call 16; exact Calls.up_gives (Fails_is (HX.out.up.alloc.up) ok5 f1)) | (go_at_call 17; exact Calls.up_gives (Total_is (HX.out.up.alloc.up) ok5 f2)) | (go_at_call 18; exact Calls.up_gives (Until_is (HX.out.up.alloc.up) ok5 f3))))); refine wpQuiet_nil ?_; intro _ hw'; obtain ⟨xq, hw''⟩ := hw'; subst hw'')
                  go_wp2_with fail
                  exact ⟨⟨_, by omega, by omega, rfl, ex_up (by (repeat (first | (with_reducible exact Below.refl _ _) | (with_reducible assumption) | (with_reducible refine Below.alloc ?_ (by (repeat (first | (with_reducible exact Nat.le_refl _) | (with_reducible assumption) | (with_reducible refine le_up ?_) | (with_reducible refine le_alloc ?_) | (with_reducible refine le_setCell ?_) | (with_reducible refine le_drew ?_) | (with_reducible refine le_drewN ?_) | omega))) _) | (with_reducible refine Below.drew ?_) | (with_reducible refine Below.drewN ?_ _) | (with_reducible refine Below.setCell ?_ (by (repeat (first | (with_reducible exact Nat.le_refl _) | (with_reducible assumption) | (with_reducible refine le_up ?_) | (with_reducible refine le_alloc ?_) | (with_reducible refine le_setCell ?_) | (with_reducible refine le_drew ?_) | (with_reducible refine le_drewN ?_) | omega))) _) | (with_reducible refine Below.up ?_ (by (repeat (first | (with_reducible exact Nat.le_refl _) | (with_reducible assumption) | (with_reducible refine le_up ?_) | (with_reducible refine le_alloc ?_) | (with_reducible refine le_setCell ?_) | (with_reducible refine le_drew ?_) | (with_reducible refine le_drewN ?_) | omega)))))))⟩, by simp [intOf]; omega⟩
              · have hq : q = 9 := by omega
                subst hq
                go_wp2_with fail
                exact ⟨⟨k + 1, S5, by omega, by go_num, ok5, ⟨HX.out.up, HY.out.up, below_up HB5.out HB5.out.size _⟩⟩, by simp [intOf]; omega⟩
        ·
          go_wp2_with (go_at_call 19; (first | with_reducible refine Calls.fold (works18 _) ?_ | with_reducible refine Calls.fresh (works18 _) ?_); intro x1)
          go_ret
          exact Gives.mk rfl (below_up HA.out.bel HA.out.bel.size _)
      ·
        go_wp2_with (go_at_call 19; (first | with_reducible refine Calls.fold (works18 _) ?_ | with_reducible refine Calls.fresh (works18 _) ?_); intro x1)
        go_ret
        exact Gives.mk rfl (below_up HA.out.bel HA.out.bel.size _)
end Go.Proofs.Ytcdhhnodfgpkiaa
