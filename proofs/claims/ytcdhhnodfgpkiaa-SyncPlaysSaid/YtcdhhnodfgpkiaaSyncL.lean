/-
  The law SyncPlays, walked.
-/
import Derived.Test.YtcdhhnodfgpkiaaSyncR
import Derived.Test.YtcdhhnodfgpkiaaElemB
import Derived.Deep.RegionHeld3
namespace Go.Proofs.Ytcdhhnodfgpkiaa
open Go.RowKit
set_option linter.unusedVariables false

structure Sync2 (w : World) (c y : Nat) (S : SyncS) (wr : World) : Prop where
  x : SyncAt wr c S
  y : SyncAt wr y S
  bel : Below w.heap.size w wr
theorem cell_below {B : Nat} {w w' : World} {b o : Nat} {v : Value} (hb : Below B w w') (hB : b < B) (h : w.cell? ⟨b, o, none⟩ = some v) : w'.cell? ⟨b, o, none⟩ = some v := by rw [hb.cell (p := ⟨b, o, none⟩) hB]; exact h

set_option maxRecDepth 100000 in
set_option maxHeartbeats 3200000 in
theorem SyncPlays_any (delay rate most : Int) (a : Option Addr) (len cap : Nat) (tick off : Int) (w : World) (hr : Elems w [some .i64, some .u64] a len) (tk1 : -9223372036854775808 ≤ tick) (tk2 : tick ≤ 9223372036854775807) (of2 : off ≤ 9223372036854775807) :
    Calls Try.prog 8 #[.int .i64 delay, .int .i64 rate, .int .i64 most, .slice a len cap, .int .i64 tick, .int .i64 off] w (Gives w (.bool true)) := by
  have HR := Lib.hid hr
  have hlen := hr.1
  clear hr
  cases hnew : new3B delay rate most
  · by_cases h0 : 0 < len
    all_goals
      go_enter Try.func8, Try.ntmps8
      go_wp2_with (first | (go_at_call 25; with_reducible refine Calls.tells (sNew_bad _ hnew) ?_) | (go_at_call 35; with_reducible refine Calls.tells (srNew_bad _ hnew) ?_))
      refine wp_loop_rounds 1 ?_
      rw [rounds_succ]
      go_wp2_with (go_at_call 24; (first | with_reducible refine Calls.fold (works35 _) ?_ | with_reducible refine Calls.fresh (works35 _) ?_); intro x1)
      go_ret
      exact Gives.mk rfl (by (repeat (first | (with_reducible exact Below.refl _ _) | (with_reducible assumption) | (with_reducible refine Below.alloc ?_ (by (repeat (first | (with_reducible exact Nat.le_refl _) | (with_reducible assumption) | (with_reducible refine le_up ?_) | (with_reducible refine le_alloc ?_) | (with_reducible refine le_setCell ?_) | (with_reducible refine le_drew ?_) | (with_reducible refine le_drewN ?_) | omega))) _) | (with_reducible refine Below.drew ?_) | (with_reducible refine Below.drewN ?_ _) | (with_reducible refine Below.setCell ?_ (by (repeat (first | (with_reducible exact Nat.le_refl _) | (with_reducible assumption) | (with_reducible refine le_up ?_) | (with_reducible refine le_alloc ?_) | (with_reducible refine le_setCell ?_) | (with_reducible refine le_drew ?_) | (with_reducible refine le_drewN ?_) | omega))) _) | (with_reducible refine Below.up ?_ (by (repeat (first | (with_reducible exact Nat.le_refl _) | (with_reducible assumption) | (with_reducible refine le_up ?_) | (with_reducible refine le_alloc ?_) | (with_reducible refine le_setCell ?_) | (with_reducible refine le_drew ?_) | (with_reducible refine le_drewN ?_) | omega)))))))
  · go_enter Try.func8, Try.ntmps8
    go_wp2_with fail
    refine (sNew_good _ hnew).mono ?_
    rintro e w1 ⟨c, rfl, hc, hx, hb1⟩
    have HX := Lib.hid hx
    have HB1 := Lib.hid hb1
    have hc1 := hx.lt
    clear hx hb1
    go_wp2_with fail
    refine (srNew_good _ hnew).mono ?_
    rintro e w2 ⟨y, rfl, hy, hy', hb2⟩
    have hst : Sync2 w c y (SyncS.new delay rate most) w2 := ⟨HX.out.below hb2 hc1, hy', HB1.out.trans (hb2.mono HB1.out.size)⟩
    have HST := Lib.hid hst
    have hcy : c ≠ y := by omega
    have hyw : w.heap.size ≤ y := Nat.le_trans HB1.out.size hy
    have OK0 := SyncOK.new hnew
    clear hst hy' hb2 HB1 HX hnew
    go_wp2_with fail
    go_loopw [17] (fun v17 wr => ∃ (k : Nat) (S : SyncS), k ≤ 60 ∧ v17 = .int .i64 k ∧ SyncOK S ∧ Sync2 w c y S wr) (fun v17 _ => 60 - (intOf v17).toNat)
    case atStart => exact ⟨0, _, by omega, rfl, OK0, HST.out⟩
    case round =>
      clear HST OK0
      obtain ⟨k, S, hk, rfl, ok, ha⟩ := hrel
      have HA := Lib.hid ha
      clear ha
      by_cases hkl : k < len
      · by_cases hk60 : k < 60
        · obtain ⟨_, h0 | ⟨Bq, off', rfl, hBq, hcell⟩⟩ := HR.out
          · omega
          · obtain ⟨cs, hic, hcs⟩ := hcell k hkl
            obtain ⟨t, cs, rfl, hw0, hic⟩ := hic.cons
            obtain ⟨u, cs, rfl, hw1, hic⟩ := hic.cons
            obtain rfl := hic.nil
            obtain ⟨tl1, tl2⟩ := bounds_i64 hw0
            obtain ⟨ul1, ul2⟩ := bounds_u64 hw1
            have hsz := HA.out.bel.size
            have hkI : (k : Int) < 60 := by omega
            have hkd : decide ((k : Int) < 60) = true := by simp; omega
            have hBr : Bq < wr.heap.size := by omega
            haveI : LtSize Bq wr := ⟨by omega⟩
            have x0 : wr.cell? ⟨Bq, off' + k * 2, none⟩ = some (.int .i64 t) := by rw [HA.out.bel.cell (p := ⟨Bq, _, none⟩) hBq]; exact hcs 0 (by decide)
            have x1 : wr.cell? ⟨Bq, off' + k * 2 + 1, none⟩ = some (.int .u64 u) := by rw [HA.out.bel.cell (p := ⟨Bq, _, none⟩) hBq]; exact hcs 1 (by decide)
            have X0 := Lib.hid x0
            have X1 := Lib.hid x1
            have hyl := HA.out.y.lt
            have hcl := HA.out.x.lt
            clear hcell hcs hw0 hw1 x0 x1
            go_wp2_with fail
            go_region_held (fun W => W.cell? ⟨Bq, off' + k * 2, none⟩ = some (.int .i64 t) ∧ W.cell? ⟨Bq, off' + k * 2 + 1, none⟩ = some (.int .u64 u))
              (first | exact ⟨X0.out, X1.out⟩ | exact ⟨kept_cell X0.out HG.out (by omega), kept_cell X1.out HG.out (by omega)⟩ | exact ⟨kept_cell (kept_cell X0.out HG.out (by omega)) HG2.out (by omega), kept_cell (kept_cell X1.out HG.out (by omega)) HG2.out (by omega)⟩)
              (first | (go_at_call 27; refine (Beacon_any c t u S _ HA.out.x.drew ok ul1).mono ?_; rintro e w5 ⟨rfl, ht, hg⟩; have HT := Lib.hid ht; have HG : Hid (wr.grownBy w5 (some c)) := Lib.hid (gr_drew hg); clear ht hg) | (go_at_call 36; refine (rBeacon_any y t u S _ (HA.out.y.kept HG.out (by simp; omega)) ok ul1).mono ?_; rintro e w6 ⟨rfl, ht2, hg2⟩; have HT2 := Lib.hid ht2; have HG2 := Lib.hid hg2; clear ht2 hg2))
            have ok5 : SyncOK (beacS S t u) := ok.beac ul1
            have hb5 : Below w.heap.size w w6 := below_gr (below_gr HA.out.bel HG.out hsz hc) HG2.out (Nat.le_trans hsz HG.out.size) hyw
            have hx5 := HT.out.kept HG2.out (by simp; omega)
            have x0 : w6.cell? ⟨Bq, off' + k * 2, none⟩ = some (.int .i64 t) := kept_cell (kept_cell X0.out HG.out (by omega)) HG2.out (by omega)
            generalize beacS S t u = S5 at *
            generalize beacE S t u = e5 at *
            have HX6 := Lib.hid hx5
            have HY6 := HT2
            have HB6 := Lib.hid hb5
            have hcl6 := hx5.lt
            have hyl6 := HY6.out.lt
            clear hx5 hb5 HA HT HT2 HG HG2 X0 X1
            go_wp2_with fail
            refine wp_gen (fun W => Below w6.heap.size w6 W ∧ W.cell? ⟨w6.heap.size, 0, none⟩ = some (.int .i64 tick) ∧ W.cell? ⟨w6.heap.size, 1, none⟩ = some (.int .i64 t) ∧ w6.heap.size < W.heap.size) ⟨by (repeat (first | (with_reducible exact Below.refl _ _) | (with_reducible assumption) | (with_reducible refine Below.alloc ?_ (by (repeat (first | (with_reducible exact Nat.le_refl _) | (with_reducible assumption) | (with_reducible refine le_up ?_) | (with_reducible refine le_alloc ?_) | (with_reducible refine le_setCell ?_) | (with_reducible refine le_drew ?_) | (with_reducible refine le_drewN ?_) | omega))) _) | (with_reducible refine Below.drew ?_) | (with_reducible refine Below.drewN ?_ _) | (with_reducible refine Below.setCell ?_ (by (repeat (first | (with_reducible exact Nat.le_refl _) | (with_reducible assumption) | (with_reducible refine le_up ?_) | (with_reducible refine le_alloc ?_) | (with_reducible refine le_setCell ?_) | (with_reducible refine le_drew ?_) | (with_reducible refine le_drewN ?_) | omega))) _) | (with_reducible refine Below.up ?_ (by (repeat (first | (with_reducible exact Nat.le_refl _) | (with_reducible assumption) | (with_reducible refine le_up ?_) | (with_reducible refine le_alloc ?_) | (with_reducible refine le_setCell ?_) | (with_reducible refine le_drew ?_) | (with_reducible refine le_drewN ?_) | omega)))))), by simp, by simp, LtSize.lt⟩ ?_
            rintro w7 ⟨hb7, g0, g1, hl7⟩
            have HX7 := Lib.hid (HX6.out.below hb7 hcl6)
            have HY7 := Lib.hid (HY6.out.below hb7 hyl6)
            have HB7 := Lib.hid (HB6.out.trans (hb7.mono HB6.out.size))
            have hcl7 := HX7.out.lt
            have hyl7 := HY7.out.lt
            clear hb7 HX6 HY6 HB6 x0
            go_loopw [97] (fun v97 wq => ∃ q : Nat, q ≤ 2 ∧ v97 = .int .i64 q ∧ ∃ x, wq = up w7 x) (fun v97 _ => 2 - (intOf v97).toNat)
            case atStart => exact ⟨0, by omega, rfl, ex_up (Below.refl _ _)⟩
            case round =>
              obtain ⟨q, hq2, rfl, x, rfl⟩ := hrel
              haveI : LtSize w6.heap.size w7 := ⟨hl7⟩
              haveI : LtSize c w7 := ⟨hcl7⟩
              haveI : LtSize y w7 := ⟨hyl7⟩
              rcases (show q = 0 ∨ q = 1 ∨ q = 2 by omega) with rfl | rfl | rfl
              · go_wp2_with (first | (go_at_call 26; (first | with_reducible refine Calls.fold (Bounds_any c _ S5 _ HX7.out.up ok5 tk1 tk2) ?_ | with_reducible refine Calls.fresh (Bounds_any c _ S5 _ HX7.out.up ok5 tk1 tk2) ?_); intro x1) | (go_at_call 37; (first | with_reducible refine Calls.fold (rBounds_any y _ S5 _ HY7.out.up ok5 tk1 tk2) ?_ | with_reducible refine Calls.fresh (rBounds_any y _ S5 _ HY7.out.up ok5 tk1 tk2) ?_); intro x1) | (go_at_call 38; (first | with_reducible refine Calls.fold (Sure_any c _ off S5 _ HX7.out.up ok5 tk1 tk2 of2) ?_ | with_reducible refine Calls.fresh (Sure_any c _ off S5 _ HX7.out.up ok5 tk1 tk2 of2) ?_); intro x1) | (go_at_call 39; (first | with_reducible refine Calls.fold (rSure_any y _ off S5 _ HY7.out.up ok5 tk1 tk2 of2) ?_ | with_reducible refine Calls.fresh (rSure_any y _ off S5 _ HY7.out.up ok5 tk1 tk2 of2) ?_); intro x1))
                exact ⟨⟨1, by omega, by go_num, ex_up (by (repeat (first | (with_reducible exact Below.refl _ _) | (with_reducible assumption) | (with_reducible refine Below.alloc ?_ (by (repeat (first | (with_reducible exact Nat.le_refl _) | (with_reducible assumption) | (with_reducible refine le_up ?_) | (with_reducible refine le_alloc ?_) | (with_reducible refine le_setCell ?_) | (with_reducible refine le_drew ?_) | (with_reducible refine le_drewN ?_) | omega))) _) | (with_reducible refine Below.drew ?_) | (with_reducible refine Below.drewN ?_ _) | (with_reducible refine Below.setCell ?_ (by (repeat (first | (with_reducible exact Nat.le_refl _) | (with_reducible assumption) | (with_reducible refine le_up ?_) | (with_reducible refine le_alloc ?_) | (with_reducible refine le_setCell ?_) | (with_reducible refine le_drew ?_) | (with_reducible refine le_drewN ?_) | omega))) _) | (with_reducible refine Below.up ?_ (by (repeat (first | (with_reducible exact Nat.le_refl _) | (with_reducible assumption) | (with_reducible refine le_up ?_) | (with_reducible refine le_alloc ?_) | (with_reducible refine le_setCell ?_) | (with_reducible refine le_drew ?_) | (with_reducible refine le_drewN ?_) | omega)))))))⟩, by simp [intOf]⟩
              · go_wp2_with (first | (go_at_call 26; (first | with_reducible refine Calls.fold (Bounds_any c _ S5 _ HX7.out.up ok5 tl1 tl2) ?_ | with_reducible refine Calls.fresh (Bounds_any c _ S5 _ HX7.out.up ok5 tl1 tl2) ?_); intro x1) | (go_at_call 37; (first | with_reducible refine Calls.fold (rBounds_any y _ S5 _ HY7.out.up ok5 tl1 tl2) ?_ | with_reducible refine Calls.fresh (rBounds_any y _ S5 _ HY7.out.up ok5 tl1 tl2) ?_); intro x1) | (go_at_call 38; (first | with_reducible refine Calls.fold (Sure_any c _ off S5 _ HX7.out.up ok5 tl1 tl2 of2) ?_ | with_reducible refine Calls.fresh (Sure_any c _ off S5 _ HX7.out.up ok5 tl1 tl2 of2) ?_); intro x1) | (go_at_call 39; (first | with_reducible refine Calls.fold (rSure_any y _ off S5 _ HY7.out.up ok5 tl1 tl2 of2) ?_ | with_reducible refine Calls.fresh (rSure_any y _ off S5 _ HY7.out.up ok5 tl1 tl2 of2) ?_); intro x1))
                exact ⟨⟨2, by omega, by go_num, ex_up (by (repeat (first | (with_reducible exact Below.refl _ _) | (with_reducible assumption) | (with_reducible refine Below.alloc ?_ (by (repeat (first | (with_reducible exact Nat.le_refl _) | (with_reducible assumption) | (with_reducible refine le_up ?_) | (with_reducible refine le_alloc ?_) | (with_reducible refine le_setCell ?_) | (with_reducible refine le_drew ?_) | (with_reducible refine le_drewN ?_) | omega))) _) | (with_reducible refine Below.drew ?_) | (with_reducible refine Below.drewN ?_ _) | (with_reducible refine Below.setCell ?_ (by (repeat (first | (with_reducible exact Nat.le_refl _) | (with_reducible assumption) | (with_reducible refine le_up ?_) | (with_reducible refine le_alloc ?_) | (with_reducible refine le_setCell ?_) | (with_reducible refine le_drew ?_) | (with_reducible refine le_drewN ?_) | omega))) _) | (with_reducible refine Below.up ?_ (by (repeat (first | (with_reducible exact Nat.le_refl _) | (with_reducible assumption) | (with_reducible refine le_up ?_) | (with_reducible refine le_alloc ?_) | (with_reducible refine le_setCell ?_) | (with_reducible refine le_drew ?_) | (with_reducible refine le_drewN ?_) | omega)))))))⟩, by simp [intOf]⟩
              · have c7 := HY7.out.cells.2.2.2.2.2.2.2
                go_wp2_with fail
                (refine wp_region_up (by kernel_rfl) (by kernel_rfl) ?_; (repeat (go_big_quiet_step (first | (go_at_call 28; with_reducible exact Calls.up_tells (Odd_any c S5 _ HX7.out.up.up ok5)) | (go_at_call 28; with_reducible exact Calls.up_tells (Odd_any c S5 _ HX7.out.up ok5))))); refine wpQuiet_nil ?_; intro _ hw'; obtain ⟨xq, hw''⟩ := hw'; subst hw'')
                go_wp2_with fail
                exact ⟨⟨k + 1, S5, by omega, by go_num, ok5, ⟨HX7.out.up.up, HY7.out.up.up, below_up (below_up HB7.out HB7.out.size _) (le_up HB7.out.size) _⟩⟩, by simp [intOf]; omega⟩
        ·
          go_wp2_with (go_at_call 24; (first | with_reducible refine Calls.fold (works35 _) ?_ | with_reducible refine Calls.fresh (works35 _) ?_); intro x1)
          go_ret
          exact Gives.mk rfl (below_up HA.out.bel HA.out.bel.size _)
      ·
        go_wp2_with (go_at_call 24; (first | with_reducible refine Calls.fold (works35 _) ?_ | with_reducible refine Calls.fresh (works35 _) ?_); intro x1)
        go_ret
        exact Gives.mk rfl (below_up HA.out.bel HA.out.bel.size _)
end Go.Proofs.Ytcdhhnodfgpkiaa
