/-
  The law QuarPlays, walked.
-/
import Derived.Test.YtcdhhnodfgpkiaaQuarS
import Derived.Test.YtcdhhnodfgpkiaaQuarU
import Derived.Test.YtcdhhnodfgpkiaaElemB
import Derived.Deep.RegionHeld3
namespace Go.Proofs.Ytcdhhnodfgpkiaa
open Go.RowKit
set_option linter.unusedVariables false

structure Quar2 (w : World) (c y : Nat) (S : QuarS) (wr : World) : Prop where
  x : QuarAt wr c S
  y : QuarAt wr y S
  bel : Below w.heap.size w wr

theorem up_drew_below {w w5 : World} (h : ∃ x, w5 = up w.drew x) : Below w.heap.size w w5 := by obtain ⟨x, rfl⟩ := h; exact below_up (Below.drew (Below.refl _ _)) (Nat.le_refl _) x
theorem cell_below {B : Nat} {w w' : World} {b o : Nat} {v : Value} (hb : Below B w w') (hB : b < B) (h : w.cell? ⟨b, o, none⟩ = some v) : w'.cell? ⟨b, o, none⟩ = some v := by rw [hb.cell (p := ⟨b, o, none⟩) hB]; exact h
set_option maxRecDepth 100000 in
set_option maxHeartbeats 3200000 in
theorem QuarPlays_any (bad hold prove : Int) (a : Option Addr) (len cap : Nat) (w : World) (hr : Elems w [some .i64, some .i64, some .i64] a len) :
    Calls Try.prog 11 #[.int .i64 bad, .int .i64 hold, .int .i64 prove, .slice a len cap] w (Gives w (.bool true)) := by
  have HR := Lib.hid hr
  have hlen := hr.1
  clear hr
  cases hnew : qnewB bad hold prove
  · by_cases h0 : 0 < len
    all_goals
      go_enter Try.func11, Try.ntmps11
      go_wp2_with (first | (go_at_call 30; with_reducible refine Calls.tells (qNew_bad _ hnew) ?_) | (go_at_call 41; with_reducible refine Calls.tells (qrNew_bad _ hnew) ?_))
      refine wp_loop_rounds 1 ?_
      rw [rounds_succ]
      go_wp2_with (go_at_call 29; (first | with_reducible refine Calls.fold (works25 _) ?_ | with_reducible refine Calls.fresh (works25 _) ?_); intro x1)
      go_ret
      exact Gives.mk rfl (by (repeat (first | (with_reducible exact Below.refl _ _) | (with_reducible assumption) | (with_reducible refine Below.alloc ?_ (by (repeat (first | (with_reducible exact Nat.le_refl _) | (with_reducible assumption) | (with_reducible refine le_up ?_) | (with_reducible refine le_alloc ?_) | (with_reducible refine le_setCell ?_) | (with_reducible refine le_drew ?_) | (with_reducible refine le_drewN ?_) | omega))) _) | (with_reducible refine Below.drew ?_) | (with_reducible refine Below.drewN ?_ _) | (with_reducible refine Below.setCell ?_ (by (repeat (first | (with_reducible exact Nat.le_refl _) | (with_reducible assumption) | (with_reducible refine le_up ?_) | (with_reducible refine le_alloc ?_) | (with_reducible refine le_setCell ?_) | (with_reducible refine le_drew ?_) | (with_reducible refine le_drewN ?_) | omega))) _) | (with_reducible refine Below.up ?_ (by (repeat (first | (with_reducible exact Nat.le_refl _) | (with_reducible assumption) | (with_reducible refine le_up ?_) | (with_reducible refine le_alloc ?_) | (with_reducible refine le_setCell ?_) | (with_reducible refine le_drew ?_) | (with_reducible refine le_drewN ?_) | omega)))))))
  · go_enter Try.func11, Try.ntmps11
    go_wp2_with fail
    refine (qNew_good _ hnew).mono ?_
    rintro e w1 ⟨c, rfl, hc, hx, hb1⟩
    have HX := Lib.hid hx
    have HB1 := Lib.hid hb1
    have hc1 := hx.lt
    clear hx hb1
    go_wp2_with fail
    refine (qrNew_good _ hnew).mono ?_
    rintro e w2 ⟨y, rfl, hy, hy', hb2⟩
    have hst : Quar2 w c y (QuarS.new bad hold prove) w2 := ⟨HX.out.below hb2 hc1, hy', HB1.out.trans (hb2.mono HB1.out.size)⟩
    have HST := Lib.hid hst
    have hcy : c ≠ y := by omega
    have hyw : w.heap.size ≤ y := Nat.le_trans HB1.out.size hy
    have OK0 := QuarOK.new hnew
    clear hst hy' hb2 HB1 HX hnew
    go_wp2_with fail
    go_loopw [13] (fun v13 wr => ∃ (k : Nat) (S : QuarS), k ≤ 60 ∧ v13 = .int .i64 k ∧ QuarOK S k ∧ Quar2 w c y S wr) (fun v13 _ => 60 - (intOf v13).toNat)
    case atStart => exact ⟨0, _, by omega, rfl, OK0, HST.out⟩
    case round =>
      clear HST OK0
      obtain ⟨k, S, hk, rfl, ok, ha⟩ := hrel
      have HA := Lib.hid ha
      clear ha
      by_cases hkl : k < len
      · by_cases hk60 : k < 60
        · obtain ⟨_, h0 | ⟨Bq, off, rfl, hBq, hcell⟩⟩ := HR.out
          · omega
          · obtain ⟨cs, hic, hcs⟩ := hcell k hkl
            obtain ⟨d, cs, rfl, hw0, hic⟩ := hic.cons
            obtain ⟨s, cs, rfl, hw1, hic⟩ := hic.cons
            obtain ⟨t, cs, rfl, hw2, hic⟩ := hic.cons
            obtain rfl := hic.nil
            have hsz := HA.out.bel.size
            have hkI : (k : Int) < 60 := by omega
            have hkd : decide ((k : Int) < 60) = true := by simp; omega
            haveI : LtSize Bq wr := ⟨by omega⟩
            have x0 : wr.cell? ⟨Bq, off + k * 3, none⟩ = some (.int .i64 d) := by rw [HA.out.bel.cell (p := ⟨Bq, _, none⟩) hBq]; exact hcs 0 (by decide)
            have x1 : wr.cell? ⟨Bq, off + k * 3 + 1, none⟩ = some (.int .i64 s) := by rw [HA.out.bel.cell (p := ⟨Bq, _, none⟩) hBq]; exact hcs 1 (by decide)
            have x2 : wr.cell? ⟨Bq, off + k * 3 + 2, none⟩ = some (.int .i64 t) := by rw [HA.out.bel.cell (p := ⟨Bq, _, none⟩) hBq]; exact hcs 2 (by decide)
            clear hcell hcs hw0 hw1 hw2
            go_wp2_with fail
            refine (do25_any c d s t S k _ HA.out.x ok (by omega)).mono ?_
            rintro e w4 ⟨rfl, hx4, hg4⟩
            have hbl4 : Below w.heap.size w w4 := below_gr HA.out.bel hg4 hsz hc
            have y0 : w4.cell? ⟨Bq, off + k * 3, none⟩ = some (.int .i64 d) := kept_cell x0 hg4 (by omega)
            have y1 : w4.cell? ⟨Bq, off + k * 3 + 1, none⟩ = some (.int .i64 s) := kept_cell x1 hg4 (by omega)
            have y2 : w4.cell? ⟨Bq, off + k * 3 + 2, none⟩ = some (.int .i64 t) := kept_cell x2 hg4 (by omega)
            have hy4 := HA.out.y.kept hg4 (by simp; omega)
            have HX4 := Lib.hid hx4
            have HY4 := Lib.hid hy4
            have HB4 := Lib.hid hbl4
            have Y0 := Lib.hid y0
            have Y1 := Lib.hid y1
            have Y2 := Lib.hid y2
            clear x0 x1 x2 hx4 hg4 hy4 hbl4 HA
            go_wp2_with fail
            clear y0 y1 y2
            have hB4 : Bq < w4.heap.size := by have := HB4.out.size; omega
            have hyl := HY4.out.lt
            have hkb := kind_bd d
            go_region_held (fun W => W.cell? ⟨Bq, off + k * 3, none⟩ = some (.int .i64 d) ∧ W.cell? ⟨Bq, off + k * 3 + 1, none⟩ = some (.int .i64 s) ∧ W.cell? ⟨Bq, off + k * 3 + 2, none⟩ = some (.int .i64 t))
              (first | exact ⟨Y0.out, Y1.out, Y2.out⟩ | exact ⟨cell_below HK.out hB4 Y0.out, cell_below HK.out hB4 Y1.out, cell_below HK.out hB4 Y2.out⟩ | exact ⟨kept_cell (cell_below HK.out hB4 Y0.out) HG.out (by omega), kept_cell (cell_below HK.out hB4 Y1.out) HG.out (by omega), kept_cell (cell_below HK.out hB4 Y2.out) HG.out (by omega)⟩)
              (first | (go_at_call 34; refine (kind_any d s t _).mono ?_; rintro e w5 ⟨rfl, hx5⟩; have HK := Lib.hid (up_drew_below hx5); clear hx5) | (go_at_call 42; refine (rhap_any y s t (kindV d) S k _ (HY4.out.below HK.out hyl) ok (by omega) hkb).mono ?_; rintro e w6 ⟨rfl, ht, hg⟩; have HT := Lib.hid ht; have HG := Lib.hid hg; clear ht hg))
            have ok5 : QuarOK (hapS S s t (kindV d)) ((k + 1 : Nat) : Int) := by have := ok.hap s t (kindV d); simpa using this
            have hx5 : QuarAt w6 c (hapS S s t (kindV d)) := (HX4.out.below HK.out HX4.out.lt).kept HG.out (by simp; omega)
            have hb5 : Below w.heap.size w w6 := below_gr (HB4.out.trans (HK.out.mono HB4.out.size)) HG.out (Nat.le_trans HB4.out.size HK.out.size) hyw
            have HY5 := HT
            generalize hapS S s t (kindV d) = S5 at *
            generalize hapN S s t (kindV d) = n5 at *
            generalize hapE s t = e5 at *
            have HX := Lib.hid hx5
            have HB5 := Lib.hid hb5
            have hcl := hx5.lt
            have hyl := HY5.out.lt
            clear hx5 hb5 HX4 HY4 HB4 Y0 Y1 Y2 HK HG HT
            go_wp2_with fail
            go_loopw [18] (fun v18 wq => ∃ q : Nat, q ≤ 8 ∧ v18 = .int .i64 q ∧ ∃ x, wq = up w6 x) (fun v18 _ => 8 - (intOf v18).toNat)
            case atStart => exact ⟨0, by omega, rfl, ex_up (Below.refl _ _)⟩
            case round =>
              obtain ⟨q, hq8, rfl, x, rfl⟩ := hrel
              haveI : LtSize c w6 := ⟨hcl⟩
              haveI : LtSize y w6 := ⟨hyl⟩
              by_cases hq : q < 8
              · have hqs : srcB (q : Int) = true := by simp [srcB]; omega
                have f0 : qlookO S5 (q : Int) = S5.l q := by simp [qlookO, hqs]
                have f1 : (qlookO S5 (q : Int)).st = (S5.l q).st := by rw [f0]
                have f2 : (qlookO S5 (q : Int)).til = (S5.l q).til := by rw [f0]
                have f3 : (srcB (q : Int) && decide ((qlookO S5 (q : Int)).st < 2)) = decide ((S5.l q).st < 2) := by rw [f0, hqs, Bool.true_and]
                have f4 : (qlookO S5 (q : Int)).times = (S5.l q).times := by rw [f0]
                obtain ⟨c0, c1, c2, c3, c4⟩ := HY5.out.one q hq
                have hqI : (q : Int) < 8 := by omega
                have hqI0 : (0 : Int) ≤ (q : Int) := by omega
                go_wp2_with fail
                (refine wp_region_up (by kernel_rfl) (by kernel_rfl) ?_; (repeat (go_big_quiet_step (first | (go_at_call 40; with_reducible exact Calls.up_tells (qState_is (HX.out.up.alloc.up) ok5 f1)) | (go_at_call 43; with_reducible exact Calls.up_tells (qUntil_is (HX.out.up.alloc.up) ok5 f2)) | (go_at_call 31; with_reducible exact Calls.up_tells (qCounts_is (HX.out.up.alloc.up) ok5 f3)) | (go_at_call 32; with_reducible exact Calls.up_tells (qTimes_is (HX.out.up.alloc.up) ok5 f4))))); refine wpQuiet_nil ?_; intro _ hw'; obtain ⟨xq, hw''⟩ := hw'; subst hw'')
                go_wp2_with fail
                exact ⟨⟨q + 1, by omega, by go_num, ex_up (by (repeat (first | (with_reducible exact Below.refl _ _) | (with_reducible assumption) | (with_reducible refine Below.alloc ?_ (by (repeat (first | (with_reducible exact Nat.le_refl _) | (with_reducible assumption) | (with_reducible refine le_up ?_) | (with_reducible refine le_alloc ?_) | (with_reducible refine le_setCell ?_) | (with_reducible refine le_drew ?_) | (with_reducible refine le_drewN ?_) | omega))) _) | (with_reducible refine Below.drew ?_) | (with_reducible refine Below.drewN ?_ _) | (with_reducible refine Below.setCell ?_ (by (repeat (first | (with_reducible exact Nat.le_refl _) | (with_reducible assumption) | (with_reducible refine le_up ?_) | (with_reducible refine le_alloc ?_) | (with_reducible refine le_setCell ?_) | (with_reducible refine le_drew ?_) | (with_reducible refine le_drewN ?_) | omega))) _) | (with_reducible refine Below.up ?_ (by (repeat (first | (with_reducible exact Nat.le_refl _) | (with_reducible assumption) | (with_reducible refine le_up ?_) | (with_reducible refine le_alloc ?_) | (with_reducible refine le_setCell ?_) | (with_reducible refine le_drew ?_) | (with_reducible refine le_drewN ?_) | omega)))))))⟩, by simp [intOf]; omega⟩
              · have hq : q = 8 := by omega
                subst hq
                go_wp2_with fail
                exact ⟨⟨k + 1, S5, by omega, by go_num, ok5, ⟨HX.out.up, HY5.out.up, below_up HB5.out HB5.out.size _⟩⟩, by simp [intOf]; omega⟩
        ·
          go_wp2_with (go_at_call 29; (first | with_reducible refine Calls.fold (works25 _) ?_ | with_reducible refine Calls.fresh (works25 _) ?_); intro x1)
          go_ret
          exact Gives.mk rfl (below_up HA.out.bel HA.out.bel.size _)
      ·
        go_wp2_with (go_at_call 29; (first | with_reducible refine Calls.fold (works25 _) ?_ | with_reducible refine Calls.fresh (works25 _) ?_); intro x1)
        go_ret
        exact Gives.mk rfl (below_up HA.out.bel HA.out.bel.size _)
end Go.Proofs.Ytcdhhnodfgpkiaa
