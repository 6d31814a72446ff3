/-
  The law QuarFew, walked.
-/
import Derived.Test.YtcdhhnodfgpkiaaQuarI
import Derived.Test.YtcdhhnodfgpkiaaQuarU
import Derived.Test.YtcdhhnodfgpkiaaElemB
import Derived.Deep.CutRange
namespace Go.Proofs.Ytcdhhnodfgpkiaa
open Go.RowKit
set_option linter.unusedVariables false

structure FAt (w : World) (c y q : Nat) (B : Int) (k : Nat) (X Y : QuarS) (row : Int) (wr : World) : Prop where
  okx : QuarOK X k
  oky : QuarOK Y k
  inv : FInv X (X.l q) row
  eq : Y.l q = X.l q
  xb : X.bad = B
  pb : Y.bad = X.bad
  ph : Y.hold = X.hold
  pp : Y.prove = X.prove
  x : QuarAt wr c X
  y' : QuarAt wr y Y
  bel : Below w.heap.size w wr
theorem qlookq (S : QuarS) {q : Nat} (hq : q < 8) : qlookO S (q : Int) = S.l q := by
  have hs : srcB (q : Int) = true := by simp [srcB]; omega
  unfold qlookO; rw [if_pos hs]; simp

set_option maxRecDepth 100000 in
set_option maxHeartbeats 6400000 in
theorem QuarFew_any (bad hold prove : Int) (a : Option Addr) (len cap : Nat) (source : Int) (w : World) (hr : Elems w [some .i64, some .i64, some .i64] a len) :
    Calls Try.prog 10 #[.int .i64 bad, .int .i64 hold, .int .i64 prove, .slice a len cap, .int .i64 source] w (Gives w (.bool true)) := by
  have HR := Lib.hid hr
  have hlen := hr.1
  clear hr
  have hM := amongV_bd bad 5 (by omega)
  have hT := amongV_bd hold 30 (by omega)
  have hS := amongV_bd prove 5 (by omega)
  have hQ := amongV_bd source 8 (by omega)
  go_enter Try.func10, Try.ntmps10
  go_wp2_with (first | (go_at_call 29; (first | with_reducible refine Calls.fold (works25 _) ?_ | with_reducible refine Calls.fresh (works25 _) ?_); intro x1) | (go_at_call 20; with_reducible refine Calls.tells (Among_any _ _ _ (by omega) (by omega)) ?_))
  obtain ⟨B, hBB⟩ : ∃ B, 2 + amongV bad 5 = B := ⟨_, rfl⟩
  obtain ⟨Hd, hHH⟩ : ∃ Hd, 1 + amongV hold 30 = Hd := ⟨_, rfl⟩
  obtain ⟨P, hPP⟩ : ∃ P, 1 + amongV prove 5 = P := ⟨_, rfl⟩
  obtain ⟨q, hq⟩ : ∃ q : Nat, amongV source 8 = q := ⟨(amongV source 8).toNat, by omega⟩
  rw [hBB, hHH, hPP, hq]
  have hq8 : q < 8 := by omega
  have hB1 : 2 ≤ B := by omega
  have hB2 : B ≤ 6 := by omega
  have hH1 : 1 ≤ Hd := by omega
  have hH2 : Hd ≤ 30 := by omega
  have hP1 : 1 ≤ P := by omega
  have hP2 : P ≤ 5 := by omega
  clear hBB hHH hPP hq hM hT hS hQ
  have hnew : qnewB B Hd P = true := by simp [qnewB, rowB]; omega
  refine (qNew_good _ hnew).mono ?_
  rintro e w1 ⟨c, rfl, hc, hx, hb1⟩
  have HX := Lib.hid hx
  have HB1 := Lib.hid (Below.trans (show Below w.heap.size w (up w x1) by (repeat (first | (with_reducible exact Below.refl _ _) | (with_reducible assumption) | (with_reducible refine Below.alloc ?_ (by (repeat (first | (with_reducible exact Nat.le_refl _) | (with_reducible assumption) | (with_reducible refine le_up ?_) | (with_reducible refine le_alloc ?_) | (with_reducible refine le_setCell ?_) | (with_reducible refine le_drew ?_) | (with_reducible refine le_drewN ?_) | omega))) _) | (with_reducible refine Below.drew ?_) | (with_reducible refine Below.drewN ?_ _) | (with_reducible refine Below.setCell ?_ (by (repeat (first | (with_reducible exact Nat.le_refl _) | (with_reducible assumption) | (with_reducible refine le_up ?_) | (with_reducible refine le_alloc ?_) | (with_reducible refine le_setCell ?_) | (with_reducible refine le_drew ?_) | (with_reducible refine le_drewN ?_) | omega))) _) | (with_reducible refine Below.up ?_ (by (repeat (first | (with_reducible exact Nat.le_refl _) | (with_reducible assumption) | (with_reducible refine le_up ?_) | (with_reducible refine le_alloc ?_) | (with_reducible refine le_setCell ?_) | (with_reducible refine le_drew ?_) | (with_reducible refine le_drewN ?_) | omega))))))) (hb1.mono (up_size w x1)))
  have hc1 := hx.lt
  have hcw : w.heap.size ≤ c := Nat.le_trans (up_size w x1) hc
  clear hx hb1
  go_wp2_with fail
  refine (qNew_good _ hnew).mono ?_
  rintro e w2 ⟨y, rfl, hy, hy', hb2⟩
  have hst : FAt w c y q B 0 (QuarS.new B Hd P) (QuarS.new B Hd P) 0 w2 :=
    ⟨QuarOK.new hnew, QuarOK.new hnew, ⟨rfl, rfl, by omega, by simp [QuarS.new]; omega, .inr ⟨rfl, rfl⟩⟩, rfl, rfl, rfl, rfl, rfl, HX.out.below hb2 hc1, hy', HB1.out.trans (hb2.mono HB1.out.size)⟩
  have HST := Lib.hid hst
  have hcy : c ≠ y := by omega
  have hyw : w.heap.size ≤ y := Nat.le_trans HB1.out.size hy
  clear hst hy' hb2 HB1 HX hnew hc hy hc1
  go_wp2_with fail
  go_loopw [15, 16] (fun v15 v16 wr => ∃ (k : Nat) (X Y : QuarS) (row : Int), k ≤ 60 ∧ v16 = .int .i64 k ∧ v15 = .int .i64 row ∧ FAt w c y q B k X Y row wr) (fun _ v16 _ => 60 - (intOf v16).toNat)
  case atStart => exact ⟨0, _, _, 0, by omega, rfl, rfl, HST.out⟩
  case round =>
    clear HST
    obtain ⟨k, X, Y, row, hk, rfl, rfl, ha⟩ := hrel
    have HA := Lib.hid ha
    have hcl := ha.x.lt
    have hyl := ha.y'.lt
    have hsz := ha.bel.size
    have hr0 := ha.inv.2.2.1
    have hr1 := ha.inv.2.2.2.1
    rw [ha.xb] at hr1
    clear ha
    by_cases hkl : k < len
    · by_cases hk60 : k < 60
      · obtain ⟨_, h0 | ⟨Bq, off, rfl, hBq, hcell⟩⟩ := HR.out
        · omega
        · obtain ⟨cs, hic, hcs⟩ := hcell k hkl
          obtain ⟨d, cs, rfl, hw0, hic⟩ := hic.cons
          obtain ⟨s, cs, rfl, hw1, hic⟩ := hic.cons
          obtain ⟨t, cs, rfl, hw2, hic⟩ := hic.cons
          obtain rfl := hic.nil
          haveI : LtSize Bq wr := ⟨by omega⟩
          have x0 : wr.cell? ⟨Bq, off + k * 3, none⟩ = some (.int .i64 d) := by rw [HA.out.bel.cell (p := ⟨Bq, _, none⟩) hBq]; exact hcs 0 (by decide)
          have x1 : wr.cell? ⟨Bq, off + k * 3 + 1, none⟩ = some (.int .i64 s) := by rw [HA.out.bel.cell (p := ⟨Bq, _, none⟩) hBq]; exact hcs 1 (by decide)
          have x2 : wr.cell? ⟨Bq, off + k * 3 + 2, none⟩ = some (.int .i64 t) := by rw [HA.out.bel.cell (p := ⟨Bq, _, none⟩) hBq]; exact hcs 2 (by decide)
          clear hcell hcs hw0 hw1 hw2
          have hta := amongV_bd t 1000 (by omega)
          have hkI : (k : Int) < 60 := by omega
          haveI : LtSize c wr := ⟨hcl⟩
          haveI : LtSize y wr := ⟨hyl⟩
          by_cases hsq : s = (q : Int)
          · subst hsq
            obtain ⟨N, hN⟩ : ∃ N, amongV t 1000 = N := ⟨_, rfl⟩
            have hN0 : 0 ≤ N := by omega
            have hN1 : N ≤ 999 := by omega
            have HN := Lib.hid hN
            obtain ⟨kd, hkd⟩ : ∃ kd, kindV d = kd := ⟨_, rfl⟩
            have hkb := kind_bd d
            rw [hkd] at hkb
            have HK := Lib.hid hkd
            have htb : tickB N = true := by simp [tickB]; omega
            obtain ⟨hlx, hnx, hex⟩ := hapS_own (S := X) (t := N) (k := kd) hq8 htb
            obtain ⟨hly, hny, hey⟩ := hapS_own (S := Y) (t := N) (k := kd) hq8 htb
            have heq : hapO Y (Y.l q) N kd = hapO X (X.l q) N kd := by rw [HA.out.eq]; exact hapO_pars HA.out.pb HA.out.ph HA.out.pp _ _ _
            have okx2 : QuarOK (hapS X (q : Int) N kd) ((k + 1 : Nat) : Int) := by have := HA.out.okx.hap (q : Int) N kd; simpa using this
            have oky2 : QuarOK (hapS Y (q : Int) N kd) ((k + 1 : Nat) : Int) := by have := HA.out.oky.hap (q : Int) N kd; simpa using this
            have hpx := hapS_pars X (q : Int) N kd
            have hpy := hapS_pars Y (q : Int) N kd
            have hstepF := fun hh => FInv.step (N := N) (kd := kd) HA.out.inv hh
            rw [heq] at hly hny
            clear hN hkd hta
            rcases (show kd = 3 ∨ (kd = 2 ∧ row = B - 1) ∨ (kd = 0 ∨ kd = 1 ∨ (kd = 2 ∧ row ≠ B - 1)) by omega) with h3 | ⟨h2, hrow⟩ | hgo
            · clear hstepF hlx hnx hex hey hly hny okx2 oky2 hpx hpy heq
              rw [h3] at HK
              clear h3 hkb
              go_wp2_with (first | (go_at_call 20; with_reducible refine Calls.tells (Among_any _ _ _ (by omega) (by omega)) ?_) | (go_at_call 34; (first | with_reducible refine Calls.fold (kind_is _ HK.out) ?_ | with_reducible refine Calls.fresh (kind_is _ HK.out) ?_); intro x1))
              exact ⟨⟨k + 1, X, Y, row, by omega, by go_num, rfl, ⟨HA.out.okx.mono (by omega), HA.out.oky.mono (by omega), HA.out.inv, HA.out.eq, HA.out.xb, HA.out.pb, HA.out.ph, HA.out.pp, HA.out.x.alloc.up, HA.out.y'.alloc.up, below_up (HA.out.bel.alloc hsz _) (by simp; omega) _⟩⟩, by simp [intOf]; omega⟩
            · clear hstepF hlx hnx hex hey hly hny okx2 oky2 hpx hpy heq
              rw [h2] at HK
              clear h2 hkb
              have hrb : (row == B - 1) = true := by simpa using hrow
              clear hrow
              go_wp2_with (first | (go_at_call 20; with_reducible refine Calls.tells (Among_any _ _ _ (by omega) (by omega)) ?_) | (go_at_call 34; (first | with_reducible refine Calls.fold (kind_is _ HK.out) ?_ | with_reducible refine Calls.fresh (kind_is _ HK.out) ?_); intro x1))
              exact ⟨⟨k + 1, X, Y, row, by omega, by go_num, rfl, ⟨HA.out.okx.mono (by omega), HA.out.oky.mono (by omega), HA.out.inv, HA.out.eq, HA.out.xb, HA.out.pb, HA.out.ph, HA.out.pp, HA.out.x.alloc.up, HA.out.y'.alloc.up, below_up (HA.out.bel.alloc hsz _) (by simp; omega) _⟩⟩, by simp [intOf]; omega⟩
            · obtain ⟨hfin, hst1⟩ := hstepF (by rw [HA.out.xb]; exact hgo)
              rw [← hlx] at hfin hst1 hnx hly hny
              have HLY := Lib.hid hly
              clear hkb hstepF hlx hly
              rcases hgo with h0 | h1 | ⟨h2, h3⟩
              · subst h0
                simp only [show (0 : Int) ≠ 1 by decide, show (0 : Int) ≠ 2 by decide, if_false] at hfin
                go_wp2_with (first | (go_at_call 20; with_reducible refine Calls.tells (Among_any _ _ _ (by omega) (by omega)) ?_) | (go_at_call 34; (first | with_reducible refine Calls.fold (kind_is _ HK.out) ?_ | with_reducible refine Calls.fresh (kind_is _ HK.out) ?_); intro x1))
                rw [HN.out]
                refine (do25_any c d (q : Int) N X k _ HA.out.x.alloc.up HA.out.okx (by omega)).mono ?_
                rintro e w6 ⟨he, hx6, hg6⟩
                rw [HK.out, hnx, hex] at he
                subst he
                rw [HK.out] at hx6
                have hp0 : w6.cell? ⟨wr.heap.size, 0, none⟩ = some (.int .i64 d) := kept_cell (by simp) hg6 (by omega)
                have hp1 : w6.cell? ⟨wr.heap.size, 1, none⟩ = some (.int .i64 (q : Int)) := kept_cell (by simp) hg6 (by omega)
                have hp2 : w6.cell? ⟨wr.heap.size, 2, none⟩ = some (.int .i64 N) := kept_cell (by simp) hg6 (by omega)
                have hy6 : QuarAt w6 y Y := (HA.out.y'.alloc.up).kept hg6 (by simp; omega)
                have hb6 : Below w.heap.size w w6 := below_gr (below_up (HA.out.bel.alloc hsz _) (by simp; omega) _) hg6 (Nat.le_trans (by simp; omega) (up_size _ _)) hcw
                haveI : LtSize wr.heap.size w6 := ⟨World.block_lt_of_cell? w6 ⟨wr.heap.size, 0, none⟩ hp0⟩
                have HX6 := Lib.hid hx6
                have HB6 := Lib.hid hb6
                have HY6 := Lib.hid hy6
                clear hx6 hb6 hy6 hg6
                go_wp2_with fail
                refine (do25_any y d (q : Int) N Y k _ HY6.out HA.out.oky (by omega)).mono ?_
                rintro e w7 ⟨he, hy7, hg7⟩
                rw [HK.out, hny, hey] at he
                subst he
                rw [HK.out] at hy7
                have hx7 := HX6.out.kept hg7 (by simp; omega)
                have hb7 : Below w.heap.size w w7 := below_gr HB6.out hg7 HB6.out.size hyw
                have hst2 : FAt w c y q B (k + 1) (hapS X (q : Int) N 0) (hapS Y (q : Int) N 0) row w7 :=
                  ⟨okx2, oky2, hfin.pars hpx.1, HLY.out, by rw [hpx.1]; exact HA.out.xb, by rw [hpx.1, hpy.1]; exact HA.out.pb, by rw [hpx.2.1, hpy.2.1]; exact HA.out.ph, by rw [hpx.2.2, hpy.2.2]; exact HA.out.pp, hx7, hy7, hb7⟩
                generalize hapS X (q : Int) N 0 = X2 at *
                generalize hapS Y (q : Int) N 0 = Y2 at *
                have HST2 := Lib.hid hst2
                have htm : (qlookO X2 (q : Int)).times = 0 := by rw [qlookq X2 hq8]; exact HST2.out.inv.1
                have hd1 : decide (1 < (X2.l q).st) = false := by simp; omega
                clear hst2 hx7 hb7 hy7 hg7 HX6 HY6 HB6 HA okx2 oky2 hpx hpy hfin HLY hnx hny hex hey heq hp0 hp1 hp2
                go_wp2_with (go_at_call 32; with_reducible refine Calls.tells (qTimes_is HST2.out.x HST2.out.okx htm) ?_)
                exact ⟨⟨k + 1, X2, Y2, row, by omega, by go_num, rfl, HST2.out⟩, by simp [intOf]; omega⟩
              · subst h1
                simp only [if_true] at hfin
                go_wp2_with (first | (go_at_call 20; with_reducible refine Calls.tells (Among_any _ _ _ (by omega) (by omega)) ?_) | (go_at_call 34; (first | with_reducible refine Calls.fold (kind_is _ HK.out) ?_ | with_reducible refine Calls.fresh (kind_is _ HK.out) ?_); intro x1))
                rw [HN.out]
                refine (do25_any c d (q : Int) N X k _ HA.out.x.alloc.up HA.out.okx (by omega)).mono ?_
                rintro e w6 ⟨he, hx6, hg6⟩
                rw [HK.out, hnx, hex] at he
                subst he
                rw [HK.out] at hx6
                have hp0 : w6.cell? ⟨wr.heap.size, 0, none⟩ = some (.int .i64 d) := kept_cell (by simp) hg6 (by omega)
                have hp1 : w6.cell? ⟨wr.heap.size, 1, none⟩ = some (.int .i64 (q : Int)) := kept_cell (by simp) hg6 (by omega)
                have hp2 : w6.cell? ⟨wr.heap.size, 2, none⟩ = some (.int .i64 N) := kept_cell (by simp) hg6 (by omega)
                have hy6 : QuarAt w6 y Y := (HA.out.y'.alloc.up).kept hg6 (by simp; omega)
                have hb6 : Below w.heap.size w w6 := below_gr (below_up (HA.out.bel.alloc hsz _) (by simp; omega) _) hg6 (Nat.le_trans (by simp; omega) (up_size _ _)) hcw
                haveI : LtSize wr.heap.size w6 := ⟨World.block_lt_of_cell? w6 ⟨wr.heap.size, 0, none⟩ hp0⟩
                have HX6 := Lib.hid hx6
                have HB6 := Lib.hid hb6
                have HY6 := Lib.hid hy6
                clear hx6 hb6 hy6 hg6
                go_wp2_with fail
                refine (do25_any y d (q : Int) N Y k _ HY6.out HA.out.oky (by omega)).mono ?_
                rintro e w7 ⟨he, hy7, hg7⟩
                rw [HK.out, hny, hey] at he
                subst he
                rw [HK.out] at hy7
                have hx7 := HX6.out.kept hg7 (by simp; omega)
                have hb7 : Below w.heap.size w w7 := below_gr HB6.out hg7 HB6.out.size hyw
                have hst2 : FAt w c y q B (k + 1) (hapS X (q : Int) N 1) (hapS Y (q : Int) N 1) 0 w7 :=
                  ⟨okx2, oky2, hfin.pars hpx.1, HLY.out, by rw [hpx.1]; exact HA.out.xb, by rw [hpx.1, hpy.1]; exact HA.out.pb, by rw [hpx.2.1, hpy.2.1]; exact HA.out.ph, by rw [hpx.2.2, hpy.2.2]; exact HA.out.pp, hx7, hy7, hb7⟩
                generalize hapS X (q : Int) N 1 = X2 at *
                generalize hapS Y (q : Int) N 1 = Y2 at *
                have HST2 := Lib.hid hst2
                have htm : (qlookO X2 (q : Int)).times = 0 := by rw [qlookq X2 hq8]; exact HST2.out.inv.1
                have hd1 : decide (1 < (X2.l q).st) = false := by simp; omega
                clear hst2 hx7 hb7 hy7 hg7 HX6 HY6 HB6 HA okx2 oky2 hpx hpy hfin HLY hnx hny hex hey heq hp0 hp1 hp2
                go_wp2_with (go_at_call 32; with_reducible refine Calls.tells (qTimes_is HST2.out.x HST2.out.okx htm) ?_)
                exact ⟨⟨k + 1, X2, Y2, 0, by omega, by go_num, rfl, HST2.out⟩, by simp [intOf]; omega⟩
              · subst h2
                have hrb : (row == B - 1) = false := by simpa using h3
                clear h3
                simp only [show (2 : Int) ≠ 1 by decide, if_false, if_true] at hfin
                go_wp2_with (first | (go_at_call 20; with_reducible refine Calls.tells (Among_any _ _ _ (by omega) (by omega)) ?_) | (go_at_call 34; (first | with_reducible refine Calls.fold (kind_is _ HK.out) ?_ | with_reducible refine Calls.fresh (kind_is _ HK.out) ?_); intro x1))
                rw [HN.out]
                refine (do25_any c d (q : Int) N X k _ HA.out.x.alloc.up HA.out.okx (by omega)).mono ?_
                rintro e w6 ⟨he, hx6, hg6⟩
                rw [HK.out, hnx, hex] at he
                subst he
                rw [HK.out] at hx6
                have hp0 : w6.cell? ⟨wr.heap.size, 0, none⟩ = some (.int .i64 d) := kept_cell (by simp) hg6 (by omega)
                have hp1 : w6.cell? ⟨wr.heap.size, 1, none⟩ = some (.int .i64 (q : Int)) := kept_cell (by simp) hg6 (by omega)
                have hp2 : w6.cell? ⟨wr.heap.size, 2, none⟩ = some (.int .i64 N) := kept_cell (by simp) hg6 (by omega)
                have hy6 : QuarAt w6 y Y := (HA.out.y'.alloc.up).kept hg6 (by simp; omega)
                have hb6 : Below w.heap.size w w6 := below_gr (below_up (HA.out.bel.alloc hsz _) (by simp; omega) _) hg6 (Nat.le_trans (by simp; omega) (up_size _ _)) hcw
                haveI : LtSize wr.heap.size w6 := ⟨World.block_lt_of_cell? w6 ⟨wr.heap.size, 0, none⟩ hp0⟩
                have HX6 := Lib.hid hx6
                have HB6 := Lib.hid hb6
                have HY6 := Lib.hid hy6
                clear hx6 hb6 hy6 hg6
                go_wp2_with fail
                refine (do25_any y d (q : Int) N Y k _ HY6.out HA.out.oky (by omega)).mono ?_
                rintro e w7 ⟨he, hy7, hg7⟩
                rw [HK.out, hny, hey] at he
                subst he
                rw [HK.out] at hy7
                have hx7 := HX6.out.kept hg7 (by simp; omega)
                have hb7 : Below w.heap.size w w7 := below_gr HB6.out hg7 HB6.out.size hyw
                have hst2 : FAt w c y q B (k + 1) (hapS X (q : Int) N 2) (hapS Y (q : Int) N 2) (row + 1) w7 :=
                  ⟨okx2, oky2, hfin.pars hpx.1, HLY.out, by rw [hpx.1]; exact HA.out.xb, by rw [hpx.1, hpy.1]; exact HA.out.pb, by rw [hpx.2.1, hpy.2.1]; exact HA.out.ph, by rw [hpx.2.2, hpy.2.2]; exact HA.out.pp, hx7, hy7, hb7⟩
                generalize hapS X (q : Int) N 2 = X2 at *
                generalize hapS Y (q : Int) N 2 = Y2 at *
                have HST2 := Lib.hid hst2
                have htm : (qlookO X2 (q : Int)).times = 0 := by rw [qlookq X2 hq8]; exact HST2.out.inv.1
                have hd1 : decide (1 < (X2.l q).st) = false := by simp; omega
                clear hst2 hx7 hb7 hy7 hg7 HX6 HY6 HB6 HA okx2 oky2 hpx hpy hfin HLY hnx hny hex hey heq hp0 hp1 hp2
                go_wp2_with (go_at_call 32; with_reducible refine Calls.tells (qTimes_is HST2.out.x HST2.out.okx htm) ?_)
                exact ⟨⟨k + 1, X2, Y2, (row + 1), by omega, by go_num, rfl, HST2.out⟩, by simp [intOf]; omega⟩
          · have hsd : (s == (q : Int)) = false := by simpa using hsq
            have hox := hapS_other (S := X) (t := t) (k := kindV d) hsq
            have okx2 : QuarOK (hapS X s t (kindV d)) ((k + 1 : Nat) : Int) := by have := HA.out.okx.hap s t (kindV d); simpa using this
            have hpx := hapS_pars X s t (kindV d)
            go_wp2_with fail
            refine (do25_any c d s t X k _ HA.out.x.alloc HA.out.okx (by omega)).mono ?_
            rintro e w6 ⟨rfl, hx6, hg6⟩
            have hb6 : Below w.heap.size w w6 := below_gr (HA.out.bel.alloc hsz _) hg6 (by simp; omega) hcw
            have hy6 : QuarAt w6 y Y := HA.out.y'.alloc.kept hg6 (by simp; omega)
            have hinv2 := HA.out.inv
            rw [← hox] at hinv2
            have hinv3 := hinv2.pars hpx.1
            have hst2 : FAt w c y q B (k + 1) (hapS X s t (kindV d)) Y row w6 := ⟨okx2, HA.out.oky.mono (by omega), hinv3, by rw [hox]; exact HA.out.eq, by rw [hpx.1]; exact HA.out.xb, by rw [hpx.1]; exact HA.out.pb, by rw [hpx.2.1]; exact HA.out.ph, by rw [hpx.2.2]; exact HA.out.pp, hx6, hy6, hb6⟩
            have HST2 := Lib.hid hst2
            clear hst2 hox okx2 hpx hx6 hb6 hy6 hinv2 hinv3 hg6
            go_wp2_with fail
            exact ⟨⟨k + 1, _, Y, row, by omega, by go_num, rfl, HST2.out⟩, by simp [intOf]; omega⟩
      ·
        have hx1 : (qlookO X (q : Int)).st = (X.l q).st := by rw [qlookq X hq8]
        have hx2 : (qlookO Y (q : Int)).st = (X.l q).st := by rw [qlookq Y hq8, HA.out.eq]
        go_wp2_with (first | (go_at_call 40; with_reducible refine Calls.tells (qState_is HA.out.x HA.out.okx hx1) ?_) | (go_at_call 40; with_reducible refine Calls.tells (qState_is HA.out.y' HA.out.oky hx2) ?_))
        go_ret
        exact Gives.mk rfl HA.out.bel
    ·
      have hx1 : (qlookO X (q : Int)).st = (X.l q).st := by rw [qlookq X hq8]
      have hx2 : (qlookO Y (q : Int)).st = (X.l q).st := by rw [qlookq Y hq8, HA.out.eq]
      go_wp2_with (first | (go_at_call 40; with_reducible refine Calls.tells (qState_is HA.out.x HA.out.okx hx1) ?_) | (go_at_call 40; with_reducible refine Calls.tells (qState_is HA.out.y' HA.out.oky hx2) ?_))
      go_ret
      exact Gives.mk rfl HA.out.bel
end Go.Proofs.Ytcdhhnodfgpkiaa
