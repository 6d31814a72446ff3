/-
  The law LockBounded, walked.
-/
import Derived.Test.YtcdhhnodfgpkiaaLockB
import Derived.Deep.CutRange
namespace Go.Proofs.Ytcdhhnodfgpkiaa
open Go.RowKit

structure LBAt (w : World) (c y q : Nat) (M T F : Int) (k : Nat) (X Y : LockS) (cn nw : Int) (wr : World) : Prop where
  okx : LockOK X k
  oky : LockOK Y k
  inv : BInv X Y q M T F cn nw
  n0 : 0 ≤ nw
  n1 : nw ≤ 999
  x : LockAt wr c X
  y' : LockAt wr y Y
  bel : Below w.heap.size w wr
theorem LockOK.act1 {S : LockS} {k : Nat} (h : LockOK S k) : LockOK S ((k + 1 : Nat) : Int) := h.mono (by omega)
theorem LockOK.good1 {S : LockS} {k : Nat} (h : LockOK S k) (s : Int) : LockOK (goodS S s) ((k + 1 : Nat) : Int) := (h.good (by omega) s).mono (by omega)
theorem LockOK.fail1 {S : LockS} {k : Nat} (h : LockOK S k) (s t : Int) : LockOK (failS S s t) ((k + 1 : Nat) : Int) := by have := h.fail s t; simpa using this
theorem lookO_src (S : LockS) {q : Nat} (h : q < 8) : lookO S (q : Int) = S.l q := by unfold lookO; rw [if_pos (lock_srcB h)]; simp

/- the arms of the last stretch: calls that only make memory -/
set_option maxRecDepth 100000 in
set_option maxHeartbeats 6400000 in
theorem LockBounded_any (most time : Int) (a : Option Addr) (len cap : Nat) (source frm : Int) (w : World) (hr : Elems w [some .i64, some .i64, some .i64] a len) :
    Calls Try.prog 4 #[.int .i64 most, .int .i64 time, .slice a len cap, .int .i64 source, .int .i64 frm] w (Gives w (.bool true)) := by
  have HR := Lib.hid hr
  have hlen := hr.1
  clear hr
  have hM := amongV_bd most 20 (by omega)
  have hT := amongV_bd time 200 (by omega)
  have hS := amongV_bd source 8 (by omega)
  have hF := amongV_bd frm 500 (by omega)
  go_enter Try.func4, Try.ntmps4
  go_wp2_with (first | (go_at_call 19; (first | with_reducible refine Calls.fold (works18 _) ?_ | with_reducible refine Calls.fresh (works18 _) ?_); intro x1) | (go_at_call 20; with_reducible refine Calls.tells (Among_any _ _ _ (by omega) (by omega)) ?_))
  obtain ⟨q, hq⟩ : ∃ q : Nat, amongV source 8 = q := ⟨(amongV source 8).toNat, by omega⟩
  rw [hq] at hS ⊢
  have hq8 : q < 8 := by omega
  obtain ⟨M, hMM⟩ : ∃ M, 1 + amongV most 20 = M := ⟨_, rfl⟩
  obtain ⟨T, hTT⟩ : ∃ T, 1 + amongV time 200 = T := ⟨_, rfl⟩
  rw [hMM, hTT]
  have hM1 : 1 ≤ M := by omega
  have hM2 : M ≤ 20 := by omega
  have hT1 : 1 ≤ T := by omega
  have hT2 : T ≤ 200 := by omega
  generalize amongV frm 500 = F at *
  clear hq hMM hTT hM hT
  have hnew : newB M T = true := by simp [newB]; omega
  refine (New_good _ hnew).mono ?_
  rintro e w1 ⟨c, rfl, hc, hx, hb1⟩
  have HX := Lib.hid hx
  have HB1 := Lib.hid (Below.trans (show Below w.heap.size w (up w x1) by (repeat (first | (with_reducible exact Below.refl _ _) | (with_reducible assumption) | (with_reducible refine Below.alloc ?_ (by (repeat (first | (with_reducible exact Nat.le_refl _) | (with_reducible assumption) | (with_reducible refine le_up ?_) | (with_reducible refine le_alloc ?_) | (with_reducible refine le_setCell ?_) | (with_reducible refine le_drew ?_) | (with_reducible refine le_drewN ?_) | omega))) _) | (with_reducible refine Below.drew ?_) | (with_reducible refine Below.drewN ?_ _) | (with_reducible refine Below.setCell ?_ (by (repeat (first | (with_reducible exact Nat.le_refl _) | (with_reducible assumption) | (with_reducible refine le_up ?_) | (with_reducible refine le_alloc ?_) | (with_reducible refine le_setCell ?_) | (with_reducible refine le_drew ?_) | (with_reducible refine le_drewN ?_) | omega))) _) | (with_reducible refine Below.up ?_ (by (repeat (first | (with_reducible exact Nat.le_refl _) | (with_reducible assumption) | (with_reducible refine le_up ?_) | (with_reducible refine le_alloc ?_) | (with_reducible refine le_setCell ?_) | (with_reducible refine le_drew ?_) | (with_reducible refine le_drewN ?_) | omega))))))) (hb1.mono (up_size w x1)))
  have hc1 := hx.lt
  have hcw : w.heap.size ≤ c := Nat.le_trans (up_size w x1) hc
  clear hx hb1
  go_wp2_with fail
  refine (New_good _ hnew).mono ?_
  rintro e w2 ⟨y, rfl, hy, hy', hb2⟩
  have hst : LBAt w c y q M T F 0 (LockS.new M T) (LockS.new M T) 0 0 w2 :=
    ⟨LockOK.new hnew, LockOK.new hnew, ⟨rfl, rfl, rfl, rfl, rfl, hM1, hT1, by simp [LockS.new, OneS.zero], by simp [LockS.new, OneS.zero]; omega, by omega, fun _ => rfl, .inl (by simp [LockS.new, OneS.zero])⟩, by omega, by omega, HX.out.below hb2 hc1, hy', HB1.out.trans (hb2.mono HB1.out.size)⟩
  have HST := Lib.hid hst
  have hcy : c ≠ y := by omega
  have hyw : w.heap.size ≤ y := Nat.le_trans HB1.out.size hy
  clear hst hy' hb2 HB1 HX hnew hc hy hc1
  go_wp2_with fail
  go_loopw [15, 16, 17] (fun v15 v16 v17 wr => ∃ (k : Nat) (X Y : LockS) (cn nw : Int), k ≤ 60 ∧ v17 = .int .i64 k ∧ v15 = .int .i64 cn ∧ v16 = .int .i64 nw ∧ LBAt w c y q M T F k X Y cn nw wr) (fun _ _ v17 _ => 60 - (intOf v17).toNat)
  case atStart => exact ⟨0, _, _, 0, 0, by omega, rfl, rfl, rfl, HST.out⟩
  case round =>
    clear HST
    obtain ⟨k, X, Y, cn, nw, hk, rfl, rfl, rfl, ha⟩ := hrel
    have HA := Lib.hid ha
    have hn0 := ha.n0
    have hn1 := ha.n1
    have hcl := ha.x.lt
    have hyl := ha.y'.lt
    have hsz := ha.bel.size
    clear ha
    by_cases hkl : k < len
    · by_cases hk60 : k < 60
      · obtain ⟨_, h0 | ⟨Bq, off, rfl, hBq, hcell⟩⟩ := HR.out
        · omega
        · obtain ⟨cs, hic, hcs⟩ := hcell k hkl
          obtain ⟨d, cs, rfl, hw0, hic⟩ := hic.cons
          obtain ⟨s, cs, rfl, hw1, hic⟩ := hic.cons
          obtain ⟨t, cs, rfl, hw2, hic⟩ := hic.cons
          obtain rfl := hic.nil
          haveI : LtSize Bq wr := ⟨by omega⟩
          have x0 : wr.cell? ⟨Bq, off + k * 3, none⟩ = some (.int .i64 d) := by rw [HA.out.bel.cell (p := ⟨Bq, _, none⟩) hBq]; exact hcs 0 (by decide)
          have x1 : wr.cell? ⟨Bq, off + k * 3 + 1, none⟩ = some (.int .i64 s) := by rw [HA.out.bel.cell (p := ⟨Bq, _, none⟩) hBq]; exact hcs 1 (by decide)
          have x2 : wr.cell? ⟨Bq, off + k * 3 + 2, none⟩ = some (.int .i64 t) := by rw [HA.out.bel.cell (p := ⟨Bq, _, none⟩) hBq]; exact hcs 2 (by decide)
          clear hcell hcs hw0 hw1 hw2
          have hta := amongV_bd t 1000 (by omega)
          have hkI : (k : Int) < 60 := by omega
          go_upto_region 11 with fail
          go_cut [16] from 44 to 158 (fun v16 wc => ∃ N : Int, v16 = .int .i64 N ∧ nw ≤ N ∧ N ≤ 999 ∧ wc = wr.alloc (Obj.cells #[.int .i64 d, .int .i64 s, .int .i64 t] 32))
          case first =>
            go_wp2_with (go_at_call 20; with_reducible refine Calls.tells (Among_any _ _ _ (by omega) (by omega)) ?_)
            all_goals go_meet
            all_goals exact ⟨_, rfl, by omega, by omega, rfl⟩
          case rest =>
            obtain ⟨N, rfl, hN, hN1, rfl⟩ := hcut
            clear x0 x1 x2
            have hN0 : 0 ≤ N := by omega
            haveI : LtSize c wr := ⟨hcl⟩
            haveI : LtSize y wr := ⟨hyl⟩
            have hvx : (lookO X (q : Int)).total = (X.l q).total := by rw [lookO_src X hq8]
            by_cases hsq : s = (q : Int)
            · subst hsq
              by_cases hdo : amongV d 4 = 3
              · have hv0 : (lookO X (q : Int)).total = ((goodS X (q : Int)).l q).total := by rw [goodS_total X hq8, hvx]
                go_wp2_with (first | (go_at_call 17; (first | with_reducible refine Calls.fold (Total_is HA.out.x.alloc HA.out.okx hv0) ?_ | with_reducible refine Calls.fresh (Total_is HA.out.x.alloc HA.out.okx hv0) ?_); intro x1) | (go_at_call 20; with_reducible refine Calls.tells (Among_any _ _ _ (by omega) (by omega)) ?_))
                refine (Good_any c (q : Int) X k _ HA.out.x.alloc.up HA.out.okx).mono ?_
                rintro e w6 ⟨rfl, hx6, hg6⟩
                have hp0 : w6.cell? ⟨wr.heap.size, 0, none⟩ = some (.int .i64 d) := kept_cell (by simp) hg6 (by omega)
                have hp1 : w6.cell? ⟨wr.heap.size, 1, none⟩ = some (.int .i64 (q : Int)) := kept_cell (by simp) hg6 (by omega)
                have hp2 : w6.cell? ⟨wr.heap.size, 2, none⟩ = some (.int .i64 t) := kept_cell (by simp) hg6 (by omega)
                have hy6 : LockAt w6 y Y := (HA.out.y'.alloc.up).kept hg6 (by simp; omega)
                have hb6 : Below w.heap.size w w6 := below_gr (below_up (HA.out.bel.alloc hsz _) (by simp; omega) _) hg6 (by have := up_size (wr.alloc (Obj.cells #[.int .i64 d, .int .i64 (q : Int), .int .i64 t] 32)) x1; simp at this; omega) hcw
                have okx6 := HA.out.okx.good1 (q : Int)
                haveI : LtSize wr.heap.size w6 := ⟨World.block_lt_of_cell? w6 ⟨wr.heap.size, 0, none⟩ hp0⟩
                go_wp2_with (go_at_call 20; with_reducible refine Calls.tells (Among_any _ _ _ (by omega) (by omega)) ?_)
                refine (Good_any y (q : Int) Y k _ hy6 HA.out.oky).mono ?_
                rintro e w7 ⟨rfl, hy7, hg7⟩
                have hp0' : w7.cell? ⟨wr.heap.size, 0, none⟩ = some (.int .i64 d) := kept_cell hp0 hg7 (by omega)
                have hp1' : w7.cell? ⟨wr.heap.size, 1, none⟩ = some (.int .i64 (q : Int)) := kept_cell hp1 hg7 (by omega)
                have hx7 := hx6.kept hg7 (by simp; omega)
                have hb7 : Below w.heap.size w w7 := below_gr hb6 hg7 hb6.size hyw
                have oky7 := HA.out.oky.good1 (q : Int)
                haveI : LtSize wr.heap.size w7 := ⟨World.block_lt_of_cell? w7 ⟨wr.heap.size, 0, none⟩ hp0'⟩
                clear hp0 hp1 hp2 hx6 hg7 hb6 hg6 hy6
                have hinv := HA.out.inv.good (now' := N) hq8
                generalize goodS X (q : Int) = X2 at *
                generalize goodS Y (q : Int) = Y2 at *
                have HX2 := Lib.hid hx7
                have HY2 := Lib.hid hy7
                have BEL := Lib.hid hb7
                have OKX := Lib.hid okx6
                have OKY := Lib.hid oky7
                clear hx7 hy7 hb7 okx6 oky7 HA hv0 hvx
                rcases (show N < F ∨ (F ≤ N ∧ N < F + T) ∨ (F ≤ N ∧ F + T ≤ N) by omega) with hw | ⟨hw, hw'⟩ | ⟨hw, hw'⟩
                · have hwd : decide (F ≤ N) = false := by simp; omega
                  have INV := Lib.hid (hinv)
                  have hf4 : decide (2 * M ≤ 0) = false := by have := INV.out.lt; simp; omega
                  have hv1 : (lookO X2 (q : Int)).fails = (X2.l q).fails := by rw [lookO_src X2 hq8]
                  have hv2 : (lookO X2 (q : Int)).total = (X2.l q).total := by rw [lookO_src X2 hq8]
                  have hv3 : (lookO X2 (q : Int)).til = (X2.l q).til := by rw [lookO_src X2 hq8]
                  have hu1 : (lookO Y2 (q : Int)).fails = (X2.l q).fails := by rw [lookO_src Y2 hq8, INV.out.eq]
                  have hu2 : (lookO Y2 (q : Int)).total = (X2.l q).total := by rw [lookO_src Y2 hq8, INV.out.eq]
                  have hu3 : (lookO Y2 (q : Int)).til = (X2.l q).til := by rw [lookO_src Y2 hq8, INV.out.eq]
                  have hf1 := INV.out.f1
                  have hf2 := INV.out.lt
                  have hf3 : decide (M ≤ (X2.l q).fails) = false := by simp; omega
                  have hf0 := INV.out.c0
                  have hz1 := OKX.out.o1 q
                  have hz2 := OKX.out.o2 q
                  go_wp2_with (first | (go_at_call 20; with_reducible refine Calls.tells (Among_any _ _ _ (by omega) (by omega)) ?_) | (go_at_call 17; (first | with_reducible refine Calls.fold (Total_is HX2.out.up OKX.out hv2) ?_ | with_reducible refine Calls.fresh (Total_is HX2.out.up OKX.out hv2) ?_); intro x1) | (go_at_call 17; (first | with_reducible refine Calls.fold (Total_is HX2.out OKX.out hv2) ?_ | with_reducible refine Calls.fresh (Total_is HX2.out OKX.out hv2) ?_); intro x1) | (go_at_call 16; (first | with_reducible refine Calls.fold (Fails_is HX2.out.up OKX.out hv1) ?_ | with_reducible refine Calls.fresh (Fails_is HX2.out.up OKX.out hv1) ?_); intro x1) | (go_at_call 16; (first | with_reducible refine Calls.fold (Fails_is HX2.out OKX.out hv1) ?_ | with_reducible refine Calls.fresh (Fails_is HX2.out OKX.out hv1) ?_); intro x1) | (go_at_call 16; (first | with_reducible refine Calls.fold (Fails_is HY2.out.up OKY.out hu1) ?_ | with_reducible refine Calls.fresh (Fails_is HY2.out.up OKY.out hu1) ?_); intro x1) | (go_at_call 18; (first | with_reducible refine Calls.fold (Until_is HX2.out.up OKX.out hv3) ?_ | with_reducible refine Calls.fresh (Until_is HX2.out.up OKX.out hv3) ?_); intro x1) | (go_at_call 18; (first | with_reducible refine Calls.fold (Until_is HY2.out.up OKY.out hu3) ?_ | with_reducible refine Calls.fresh (Until_is HY2.out.up OKY.out hu3) ?_); intro x1) | (go_at_call 17; (first | with_reducible refine Calls.fold (Total_is HY2.out.up OKY.out hu2) ?_ | with_reducible refine Calls.fresh (Total_is HY2.out.up OKY.out hu2) ?_); intro x1))
                  exact ⟨⟨k + 1, X2, Y2, _, _, by omega, by go_num, rfl, rfl, ⟨OKX.out, OKY.out, INV.out, hN0, hN1, HX2.out.up, HY2.out.up, below_up BEL.out BEL.out.size _⟩⟩, by simp [intOf]; omega⟩
                · have INV := Lib.hid (hinv)
                  have hf4 : decide (2 * M ≤ 0) = false := by have := INV.out.lt; simp; omega
                  have hv1 : (lookO X2 (q : Int)).fails = (X2.l q).fails := by rw [lookO_src X2 hq8]
                  have hv2 : (lookO X2 (q : Int)).total = (X2.l q).total := by rw [lookO_src X2 hq8]
                  have hv3 : (lookO X2 (q : Int)).til = (X2.l q).til := by rw [lookO_src X2 hq8]
                  have hu1 : (lookO Y2 (q : Int)).fails = (X2.l q).fails := by rw [lookO_src Y2 hq8, INV.out.eq]
                  have hu2 : (lookO Y2 (q : Int)).total = (X2.l q).total := by rw [lookO_src Y2 hq8, INV.out.eq]
                  have hu3 : (lookO Y2 (q : Int)).til = (X2.l q).til := by rw [lookO_src Y2 hq8, INV.out.eq]
                  have hf1 := INV.out.f1
                  have hf2 := INV.out.lt
                  have hf3 : decide (M ≤ (X2.l q).fails) = false := by simp; omega
                  have hf0 := INV.out.c0
                  have hz1 := OKX.out.o1 q
                  have hz2 := OKX.out.o2 q
                  go_wp2_with (first | (go_at_call 20; with_reducible refine Calls.tells (Among_any _ _ _ (by omega) (by omega)) ?_) | (go_at_call 17; (first | with_reducible refine Calls.fold (Total_is HX2.out.up OKX.out hv2) ?_ | with_reducible refine Calls.fresh (Total_is HX2.out.up OKX.out hv2) ?_); intro x1) | (go_at_call 17; (first | with_reducible refine Calls.fold (Total_is HX2.out OKX.out hv2) ?_ | with_reducible refine Calls.fresh (Total_is HX2.out OKX.out hv2) ?_); intro x1) | (go_at_call 16; (first | with_reducible refine Calls.fold (Fails_is HX2.out.up OKX.out hv1) ?_ | with_reducible refine Calls.fresh (Fails_is HX2.out.up OKX.out hv1) ?_); intro x1) | (go_at_call 16; (first | with_reducible refine Calls.fold (Fails_is HX2.out OKX.out hv1) ?_ | with_reducible refine Calls.fresh (Fails_is HX2.out OKX.out hv1) ?_); intro x1) | (go_at_call 16; (first | with_reducible refine Calls.fold (Fails_is HY2.out.up OKY.out hu1) ?_ | with_reducible refine Calls.fresh (Fails_is HY2.out.up OKY.out hu1) ?_); intro x1) | (go_at_call 18; (first | with_reducible refine Calls.fold (Until_is HX2.out.up OKX.out hv3) ?_ | with_reducible refine Calls.fresh (Until_is HX2.out.up OKX.out hv3) ?_); intro x1) | (go_at_call 18; (first | with_reducible refine Calls.fold (Until_is HY2.out.up OKY.out hu3) ?_ | with_reducible refine Calls.fresh (Until_is HY2.out.up OKY.out hu3) ?_); intro x1) | (go_at_call 17; (first | with_reducible refine Calls.fold (Total_is HY2.out.up OKY.out hu2) ?_ | with_reducible refine Calls.fresh (Total_is HY2.out.up OKY.out hu2) ?_); intro x1))
                  exact ⟨⟨k + 1, X2, Y2, _, _, by omega, by go_num, rfl, rfl, ⟨OKX.out, OKY.out, INV.out, hN0, hN1, HX2.out.up, HY2.out.up, below_up BEL.out BEL.out.size _⟩⟩, by simp [intOf]; omega⟩
                · have hwd : decide (N < F + T) = false := by simp; omega
                  have INV := Lib.hid (hinv)
                  have hf4 : decide (2 * M ≤ 0) = false := by have := INV.out.lt; simp; omega
                  have hv1 : (lookO X2 (q : Int)).fails = (X2.l q).fails := by rw [lookO_src X2 hq8]
                  have hv2 : (lookO X2 (q : Int)).total = (X2.l q).total := by rw [lookO_src X2 hq8]
                  have hv3 : (lookO X2 (q : Int)).til = (X2.l q).til := by rw [lookO_src X2 hq8]
                  have hu1 : (lookO Y2 (q : Int)).fails = (X2.l q).fails := by rw [lookO_src Y2 hq8, INV.out.eq]
                  have hu2 : (lookO Y2 (q : Int)).total = (X2.l q).total := by rw [lookO_src Y2 hq8, INV.out.eq]
                  have hu3 : (lookO Y2 (q : Int)).til = (X2.l q).til := by rw [lookO_src Y2 hq8, INV.out.eq]
                  have hf1 := INV.out.f1
                  have hf2 := INV.out.lt
                  have hf3 : decide (M ≤ (X2.l q).fails) = false := by simp; omega
                  have hf0 := INV.out.c0
                  have hz1 := OKX.out.o1 q
                  have hz2 := OKX.out.o2 q
                  go_wp2_with (first | (go_at_call 20; with_reducible refine Calls.tells (Among_any _ _ _ (by omega) (by omega)) ?_) | (go_at_call 17; (first | with_reducible refine Calls.fold (Total_is HX2.out.up OKX.out hv2) ?_ | with_reducible refine Calls.fresh (Total_is HX2.out.up OKX.out hv2) ?_); intro x1) | (go_at_call 17; (first | with_reducible refine Calls.fold (Total_is HX2.out OKX.out hv2) ?_ | with_reducible refine Calls.fresh (Total_is HX2.out OKX.out hv2) ?_); intro x1) | (go_at_call 16; (first | with_reducible refine Calls.fold (Fails_is HX2.out.up OKX.out hv1) ?_ | with_reducible refine Calls.fresh (Fails_is HX2.out.up OKX.out hv1) ?_); intro x1) | (go_at_call 16; (first | with_reducible refine Calls.fold (Fails_is HX2.out OKX.out hv1) ?_ | with_reducible refine Calls.fresh (Fails_is HX2.out OKX.out hv1) ?_); intro x1) | (go_at_call 16; (first | with_reducible refine Calls.fold (Fails_is HY2.out.up OKY.out hu1) ?_ | with_reducible refine Calls.fresh (Fails_is HY2.out.up OKY.out hu1) ?_); intro x1) | (go_at_call 18; (first | with_reducible refine Calls.fold (Until_is HX2.out.up OKX.out hv3) ?_ | with_reducible refine Calls.fresh (Until_is HX2.out.up OKX.out hv3) ?_); intro x1) | (go_at_call 18; (first | with_reducible refine Calls.fold (Until_is HY2.out.up OKY.out hu3) ?_ | with_reducible refine Calls.fresh (Until_is HY2.out.up OKY.out hu3) ?_); intro x1) | (go_at_call 17; (first | with_reducible refine Calls.fold (Total_is HY2.out.up OKY.out hu2) ?_ | with_reducible refine Calls.fresh (Total_is HY2.out.up OKY.out hu2) ?_); intro x1))
                  exact ⟨⟨k + 1, X2, Y2, _, _, by omega, by go_num, rfl, rfl, ⟨OKX.out, OKY.out, INV.out, hN0, hN1, HX2.out.up, HY2.out.up, below_up BEL.out BEL.out.size _⟩⟩, by simp [intOf]; omega⟩
              · have hd0 : (amongV d 4 == 3) = false := by simpa using hdo
                go_wp2_with (first | (go_at_call 17; (first | with_reducible refine Calls.fold (Total_is HA.out.x.alloc HA.out.okx hvx) ?_ | with_reducible refine Calls.fresh (Total_is HA.out.x.alloc HA.out.okx hvx) ?_); intro x1) | (go_at_call 20; with_reducible refine Calls.tells (Among_any _ _ _ (by omega) (by omega)) ?_))
                refine (Fail_any c (q : Int) N X k _ HA.out.x.alloc.up HA.out.okx (by omega)).mono ?_
                rintro e w6 ⟨rfl, hx6, hg6⟩
                have hp0 : w6.cell? ⟨wr.heap.size, 0, none⟩ = some (.int .i64 d) := kept_cell (by simp) hg6 (by omega)
                have hp1 : w6.cell? ⟨wr.heap.size, 1, none⟩ = some (.int .i64 (q : Int)) := kept_cell (by simp) hg6 (by omega)
                have hp2 : w6.cell? ⟨wr.heap.size, 2, none⟩ = some (.int .i64 t) := kept_cell (by simp) hg6 (by omega)
                have hy6 : LockAt w6 y Y := (HA.out.y'.alloc.up).kept hg6 (by simp; omega)
                have hb6 : Below w.heap.size w w6 := below_gr (below_up (HA.out.bel.alloc hsz _) (by simp; omega) _) hg6 (by have := up_size (wr.alloc (Obj.cells #[.int .i64 d, .int .i64 (q : Int), .int .i64 t] 32)) x1; simp at this; omega) hcw
                have okx6 := HA.out.okx.fail1 (q : Int) N
                haveI : LtSize wr.heap.size w6 := ⟨World.block_lt_of_cell? w6 ⟨wr.heap.size, 0, none⟩ hp0⟩
                go_wp2_with (go_at_call 20; with_reducible refine Calls.tells (Among_any _ _ _ (by omega) (by omega)) ?_)
                refine (Fail_any y (q : Int) N Y k _ hy6 HA.out.oky (by omega)).mono ?_
                rintro e w7 ⟨rfl, hy7, hg7⟩
                have hp0' : w7.cell? ⟨wr.heap.size, 0, none⟩ = some (.int .i64 d) := kept_cell hp0 hg7 (by omega)
                have hp1' : w7.cell? ⟨wr.heap.size, 1, none⟩ = some (.int .i64 (q : Int)) := kept_cell hp1 hg7 (by omega)
                have hx7 := hx6.kept hg7 (by simp; omega)
                have hb7 : Below w.heap.size w w7 := below_gr hb6 hg7 hb6.size hyw
                have oky7 := HA.out.oky.fail1 (q : Int) N
                haveI : LtSize wr.heap.size w7 := ⟨World.block_lt_of_cell? w7 ⟨wr.heap.size, 0, none⟩ hp0'⟩
                clear hp0 hp1 hp2 hx6 hg7 hb6 hg6 hy6
                have hinv := HA.out.inv.fail hq8 hN
                unfold cnt at hinv
                have hto1 := HA.out.okx.o1 q
                have hto2 := HA.out.okx.o2 q
                generalize failS X (q : Int) N = X2 at *
                generalize failS Y (q : Int) N = Y2 at *
                have HX2 := Lib.hid hx7
                have HY2 := Lib.hid hy7
                have BEL := Lib.hid hb7
                have OKX := Lib.hid okx6
                have OKY := Lib.hid oky7
                clear hx7 hy7 hb7 okx6 oky7 HA hvx
                rcases (show N < F ∨ (F ≤ N ∧ N < F + T) ∨ (F ≤ N ∧ F + T ≤ N) by omega) with hw | ⟨hw, hw'⟩ | ⟨hw, hw'⟩
                · have hwd : decide (F ≤ N) = false := by simp; omega
                  have INV := Lib.hid ((by rw [if_neg (show ¬ winB F T N from fun h => absurd h.1 (by omega))] at hinv; exact hinv : BInv X2 Y2 q M T F cn N))
                  have hf4 : decide (2 * M ≤ cn) = false := by have := INV.out.lt; simp; omega
                  have hv1 : (lookO X2 (q : Int)).fails = (X2.l q).fails := by rw [lookO_src X2 hq8]
                  have hv2 : (lookO X2 (q : Int)).total = (X2.l q).total := by rw [lookO_src X2 hq8]
                  have hv3 : (lookO X2 (q : Int)).til = (X2.l q).til := by rw [lookO_src X2 hq8]
                  have hu1 : (lookO Y2 (q : Int)).fails = (X2.l q).fails := by rw [lookO_src Y2 hq8, INV.out.eq]
                  have hu2 : (lookO Y2 (q : Int)).total = (X2.l q).total := by rw [lookO_src Y2 hq8, INV.out.eq]
                  have hu3 : (lookO Y2 (q : Int)).til = (X2.l q).til := by rw [lookO_src Y2 hq8, INV.out.eq]
                  have hf1 := INV.out.f1
                  have hf2 := INV.out.lt
                  have hf3 : decide (M ≤ (X2.l q).fails) = false := by simp; omega
                  have hf0 := INV.out.c0
                  have hz1 := OKX.out.o1 q
                  have hz2 := OKX.out.o2 q
                  go_wp2_with (first | (go_at_call 20; with_reducible refine Calls.tells (Among_any _ _ _ (by omega) (by omega)) ?_) | (go_at_call 17; (first | with_reducible refine Calls.fold (Total_is HX2.out.up OKX.out hv2) ?_ | with_reducible refine Calls.fresh (Total_is HX2.out.up OKX.out hv2) ?_); intro x1) | (go_at_call 17; (first | with_reducible refine Calls.fold (Total_is HX2.out OKX.out hv2) ?_ | with_reducible refine Calls.fresh (Total_is HX2.out OKX.out hv2) ?_); intro x1) | (go_at_call 16; (first | with_reducible refine Calls.fold (Fails_is HX2.out.up OKX.out hv1) ?_ | with_reducible refine Calls.fresh (Fails_is HX2.out.up OKX.out hv1) ?_); intro x1) | (go_at_call 16; (first | with_reducible refine Calls.fold (Fails_is HX2.out OKX.out hv1) ?_ | with_reducible refine Calls.fresh (Fails_is HX2.out OKX.out hv1) ?_); intro x1) | (go_at_call 16; (first | with_reducible refine Calls.fold (Fails_is HY2.out.up OKY.out hu1) ?_ | with_reducible refine Calls.fresh (Fails_is HY2.out.up OKY.out hu1) ?_); intro x1) | (go_at_call 18; (first | with_reducible refine Calls.fold (Until_is HX2.out.up OKX.out hv3) ?_ | with_reducible refine Calls.fresh (Until_is HX2.out.up OKX.out hv3) ?_); intro x1) | (go_at_call 18; (first | with_reducible refine Calls.fold (Until_is HY2.out.up OKY.out hu3) ?_ | with_reducible refine Calls.fresh (Until_is HY2.out.up OKY.out hu3) ?_); intro x1) | (go_at_call 17; (first | with_reducible refine Calls.fold (Total_is HY2.out.up OKY.out hu2) ?_ | with_reducible refine Calls.fresh (Total_is HY2.out.up OKY.out hu2) ?_); intro x1))
                  exact ⟨⟨k + 1, X2, Y2, _, _, by omega, by go_num, rfl, rfl, ⟨OKX.out, OKY.out, INV.out, hN0, hN1, HX2.out.up, HY2.out.up, below_up BEL.out BEL.out.size _⟩⟩, by simp [intOf]; omega⟩
                · have INV := Lib.hid ((by rw [if_pos (show winB F T N from ⟨hw, hw'⟩)] at hinv; exact hinv : BInv X2 Y2 q M T F (cn + ((X2.l q).total - (X.l q).total)) N))
                  have hf4 : decide (2 * M ≤ cn + ((X2.l q).total - (X.l q).total)) = false := by have := INV.out.lt; simp; omega
                  have hv1 : (lookO X2 (q : Int)).fails = (X2.l q).fails := by rw [lookO_src X2 hq8]
                  have hv2 : (lookO X2 (q : Int)).total = (X2.l q).total := by rw [lookO_src X2 hq8]
                  have hv3 : (lookO X2 (q : Int)).til = (X2.l q).til := by rw [lookO_src X2 hq8]
                  have hu1 : (lookO Y2 (q : Int)).fails = (X2.l q).fails := by rw [lookO_src Y2 hq8, INV.out.eq]
                  have hu2 : (lookO Y2 (q : Int)).total = (X2.l q).total := by rw [lookO_src Y2 hq8, INV.out.eq]
                  have hu3 : (lookO Y2 (q : Int)).til = (X2.l q).til := by rw [lookO_src Y2 hq8, INV.out.eq]
                  have hf1 := INV.out.f1
                  have hf2 := INV.out.lt
                  have hf3 : decide (M ≤ (X2.l q).fails) = false := by simp; omega
                  have hf0 := INV.out.c0
                  have hz1 := OKX.out.o1 q
                  have hz2 := OKX.out.o2 q
                  go_wp2_with (first | (go_at_call 20; with_reducible refine Calls.tells (Among_any _ _ _ (by omega) (by omega)) ?_) | (go_at_call 17; (first | with_reducible refine Calls.fold (Total_is HX2.out.up OKX.out hv2) ?_ | with_reducible refine Calls.fresh (Total_is HX2.out.up OKX.out hv2) ?_); intro x1) | (go_at_call 17; (first | with_reducible refine Calls.fold (Total_is HX2.out OKX.out hv2) ?_ | with_reducible refine Calls.fresh (Total_is HX2.out OKX.out hv2) ?_); intro x1) | (go_at_call 16; (first | with_reducible refine Calls.fold (Fails_is HX2.out.up OKX.out hv1) ?_ | with_reducible refine Calls.fresh (Fails_is HX2.out.up OKX.out hv1) ?_); intro x1) | (go_at_call 16; (first | with_reducible refine Calls.fold (Fails_is HX2.out OKX.out hv1) ?_ | with_reducible refine Calls.fresh (Fails_is HX2.out OKX.out hv1) ?_); intro x1) | (go_at_call 16; (first | with_reducible refine Calls.fold (Fails_is HY2.out.up OKY.out hu1) ?_ | with_reducible refine Calls.fresh (Fails_is HY2.out.up OKY.out hu1) ?_); intro x1) | (go_at_call 18; (first | with_reducible refine Calls.fold (Until_is HX2.out.up OKX.out hv3) ?_ | with_reducible refine Calls.fresh (Until_is HX2.out.up OKX.out hv3) ?_); intro x1) | (go_at_call 18; (first | with_reducible refine Calls.fold (Until_is HY2.out.up OKY.out hu3) ?_ | with_reducible refine Calls.fresh (Until_is HY2.out.up OKY.out hu3) ?_); intro x1) | (go_at_call 17; (first | with_reducible refine Calls.fold (Total_is HY2.out.up OKY.out hu2) ?_ | with_reducible refine Calls.fresh (Total_is HY2.out.up OKY.out hu2) ?_); intro x1))
                  exact ⟨⟨k + 1, X2, Y2, _, _, by omega, by go_num, rfl, rfl, ⟨OKX.out, OKY.out, INV.out, hN0, hN1, HX2.out.up, HY2.out.up, below_up BEL.out BEL.out.size _⟩⟩, by simp [intOf]; omega⟩
                · have hwd : decide (N < F + T) = false := by simp; omega
                  have INV := Lib.hid ((by rw [if_neg (show ¬ winB F T N from fun h => absurd h.2 (by omega))] at hinv; exact hinv : BInv X2 Y2 q M T F cn N))
                  have hf4 : decide (2 * M ≤ cn) = false := by have := INV.out.lt; simp; omega
                  have hv1 : (lookO X2 (q : Int)).fails = (X2.l q).fails := by rw [lookO_src X2 hq8]
                  have hv2 : (lookO X2 (q : Int)).total = (X2.l q).total := by rw [lookO_src X2 hq8]
                  have hv3 : (lookO X2 (q : Int)).til = (X2.l q).til := by rw [lookO_src X2 hq8]
                  have hu1 : (lookO Y2 (q : Int)).fails = (X2.l q).fails := by rw [lookO_src Y2 hq8, INV.out.eq]
                  have hu2 : (lookO Y2 (q : Int)).total = (X2.l q).total := by rw [lookO_src Y2 hq8, INV.out.eq]
                  have hu3 : (lookO Y2 (q : Int)).til = (X2.l q).til := by rw [lookO_src Y2 hq8, INV.out.eq]
                  have hf1 := INV.out.f1
                  have hf2 := INV.out.lt
                  have hf3 : decide (M ≤ (X2.l q).fails) = false := by simp; omega
                  have hf0 := INV.out.c0
                  have hz1 := OKX.out.o1 q
                  have hz2 := OKX.out.o2 q
                  go_wp2_with (first | (go_at_call 20; with_reducible refine Calls.tells (Among_any _ _ _ (by omega) (by omega)) ?_) | (go_at_call 17; (first | with_reducible refine Calls.fold (Total_is HX2.out.up OKX.out hv2) ?_ | with_reducible refine Calls.fresh (Total_is HX2.out.up OKX.out hv2) ?_); intro x1) | (go_at_call 17; (first | with_reducible refine Calls.fold (Total_is HX2.out OKX.out hv2) ?_ | with_reducible refine Calls.fresh (Total_is HX2.out OKX.out hv2) ?_); intro x1) | (go_at_call 16; (first | with_reducible refine Calls.fold (Fails_is HX2.out.up OKX.out hv1) ?_ | with_reducible refine Calls.fresh (Fails_is HX2.out.up OKX.out hv1) ?_); intro x1) | (go_at_call 16; (first | with_reducible refine Calls.fold (Fails_is HX2.out OKX.out hv1) ?_ | with_reducible refine Calls.fresh (Fails_is HX2.out OKX.out hv1) ?_); intro x1) | (go_at_call 16; (first | with_reducible refine Calls.fold (Fails_is HY2.out.up OKY.out hu1) ?_ | with_reducible refine Calls.fresh (Fails_is HY2.out.up OKY.out hu1) ?_); intro x1) | (go_at_call 18; (first | with_reducible refine Calls.fold (Until_is HX2.out.up OKX.out hv3) ?_ | with_reducible refine Calls.fresh (Until_is HX2.out.up OKX.out hv3) ?_); intro x1) | (go_at_call 18; (first | with_reducible refine Calls.fold (Until_is HY2.out.up OKY.out hu3) ?_ | with_reducible refine Calls.fresh (Until_is HY2.out.up OKY.out hu3) ?_); intro x1) | (go_at_call 17; (first | with_reducible refine Calls.fold (Total_is HY2.out.up OKY.out hu2) ?_ | with_reducible refine Calls.fresh (Total_is HY2.out.up OKY.out hu2) ?_); intro x1))
                  exact ⟨⟨k + 1, X2, Y2, _, _, by omega, by go_num, rfl, rfl, ⟨OKX.out, OKY.out, INV.out, hN0, hN1, HX2.out.up, HY2.out.up, below_up BEL.out BEL.out.size _⟩⟩, by simp [intOf]; omega⟩
            · have hsd : (s == (q : Int)) = false := by simpa using hsq
              by_cases hdo : amongV d 4 = 3
              · have ho := Lib.hid (goodS_other X hsq)
                have hv0 : (lookO X (q : Int)).total = ((goodS X s).l q).total := by rw [hvx, ho.out.1]
                go_wp2_with (first | (go_at_call 17; (first | with_reducible refine Calls.fold (Total_is HA.out.x.alloc HA.out.okx hv0) ?_ | with_reducible refine Calls.fresh (Total_is HA.out.x.alloc HA.out.okx hv0) ?_); intro x1) | (go_at_call 20; with_reducible refine Calls.tells (Among_any _ _ _ (by omega) (by omega)) ?_))
                refine (Good_any c s X k _ HA.out.x.alloc.up HA.out.okx).mono ?_
                rintro e w6 ⟨rfl, hx6, hg6⟩
                have hp0 : w6.cell? ⟨wr.heap.size, 0, none⟩ = some (.int .i64 d) := kept_cell (by simp) hg6 (by omega)
                have hp1 : w6.cell? ⟨wr.heap.size, 1, none⟩ = some (.int .i64 s) := kept_cell (by simp) hg6 (by omega)
                have hp2 : w6.cell? ⟨wr.heap.size, 2, none⟩ = some (.int .i64 t) := kept_cell (by simp) hg6 (by omega)
                have hy6 : LockAt w6 y Y := (HA.out.y'.alloc.up).kept hg6 (by simp; omega)
                have hb6 : Below w.heap.size w w6 := below_gr (below_up (HA.out.bel.alloc hsz _) (by simp; omega) _) hg6 (by have := up_size (wr.alloc (Obj.cells #[.int .i64 d, .int .i64 s, .int .i64 t] 32)) x1; simp at this; omega) hcw
                have okx6 := HA.out.okx.good1 s
                haveI : LtSize wr.heap.size w6 := ⟨World.block_lt_of_cell? w6 ⟨wr.heap.size, 0, none⟩ hp0⟩
                have hinv := HA.out.inv.other hN ho.out.1 ho.out.2.1 ho.out.2.2
                have oky7 := HA.out.oky.act1
                clear ho
                generalize goodS X s = X2 at *
                obtain ⟨Y2, hY2⟩ : ∃ Y2, Y2 = Y := ⟨_, rfl⟩
                subst hY2
                have HX2 := Lib.hid hx6
                have HY2 := Lib.hid hy6
                have BEL := Lib.hid hb6
                have OKX := Lib.hid okx6
                have OKY := Lib.hid oky7
                clear hx6 hy6 hb6 okx6 oky7 HA hv0 hvx hg6
                rcases (show N < F ∨ (F ≤ N ∧ N < F + T) ∨ (F ≤ N ∧ F + T ≤ N) by omega) with hw | ⟨hw, hw'⟩ | ⟨hw, hw'⟩
                · have hwd : decide (F ≤ N) = false := by simp; omega
                  have INV := Lib.hid (hinv)
                  have hf4 : decide (2 * M ≤ cn) = false := by have := INV.out.lt; simp; omega
                  have hv1 : (lookO X2 (q : Int)).fails = (X2.l q).fails := by rw [lookO_src X2 hq8]
                  have hv2 : (lookO X2 (q : Int)).total = (X2.l q).total := by rw [lookO_src X2 hq8]
                  have hv3 : (lookO X2 (q : Int)).til = (X2.l q).til := by rw [lookO_src X2 hq8]
                  have hu1 : (lookO Y2 (q : Int)).fails = (X2.l q).fails := by rw [lookO_src Y2 hq8, INV.out.eq]
                  have hu2 : (lookO Y2 (q : Int)).total = (X2.l q).total := by rw [lookO_src Y2 hq8, INV.out.eq]
                  have hu3 : (lookO Y2 (q : Int)).til = (X2.l q).til := by rw [lookO_src Y2 hq8, INV.out.eq]
                  have hf1 := INV.out.f1
                  have hf2 := INV.out.lt
                  have hf3 : decide (M ≤ (X2.l q).fails) = false := by simp; omega
                  have hf0 := INV.out.c0
                  have hz1 := OKX.out.o1 q
                  have hz2 := OKX.out.o2 q
                  go_wp2_with (first | (go_at_call 20; with_reducible refine Calls.tells (Among_any _ _ _ (by omega) (by omega)) ?_) | (go_at_call 17; (first | with_reducible refine Calls.fold (Total_is HX2.out.up OKX.out hv2) ?_ | with_reducible refine Calls.fresh (Total_is HX2.out.up OKX.out hv2) ?_); intro x1) | (go_at_call 17; (first | with_reducible refine Calls.fold (Total_is HX2.out OKX.out hv2) ?_ | with_reducible refine Calls.fresh (Total_is HX2.out OKX.out hv2) ?_); intro x1) | (go_at_call 16; (first | with_reducible refine Calls.fold (Fails_is HX2.out.up OKX.out hv1) ?_ | with_reducible refine Calls.fresh (Fails_is HX2.out.up OKX.out hv1) ?_); intro x1) | (go_at_call 16; (first | with_reducible refine Calls.fold (Fails_is HX2.out OKX.out hv1) ?_ | with_reducible refine Calls.fresh (Fails_is HX2.out OKX.out hv1) ?_); intro x1) | (go_at_call 16; (first | with_reducible refine Calls.fold (Fails_is HY2.out.up OKY.out hu1) ?_ | with_reducible refine Calls.fresh (Fails_is HY2.out.up OKY.out hu1) ?_); intro x1) | (go_at_call 18; (first | with_reducible refine Calls.fold (Until_is HX2.out.up OKX.out hv3) ?_ | with_reducible refine Calls.fresh (Until_is HX2.out.up OKX.out hv3) ?_); intro x1) | (go_at_call 18; (first | with_reducible refine Calls.fold (Until_is HY2.out.up OKY.out hu3) ?_ | with_reducible refine Calls.fresh (Until_is HY2.out.up OKY.out hu3) ?_); intro x1) | (go_at_call 17; (first | with_reducible refine Calls.fold (Total_is HY2.out.up OKY.out hu2) ?_ | with_reducible refine Calls.fresh (Total_is HY2.out.up OKY.out hu2) ?_); intro x1))
                  exact ⟨⟨k + 1, X2, Y2, _, _, by omega, by go_num, rfl, rfl, ⟨OKX.out, OKY.out, INV.out, hN0, hN1, HX2.out.up, HY2.out.up, below_up BEL.out BEL.out.size _⟩⟩, by simp [intOf]; omega⟩
                · have INV := Lib.hid (hinv)
                  have hf4 : decide (2 * M ≤ cn) = false := by have := INV.out.lt; simp; omega
                  have hv1 : (lookO X2 (q : Int)).fails = (X2.l q).fails := by rw [lookO_src X2 hq8]
                  have hv2 : (lookO X2 (q : Int)).total = (X2.l q).total := by rw [lookO_src X2 hq8]
                  have hv3 : (lookO X2 (q : Int)).til = (X2.l q).til := by rw [lookO_src X2 hq8]
                  have hu1 : (lookO Y2 (q : Int)).fails = (X2.l q).fails := by rw [lookO_src Y2 hq8, INV.out.eq]
                  have hu2 : (lookO Y2 (q : Int)).total = (X2.l q).total := by rw [lookO_src Y2 hq8, INV.out.eq]
                  have hu3 : (lookO Y2 (q : Int)).til = (X2.l q).til := by rw [lookO_src Y2 hq8, INV.out.eq]
                  have hf1 := INV.out.f1
                  have hf2 := INV.out.lt
                  have hf3 : decide (M ≤ (X2.l q).fails) = false := by simp; omega
                  have hf0 := INV.out.c0
                  have hz1 := OKX.out.o1 q
                  have hz2 := OKX.out.o2 q
                  go_wp2_with (first | (go_at_call 20; with_reducible refine Calls.tells (Among_any _ _ _ (by omega) (by omega)) ?_) | (go_at_call 17; (first | with_reducible refine Calls.fold (Total_is HX2.out.up OKX.out hv2) ?_ | with_reducible refine Calls.fresh (Total_is HX2.out.up OKX.out hv2) ?_); intro x1) | (go_at_call 17; (first | with_reducible refine Calls.fold (Total_is HX2.out OKX.out hv2) ?_ | with_reducible refine Calls.fresh (Total_is HX2.out OKX.out hv2) ?_); intro x1) | (go_at_call 16; (first | with_reducible refine Calls.fold (Fails_is HX2.out.up OKX.out hv1) ?_ | with_reducible refine Calls.fresh (Fails_is HX2.out.up OKX.out hv1) ?_); intro x1) | (go_at_call 16; (first | with_reducible refine Calls.fold (Fails_is HX2.out OKX.out hv1) ?_ | with_reducible refine Calls.fresh (Fails_is HX2.out OKX.out hv1) ?_); intro x1) | (go_at_call 16; (first | with_reducible refine Calls.fold (Fails_is HY2.out.up OKY.out hu1) ?_ | with_reducible refine Calls.fresh (Fails_is HY2.out.up OKY.out hu1) ?_); intro x1) | (go_at_call 18; (first | with_reducible refine Calls.fold (Until_is HX2.out.up OKX.out hv3) ?_ | with_reducible refine Calls.fresh (Until_is HX2.out.up OKX.out hv3) ?_); intro x1) | (go_at_call 18; (first | with_reducible refine Calls.fold (Until_is HY2.out.up OKY.out hu3) ?_ | with_reducible refine Calls.fresh (Until_is HY2.out.up OKY.out hu3) ?_); intro x1) | (go_at_call 17; (first | with_reducible refine Calls.fold (Total_is HY2.out.up OKY.out hu2) ?_ | with_reducible refine Calls.fresh (Total_is HY2.out.up OKY.out hu2) ?_); intro x1))
                  exact ⟨⟨k + 1, X2, Y2, _, _, by omega, by go_num, rfl, rfl, ⟨OKX.out, OKY.out, INV.out, hN0, hN1, HX2.out.up, HY2.out.up, below_up BEL.out BEL.out.size _⟩⟩, by simp [intOf]; omega⟩
                · have hwd : decide (N < F + T) = false := by simp; omega
                  have INV := Lib.hid (hinv)
                  have hf4 : decide (2 * M ≤ cn) = false := by have := INV.out.lt; simp; omega
                  have hv1 : (lookO X2 (q : Int)).fails = (X2.l q).fails := by rw [lookO_src X2 hq8]
                  have hv2 : (lookO X2 (q : Int)).total = (X2.l q).total := by rw [lookO_src X2 hq8]
                  have hv3 : (lookO X2 (q : Int)).til = (X2.l q).til := by rw [lookO_src X2 hq8]
                  have hu1 : (lookO Y2 (q : Int)).fails = (X2.l q).fails := by rw [lookO_src Y2 hq8, INV.out.eq]
                  have hu2 : (lookO Y2 (q : Int)).total = (X2.l q).total := by rw [lookO_src Y2 hq8, INV.out.eq]
                  have hu3 : (lookO Y2 (q : Int)).til = (X2.l q).til := by rw [lookO_src Y2 hq8, INV.out.eq]
                  have hf1 := INV.out.f1
                  have hf2 := INV.out.lt
                  have hf3 : decide (M ≤ (X2.l q).fails) = false := by simp; omega
                  have hf0 := INV.out.c0
                  have hz1 := OKX.out.o1 q
                  have hz2 := OKX.out.o2 q
                  go_wp2_with (first | (go_at_call 20; with_reducible refine Calls.tells (Among_any _ _ _ (by omega) (by omega)) ?_) | (go_at_call 17; (first | with_reducible refine Calls.fold (Total_is HX2.out.up OKX.out hv2) ?_ | with_reducible refine Calls.fresh (Total_is HX2.out.up OKX.out hv2) ?_); intro x1) | (go_at_call 17; (first | with_reducible refine Calls.fold (Total_is HX2.out OKX.out hv2) ?_ | with_reducible refine Calls.fresh (Total_is HX2.out OKX.out hv2) ?_); intro x1) | (go_at_call 16; (first | with_reducible refine Calls.fold (Fails_is HX2.out.up OKX.out hv1) ?_ | with_reducible refine Calls.fresh (Fails_is HX2.out.up OKX.out hv1) ?_); intro x1) | (go_at_call 16; (first | with_reducible refine Calls.fold (Fails_is HX2.out OKX.out hv1) ?_ | with_reducible refine Calls.fresh (Fails_is HX2.out OKX.out hv1) ?_); intro x1) | (go_at_call 16; (first | with_reducible refine Calls.fold (Fails_is HY2.out.up OKY.out hu1) ?_ | with_reducible refine Calls.fresh (Fails_is HY2.out.up OKY.out hu1) ?_); intro x1) | (go_at_call 18; (first | with_reducible refine Calls.fold (Until_is HX2.out.up OKX.out hv3) ?_ | with_reducible refine Calls.fresh (Until_is HX2.out.up OKX.out hv3) ?_); intro x1) | (go_at_call 18; (first | with_reducible refine Calls.fold (Until_is HY2.out.up OKY.out hu3) ?_ | with_reducible refine Calls.fresh (Until_is HY2.out.up OKY.out hu3) ?_); intro x1) | (go_at_call 17; (first | with_reducible refine Calls.fold (Total_is HY2.out.up OKY.out hu2) ?_ | with_reducible refine Calls.fresh (Total_is HY2.out.up OKY.out hu2) ?_); intro x1))
                  exact ⟨⟨k + 1, X2, Y2, _, _, by omega, by go_num, rfl, rfl, ⟨OKX.out, OKY.out, INV.out, hN0, hN1, HX2.out.up, HY2.out.up, below_up BEL.out BEL.out.size _⟩⟩, by simp [intOf]; omega⟩
              · have hd0 : (amongV d 4 == 3) = false := by simpa using hdo
                have ho := Lib.hid (failS_other X hsq N)
                have hv0 : (lookO X (q : Int)).total = ((failS X s N).l q).total := by rw [hvx, ho.out.1]
                go_wp2_with (first | (go_at_call 17; (first | with_reducible refine Calls.fold (Total_is HA.out.x.alloc HA.out.okx hv0) ?_ | with_reducible refine Calls.fresh (Total_is HA.out.x.alloc HA.out.okx hv0) ?_); intro x1) | (go_at_call 20; with_reducible refine Calls.tells (Among_any _ _ _ (by omega) (by omega)) ?_))
                refine (Fail_any c s N X k _ HA.out.x.alloc.up HA.out.okx (by omega)).mono ?_
                rintro e w6 ⟨rfl, hx6, hg6⟩
                have hp0 : w6.cell? ⟨wr.heap.size, 0, none⟩ = some (.int .i64 d) := kept_cell (by simp) hg6 (by omega)
                have hp1 : w6.cell? ⟨wr.heap.size, 1, none⟩ = some (.int .i64 s) := kept_cell (by simp) hg6 (by omega)
                have hp2 : w6.cell? ⟨wr.heap.size, 2, none⟩ = some (.int .i64 t) := kept_cell (by simp) hg6 (by omega)
                have hy6 : LockAt w6 y Y := (HA.out.y'.alloc.up).kept hg6 (by simp; omega)
                have hb6 : Below w.heap.size w w6 := below_gr (below_up (HA.out.bel.alloc hsz _) (by simp; omega) _) hg6 (by have := up_size (wr.alloc (Obj.cells #[.int .i64 d, .int .i64 s, .int .i64 t] 32)) x1; simp at this; omega) hcw
                have okx6 := HA.out.okx.fail1 s N
                haveI : LtSize wr.heap.size w6 := ⟨World.block_lt_of_cell? w6 ⟨wr.heap.size, 0, none⟩ hp0⟩
                have hinv := HA.out.inv.other hN ho.out.1 ho.out.2.1 ho.out.2.2
                have oky7 := HA.out.oky.act1
                clear ho
                generalize failS X s N = X2 at *
                obtain ⟨Y2, hY2⟩ : ∃ Y2, Y2 = Y := ⟨_, rfl⟩
                subst hY2
                have HX2 := Lib.hid hx6
                have HY2 := Lib.hid hy6
                have BEL := Lib.hid hb6
                have OKX := Lib.hid okx6
                have OKY := Lib.hid oky7
                clear hx6 hy6 hb6 okx6 oky7 HA hv0 hvx hg6
                rcases (show N < F ∨ (F ≤ N ∧ N < F + T) ∨ (F ≤ N ∧ F + T ≤ N) by omega) with hw | ⟨hw, hw'⟩ | ⟨hw, hw'⟩
                · have hwd : decide (F ≤ N) = false := by simp; omega
                  have INV := Lib.hid (hinv)
                  have hf4 : decide (2 * M ≤ cn) = false := by have := INV.out.lt; simp; omega
                  have hv1 : (lookO X2 (q : Int)).fails = (X2.l q).fails := by rw [lookO_src X2 hq8]
                  have hv2 : (lookO X2 (q : Int)).total = (X2.l q).total := by rw [lookO_src X2 hq8]
                  have hv3 : (lookO X2 (q : Int)).til = (X2.l q).til := by rw [lookO_src X2 hq8]
                  have hu1 : (lookO Y2 (q : Int)).fails = (X2.l q).fails := by rw [lookO_src Y2 hq8, INV.out.eq]
                  have hu2 : (lookO Y2 (q : Int)).total = (X2.l q).total := by rw [lookO_src Y2 hq8, INV.out.eq]
                  have hu3 : (lookO Y2 (q : Int)).til = (X2.l q).til := by rw [lookO_src Y2 hq8, INV.out.eq]
                  have hf1 := INV.out.f1
                  have hf2 := INV.out.lt
                  have hf3 : decide (M ≤ (X2.l q).fails) = false := by simp; omega
                  have hf0 := INV.out.c0
                  have hz1 := OKX.out.o1 q
                  have hz2 := OKX.out.o2 q
                  go_wp2_with (first | (go_at_call 20; with_reducible refine Calls.tells (Among_any _ _ _ (by omega) (by omega)) ?_) | (go_at_call 17; (first | with_reducible refine Calls.fold (Total_is HX2.out.up OKX.out hv2) ?_ | with_reducible refine Calls.fresh (Total_is HX2.out.up OKX.out hv2) ?_); intro x1) | (go_at_call 17; (first | with_reducible refine Calls.fold (Total_is HX2.out OKX.out hv2) ?_ | with_reducible refine Calls.fresh (Total_is HX2.out OKX.out hv2) ?_); intro x1) | (go_at_call 16; (first | with_reducible refine Calls.fold (Fails_is HX2.out.up OKX.out hv1) ?_ | with_reducible refine Calls.fresh (Fails_is HX2.out.up OKX.out hv1) ?_); intro x1) | (go_at_call 16; (first | with_reducible refine Calls.fold (Fails_is HX2.out OKX.out hv1) ?_ | with_reducible refine Calls.fresh (Fails_is HX2.out OKX.out hv1) ?_); intro x1) | (go_at_call 16; (first | with_reducible refine Calls.fold (Fails_is HY2.out.up OKY.out hu1) ?_ | with_reducible refine Calls.fresh (Fails_is HY2.out.up OKY.out hu1) ?_); intro x1) | (go_at_call 18; (first | with_reducible refine Calls.fold (Until_is HX2.out.up OKX.out hv3) ?_ | with_reducible refine Calls.fresh (Until_is HX2.out.up OKX.out hv3) ?_); intro x1) | (go_at_call 18; (first | with_reducible refine Calls.fold (Until_is HY2.out.up OKY.out hu3) ?_ | with_reducible refine Calls.fresh (Until_is HY2.out.up OKY.out hu3) ?_); intro x1) | (go_at_call 17; (first | with_reducible refine Calls.fold (Total_is HY2.out.up OKY.out hu2) ?_ | with_reducible refine Calls.fresh (Total_is HY2.out.up OKY.out hu2) ?_); intro x1))
                  exact ⟨⟨k + 1, X2, Y2, _, _, by omega, by go_num, rfl, rfl, ⟨OKX.out, OKY.out, INV.out, hN0, hN1, HX2.out.up, HY2.out.up, below_up BEL.out BEL.out.size _⟩⟩, by simp [intOf]; omega⟩
                · have INV := Lib.hid (hinv)
                  have hf4 : decide (2 * M ≤ cn) = false := by have := INV.out.lt; simp; omega
                  have hv1 : (lookO X2 (q : Int)).fails = (X2.l q).fails := by rw [lookO_src X2 hq8]
                  have hv2 : (lookO X2 (q : Int)).total = (X2.l q).total := by rw [lookO_src X2 hq8]
                  have hv3 : (lookO X2 (q : Int)).til = (X2.l q).til := by rw [lookO_src X2 hq8]
                  have hu1 : (lookO Y2 (q : Int)).fails = (X2.l q).fails := by rw [lookO_src Y2 hq8, INV.out.eq]
                  have hu2 : (lookO Y2 (q : Int)).total = (X2.l q).total := by rw [lookO_src Y2 hq8, INV.out.eq]
                  have hu3 : (lookO Y2 (q : Int)).til = (X2.l q).til := by rw [lookO_src Y2 hq8, INV.out.eq]
                  have hf1 := INV.out.f1
                  have hf2 := INV.out.lt
                  have hf3 : decide (M ≤ (X2.l q).fails) = false := by simp; omega
                  have hf0 := INV.out.c0
                  have hz1 := OKX.out.o1 q
                  have hz2 := OKX.out.o2 q
                  go_wp2_with (first | (go_at_call 20; with_reducible refine Calls.tells (Among_any _ _ _ (by omega) (by omega)) ?_) | (go_at_call 17; (first | with_reducible refine Calls.fold (Total_is HX2.out.up OKX.out hv2) ?_ | with_reducible refine Calls.fresh (Total_is HX2.out.up OKX.out hv2) ?_); intro x1) | (go_at_call 17; (first | with_reducible refine Calls.fold (Total_is HX2.out OKX.out hv2) ?_ | with_reducible refine Calls.fresh (Total_is HX2.out OKX.out hv2) ?_); intro x1) | (go_at_call 16; (first | with_reducible refine Calls.fold (Fails_is HX2.out.up OKX.out hv1) ?_ | with_reducible refine Calls.fresh (Fails_is HX2.out.up OKX.out hv1) ?_); intro x1) | (go_at_call 16; (first | with_reducible refine Calls.fold (Fails_is HX2.out OKX.out hv1) ?_ | with_reducible refine Calls.fresh (Fails_is HX2.out OKX.out hv1) ?_); intro x1) | (go_at_call 16; (first | with_reducible refine Calls.fold (Fails_is HY2.out.up OKY.out hu1) ?_ | with_reducible refine Calls.fresh (Fails_is HY2.out.up OKY.out hu1) ?_); intro x1) | (go_at_call 18; (first | with_reducible refine Calls.fold (Until_is HX2.out.up OKX.out hv3) ?_ | with_reducible refine Calls.fresh (Until_is HX2.out.up OKX.out hv3) ?_); intro x1) | (go_at_call 18; (first | with_reducible refine Calls.fold (Until_is HY2.out.up OKY.out hu3) ?_ | with_reducible refine Calls.fresh (Until_is HY2.out.up OKY.out hu3) ?_); intro x1) | (go_at_call 17; (first | with_reducible refine Calls.fold (Total_is HY2.out.up OKY.out hu2) ?_ | with_reducible refine Calls.fresh (Total_is HY2.out.up OKY.out hu2) ?_); intro x1))
                  exact ⟨⟨k + 1, X2, Y2, _, _, by omega, by go_num, rfl, rfl, ⟨OKX.out, OKY.out, INV.out, hN0, hN1, HX2.out.up, HY2.out.up, below_up BEL.out BEL.out.size _⟩⟩, by simp [intOf]; omega⟩
                · have hwd : decide (N < F + T) = false := by simp; omega
                  have INV := Lib.hid (hinv)
                  have hf4 : decide (2 * M ≤ cn) = false := by have := INV.out.lt; simp; omega
                  have hv1 : (lookO X2 (q : Int)).fails = (X2.l q).fails := by rw [lookO_src X2 hq8]
                  have hv2 : (lookO X2 (q : Int)).total = (X2.l q).total := by rw [lookO_src X2 hq8]
                  have hv3 : (lookO X2 (q : Int)).til = (X2.l q).til := by rw [lookO_src X2 hq8]
                  have hu1 : (lookO Y2 (q : Int)).fails = (X2.l q).fails := by rw [lookO_src Y2 hq8, INV.out.eq]
                  have hu2 : (lookO Y2 (q : Int)).total = (X2.l q).total := by rw [lookO_src Y2 hq8, INV.out.eq]
                  have hu3 : (lookO Y2 (q : Int)).til = (X2.l q).til := by rw [lookO_src Y2 hq8, INV.out.eq]
                  have hf1 := INV.out.f1
                  have hf2 := INV.out.lt
                  have hf3 : decide (M ≤ (X2.l q).fails) = false := by simp; omega
                  have hf0 := INV.out.c0
                  have hz1 := OKX.out.o1 q
                  have hz2 := OKX.out.o2 q
                  go_wp2_with (first | (go_at_call 20; with_reducible refine Calls.tells (Among_any _ _ _ (by omega) (by omega)) ?_) | (go_at_call 17; (first | with_reducible refine Calls.fold (Total_is HX2.out.up OKX.out hv2) ?_ | with_reducible refine Calls.fresh (Total_is HX2.out.up OKX.out hv2) ?_); intro x1) | (go_at_call 17; (first | with_reducible refine Calls.fold (Total_is HX2.out OKX.out hv2) ?_ | with_reducible refine Calls.fresh (Total_is HX2.out OKX.out hv2) ?_); intro x1) | (go_at_call 16; (first | with_reducible refine Calls.fold (Fails_is HX2.out.up OKX.out hv1) ?_ | with_reducible refine Calls.fresh (Fails_is HX2.out.up OKX.out hv1) ?_); intro x1) | (go_at_call 16; (first | with_reducible refine Calls.fold (Fails_is HX2.out OKX.out hv1) ?_ | with_reducible refine Calls.fresh (Fails_is HX2.out OKX.out hv1) ?_); intro x1) | (go_at_call 16; (first | with_reducible refine Calls.fold (Fails_is HY2.out.up OKY.out hu1) ?_ | with_reducible refine Calls.fresh (Fails_is HY2.out.up OKY.out hu1) ?_); intro x1) | (go_at_call 18; (first | with_reducible refine Calls.fold (Until_is HX2.out.up OKX.out hv3) ?_ | with_reducible refine Calls.fresh (Until_is HX2.out.up OKX.out hv3) ?_); intro x1) | (go_at_call 18; (first | with_reducible refine Calls.fold (Until_is HY2.out.up OKY.out hu3) ?_ | with_reducible refine Calls.fresh (Until_is HY2.out.up OKY.out hu3) ?_); intro x1) | (go_at_call 17; (first | with_reducible refine Calls.fold (Total_is HY2.out.up OKY.out hu2) ?_ | with_reducible refine Calls.fresh (Total_is HY2.out.up OKY.out hu2) ?_); intro x1))
                  exact ⟨⟨k + 1, X2, Y2, _, _, by omega, by go_num, rfl, rfl, ⟨OKX.out, OKY.out, INV.out, hN0, hN1, HX2.out.up, HY2.out.up, below_up BEL.out BEL.out.size _⟩⟩, by simp [intOf]; omega⟩
      ·
        go_wp2_with fail
        go_ret
        exact Gives.mk rfl HA.out.bel
    ·
      go_wp2_with fail
      go_ret
      exact Gives.mk rfl HA.out.bel
end Go.Proofs.Ytcdhhnodfgpkiaa
