/-
  The law QuarHolds, walked.
-/
import Derived.Test.YtcdhhnodfgpkiaaQuarI
import Derived.Test.YtcdhhnodfgpkiaaQuarU
import Derived.Test.YtcdhhnodfgpkiaaElemB
import Derived.Deep.CutRange
namespace Go.Proofs.Ytcdhhnodfgpkiaa
open Go.RowKit
set_option linter.unusedVariables false

structure HAt (w : World) (c : Nat) (Hd P : Int) (k : Nat) (S : QuarS) (now since good : Int) (wr : World) : Prop where
  ok : QuarOK S k
  inv : HInv S (S.l 3) since good now
  hd : S.hold = Hd
  pr : S.prove = P
  n0 : 0 ≤ now
  n1 : now ≤ 499
  s0 : -1 ≤ since
  s1 : since ≤ 499
  g0 : 0 ≤ good
  g1 : good ≤ k
  x : QuarAt wr c S
  bel : Below w.heap.size w wr
theorem qlook3 (S : QuarS) : qlookO S 3 = S.l 3 := by simp [qlookO, srcB]
theorem src3 : srcB 3 = true := by decide
theorem counts3 {S : QuarS} {b : Bool} (h : decide ((S.l 3).st < 2) = b) : (srcB 3 && decide ((qlookO S 3).st < 2)) = b := by rw [src3, Bool.true_and, qlook3]; exact h

set_option maxRecDepth 100000 in
set_option maxHeartbeats 6400000 in
theorem QuarHolds_any (bad hold prove : Int) (a : Option Addr) (len cap : Nat) (w : World) (hr : Elems w [some .i64, some .i64, some .i64] a len) :
    Calls Try.prog 7 #[.int .i64 bad, .int .i64 hold, .int .i64 prove, .slice a len cap] w (Gives w (.bool true)) := by
  have HR := Lib.hid hr
  have hlen := hr.1
  clear hr
  have hM := amongV_bd bad 5 (by omega)
  have hT := amongV_bd hold 30 (by omega)
  have hS := amongV_bd prove 5 (by omega)
  go_enter Try.func7, Try.ntmps7
  go_wp2_with (first | (go_at_call 29; (first | with_reducible refine Calls.fold (works25 _) ?_ | with_reducible refine Calls.fresh (works25 _) ?_); intro x1) | (go_at_call 20; with_reducible refine Calls.tells (Among_any _ _ _ (by omega) (by omega)) ?_))
  obtain ⟨B, hBB⟩ : ∃ B, 1 + amongV bad 5 = B := ⟨_, rfl⟩
  obtain ⟨Hd, hHH⟩ : ∃ Hd, 1 + amongV hold 30 = Hd := ⟨_, rfl⟩
  obtain ⟨P, hPP⟩ : ∃ P, 1 + amongV prove 5 = P := ⟨_, rfl⟩
  rw [hBB, hHH, hPP]
  have hB1 : 1 ≤ B := by omega
  have hB2 : B ≤ 5 := by omega
  have hH1 : 1 ≤ Hd := by omega
  have hH2 : Hd ≤ 30 := by omega
  have hP1 : 1 ≤ P := by omega
  have hP2 : P ≤ 5 := by omega
  clear hBB hHH hPP hM hT hS
  have hnew : qnewB B Hd P = true := by simp [qnewB, rowB]; omega
  refine (qNew_good _ hnew).mono ?_
  rintro e w1 ⟨c, rfl, hc, hx, hb1⟩
  have hcw : w.heap.size ≤ c := Nat.le_trans (up_size w x1) hc
  have hst : HAt w c Hd P 0 (QuarS.new B Hd P) 0 (-1) 0 w1 :=
    ⟨QuarOK.new hnew, HInv.never (by omega) rfl (by simp [QuarS.new, QOne.zero]), rfl, rfl, by omega, by omega, by omega, by omega, by omega, by omega, hx, Below.trans (show Below w.heap.size w (up w x1) by (repeat (first | (with_reducible exact Below.refl _ _) | (with_reducible assumption) | (with_reducible refine Below.alloc ?_ (by (repeat (first | (with_reducible exact Nat.le_refl _) | (with_reducible assumption) | (with_reducible refine le_up ?_) | (with_reducible refine le_alloc ?_) | (with_reducible refine le_setCell ?_) | (with_reducible refine le_drew ?_) | (with_reducible refine le_drewN ?_) | omega))) _) | (with_reducible refine Below.drew ?_) | (with_reducible refine Below.drewN ?_ _) | (with_reducible refine Below.setCell ?_ (by (repeat (first | (with_reducible exact Nat.le_refl _) | (with_reducible assumption) | (with_reducible refine le_up ?_) | (with_reducible refine le_alloc ?_) | (with_reducible refine le_setCell ?_) | (with_reducible refine le_drew ?_) | (with_reducible refine le_drewN ?_) | omega))) _) | (with_reducible refine Below.up ?_ (by (repeat (first | (with_reducible exact Nat.le_refl _) | (with_reducible assumption) | (with_reducible refine le_up ?_) | (with_reducible refine le_alloc ?_) | (with_reducible refine le_setCell ?_) | (with_reducible refine le_drew ?_) | (with_reducible refine le_drewN ?_) | omega))))))) (hb1.mono (up_size w x1))⟩
  have HST := Lib.hid hst
  clear hst hx hb1 hnew hc
  go_wp2_with fail
  go_loopw [11, 12, 13, 14] (fun v11 v12 v13 v14 wr => ∃ (k : Nat) (S : QuarS) (now since good : Int), k ≤ 60 ∧ v14 = .int .i64 k ∧ v11 = .int .i64 now ∧ v12 = .int .i64 since ∧ v13 = .int .i64 good ∧ HAt w c Hd P k S now since good wr) (fun _ _ _ v14 _ => 60 - (intOf v14).toNat)
  case atStart => exact ⟨0, _, 0, -1, 0, by omega, rfl, rfl, rfl, rfl, HST.out⟩
  case round =>
    clear HST
    obtain ⟨k, S, now, since, good, hk, rfl, rfl, rfl, rfl, ha⟩ := hrel
    have HA := Lib.hid ha
    have hn0 := ha.n0
    have hn1 := ha.n1
    have hs0 := ha.s0
    have hs1 := ha.s1
    have hg0 := ha.g0
    have hg1 := ha.g1
    have hcl := ha.x.lt
    have hsz := ha.bel.size
    clear ha
    by_cases hkl : k < len
    · by_cases hk60 : k < 60
      · obtain ⟨_, h0 | ⟨Bq, off, rfl, hBq, hcell⟩⟩ := HR.out
        · omega
        · obtain ⟨cs, hic, hcs⟩ := hcell k hkl
          obtain ⟨d, cs, rfl, hw0, hic⟩ := hic.cons
          obtain ⟨s, cs, rfl, hw1, hic⟩ := hic.cons
          obtain ⟨t, cs, rfl, hw2, hic⟩ := hic.cons
          obtain rfl := hic.nil
          haveI : LtSize Bq wr := ⟨by omega⟩
          have x0 : wr.cell? ⟨Bq, off + k * 3, none⟩ = some (.int .i64 d) := by rw [HA.out.bel.cell (p := ⟨Bq, _, none⟩) hBq]; exact hcs 0 (by decide)
          have x1 : wr.cell? ⟨Bq, off + k * 3 + 1, none⟩ = some (.int .i64 s) := by rw [HA.out.bel.cell (p := ⟨Bq, _, none⟩) hBq]; exact hcs 1 (by decide)
          have x2 : wr.cell? ⟨Bq, off + k * 3 + 2, none⟩ = some (.int .i64 t) := by rw [HA.out.bel.cell (p := ⟨Bq, _, none⟩) hBq]; exact hcs 2 (by decide)
          clear hcell hcs hw0 hw1 hw2
          have hta := amongV_bd t 500 (by omega)
          have hkI : (k : Int) < 60 := by omega
          go_upto_region 11 with fail
          go_cut [11] from 37 to 124 (fun v11 wc => ∃ N : Int, v11 = .int .i64 N ∧ now ≤ N ∧ N ≤ 499 ∧ wc = wr.alloc (Obj.cells #[.int .i64 d, .int .i64 3, .int .i64 t] 68))
          case first =>
            go_wp2_with (go_at_call 20; with_reducible refine Calls.tells (Among_any _ _ _ (by omega) (by omega)) ?_)
            all_goals go_meet
            all_goals exact ⟨_, rfl, by omega, by omega, rfl⟩
          case rest =>
            obtain ⟨N, rfl, hN, hN1, rfl⟩ := hcut
            clear x0 x1 x2 hta
            have hN0 : 0 ≤ N := by omega
            haveI : LtSize c wr := ⟨hcl⟩
            obtain ⟨kd, hkd⟩ : ∃ kd, kindV d = kd := ⟨_, rfl⟩
            have hown : (hapS S 3 N kd).l 3 = hapO S (S.l 3) N kd ∧ hapN S 3 N kd = (hapO S (S.l 3) N kd).st ∧ hapE 3 N = 0 := hapS_own (q := 3) (by omega) (by simp [tickB]; omega)
            obtain ⟨hl3, hN3, hE3⟩ := hown
            have ok2 : QuarOK (hapS S 3 N kd) ((k + 1 : Nat) : Int) := by have := HA.out.ok.hap 3 N kd; simpa using this
            have o3 := HA.out.ok.one 3
            have hpar := hapS_pars S 3 N kd
            rw [HA.out.hd, HA.out.pr] at hpar
            have HPAR := Lib.hid hpar
            clear hpar
            have ht0 : (qlookO S 3).times = (S.l 3).times := by rw [qlook3]
            have htm0 := o3.t0
            have htm1 := o3.t1
            have hstep := HInv.step (S := S) (o := S.l 3) (kd := kd) HA.out.ok.h1 HA.out.ok.p1 o3.s0 o3.s1 o3.g0 o3.g1 HA.out.inv hN hN0
            rw [HA.out.hd, HA.out.pr] at hstep
            rw [← hl3] at hstep hN3
            have hinv2 : ∀ {a b : Int}, HInv S ((hapS S 3 N kd).l 3) a b N → HInv (hapS S 3 N kd) ((hapS S 3 N kd).l 3) a b N := fun h => h.pars (hapS_pars S 3 N kd).2.1 (hapS_pars S 3 N kd).2.2
            clear hl3 o3
            rcases hstep with ⟨h1, h2, h3⟩ | ⟨h1, hrest⟩
            · have HINV := Lib.hid (hinv2 h3)
              clear hinv2 h3
              rw [h2] at hN3
              have ht2 : (qlookO (hapS S 3 N kd) 3).times = (S.l 3).times + 1 := by rw [qlook3]; exact h1
              have hlt : decide ((S.l 3).times < (S.l 3).times + 1) = true := by simp; omega
              obtain ⟨bw, hbw⟩ : ∃ bw, decide ((S.l 3).st < 2) = bw := ⟨_, rfl⟩
              have hw0 := counts3 hbw
              have hw2 : (srcB 3 && decide ((qlookO (hapS S 3 N kd) 3).st < 2)) = false := counts3 (by rw [h2]; rfl)
              clear h1 h2 hbw
              go_wp2_with (first | (go_at_call 31; with_reducible refine Calls.tells (qCounts_is HA.out.x.alloc HA.out.ok hw0) ?_) | (go_at_call 32; with_reducible refine Calls.tells (qTimes_is HA.out.x.alloc HA.out.ok ht0) ?_))
              refine (do25_any c d 3 N S k _ HA.out.x.alloc HA.out.ok (by omega)).mono ?_
              rintro e w6 ⟨he, hx6, hg6⟩
              rw [hkd, hN3, hE3] at he
              subst he
              rw [hkd] at hx6
              have hp0 : w6.cell? ⟨wr.heap.size, 0, none⟩ = some (.int .i64 d) := kept_cell (by simp) hg6 (by omega)
              have hp1 : w6.cell? ⟨wr.heap.size, 1, none⟩ = some (.int .i64 3) := kept_cell (by simp) hg6 (by omega)
              have hp2 : w6.cell? ⟨wr.heap.size, 2, none⟩ = some (.int .i64 N) := kept_cell (by simp) hg6 (by omega)
              have hb6 : Below w.heap.size w w6 := below_gr (HA.out.bel.alloc hsz _) hg6 (by simp; omega) hcw
              haveI : LtSize wr.heap.size w6 := ⟨World.block_lt_of_cell? w6 ⟨wr.heap.size, 0, none⟩ hp0⟩
              generalize hapS S 3 N kd = S2 at *
              have HX2 := Lib.hid hx6
              have HB2 := Lib.hid hb6
              have OK2 := Lib.hid ok2
              clear hx6 hb6 hg6 ok2 hw0 ht0 HA
              go_wp2_with (first | (go_at_call 32; with_reducible refine Calls.tells (qTimes_is HX2.out OK2.out ht2) ?_) | (go_at_call 34; (first | with_reducible refine Calls.fold (kind_is _ hkd) ?_ | with_reducible refine Calls.fresh (kind_is _ hkd) ?_); intro x1) | (go_at_call 31; with_reducible refine Calls.tells (qCounts_is HX2.out.up OK2.out hw2) ?_))
              exact ⟨⟨k + 1, S2, N, N, 0, by omega, by go_num, rfl, rfl, rfl, ⟨OK2.out, HINV.out, HPAR.out.2.1, HPAR.out.2.2, hN0, hN1, by omega, by omega, by omega, by omega, HX2.out, HB2.out⟩⟩, by simp [intOf]; omega⟩
            · have ht2 : (qlookO (hapS S 3 N kd) 3).times = (S.l 3).times := by rw [qlook3]; exact h1
              clear h1
              rcases hrest with ⟨rfl, r1, r2, r3⟩ | ⟨r0, r1, r2, r3, r4⟩ | ⟨r0, r1, r2, r3, r4⟩ | ⟨r0, r1, r2, r3, r4⟩
              · have HINV := Lib.hid (hinv2 r3)
                clear hinv2 r3
                by_cases hk1 : kd = 1
                · have hk1' : (kd == 1) = true := by simpa using hk1
                  clear hk1
                  have hw0 := counts3 (S := S) (b := true) (by simp; omega)
                  have hw2 := counts3 (S := hapS S 3 N kd) (b := true) (by simp; omega)
                  clear r1 r2
                  go_wp2_with (first | (go_at_call 31; with_reducible refine Calls.tells (qCounts_is HA.out.x.alloc HA.out.ok hw0) ?_) | (go_at_call 32; with_reducible refine Calls.tells (qTimes_is HA.out.x.alloc HA.out.ok ht0) ?_))
                  refine (do25_any c d 3 N S k _ HA.out.x.alloc HA.out.ok (by omega)).mono ?_
                  rintro e w6 ⟨he, hx6, hg6⟩
                  rw [hkd, hN3, hE3] at he
                  subst he
                  rw [hkd] at hx6
                  have hp0 : w6.cell? ⟨wr.heap.size, 0, none⟩ = some (.int .i64 d) := kept_cell (by simp) hg6 (by omega)
                  have hp1 : w6.cell? ⟨wr.heap.size, 1, none⟩ = some (.int .i64 3) := kept_cell (by simp) hg6 (by omega)
                  have hp2 : w6.cell? ⟨wr.heap.size, 2, none⟩ = some (.int .i64 N) := kept_cell (by simp) hg6 (by omega)
                  have hb6 : Below w.heap.size w w6 := below_gr (HA.out.bel.alloc hsz _) hg6 (by simp; omega) hcw
                  haveI : LtSize wr.heap.size w6 := ⟨World.block_lt_of_cell? w6 ⟨wr.heap.size, 0, none⟩ hp0⟩
                  generalize hapS S 3 N kd = S2 at *
                  have HX2 := Lib.hid hx6
                  have HB2 := Lib.hid hb6
                  have OK2 := Lib.hid ok2
                  clear hx6 hb6 hg6 ok2 hw0 ht0 HA
                  go_wp2_with (first | (go_at_call 32; with_reducible refine Calls.tells (qTimes_is HX2.out OK2.out ht2) ?_) | (go_at_call 34; (first | with_reducible refine Calls.fold (kind_is _ hkd) ?_ | with_reducible refine Calls.fresh (kind_is _ hkd) ?_); intro x1) | (go_at_call 31; with_reducible refine Calls.tells (qCounts_is HX2.out.up OK2.out hw2) ?_))
                  exact ⟨⟨k + 1, S2, N, -1, good, by omega, by go_num, rfl, rfl, rfl, ⟨OK2.out, HINV.out, HPAR.out.2.1, HPAR.out.2.2, hN0, hN1, by omega, by omega, by omega, by omega, HX2.out.up, below_up HB2.out HB2.out.size _⟩⟩, by simp [intOf]; omega⟩
                · have hk1' : (kd == 1) = false := by simpa using hk1
                  have hw0 := counts3 (S := S) (b := true) (by simp; omega)
                  have hw2 := counts3 (S := hapS S 3 N kd) (b := true) (by simp; omega)
                  clear r1 r2
                  go_wp2_with (first | (go_at_call 31; with_reducible refine Calls.tells (qCounts_is HA.out.x.alloc HA.out.ok hw0) ?_) | (go_at_call 32; with_reducible refine Calls.tells (qTimes_is HA.out.x.alloc HA.out.ok ht0) ?_))
                  refine (do25_any c d 3 N S k _ HA.out.x.alloc HA.out.ok (by omega)).mono ?_
                  rintro e w6 ⟨he, hx6, hg6⟩
                  rw [hkd, hN3, hE3] at he
                  subst he
                  rw [hkd] at hx6
                  have hp0 : w6.cell? ⟨wr.heap.size, 0, none⟩ = some (.int .i64 d) := kept_cell (by simp) hg6 (by omega)
                  have hp1 : w6.cell? ⟨wr.heap.size, 1, none⟩ = some (.int .i64 3) := kept_cell (by simp) hg6 (by omega)
                  have hp2 : w6.cell? ⟨wr.heap.size, 2, none⟩ = some (.int .i64 N) := kept_cell (by simp) hg6 (by omega)
                  have hb6 : Below w.heap.size w w6 := below_gr (HA.out.bel.alloc hsz _) hg6 (by simp; omega) hcw
                  haveI : LtSize wr.heap.size w6 := ⟨World.block_lt_of_cell? w6 ⟨wr.heap.size, 0, none⟩ hp0⟩
                  generalize hapS S 3 N kd = S2 at *
                  have HX2 := Lib.hid hx6
                  have HB2 := Lib.hid hb6
                  have OK2 := Lib.hid ok2
                  clear hx6 hb6 hg6 ok2 hw0 ht0 HA
                  go_wp2_with (first | (go_at_call 32; with_reducible refine Calls.tells (qTimes_is HX2.out OK2.out ht2) ?_) | (go_at_call 34; (first | with_reducible refine Calls.fold (kind_is _ hkd) ?_ | with_reducible refine Calls.fresh (kind_is _ hkd) ?_); intro x1) | (go_at_call 31; with_reducible refine Calls.tells (qCounts_is HX2.out.up OK2.out hw2) ?_))
                  exact ⟨⟨k + 1, S2, N, -1, good, by omega, by go_num, rfl, rfl, rfl, ⟨OK2.out, HINV.out, HPAR.out.2.1, HPAR.out.2.2, hN0, hN1, by omega, by omega, by omega, by omega, HX2.out.up, below_up HB2.out HB2.out.size _⟩⟩, by simp [intOf]; omega⟩
              · have HINV := Lib.hid (hinv2 r4)
                clear hinv2 r4
                have hf1 : decide (since + Hd ≤ N) = false := by simp; omega
                rw [r3] at hN3
                by_cases hk1 : kd = 1
                · have hk1' : (kd == 1) = true := by simpa using hk1
                  clear hk1
                  have hw0 := counts3 (S := S) (b := false) (by simp; omega)
                  have hw2 := counts3 (S := hapS S 3 N kd) (b := false) (by simp; omega)
                  clear r2 r3
                  go_wp2_with (first | (go_at_call 31; with_reducible refine Calls.tells (qCounts_is HA.out.x.alloc HA.out.ok hw0) ?_) | (go_at_call 32; with_reducible refine Calls.tells (qTimes_is HA.out.x.alloc HA.out.ok ht0) ?_))
                  refine (do25_any c d 3 N S k _ HA.out.x.alloc HA.out.ok (by omega)).mono ?_
                  rintro e w6 ⟨he, hx6, hg6⟩
                  rw [hkd, hN3, hE3] at he
                  subst he
                  rw [hkd] at hx6
                  have hp0 : w6.cell? ⟨wr.heap.size, 0, none⟩ = some (.int .i64 d) := kept_cell (by simp) hg6 (by omega)
                  have hp1 : w6.cell? ⟨wr.heap.size, 1, none⟩ = some (.int .i64 3) := kept_cell (by simp) hg6 (by omega)
                  have hp2 : w6.cell? ⟨wr.heap.size, 2, none⟩ = some (.int .i64 N) := kept_cell (by simp) hg6 (by omega)
                  have hb6 : Below w.heap.size w w6 := below_gr (HA.out.bel.alloc hsz _) hg6 (by simp; omega) hcw
                  haveI : LtSize wr.heap.size w6 := ⟨World.block_lt_of_cell? w6 ⟨wr.heap.size, 0, none⟩ hp0⟩
                  generalize hapS S 3 N kd = S2 at *
                  have HX2 := Lib.hid hx6
                  have HB2 := Lib.hid hb6
                  have OK2 := Lib.hid ok2
                  clear hx6 hb6 hg6 ok2 hw0 ht0 HA
                  go_wp2_with (first | (go_at_call 32; with_reducible refine Calls.tells (qTimes_is HX2.out OK2.out ht2) ?_) | (go_at_call 34; (first | with_reducible refine Calls.fold (kind_is _ hkd) ?_ | with_reducible refine Calls.fresh (kind_is _ hkd) ?_); intro x1) | (go_at_call 31; with_reducible refine Calls.tells (qCounts_is HX2.out.up OK2.out hw2) ?_))
                  exact ⟨⟨k + 1, S2, N, since, good, by omega, by go_num, rfl, rfl, rfl, ⟨OK2.out, HINV.out, HPAR.out.2.1, HPAR.out.2.2, hN0, hN1, by omega, by omega, by omega, by omega, HX2.out.up, below_up HB2.out HB2.out.size _⟩⟩, by simp [intOf]; omega⟩
                · have hk1' : (kd == 1) = false := by simpa using hk1
                  have hw0 := counts3 (S := S) (b := false) (by simp; omega)
                  have hw2 := counts3 (S := hapS S 3 N kd) (b := false) (by simp; omega)
                  clear r2 r3
                  go_wp2_with (first | (go_at_call 31; with_reducible refine Calls.tells (qCounts_is HA.out.x.alloc HA.out.ok hw0) ?_) | (go_at_call 32; with_reducible refine Calls.tells (qTimes_is HA.out.x.alloc HA.out.ok ht0) ?_))
                  refine (do25_any c d 3 N S k _ HA.out.x.alloc HA.out.ok (by omega)).mono ?_
                  rintro e w6 ⟨he, hx6, hg6⟩
                  rw [hkd, hN3, hE3] at he
                  subst he
                  rw [hkd] at hx6
                  have hp0 : w6.cell? ⟨wr.heap.size, 0, none⟩ = some (.int .i64 d) := kept_cell (by simp) hg6 (by omega)
                  have hp1 : w6.cell? ⟨wr.heap.size, 1, none⟩ = some (.int .i64 3) := kept_cell (by simp) hg6 (by omega)
                  have hp2 : w6.cell? ⟨wr.heap.size, 2, none⟩ = some (.int .i64 N) := kept_cell (by simp) hg6 (by omega)
                  have hb6 : Below w.heap.size w w6 := below_gr (HA.out.bel.alloc hsz _) hg6 (by simp; omega) hcw
                  haveI : LtSize wr.heap.size w6 := ⟨World.block_lt_of_cell? w6 ⟨wr.heap.size, 0, none⟩ hp0⟩
                  generalize hapS S 3 N kd = S2 at *
                  have HX2 := Lib.hid hx6
                  have HB2 := Lib.hid hb6
                  have OK2 := Lib.hid ok2
                  clear hx6 hb6 hg6 ok2 hw0 ht0 HA
                  go_wp2_with (first | (go_at_call 32; with_reducible refine Calls.tells (qTimes_is HX2.out OK2.out ht2) ?_) | (go_at_call 34; (first | with_reducible refine Calls.fold (kind_is _ hkd) ?_ | with_reducible refine Calls.fresh (kind_is _ hkd) ?_); intro x1) | (go_at_call 31; with_reducible refine Calls.tells (qCounts_is HX2.out.up OK2.out hw2) ?_))
                  exact ⟨⟨k + 1, S2, N, since, good, by omega, by go_num, rfl, rfl, rfl, ⟨OK2.out, HINV.out, HPAR.out.2.1, HPAR.out.2.2, hN0, hN1, by omega, by omega, by omega, by omega, HX2.out.up, below_up HB2.out HB2.out.size _⟩⟩, by simp [intOf]; omega⟩
              · have HINV := Lib.hid (hinv2 r4)
                clear hinv2 r4
                have hk1' : (kd == 1) = false := by simpa using r2
                have hf2 : decide (N < since + Hd) = false := by simp; omega
                rcases r3 with ⟨q1, q2⟩ | ⟨q1, q2⟩
                · have hw0 := counts3 (S := S) (b := true) (by simp; omega)
                  have hw2 := counts3 (S := hapS S 3 N kd) (b := true) (by simp; omega)
                  clear q1 q2
                  go_wp2_with (first | (go_at_call 31; with_reducible refine Calls.tells (qCounts_is HA.out.x.alloc HA.out.ok hw0) ?_) | (go_at_call 32; with_reducible refine Calls.tells (qTimes_is HA.out.x.alloc HA.out.ok ht0) ?_))
                  refine (do25_any c d 3 N S k _ HA.out.x.alloc HA.out.ok (by omega)).mono ?_
                  rintro e w6 ⟨he, hx6, hg6⟩
                  rw [hkd, hN3, hE3] at he
                  subst he
                  rw [hkd] at hx6
                  have hp0 : w6.cell? ⟨wr.heap.size, 0, none⟩ = some (.int .i64 d) := kept_cell (by simp) hg6 (by omega)
                  have hp1 : w6.cell? ⟨wr.heap.size, 1, none⟩ = some (.int .i64 3) := kept_cell (by simp) hg6 (by omega)
                  have hp2 : w6.cell? ⟨wr.heap.size, 2, none⟩ = some (.int .i64 N) := kept_cell (by simp) hg6 (by omega)
                  have hb6 : Below w.heap.size w w6 := below_gr (HA.out.bel.alloc hsz _) hg6 (by simp; omega) hcw
                  haveI : LtSize wr.heap.size w6 := ⟨World.block_lt_of_cell? w6 ⟨wr.heap.size, 0, none⟩ hp0⟩
                  generalize hapS S 3 N kd = S2 at *
                  have HX2 := Lib.hid hx6
                  have HB2 := Lib.hid hb6
                  have OK2 := Lib.hid ok2
                  clear hx6 hb6 hg6 ok2 hw0 ht0 HA
                  go_wp2_with (first | (go_at_call 32; with_reducible refine Calls.tells (qTimes_is HX2.out OK2.out ht2) ?_) | (go_at_call 34; (first | with_reducible refine Calls.fold (kind_is _ hkd) ?_ | with_reducible refine Calls.fresh (kind_is _ hkd) ?_); intro x1) | (go_at_call 31; with_reducible refine Calls.tells (qCounts_is HX2.out.up OK2.out hw2) ?_))
                  exact ⟨⟨k + 1, S2, N, since, good, by omega, by go_num, rfl, rfl, rfl, ⟨OK2.out, HINV.out, HPAR.out.2.1, HPAR.out.2.2, hN0, hN1, by omega, by omega, by omega, by omega, HX2.out.up, below_up HB2.out HB2.out.size _⟩⟩, by simp [intOf]; omega⟩
                · have hw0 := counts3 (S := S) (b := false) (by simp; omega)
                  have hw2 := counts3 (S := hapS S 3 N kd) (b := false) (by simp; omega)
                  clear q1 q2
                  go_wp2_with (first | (go_at_call 31; with_reducible refine Calls.tells (qCounts_is HA.out.x.alloc HA.out.ok hw0) ?_) | (go_at_call 32; with_reducible refine Calls.tells (qTimes_is HA.out.x.alloc HA.out.ok ht0) ?_))
                  refine (do25_any c d 3 N S k _ HA.out.x.alloc HA.out.ok (by omega)).mono ?_
                  rintro e w6 ⟨he, hx6, hg6⟩
                  rw [hkd, hN3, hE3] at he
                  subst he
                  rw [hkd] at hx6
                  have hp0 : w6.cell? ⟨wr.heap.size, 0, none⟩ = some (.int .i64 d) := kept_cell (by simp) hg6 (by omega)
                  have hp1 : w6.cell? ⟨wr.heap.size, 1, none⟩ = some (.int .i64 3) := kept_cell (by simp) hg6 (by omega)
                  have hp2 : w6.cell? ⟨wr.heap.size, 2, none⟩ = some (.int .i64 N) := kept_cell (by simp) hg6 (by omega)
                  have hb6 : Below w.heap.size w w6 := below_gr (HA.out.bel.alloc hsz _) hg6 (by simp; omega) hcw
                  haveI : LtSize wr.heap.size w6 := ⟨World.block_lt_of_cell? w6 ⟨wr.heap.size, 0, none⟩ hp0⟩
                  generalize hapS S 3 N kd = S2 at *
                  have HX2 := Lib.hid hx6
                  have HB2 := Lib.hid hb6
                  have OK2 := Lib.hid ok2
                  clear hx6 hb6 hg6 ok2 hw0 ht0 HA
                  go_wp2_with (first | (go_at_call 32; with_reducible refine Calls.tells (qTimes_is HX2.out OK2.out ht2) ?_) | (go_at_call 34; (first | with_reducible refine Calls.fold (kind_is _ hkd) ?_ | with_reducible refine Calls.fresh (kind_is _ hkd) ?_); intro x1) | (go_at_call 31; with_reducible refine Calls.tells (qCounts_is HX2.out.up OK2.out hw2) ?_))
                  exact ⟨⟨k + 1, S2, N, since, good, by omega, by go_num, rfl, rfl, rfl, ⟨OK2.out, HINV.out, HPAR.out.2.1, HPAR.out.2.2, hN0, hN1, by omega, by omega, by omega, by omega, HX2.out.up, below_up HB2.out HB2.out.size _⟩⟩, by simp [intOf]; omega⟩
              · have HINV := Lib.hid (hinv2 r4)
                clear hinv2 r4
                have hf2 : decide (N < since + Hd) = false := by simp; omega
                have hk1' : (kd == 1) = true := by simpa using r2
                clear r2
                rcases r3 with ⟨q1, q2⟩ | ⟨q1, q2⟩ | ⟨q1, q2, q3⟩
                · have hw0 := counts3 (S := S) (b := true) (by simp; omega)
                  have hw2 := counts3 (S := hapS S 3 N kd) (b := true) (by simp; omega)
                  clear q1 q2
                  go_wp2_with (first | (go_at_call 31; with_reducible refine Calls.tells (qCounts_is HA.out.x.alloc HA.out.ok hw0) ?_) | (go_at_call 32; with_reducible refine Calls.tells (qTimes_is HA.out.x.alloc HA.out.ok ht0) ?_))
                  refine (do25_any c d 3 N S k _ HA.out.x.alloc HA.out.ok (by omega)).mono ?_
                  rintro e w6 ⟨he, hx6, hg6⟩
                  rw [hkd, hN3, hE3] at he
                  subst he
                  rw [hkd] at hx6
                  have hp0 : w6.cell? ⟨wr.heap.size, 0, none⟩ = some (.int .i64 d) := kept_cell (by simp) hg6 (by omega)
                  have hp1 : w6.cell? ⟨wr.heap.size, 1, none⟩ = some (.int .i64 3) := kept_cell (by simp) hg6 (by omega)
                  have hp2 : w6.cell? ⟨wr.heap.size, 2, none⟩ = some (.int .i64 N) := kept_cell (by simp) hg6 (by omega)
                  have hb6 : Below w.heap.size w w6 := below_gr (HA.out.bel.alloc hsz _) hg6 (by simp; omega) hcw
                  haveI : LtSize wr.heap.size w6 := ⟨World.block_lt_of_cell? w6 ⟨wr.heap.size, 0, none⟩ hp0⟩
                  generalize hapS S 3 N kd = S2 at *
                  have HX2 := Lib.hid hx6
                  have HB2 := Lib.hid hb6
                  have OK2 := Lib.hid ok2
                  clear hx6 hb6 hg6 ok2 hw0 ht0 HA
                  go_wp2_with (first | (go_at_call 32; with_reducible refine Calls.tells (qTimes_is HX2.out OK2.out ht2) ?_) | (go_at_call 34; (first | with_reducible refine Calls.fold (kind_is _ hkd) ?_ | with_reducible refine Calls.fresh (kind_is _ hkd) ?_); intro x1) | (go_at_call 31; with_reducible refine Calls.tells (qCounts_is HX2.out.up OK2.out hw2) ?_))
                  exact ⟨⟨k + 1, S2, N, since, (good + 1), by omega, by go_num, rfl, rfl, rfl, ⟨OK2.out, HINV.out, HPAR.out.2.1, HPAR.out.2.2, hN0, hN1, by omega, by omega, by omega, by omega, HX2.out.up, below_up HB2.out HB2.out.size _⟩⟩, by simp [intOf]; omega⟩
                · have hw0 := counts3 (S := S) (b := false) (by simp; omega)
                  have hw2 := counts3 (S := hapS S 3 N kd) (b := false) (by simp; omega)
                  clear q1 q2
                  go_wp2_with (first | (go_at_call 31; with_reducible refine Calls.tells (qCounts_is HA.out.x.alloc HA.out.ok hw0) ?_) | (go_at_call 32; with_reducible refine Calls.tells (qTimes_is HA.out.x.alloc HA.out.ok ht0) ?_))
                  refine (do25_any c d 3 N S k _ HA.out.x.alloc HA.out.ok (by omega)).mono ?_
                  rintro e w6 ⟨he, hx6, hg6⟩
                  rw [hkd, hN3, hE3] at he
                  subst he
                  rw [hkd] at hx6
                  have hp0 : w6.cell? ⟨wr.heap.size, 0, none⟩ = some (.int .i64 d) := kept_cell (by simp) hg6 (by omega)
                  have hp1 : w6.cell? ⟨wr.heap.size, 1, none⟩ = some (.int .i64 3) := kept_cell (by simp) hg6 (by omega)
                  have hp2 : w6.cell? ⟨wr.heap.size, 2, none⟩ = some (.int .i64 N) := kept_cell (by simp) hg6 (by omega)
                  have hb6 : Below w.heap.size w w6 := below_gr (HA.out.bel.alloc hsz _) hg6 (by simp; omega) hcw
                  haveI : LtSize wr.heap.size w6 := ⟨World.block_lt_of_cell? w6 ⟨wr.heap.size, 0, none⟩ hp0⟩
                  generalize hapS S 3 N kd = S2 at *
                  have HX2 := Lib.hid hx6
                  have HB2 := Lib.hid hb6
                  have OK2 := Lib.hid ok2
                  clear hx6 hb6 hg6 ok2 hw0 ht0 HA
                  go_wp2_with (first | (go_at_call 32; with_reducible refine Calls.tells (qTimes_is HX2.out OK2.out ht2) ?_) | (go_at_call 34; (first | with_reducible refine Calls.fold (kind_is _ hkd) ?_ | with_reducible refine Calls.fresh (kind_is _ hkd) ?_); intro x1) | (go_at_call 31; with_reducible refine Calls.tells (qCounts_is HX2.out.up OK2.out hw2) ?_))
                  exact ⟨⟨k + 1, S2, N, since, (good + 1), by omega, by go_num, rfl, rfl, rfl, ⟨OK2.out, HINV.out, HPAR.out.2.1, HPAR.out.2.2, hN0, hN1, by omega, by omega, by omega, by omega, HX2.out.up, below_up HB2.out HB2.out.size _⟩⟩, by simp [intOf]; omega⟩
                · have hw0 := counts3 (S := S) (b := false) (by simp; omega)
                  have hw2 := counts3 (S := hapS S 3 N kd) (b := true) (by simp; omega)
                  have hf3 : decide (good + 1 < P) = false := by simp; omega
                  clear q1 q2 q3
                  go_wp2_with (first | (go_at_call 31; with_reducible refine Calls.tells (qCounts_is HA.out.x.alloc HA.out.ok hw0) ?_) | (go_at_call 32; with_reducible refine Calls.tells (qTimes_is HA.out.x.alloc HA.out.ok ht0) ?_))
                  refine (do25_any c d 3 N S k _ HA.out.x.alloc HA.out.ok (by omega)).mono ?_
                  rintro e w6 ⟨he, hx6, hg6⟩
                  rw [hkd, hN3, hE3] at he
                  subst he
                  rw [hkd] at hx6
                  have hp0 : w6.cell? ⟨wr.heap.size, 0, none⟩ = some (.int .i64 d) := kept_cell (by simp) hg6 (by omega)
                  have hp1 : w6.cell? ⟨wr.heap.size, 1, none⟩ = some (.int .i64 3) := kept_cell (by simp) hg6 (by omega)
                  have hp2 : w6.cell? ⟨wr.heap.size, 2, none⟩ = some (.int .i64 N) := kept_cell (by simp) hg6 (by omega)
                  have hb6 : Below w.heap.size w w6 := below_gr (HA.out.bel.alloc hsz _) hg6 (by simp; omega) hcw
                  haveI : LtSize wr.heap.size w6 := ⟨World.block_lt_of_cell? w6 ⟨wr.heap.size, 0, none⟩ hp0⟩
                  generalize hapS S 3 N kd = S2 at *
                  have HX2 := Lib.hid hx6
                  have HB2 := Lib.hid hb6
                  have OK2 := Lib.hid ok2
                  clear hx6 hb6 hg6 ok2 hw0 ht0 HA
                  go_wp2_with (first | (go_at_call 32; with_reducible refine Calls.tells (qTimes_is HX2.out OK2.out ht2) ?_) | (go_at_call 34; (first | with_reducible refine Calls.fold (kind_is _ hkd) ?_ | with_reducible refine Calls.fresh (kind_is _ hkd) ?_); intro x1) | (go_at_call 31; with_reducible refine Calls.tells (qCounts_is HX2.out.up OK2.out hw2) ?_))
                  exact ⟨⟨k + 1, S2, N, since, (good + 1), by omega, by go_num, rfl, rfl, rfl, ⟨OK2.out, HINV.out, HPAR.out.2.1, HPAR.out.2.2, hN0, hN1, by omega, by omega, by omega, by omega, HX2.out.up, below_up HB2.out HB2.out.size _⟩⟩, by simp [intOf]; omega⟩
      ·
        go_wp2_with fail
        go_ret
        exact Gives.mk rfl HA.out.bel
    ·
      go_wp2_with fail
      go_ret
      exact Gives.mk rfl HA.out.bel
end Go.Proofs.Ytcdhhnodfgpkiaa
