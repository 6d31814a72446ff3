/-
  The law StuckMoves, walked.
-/
import Derived.Test.YtihalkpcddnikaaStuM
import Derived.Test.YtihalkpcddnikaaElemB
import Derived.Deep.CutRange
namespace Go.Proofs.Ytihalkpcddnikaa
open Go.RowKit Go.Maps
set_option linter.unusedVariables false

theorem kept_cell' {w w' : World} {x o r : Nat} {v : Value} (hc : w.cell? ⟨x, o, none⟩ = some v) (hg : w.grownBy w' (some r)) (hne : x ≠ r) : w'.cell? ⟨x, o, none⟩ = some v := kept_cell hc hg hne
structure MvAt (w : World) (c b A : Nat) (same M : Int) (k n : Nat) (f : Int → Option StO) (A0 A1 A2 x y z : Int) (wr : World) : Prop where
  ok : StOK same M f (2 * k)
  st : StAt wr c b n same M f
  nn : n ≤ 2 * k
  inv : MvInv f k A0 A1 A2 x y z
  b0 : -(k * 2147483647) ≤ A0 ∧ A0 ≤ k * 2147483647
  b1 : -(k * 2147483647) ≤ A1 ∧ A1 ≤ k * 2147483647
  b2 : -(k * 2147483647) ≤ A2 ∧ A2 ≤ k * 2147483647
  p0 : wr.cell? ⟨A, 0, none⟩ = some (.int .i64 A0)
  p1 : wr.cell? ⟨A, 1, none⟩ = some (.int .i64 A1)
  p2 : wr.cell? ⟨A, 2, none⟩ = some (.int .i64 A2)
  z0 : wr.frozen? ⟨A, 0, none⟩ = false
  z1 : wr.frozen? ⟨A, 1, none⟩ = false
  z2 : wr.frozen? ⟨A, 2, none⟩ = false
  q0 : wr.cell? ⟨w.heap.size, 0, none⟩ = some (.int .i64 x)
  q1 : wr.cell? ⟨w.heap.size, 1, none⟩ = some (.int .i64 y)
  q2 : wr.cell? ⟨w.heap.size, 2, none⟩ = some (.int .i64 z)
  bel : Below w.heap.size w wr
theorem kept_free {w w' : World} {x o r : Nat} (hz : w.frozen? ⟨x, o, none⟩ = false) (hlt : x < w.heap.size) (hg : w.grownBy w' (some r)) (hne : x ≠ r) : w'.frozen? ⟨x, o, none⟩ = false := by
  rw [World.frozen?_of_block (a := ⟨x, o, none⟩) (hg.block x hlt (fun e => hne (by simpa using e)))]; exact hz
theorem StAt.setOther {w : World} {c b n : Nat} {same rate : Int} {f : Int → Option StO} (h : StAt w c b n same rate f) {g o : Nat} (v : Value) (h1 : c ≠ g) (h2 : b ≠ g) : StAt (w.setCell ⟨g, o, none⟩ v) c b n same rate f :=
  h.kept (gr_set w g o v) (by simpa using h1) (by simpa using h2)
set_option maxRecDepth 100000 in
set_option maxHeartbeats 6400000 in
theorem StuckMoves_any (same0 rate : Int) (a : Option Addr) (len cap : Nat) (x y z : Int) (w : World) (hr : Elems w [some .i32] a len) (hx : I64 x) (hy : I64 y) (hz : I64 z) (ra1 : -2147483648 ≤ rate) (ra2 : rate ≤ 2147483647) :
    Calls Try.prog 3 #[.int .i64 same0, .int .i32 rate, .slice a len cap, .agg #[.int .i64 x, .int .i64 y, .int .i64 z]] w (Gives w (.bool true)) := by
  have HR := Lib.hid hr
  have hlen := hr.1
  clear hr
  have hS := amongV_bd same0 20 (by omega)
  go_enter Try.func3, Try.ntmps3
  go_upto_region 4 with (first | (go_at_call 10; (first | with_reducible refine Calls.fold (works24 _) ?_ | with_reducible refine Calls.fresh (works24 _) ?_); intro x1) | (go_at_call 11; with_reducible refine Calls.tells (Among_any _ _ _ (by omega) (by omega)) ?_))
  obtain ⟨same, hsm⟩ : ∃ s, 1 + amongV same0 20 = s := ⟨_, rfl⟩
  rw [hsm]
  have hs1 : 1 ≤ same := by omega
  have hs2 : same ≤ 20 := by omega
  clear hsm hS
  go_cut [9] from 24 to 26 (fun v9 wc => ∃ M : Int, v9 = .int .i64 M ∧ 1 ≤ M ∧ M ≤ 2147483647 ∧ wc = up (w.alloc (Obj.cells #[.int .i64 x, .int .i64 y, .int .i64 z] 25)) x1)
  case first =>
    by_cases hr1 : rate < 1
    · go_wp2_with fail
      go_meet
      exact ⟨1, rfl, by omega, by omega, rfl⟩
    · go_wp2_with fail
      go_meet
      exact ⟨rate, rfl, by omega, by omega, rfl⟩
  case rest =>
    obtain ⟨M, rfl, hM1, hM2, rfl⟩ := hcut
    have hnew : stNewB same M = true := by simp [stNewB]; omega
    have hbel0 : Below w.heap.size w (up (w.alloc (Obj.cells #[.int .i64 x, .int .i64 y, .int .i64 z] 25)) x1) := by (repeat (first | (with_reducible exact Below.refl _ _) | (with_reducible assumption) | (with_reducible refine Below.alloc ?_ (by (repeat (first | (with_reducible exact Nat.le_refl _) | (with_reducible assumption) | (with_reducible refine le_up ?_) | (with_reducible refine le_alloc ?_) | (with_reducible refine le_setCell ?_) | (with_reducible refine le_drew ?_) | (with_reducible refine le_drewN ?_) | omega))) _) | (with_reducible refine Below.drew ?_) | (with_reducible refine Below.drewN ?_ _) | (with_reducible refine Below.setCell ?_ (by (repeat (first | (with_reducible exact Nat.le_refl _) | (with_reducible assumption) | (with_reducible refine le_up ?_) | (with_reducible refine le_alloc ?_) | (with_reducible refine le_setCell ?_) | (with_reducible refine le_drew ?_) | (with_reducible refine le_drewN ?_) | omega))) _) | (with_reducible refine Below.up ?_ (by (repeat (first | (with_reducible exact Nat.le_refl _) | (with_reducible assumption) | (with_reducible refine le_up ?_) | (with_reducible refine le_alloc ?_) | (with_reducible refine le_setCell ?_) | (with_reducible refine le_drew ?_) | (with_reducible refine le_drewN ?_) | omega))))))
    have g0 : (up (w.alloc (Obj.cells #[.int .i64 x, .int .i64 y, .int .i64 z] 25)) x1).cell? ⟨w.heap.size, 0, none⟩ = some (.int .i64 x) := by simp
    have g1 : (up (w.alloc (Obj.cells #[.int .i64 x, .int .i64 y, .int .i64 z] 25)) x1).cell? ⟨w.heap.size, 1, none⟩ = some (.int .i64 y) := by simp
    have g2 : (up (w.alloc (Obj.cells #[.int .i64 x, .int .i64 y, .int .i64 z] 25)) x1).cell? ⟨w.heap.size, 2, none⟩ = some (.int .i64 z) := by simp
    have hlt0 : w.heap.size < (up (w.alloc (Obj.cells #[.int .i64 x, .int .i64 y, .int .i64 z] 25)) x1).heap.size := LtSize.lt
    generalize (up (w.alloc (Obj.cells #[.int .i64 x, .int .i64 y, .int .i64 z] 25)) x1) = w0 at *
    go_wp2_with fail
    refine (sNew_good (same := same) (rate := M) _ hnew).mono ?_
    rintro e w1 ⟨c, b, rfl, hb, hc, hst, hb1⟩
    have HST0 := Lib.hid hst
    have hc1 := hst.lt
    have hb1' := hst.tab.lt
    have hbw : Below w.heap.size w w1 := hbel0.trans (hb1.mono hbel0.size)
    have HB1 := Lib.hid hbw
    have k0 : w1.cell? ⟨w.heap.size, 0, none⟩ = some (.int .i64 x) := by rw [hb1.cell (p := ⟨w.heap.size, _, none⟩) hlt0]; exact g0
    have k1 : w1.cell? ⟨w.heap.size, 1, none⟩ = some (.int .i64 y) := by rw [hb1.cell (p := ⟨w.heap.size, _, none⟩) hlt0]; exact g1
    have k2 : w1.cell? ⟨w.heap.size, 2, none⟩ = some (.int .i64 z) := by rw [hb1.cell (p := ⟨w.heap.size, _, none⟩) hlt0]; exact g2
    have hw1 := hbw.size
    have hws : w.heap.size < w1.heap.size := Nat.lt_of_lt_of_le hlt0 hb1.size
    haveI : LtSize w.heap.size w1 := ⟨hws⟩
    have ok0 := StOK.new hnew (show M ≤ 9223372036854775807 by omega)
    clear hst hb1 hbw g0 g1 g2 hnew
    go_upto_region 7 with fail
    refine wp_gen (fun W => MvAt w c b w1.heap.size same M 0 0 (fun _ => none) 0 0 0 x y z W) ⟨ok0, HST0.out.alloc, by omega, ⟨fun _ => ⟨rfl, rfl⟩, fun h => by omega⟩, by omega, by omega, by omega, by simp, by simp, by simp, by simp, by simp, by simp, by simp [k0], by simp [k1], by simp [k2], HB1.out.alloc hw1 _⟩ ?_
    intro w2 hst
    have HST := Lib.hid hst
    have hcA : c ≠ w1.heap.size := by omega
    have hbA : b ≠ w1.heap.size := by omega
    have hAw : w.heap.size ≤ w1.heap.size := hw1
    have hVA : w.heap.size ≠ w1.heap.size := by omega
    have hVb : w.heap.size ≠ b := by omega
    have hbw : w.heap.size ≤ b := by omega
    generalize w1.heap.size = A at *
    clear hst HST0 HB1 k0 k1 k2 hlt0 hbel0 ok0 hc1 hb1' this hws hw1 hb hc
    go_wp2_with fail
    go_loopw [13] (fun v13 wr => ∃ (k n : Nat) (f : Int → Option StO) (A0 A1 A2 : Int), k ≤ 40 ∧ v13 = .int .i64 k ∧ MvAt w c b A same M k n f A0 A1 A2 x y z wr) (fun v13 _ => 40 - (intOf v13).toNat)
    case atStart => exact ⟨0, 0, _, 0, 0, 0, by omega, rfl, HST.out⟩
    case round =>
      clear HST
      obtain ⟨k, n, f, A0, A1, A2, hk, rfl, ha⟩ := hrel
      have HA := Lib.hid ha
      have hsz := ha.bel.size
      have hb0 := ha.b0
      have hb1 := ha.b1
      have hb2 := ha.b2
      have hn2 := ha.nn
      have hcl := ha.st.lt
      have hbl := ha.st.tab.lt
      clear ha
      by_cases hkl : k < len
      · by_cases hk40 : k < 40
        · obtain ⟨_, h0 | ⟨Bq, off, rfl, hBq, hcell⟩⟩ := HR.out
          · omega
          · obtain ⟨cs, hic, hcs⟩ := hcell k hkl
            obtain ⟨s, cs, rfl, hw0, hic⟩ := hic.cons
            obtain rfl := hic.nil
            obtain ⟨sl1, sl2⟩ := bounds_i32 hw0
            haveI : LtSize Bq wr := ⟨by omega⟩
            have x0 : wr.cell? ⟨Bq, off + k, none⟩ = some (.int .i32 s) := by
              rw [HA.out.bel.cell (p := ⟨Bq, _, none⟩) hBq]
              have := hcs 0 (by decide)
              simpa using this
            clear hcell hcs hw0
            have hkI : (k : Int) < 40 := by omega
            go_upto_region 10 with fail
            go_cut [14] from 34 to 100 (fun v14 wc => ∃ d : Int, v14 = .int .i64 d ∧ 1 ≤ d ∧ d ≤ M ∧ wr = wc)
            case first =>
              go_wp2_with fail
              go_meet
              have hm1 := Int.emod_nonneg (s % 4294967296) (show M ≠ 0 by omega)
              have hm2 := Int.emod_lt_of_pos (s % 4294967296) (show 0 < M by omega)
              exact ⟨1 + s % 4294967296 % M, by rw [IntWalk.wrap64_in _ ⟨by omega, by omega⟩], by omega, by omega, rfl⟩
            case rest =>
              obtain ⟨d, rfl, hd1, hd2, rfl⟩ := hcut
              go_upto_if 57 with fail
              go_cut [14] from 34 to 100 (fun v14 wc => ∃ D : Int, v14 = .int .i64 D ∧ -M ≤ D ∧ D ≤ M ∧ D ≠ 0 ∧ wr = wc)
              case first =>
                go_wp2_with fail
                all_goals go_meet
                all_goals exact ⟨_, rfl, by omega, by omega, by omega, rfl⟩
              case rest =>
                obtain ⟨D, rfl, hD1, hD2, hD0, rfl⟩ := hcut
                clear x0
                have p0 := HA.out.p0
                have p1 := HA.out.p1
                have p2 := HA.out.p2
                have z0 := HA.out.z0
                have z1 := HA.out.z1
                have z2 := HA.out.z2
                have q0 := HA.out.q0
                have q1 := HA.out.q1
                have q2 := HA.out.q2
                rcases (show (k : Int) % 3 = 0 ∨ (k : Int) % 3 = 1 ∨ (k : Int) % 3 = 2 by omega) with hm | hm | hm
                · have HM3 := Lib.hid hm
                  go_wp2_with fail
                  have hinv := HA.out.inv
                  have hne : sameV ⟨A0, A1, A2, (k : Int) - 1, 1⟩ (A0 + D) A1 A2 = false := by simp [sameV]; omega
                  obtain ⟨e1, f1, t1⟩ := hinv.one (same := same) (M := M) (by omega) (by omega) (by omega) hM2 hs1 hne (far_near (by omega) (by omega) hM2) (far_same _ _ (by omega)) (far_same _ _ (by omega))
                  have hst5 : StAt (wr.setCell ⟨A, 0, none⟩ (.int .i64 (A0 + D))) c b n same M f := HA.out.st.setOther _ hcA hbA
                  have hI : I64 (A0 + D) ∧ I64 A1 ∧ I64 A2 := by unfold I64; omega
                  refine (sTake_any c b n same M f 1 (A0 + D) A1 A2 k (2 * k) _ hst5 HA.out.ok (by omega) (by omega) hI.1 hI.2.1 hI.2.2 (by omega) (by omega)).mono ?_
                  rintro e w6 ⟨n6, he, hn6, hs6, hg6⟩
                  rw [f1, e1] at he
                  subst he
                  have ok6 := HA.out.ok.take (by omega) (s := 1) (t := k) hI.1 hI.2.1 hI.2.2
                  rw [t1] at hs6 ok6
                  obtain ⟨e2, f2, t2⟩ := hinv.two (same := same) (M := M) ⟨(A0 + D), A1, A2, k, 1⟩ (by omega) (by omega) (by omega) hM2 hs1
                  have hb5 : Below w.heap.size w (wr.setCell ⟨A, 0, none⟩ (.int .i64 (A0 + D))) := HA.out.bel.setCell hAw _
                  have hb6 := below_gr hb5 hg6 (by simpa using hsz) hbw
                  have hAlt : A < wr.heap.size := World.block_lt_of_cell? wr ⟨A, 0, none⟩ HA.out.p0
                  have P0 : w6.cell? ⟨A, 0, none⟩ = some (.int .i64 (A0 + D)) := kept_cell (World.cell?_setCell_same _ _ _ HA.out.p0) hg6 (Ne.symm hbA)
                  have P1 : w6.cell? ⟨A, 1, none⟩ = some (.int .i64 A1) := kept_cell (by rw [World.cell?_setCell_other _ _ _ _ (by intro e; injection e; omega)]; exact HA.out.p1) hg6 (Ne.symm hbA)
                  have P2 : w6.cell? ⟨A, 2, none⟩ = some (.int .i64 A2) := kept_cell (by rw [World.cell?_setCell_other _ _ _ _ (by intro e; injection e; omega)]; exact HA.out.p2) hg6 (Ne.symm hbA)
                  have Z0 : w6.frozen? ⟨A, 0, none⟩ = false := kept_free (by rw [World.frozen?_setCell]; exact HA.out.z0) (by simpa using hAlt) hg6 (Ne.symm hbA)
                  have Z1 : w6.frozen? ⟨A, 1, none⟩ = false := kept_free (by rw [World.frozen?_setCell]; exact HA.out.z1) (by simpa using hAlt) hg6 (Ne.symm hbA)
                  have Z2 : w6.frozen? ⟨A, 2, none⟩ = false := kept_free (by rw [World.frozen?_setCell]; exact HA.out.z2) (by simpa using hAlt) hg6 (Ne.symm hbA)
                  have Q0 : w6.cell? ⟨w.heap.size, 0, none⟩ = some (.int .i64 x) := kept_cell (by rw [World.cell?_setCell_other _ _ _ _ (by intro e; injection e; omega)]; exact HA.out.q0) hg6 hVb
                  have Q1 : w6.cell? ⟨w.heap.size, 1, none⟩ = some (.int .i64 y) := kept_cell (by rw [World.cell?_setCell_other _ _ _ _ (by intro e; injection e; omega)]; exact HA.out.q1) hg6 hVb
                  have Q2 : w6.cell? ⟨w.heap.size, 2, none⟩ = some (.int .i64 z) := kept_cell (by rw [World.cell?_setCell_other _ _ _ _ (by intro e; injection e; omega)]; exact HA.out.q2) hg6 hVb
                  have HS6 := Lib.hid hs6
                  have OK6 := Lib.hid ok6
                  have HB6 := Lib.hid hb6
                  have F2 := Lib.hid f2
                  have E2 := Lib.hid e2
                  have T2 := Lib.hid t2
                  have HP0 := Lib.hid P0
                  have HP1 := Lib.hid P1
                  have HP2 := Lib.hid P2
                  clear hs6 ok6 hb6 hg6 f2 e2 t2 f1 e1 t1 hst5 hne hb5 HA P0 P1 P2 p0 p1 p2 q0 q1 q2 z0 z1 z2
                  go_wp2_with fail
                  refine (sTake_any c b n6 same M _ 2 x y z k (2 * k + 1) _ HS6.out OK6.out (by omega) (by omega) hx hy hz (by omega) (by omega)).mono ?_
                  rintro e w7 ⟨n7, he, hn7, hs7, hg7⟩
                  rw [F2.out, E2.out] at he
                  subst he
                  have ok7 := OK6.out.take (by omega) (s := 2) (t := k) hx hy hz
                  rw [T2.out] at hs7 ok7
                  have hw6 : w.heap.size ≤ w6.heap.size := HB6.out.size
                  have hAlt6 : A < w6.heap.size := World.block_lt_of_cell? w6 ⟨A, 0, none⟩ HP0.out
                  have hst7 : MvAt w c b A same M (k + 1) n7 (updS (updS f 1 ⟨(A0 + D), A1, A2, k, 1⟩) 2 ⟨x, y, z, k, (k : Int) + 1⟩) (A0 + D) A1 A2 x y z w7 :=
                    ⟨ok7.mono (by omega), hs7, by omega, by have := MvInv.next (f := f) (B0 := (A0 + D)) (B1 := A1) (B2 := A2) (x := x) (y := y) (z := z) (show (0 : Int) ≤ (k : Int) by omega); simpa using this, by omega, by omega, by omega,
                      kept_cell HP0.out hg7 (Ne.symm hbA), kept_cell HP1.out hg7 (Ne.symm hbA), kept_cell HP2.out hg7 (Ne.symm hbA), kept_free Z0 hAlt6 hg7 (Ne.symm hbA), kept_free Z1 hAlt6 hg7 (Ne.symm hbA), kept_free Z2 hAlt6 hg7 (Ne.symm hbA),
                      kept_cell Q0 hg7 hVb, kept_cell Q1 hg7 hVb, kept_cell Q2 hg7 hVb, below_gr HB6.out hg7 hw6 hbw⟩
                  have HST7 := Lib.hid hst7
                  clear hst7 hs7 ok7 hg7 OK6 HS6 HB6 Z0 Z1 Z2 Q0 Q1 Q2 HP0 HP1 HP2
                  by_cases hsk : same ≤ (k : Int)
                  · rw [if_pos (show same < (k : Int) + 1 by omega)]
                    go_wp2_with fail
                    exact ⟨⟨k + 1, n7, _, _, _, _, by omega, by go_num, HST7.out⟩, by simp [intOf]; omega⟩
                  · rw [if_neg (show ¬ same < (k : Int) + 1 by omega)]
                    have hsd : decide (same ≤ (k : Int)) = false := decide_eq_false hsk
                    go_wp2_with fail
                    exact ⟨⟨k + 1, n7, _, _, _, _, by omega, by go_num, HST7.out⟩, by simp [intOf]; omega⟩
                · have HM3 := Lib.hid hm
                  go_wp2_with fail
                  have hinv := HA.out.inv
                  have hne : sameV ⟨A0, A1, A2, (k : Int) - 1, 1⟩ A0 (A1 + D) A2 = false := by simp [sameV]; omega
                  obtain ⟨e1, f1, t1⟩ := hinv.one (same := same) (M := M) (by omega) (by omega) (by omega) hM2 hs1 hne (far_same _ _ (by omega)) (far_near (by omega) (by omega) hM2) (far_same _ _ (by omega))
                  have hst5 : StAt (wr.setCell ⟨A, 1, none⟩ (.int .i64 (A1 + D))) c b n same M f := HA.out.st.setOther _ hcA hbA
                  have hI : I64 A0 ∧ I64 (A1 + D) ∧ I64 A2 := by unfold I64; omega
                  refine (sTake_any c b n same M f 1 A0 (A1 + D) A2 k (2 * k) _ hst5 HA.out.ok (by omega) (by omega) hI.1 hI.2.1 hI.2.2 (by omega) (by omega)).mono ?_
                  rintro e w6 ⟨n6, he, hn6, hs6, hg6⟩
                  rw [f1, e1] at he
                  subst he
                  have ok6 := HA.out.ok.take (by omega) (s := 1) (t := k) hI.1 hI.2.1 hI.2.2
                  rw [t1] at hs6 ok6
                  obtain ⟨e2, f2, t2⟩ := hinv.two (same := same) (M := M) ⟨A0, (A1 + D), A2, k, 1⟩ (by omega) (by omega) (by omega) hM2 hs1
                  have hb5 : Below w.heap.size w (wr.setCell ⟨A, 1, none⟩ (.int .i64 (A1 + D))) := HA.out.bel.setCell hAw _
                  have hb6 := below_gr hb5 hg6 (by simpa using hsz) hbw
                  have hAlt : A < wr.heap.size := World.block_lt_of_cell? wr ⟨A, 0, none⟩ HA.out.p0
                  have P0 : w6.cell? ⟨A, 0, none⟩ = some (.int .i64 A0) := kept_cell (by rw [World.cell?_setCell_other _ _ _ _ (by intro e; injection e; omega)]; exact HA.out.p0) hg6 (Ne.symm hbA)
                  have P1 : w6.cell? ⟨A, 1, none⟩ = some (.int .i64 (A1 + D)) := kept_cell (World.cell?_setCell_same _ _ _ HA.out.p1) hg6 (Ne.symm hbA)
                  have P2 : w6.cell? ⟨A, 2, none⟩ = some (.int .i64 A2) := kept_cell (by rw [World.cell?_setCell_other _ _ _ _ (by intro e; injection e; omega)]; exact HA.out.p2) hg6 (Ne.symm hbA)
                  have Z0 : w6.frozen? ⟨A, 0, none⟩ = false := kept_free (by rw [World.frozen?_setCell]; exact HA.out.z0) (by simpa using hAlt) hg6 (Ne.symm hbA)
                  have Z1 : w6.frozen? ⟨A, 1, none⟩ = false := kept_free (by rw [World.frozen?_setCell]; exact HA.out.z1) (by simpa using hAlt) hg6 (Ne.symm hbA)
                  have Z2 : w6.frozen? ⟨A, 2, none⟩ = false := kept_free (by rw [World.frozen?_setCell]; exact HA.out.z2) (by simpa using hAlt) hg6 (Ne.symm hbA)
                  have Q0 : w6.cell? ⟨w.heap.size, 0, none⟩ = some (.int .i64 x) := kept_cell (by rw [World.cell?_setCell_other _ _ _ _ (by intro e; injection e; omega)]; exact HA.out.q0) hg6 hVb
                  have Q1 : w6.cell? ⟨w.heap.size, 1, none⟩ = some (.int .i64 y) := kept_cell (by rw [World.cell?_setCell_other _ _ _ _ (by intro e; injection e; omega)]; exact HA.out.q1) hg6 hVb
                  have Q2 : w6.cell? ⟨w.heap.size, 2, none⟩ = some (.int .i64 z) := kept_cell (by rw [World.cell?_setCell_other _ _ _ _ (by intro e; injection e; omega)]; exact HA.out.q2) hg6 hVb
                  have HS6 := Lib.hid hs6
                  have OK6 := Lib.hid ok6
                  have HB6 := Lib.hid hb6
                  have F2 := Lib.hid f2
                  have E2 := Lib.hid e2
                  have T2 := Lib.hid t2
                  have HP0 := Lib.hid P0
                  have HP1 := Lib.hid P1
                  have HP2 := Lib.hid P2
                  clear hs6 ok6 hb6 hg6 f2 e2 t2 f1 e1 t1 hst5 hne hb5 HA P0 P1 P2 p0 p1 p2 q0 q1 q2 z0 z1 z2
                  go_wp2_with fail
                  refine (sTake_any c b n6 same M _ 2 x y z k (2 * k + 1) _ HS6.out OK6.out (by omega) (by omega) hx hy hz (by omega) (by omega)).mono ?_
                  rintro e w7 ⟨n7, he, hn7, hs7, hg7⟩
                  rw [F2.out, E2.out] at he
                  subst he
                  have ok7 := OK6.out.take (by omega) (s := 2) (t := k) hx hy hz
                  rw [T2.out] at hs7 ok7
                  have hw6 : w.heap.size ≤ w6.heap.size := HB6.out.size
                  have hAlt6 : A < w6.heap.size := World.block_lt_of_cell? w6 ⟨A, 0, none⟩ HP0.out
                  have hst7 : MvAt w c b A same M (k + 1) n7 (updS (updS f 1 ⟨A0, (A1 + D), A2, k, 1⟩) 2 ⟨x, y, z, k, (k : Int) + 1⟩) A0 (A1 + D) A2 x y z w7 :=
                    ⟨ok7.mono (by omega), hs7, by omega, by have := MvInv.next (f := f) (B0 := A0) (B1 := (A1 + D)) (B2 := A2) (x := x) (y := y) (z := z) (show (0 : Int) ≤ (k : Int) by omega); simpa using this, by omega, by omega, by omega,
                      kept_cell HP0.out hg7 (Ne.symm hbA), kept_cell HP1.out hg7 (Ne.symm hbA), kept_cell HP2.out hg7 (Ne.symm hbA), kept_free Z0 hAlt6 hg7 (Ne.symm hbA), kept_free Z1 hAlt6 hg7 (Ne.symm hbA), kept_free Z2 hAlt6 hg7 (Ne.symm hbA),
                      kept_cell Q0 hg7 hVb, kept_cell Q1 hg7 hVb, kept_cell Q2 hg7 hVb, below_gr HB6.out hg7 hw6 hbw⟩
                  have HST7 := Lib.hid hst7
                  clear hst7 hs7 ok7 hg7 OK6 HS6 HB6 Z0 Z1 Z2 Q0 Q1 Q2 HP0 HP1 HP2
                  by_cases hsk : same ≤ (k : Int)
                  · rw [if_pos (show same < (k : Int) + 1 by omega)]
                    go_wp2_with fail
                    exact ⟨⟨k + 1, n7, _, _, _, _, by omega, by go_num, HST7.out⟩, by simp [intOf]; omega⟩
                  · rw [if_neg (show ¬ same < (k : Int) + 1 by omega)]
                    have hsd : decide (same ≤ (k : Int)) = false := decide_eq_false hsk
                    go_wp2_with fail
                    exact ⟨⟨k + 1, n7, _, _, _, _, by omega, by go_num, HST7.out⟩, by simp [intOf]; omega⟩
                · have HM3 := Lib.hid hm
                  go_wp2_with fail
                  have hinv := HA.out.inv
                  have hne : sameV ⟨A0, A1, A2, (k : Int) - 1, 1⟩ A0 A1 (A2 + D) = false := by simp [sameV]; omega
                  obtain ⟨e1, f1, t1⟩ := hinv.one (same := same) (M := M) (by omega) (by omega) (by omega) hM2 hs1 hne (far_same _ _ (by omega)) (far_same _ _ (by omega)) (far_near (by omega) (by omega) hM2)
                  have hst5 : StAt (wr.setCell ⟨A, 2, none⟩ (.int .i64 (A2 + D))) c b n same M f := HA.out.st.setOther _ hcA hbA
                  have hI : I64 A0 ∧ I64 A1 ∧ I64 (A2 + D) := by unfold I64; omega
                  refine (sTake_any c b n same M f 1 A0 A1 (A2 + D) k (2 * k) _ hst5 HA.out.ok (by omega) (by omega) hI.1 hI.2.1 hI.2.2 (by omega) (by omega)).mono ?_
                  rintro e w6 ⟨n6, he, hn6, hs6, hg6⟩
                  rw [f1, e1] at he
                  subst he
                  have ok6 := HA.out.ok.take (by omega) (s := 1) (t := k) hI.1 hI.2.1 hI.2.2
                  rw [t1] at hs6 ok6
                  obtain ⟨e2, f2, t2⟩ := hinv.two (same := same) (M := M) ⟨A0, A1, (A2 + D), k, 1⟩ (by omega) (by omega) (by omega) hM2 hs1
                  have hb5 : Below w.heap.size w (wr.setCell ⟨A, 2, none⟩ (.int .i64 (A2 + D))) := HA.out.bel.setCell hAw _
                  have hb6 := below_gr hb5 hg6 (by simpa using hsz) hbw
                  have hAlt : A < wr.heap.size := World.block_lt_of_cell? wr ⟨A, 0, none⟩ HA.out.p0
                  have P0 : w6.cell? ⟨A, 0, none⟩ = some (.int .i64 A0) := kept_cell (by rw [World.cell?_setCell_other _ _ _ _ (by intro e; injection e; omega)]; exact HA.out.p0) hg6 (Ne.symm hbA)
                  have P1 : w6.cell? ⟨A, 1, none⟩ = some (.int .i64 A1) := kept_cell (by rw [World.cell?_setCell_other _ _ _ _ (by intro e; injection e; omega)]; exact HA.out.p1) hg6 (Ne.symm hbA)
                  have P2 : w6.cell? ⟨A, 2, none⟩ = some (.int .i64 (A2 + D)) := kept_cell (World.cell?_setCell_same _ _ _ HA.out.p2) hg6 (Ne.symm hbA)
                  have Z0 : w6.frozen? ⟨A, 0, none⟩ = false := kept_free (by rw [World.frozen?_setCell]; exact HA.out.z0) (by simpa using hAlt) hg6 (Ne.symm hbA)
                  have Z1 : w6.frozen? ⟨A, 1, none⟩ = false := kept_free (by rw [World.frozen?_setCell]; exact HA.out.z1) (by simpa using hAlt) hg6 (Ne.symm hbA)
                  have Z2 : w6.frozen? ⟨A, 2, none⟩ = false := kept_free (by rw [World.frozen?_setCell]; exact HA.out.z2) (by simpa using hAlt) hg6 (Ne.symm hbA)
                  have Q0 : w6.cell? ⟨w.heap.size, 0, none⟩ = some (.int .i64 x) := kept_cell (by rw [World.cell?_setCell_other _ _ _ _ (by intro e; injection e; omega)]; exact HA.out.q0) hg6 hVb
                  have Q1 : w6.cell? ⟨w.heap.size, 1, none⟩ = some (.int .i64 y) := kept_cell (by rw [World.cell?_setCell_other _ _ _ _ (by intro e; injection e; omega)]; exact HA.out.q1) hg6 hVb
                  have Q2 : w6.cell? ⟨w.heap.size, 2, none⟩ = some (.int .i64 z) := kept_cell (by rw [World.cell?_setCell_other _ _ _ _ (by intro e; injection e; omega)]; exact HA.out.q2) hg6 hVb
                  have HS6 := Lib.hid hs6
                  have OK6 := Lib.hid ok6
                  have HB6 := Lib.hid hb6
                  have F2 := Lib.hid f2
                  have E2 := Lib.hid e2
                  have T2 := Lib.hid t2
                  have HP0 := Lib.hid P0
                  have HP1 := Lib.hid P1
                  have HP2 := Lib.hid P2
                  clear hs6 ok6 hb6 hg6 f2 e2 t2 f1 e1 t1 hst5 hne hb5 HA P0 P1 P2 p0 p1 p2 q0 q1 q2 z0 z1 z2
                  go_wp2_with fail
                  refine (sTake_any c b n6 same M _ 2 x y z k (2 * k + 1) _ HS6.out OK6.out (by omega) (by omega) hx hy hz (by omega) (by omega)).mono ?_
                  rintro e w7 ⟨n7, he, hn7, hs7, hg7⟩
                  rw [F2.out, E2.out] at he
                  subst he
                  have ok7 := OK6.out.take (by omega) (s := 2) (t := k) hx hy hz
                  rw [T2.out] at hs7 ok7
                  have hw6 : w.heap.size ≤ w6.heap.size := HB6.out.size
                  have hAlt6 : A < w6.heap.size := World.block_lt_of_cell? w6 ⟨A, 0, none⟩ HP0.out
                  have hst7 : MvAt w c b A same M (k + 1) n7 (updS (updS f 1 ⟨A0, A1, (A2 + D), k, 1⟩) 2 ⟨x, y, z, k, (k : Int) + 1⟩) A0 A1 (A2 + D) x y z w7 :=
                    ⟨ok7.mono (by omega), hs7, by omega, by have := MvInv.next (f := f) (B0 := A0) (B1 := A1) (B2 := (A2 + D)) (x := x) (y := y) (z := z) (show (0 : Int) ≤ (k : Int) by omega); simpa using this, by omega, by omega, by omega,
                      kept_cell HP0.out hg7 (Ne.symm hbA), kept_cell HP1.out hg7 (Ne.symm hbA), kept_cell HP2.out hg7 (Ne.symm hbA), kept_free Z0 hAlt6 hg7 (Ne.symm hbA), kept_free Z1 hAlt6 hg7 (Ne.symm hbA), kept_free Z2 hAlt6 hg7 (Ne.symm hbA),
                      kept_cell Q0 hg7 hVb, kept_cell Q1 hg7 hVb, kept_cell Q2 hg7 hVb, below_gr HB6.out hg7 hw6 hbw⟩
                  have HST7 := Lib.hid hst7
                  clear hst7 hs7 ok7 hg7 OK6 HS6 HB6 Z0 Z1 Z2 Q0 Q1 Q2 HP0 HP1 HP2
                  by_cases hsk : same ≤ (k : Int)
                  · rw [if_pos (show same < (k : Int) + 1 by omega)]
                    go_wp2_with fail
                    exact ⟨⟨k + 1, n7, _, _, _, _, by omega, by go_num, HST7.out⟩, by simp [intOf]; omega⟩
                  · rw [if_neg (show ¬ same < (k : Int) + 1 by omega)]
                    have hsd : decide (same ≤ (k : Int)) = false := decide_eq_false hsk
                    go_wp2_with fail
                    exact ⟨⟨k + 1, n7, _, _, _, _, by omega, by go_num, HST7.out⟩, by simp [intOf]; omega⟩
        ·
          go_wp2_with fail
          go_ret
          exact Gives.mk rfl HA.out.bel
      ·
        go_wp2_with fail
        go_ret
        exact Gives.mk rfl HA.out.bel
end Go.Proofs.Ytihalkpcddnikaa
