/-
  The law SyncTrue, walked.
-/
import Derived.Test.YtcdhhnodfgpkiaaSyncC
import Derived.Test.YtcdhhnodfgpkiaaElemB
import Derived.Deep.CutRange
namespace Go.Proofs.Ytcdhhnodfgpkiaa
open Go.RowKit
set_option linter.unusedVariables false

/-- By how much clocks may have come apart. -/
def apartV (n R : Int) : Int := (n * R + 1048575) / 1048576
theorem apart_add {n R T : Int} : apartV n R + T * R / 1048576 ≤ apartV (n + T) R := by
  unfold apartV
  rw [Int.add_mul]
  omega
theorem apart_zero (R : Int) : apartV 0 R = 0 := by unfold apartV; omega
theorem by_at {S : SyncS} {t : Int} (h : S.at_ ≤ t) (h2 : t ≤ 1099511627776) : byN S t = apartV (t - S.at_) S.rate := by
  unfold byN goneN apartV; rw [if_neg (by omega), if_pos h2]
structure TAt (w : World) (c : Nat) (D R : Int) (k : Nat) (S : SyncS) (now off : Int) (wr : World) : Prop where
  ok : SyncOK S
  sd : S.delay = D
  sr : S.rate = R
  so : S.odd = 0
  n0 : 0 ≤ now
  n1 : now ≤ 65535 * k
  f0 : -(65535 * k) ≤ off
  f1 : off ≤ 999 + 65535 * k
  at' : S.at_ ≤ now
  kn : S.known = true → S.lo - apartV (now - S.at_) R ≤ off ∧ off ≤ S.hi + apartV (now - S.at_) R
  x : SyncAt wr c S
  bel : Below w.heap.size w wr
theorem true_beac {S : SyncS} {n f v D R : Int} (sd : S.delay = D) (sr : S.rate = R) (hD : 0 ≤ D) (hat : S.at_ ≤ n) (hn : n ≤ 1099511627776) (hw0 : 0 ≤ v) (hw1 : v ≤ D) (hs0 : 0 ≤ n + f - v) (hs1 : n + f - v ≤ 1099511627776)
    (hk : S.known = true → S.lo - byN S n ≤ f ∧ f ≤ S.hi + byN S n) :
    beacE S n (n + f - v) = 0 ∧ (beacS S n (n + f - v)).known = true ∧ (beacS S n (n + f - v)).lo ≤ f ∧ f ≤ (beacS S n (n + f - v)).hi ∧ (beacS S n (n + f - v)).hi - (beacS S n (n + f - v)).lo ≤ D ∧
      (beacS S n (n + f - v)).at_ = n ∧ (beacS S n (n + f - v)).odd = 0 ∧ (beacS S n (n + f - v)).delay = D ∧ (beacS S n (n + f - v)).rate = R := by
  have hb : badB S n (n + f - v) = false := by simp [badB]; omega
  cases hkn : S.known
  · simp only [beacE, beacS, hb, hkn, Bool.false_eq_true, if_false, SyncS.learn]
    exact ⟨trivial, trivial, by omega, by omega, by omega, trivial, trivial, sd, sr⟩
  · obtain ⟨h1, h2⟩ := hk hkn
    have hm : meetB S n (n + f - v) = true := decide_eq_true (by omega)
    simp only [beacE, beacS, hb, hkn, hm, Bool.false_eq_true, if_false, if_true, SyncS.learn]
    exact ⟨trivial, trivial, by omega, by omega, by omega, trivial, trivial, sd, sr⟩
theorem Odd_is {c : Nat} {S : SyncS} {w : World} {r : Int} (h : SyncAt w c S) (ok : SyncOK S) (e : S.odd = r) :
    Calls Try.prog 28 #[.pointer (some ⟨c, 0, none⟩)] w (Tells w (.int .i64 r)) := by rw [← e]; exact Odd_any c S w h ok
set_option maxRecDepth 100000 in
set_option maxHeartbeats 6400000 in
theorem SyncTrue_any (delay rate off : Int) (a : Option Addr) (len cap : Nat) (w : World) (hr : Elems w [some .u16, some .u16, some .u16] a len) :
    Calls Try.prog 6 #[.int .i64 delay, .int .i64 rate, .int .i64 off, .slice a len cap] w (Gives w (.bool true)) := by
  have HR := Lib.hid hr
  have hlen := hr.1
  clear hr
  have hM := amongV_bd delay 100 (by omega)
  have hT := amongV_bd rate 1048577 (by omega)
  have hS := amongV_bd off 1000 (by omega)
  go_enter Try.func6, Try.ntmps6
  go_wp2_with (first | (go_at_call 24; (first | with_reducible refine Calls.fold (works35 _) ?_ | with_reducible refine Calls.fresh (works35 _) ?_); intro x1) | (go_at_call 20; with_reducible refine Calls.tells (Among_any _ _ _ (by omega) (by omega)) ?_))
  obtain ⟨D, hDD⟩ : ∃ D, amongV delay 100 = D := ⟨_, rfl⟩
  obtain ⟨R, hRR⟩ : ∃ R, amongV rate 1048577 = R := ⟨_, rfl⟩
  obtain ⟨F, hFF⟩ : ∃ F, amongV off 1000 = F := ⟨_, rfl⟩
  rw [hDD, hRR, hFF]
  have hD0 : 0 ≤ D := by omega
  have hD1 : D ≤ 99 := by omega
  have hR0 : 0 ≤ R := by omega
  have hR1 : R ≤ 1048576 := by omega
  have hF0 : 0 ≤ F := by omega
  have hF1 : F ≤ 999 := by omega
  clear hDD hRR hFF hM hT hS
  have hnew : new3B D R 3 = true := by simp [new3B]; omega
  refine (sNew_good _ hnew).mono ?_
  rintro e w1 ⟨c, rfl, hc, hx, hb1⟩
  have hcw : w.heap.size ≤ c := Nat.le_trans (up_size w x1) hc
  have hst : TAt w c D R 0 (SyncS.new D R 3) 0 F w1 :=
    ⟨SyncOK.new hnew, rfl, rfl, rfl, by omega, by omega, by omega, by omega, by simp [SyncS.new], fun h => by simp [SyncS.new] at h, hx, Below.trans (show Below w.heap.size w (up w x1) by (repeat (first | (with_reducible exact Below.refl _ _) | (with_reducible assumption) | (with_reducible refine Below.alloc ?_ (by (repeat (first | (with_reducible exact Nat.le_refl _) | (with_reducible assumption) | (with_reducible refine le_up ?_) | (with_reducible refine le_alloc ?_) | (with_reducible refine le_setCell ?_) | (with_reducible refine le_drew ?_) | (with_reducible refine le_drewN ?_) | omega))) _) | (with_reducible refine Below.drew ?_) | (with_reducible refine Below.drewN ?_ _) | (with_reducible refine Below.setCell ?_ (by (repeat (first | (with_reducible exact Nat.le_refl _) | (with_reducible assumption) | (with_reducible refine le_up ?_) | (with_reducible refine le_alloc ?_) | (with_reducible refine le_setCell ?_) | (with_reducible refine le_drew ?_) | (with_reducible refine le_drewN ?_) | omega))) _) | (with_reducible refine Below.up ?_ (by (repeat (first | (with_reducible exact Nat.le_refl _) | (with_reducible assumption) | (with_reducible refine le_up ?_) | (with_reducible refine le_alloc ?_) | (with_reducible refine le_setCell ?_) | (with_reducible refine le_drew ?_) | (with_reducible refine le_drewN ?_) | omega))))))) (hb1.mono (up_size w x1))⟩
  have HST := Lib.hid hst
  clear hst hx hb1 hnew hc
  go_wp2_with fail
  go_loopw [2, 11, 12] (fun v2 v11 v12 wr => ∃ (k : Nat) (S : SyncS) (now f : Int), k ≤ 60 ∧ v12 = .int .i64 k ∧ v2 = .int .i64 f ∧ v11 = .int .i64 now ∧ TAt w c D R k S now f wr) (fun _ _ v12 _ => 60 - (intOf v12).toNat)
  case atStart => exact ⟨0, _, 0, F, by omega, rfl, rfl, rfl, HST.out⟩
  case round =>
    clear HST
    obtain ⟨k, S, now, f, hk, rfl, rfl, rfl, ha⟩ := hrel
    have HA := Lib.hid ha
    have hn0 := ha.n0
    have hn1 := ha.n1
    have hf0 := ha.f0
    have hf1 := ha.f1
    have hcl := ha.x.lt
    have hsz := ha.bel.size
    clear ha
    by_cases hkl : k < len
    · by_cases hk60 : k < 60
      · obtain ⟨_, h0 | ⟨Bq, off', rfl, hBq, hcell⟩⟩ := HR.out
        · omega
        · obtain ⟨cs, hic, hcs⟩ := hcell k hkl
          obtain ⟨T, cs, rfl, hw0, hic⟩ := hic.cons
          obtain ⟨Ap, cs, rfl, hw1, hic⟩ := hic.cons
          obtain ⟨Wy, cs, rfl, hw2, hic⟩ := hic.cons
          obtain rfl := hic.nil
          obtain ⟨tT0, tT1⟩ := bounds_u16 hw0
          obtain ⟨tA0, tA1⟩ := bounds_u16 hw1
          obtain ⟨tW0, tW1⟩ := bounds_u16 hw2
          haveI : LtSize Bq wr := ⟨by omega⟩
          have x0 : wr.cell? ⟨Bq, off' + k * 3, none⟩ = some (.int .u16 T) := by rw [HA.out.bel.cell (p := ⟨Bq, _, none⟩) hBq]; exact hcs 0 (by decide)
          have x1 : wr.cell? ⟨Bq, off' + k * 3 + 1, none⟩ = some (.int .u16 Ap) := by rw [HA.out.bel.cell (p := ⟨Bq, _, none⟩) hBq]; exact hcs 1 (by decide)
          have x2 : wr.cell? ⟨Bq, off' + k * 3 + 2, none⟩ = some (.int .u16 Wy) := by rw [HA.out.bel.cell (p := ⟨Bq, _, none⟩) hBq]; exact hcs 2 (by decide)
          clear hcell hcs hw0 hw1 hw2
          have hkI : (k : Int) < 60 := by omega
          have hp0 : 0 ≤ T * R := Int.mul_nonneg tT0 hR0
          have hp1 : T * R ≤ 65535 * 1048576 := Int.le_trans (Int.mul_le_mul_of_nonneg_right tT1 hR0) (Int.mul_le_mul_of_nonneg_left hR1 (by omega))
          go_upto_region 10 with fail
          go_cut [13] from 33 to 150 (fun v13 wc => ∃ b : Int, v13 = .int .i64 b ∧ 0 ≤ b ∧ b ≤ T * R / 1048576 ∧ ∃ x, wc = up wr x)
          case first =>
            have q1 : IntKind.i64.wrap T = T := by rw [IntKind.wrap_i64]; omega
            have q2 : IntKind.i64.wrap Ap = Ap := by rw [IntKind.wrap_i64]; omega
            (refine wp_region_up (by kernel_rfl) (by kernel_rfl) ?_; (repeat (go_big_quiet_step (fail))); refine wpQuiet_nil ?_; intro _ hw'; obtain ⟨xq, hw''⟩ := hw'; subst hw'')
            go_wp2_with fail
            go_meet
            exact ⟨_, rfl, Int.emod_nonneg _ (by omega), by have := Int.emod_lt_of_pos Ap (show 0 < T * R / 1048576 + 1 by omega); omega, xq, rfl⟩
          case rest =>
            obtain ⟨b0, rfl, hb0, hb1, x, rfl⟩ := hcut
            clear x0 x1
            go_upto_if 70 with fail
            go_cut [13] from 33 to 150 (fun v13 wc => ∃ b : Int, v13 = .int .i64 b ∧ -(T * R / 1048576) ≤ b ∧ b ≤ T * R / 1048576 ∧ wc = up wr x)
            case first =>
              go_wp2_with fail
              all_goals go_meet
              all_goals exact ⟨_, rfl, by omega, by omega, rfl⟩
            case rest =>
              obtain ⟨b, rfl, g0, g1, rfl⟩ := hcut
              haveI : LtSize c wr := ⟨hcl⟩
              have hG : T * R / 1048576 ≤ 65535 := by omega
              have hat' : S.at_ ≤ now + T := by have := HA.out.at'; omega
              have hv0 : 0 ≤ Wy % (D + 1) := Int.emod_nonneg _ (by omega)
              have hv1 : Wy % (D + 1) ≤ D := by have := Int.emod_lt_of_pos Wy (show 0 < D + 1 by omega); omega
              have hkn' : S.known = true → S.lo - apartV (now + T - S.at_) R ≤ f + b ∧ f + b ≤ S.hi + apartV (now + T - S.at_) R := fun hh => by
                obtain ⟨e1, e2⟩ := HA.out.kn hh
                have e3 := apart_add (n := now - S.at_) (R := R) (T := T)
                rw [show now - S.at_ + T = now + T - S.at_ by omega] at e3
                omega
              cases hkk : S.known
              · have hbd : boundsV S (now + T) = (0, 0, false) := by simp [boundsV, hkk]
                by_cases hin : 0 ≤ now + T + (f + b) - Wy % (D + 1) ∧ now + T + (f + b) - Wy % (D + 1) ≤ 1099511627776
                · obtain ⟨i0, i1⟩ := hin
                  have hbe := true_beac HA.out.sd HA.out.sr hD0 hat' (show now + T ≤ 1099511627776 by omega) hv0 hv1 i0 i1 (fun hh => by rw [by_at hat' (by omega), HA.out.sr]; exact hkn' hh)
                  obtain ⟨he0, k1, k2, k3, k4, k5, k6, k7, k8⟩ := hbe
                  have j0 : decide (now + T + (f + b) - Wy % (D + 1) < 0) = false := by simp; omega
                  have j1 : decide (1099511627776 < now + T + (f + b) - Wy % (D + 1)) = false := by simp; omega
                  have ok2 := HA.out.ok.beac (t := now + T) (u := now + T + (f + b) - Wy % (D + 1)) i0
                  have hu : IntKind.u64.wrap (now + T + (f + b) - Wy % (D + 1)) = now + T + (f + b) - Wy % (D + 1) := by rw [IntKind.wrap_u64]; omega
                  go_wp2_with (go_at_call 26; (first | with_reducible refine Calls.fold (Bounds_is HA.out.x.up HA.out.ok (by omega) (by omega) hbd) ?_ | with_reducible refine Calls.fresh (Bounds_is HA.out.x.up HA.out.ok (by omega) (by omega) hbd) ?_); intro x1)
                  refine (Beacon_any c (now + T) (now + T + (f + b) - Wy % (D + 1)) S _ HA.out.x.up HA.out.ok i0).mono ?_
                  rintro e w6 ⟨he, hx6, hg6⟩
                  rw [he0] at he
                  subst he
                  have hb6 : Below w.heap.size w w6 := below_gr (below_up HA.out.bel hsz _) hg6 (le_up hsz) hcw
                  generalize beacS S (now + T) (now + T + (f + b) - Wy % (D + 1)) = S2 at *
                  have hbd2 : boundsV S2 (now + T) = (S2.lo, S2.hi, true) := by
                    unfold boundsV
                    rw [if_pos k1, by_at (by omega) (by omega), k5, Int.sub_self, apart_zero]
                    simp
                  have st2 : TAt w c D R (k + 1) S2 (now + T) (f + b) w6 := ⟨ok2, k7, k8, k6, by omega, by omega, by omega, by omega, by omega, fun _ => by rw [k5, Int.sub_self, apart_zero]; omega, hx6, hb6⟩
                  have ST2 := Lib.hid st2
                  have K6 := Lib.hid k6
                  have t1 : decide (f + b < S2.lo) = false := by simp; omega
                  have t2 : decide (S2.hi < f + b) = false := by simp; omega
                  have t3 : decide (D < S2.hi - S2.lo) = false := by simp; omega
                  have l0 := ok2.l0
                  have h1 := ok2.h1
                  have lh := ok2.lh
                  have BD2 := Lib.hid hbd2
                  clear st2 k1 k2 k3 k4 k5 k6 k7 k8 hx6 hb6 hg6 ok2 HA hbd2 he0 hu
                  go_wp2_with (first | (go_at_call 26; (first | with_reducible refine Calls.fold (Bounds_is ST2.out.x ST2.out.ok (by omega) (by omega) BD2.out) ?_ | with_reducible refine Calls.fresh (Bounds_is ST2.out.x ST2.out.ok (by omega) (by omega) BD2.out) ?_); intro x1) | (go_at_call 28; with_reducible refine Calls.tells (Odd_is ST2.out.x.up ST2.out.ok K6.out) ?_))
                  have ST := ST2.out
                  exact ⟨⟨k + 1, S2, _, _, by omega, by go_num, rfl, rfl, ⟨ST.ok, ST.sd, ST.sr, ST.so, ST.n0, ST.n1, ST.f0, ST.f1, ST.at', ST.kn, ST.x.up, below_up ST.bel ST.bel.size _⟩⟩, by simp [intOf]; omega⟩
                · have st2 : TAt w c D R (k + 1) S (now + T) (f + b) wr := ⟨HA.out.ok, HA.out.sd, HA.out.sr, HA.out.so, by omega, by omega, by omega, by omega, hat', hkn', HA.out.x, HA.out.bel⟩
                  have ST2 := Lib.hid st2
                  clear st2
                  rcases (show now + T + (f + b) - Wy % (D + 1) < 0 ∨ (0 ≤ now + T + (f + b) - Wy % (D + 1) ∧ 1099511627776 < now + T + (f + b) - Wy % (D + 1)) by omega) with j0 | ⟨j0, j1⟩
                  · have j0' : decide (now + T + (f + b) - Wy % (D + 1) < 0) = true := by simp; omega
                    clear hin j0
                    go_wp2_with (go_at_call 26; (first | with_reducible refine Calls.fold (Bounds_is HA.out.x.up HA.out.ok (by omega) (by omega) hbd) ?_ | with_reducible refine Calls.fresh (Bounds_is HA.out.x.up HA.out.ok (by omega) (by omega) hbd) ?_); intro x1)
                    have ST := ST2.out
                    exact ⟨⟨k + 1, S, _, _, by omega, by go_num, rfl, rfl, ⟨ST.ok, ST.sd, ST.sr, ST.so, ST.n0, ST.n1, ST.f0, ST.f1, ST.at', ST.kn, ST.x.up, below_up ST.bel ST.bel.size _⟩⟩, by simp [intOf]; omega⟩
                  · exfalso; omega
              · have hbd0 : boundsV S (now + T) = (S.lo - apartV (now + T - S.at_) R, S.hi + apartV (now + T - S.at_) R, true) := by
                  unfold boundsV; rw [if_pos hkk, by_at hat' (by omega), HA.out.sr]
                obtain ⟨e1, e2⟩ := hkn' hkk
                obtain ⟨L, hL⟩ : ∃ L, S.lo - apartV (now + T - S.at_) R = L := ⟨_, rfl⟩
                obtain ⟨H, hH⟩ : ∃ H, S.hi + apartV (now + T - S.at_) R = H := ⟨_, rfl⟩
                have hbd : boundsV S (now + T) = (L, H, true) := by rw [hbd0, hL, hH]
                have y1 : decide (f + b < L) = false := by simp; omega
                have y2 : decide (H < f + b) = false := by simp; omega
                clear hbd0 hL hH e1 e2
                by_cases hin : 0 ≤ now + T + (f + b) - Wy % (D + 1) ∧ now + T + (f + b) - Wy % (D + 1) ≤ 1099511627776
                · obtain ⟨i0, i1⟩ := hin
                  have hbe := true_beac HA.out.sd HA.out.sr hD0 hat' (show now + T ≤ 1099511627776 by omega) hv0 hv1 i0 i1 (fun hh => by rw [by_at hat' (by omega), HA.out.sr]; exact hkn' hh)
                  obtain ⟨he0, k1, k2, k3, k4, k5, k6, k7, k8⟩ := hbe
                  have j0 : decide (now + T + (f + b) - Wy % (D + 1) < 0) = false := by simp; omega
                  have j1 : decide (1099511627776 < now + T + (f + b) - Wy % (D + 1)) = false := by simp; omega
                  have ok2 := HA.out.ok.beac (t := now + T) (u := now + T + (f + b) - Wy % (D + 1)) i0
                  have hu : IntKind.u64.wrap (now + T + (f + b) - Wy % (D + 1)) = now + T + (f + b) - Wy % (D + 1) := by rw [IntKind.wrap_u64]; omega
                  go_wp2_with (go_at_call 26; (first | with_reducible refine Calls.fold (Bounds_is HA.out.x.up HA.out.ok (by omega) (by omega) hbd) ?_ | with_reducible refine Calls.fresh (Bounds_is HA.out.x.up HA.out.ok (by omega) (by omega) hbd) ?_); intro x1)
                  refine (Beacon_any c (now + T) (now + T + (f + b) - Wy % (D + 1)) S _ HA.out.x.up HA.out.ok i0).mono ?_
                  rintro e w6 ⟨he, hx6, hg6⟩
                  rw [he0] at he
                  subst he
                  have hb6 : Below w.heap.size w w6 := below_gr (below_up HA.out.bel hsz _) hg6 (le_up hsz) hcw
                  generalize beacS S (now + T) (now + T + (f + b) - Wy % (D + 1)) = S2 at *
                  have hbd2 : boundsV S2 (now + T) = (S2.lo, S2.hi, true) := by
                    unfold boundsV
                    rw [if_pos k1, by_at (by omega) (by omega), k5, Int.sub_self, apart_zero]
                    simp
                  have st2 : TAt w c D R (k + 1) S2 (now + T) (f + b) w6 := ⟨ok2, k7, k8, k6, by omega, by omega, by omega, by omega, by omega, fun _ => by rw [k5, Int.sub_self, apart_zero]; omega, hx6, hb6⟩
                  have ST2 := Lib.hid st2
                  have K6 := Lib.hid k6
                  have t1 : decide (f + b < S2.lo) = false := by simp; omega
                  have t2 : decide (S2.hi < f + b) = false := by simp; omega
                  have t3 : decide (D < S2.hi - S2.lo) = false := by simp; omega
                  have l0 := ok2.l0
                  have h1 := ok2.h1
                  have lh := ok2.lh
                  have BD2 := Lib.hid hbd2
                  clear st2 k1 k2 k3 k4 k5 k6 k7 k8 hx6 hb6 hg6 ok2 HA hbd2 he0 hu
                  go_wp2_with (first | (go_at_call 26; (first | with_reducible refine Calls.fold (Bounds_is ST2.out.x ST2.out.ok (by omega) (by omega) BD2.out) ?_ | with_reducible refine Calls.fresh (Bounds_is ST2.out.x ST2.out.ok (by omega) (by omega) BD2.out) ?_); intro x1) | (go_at_call 28; with_reducible refine Calls.tells (Odd_is ST2.out.x.up ST2.out.ok K6.out) ?_))
                  have ST := ST2.out
                  exact ⟨⟨k + 1, S2, _, _, by omega, by go_num, rfl, rfl, ⟨ST.ok, ST.sd, ST.sr, ST.so, ST.n0, ST.n1, ST.f0, ST.f1, ST.at', ST.kn, ST.x.up, below_up ST.bel ST.bel.size _⟩⟩, by simp [intOf]; omega⟩
                · have st2 : TAt w c D R (k + 1) S (now + T) (f + b) wr := ⟨HA.out.ok, HA.out.sd, HA.out.sr, HA.out.so, by omega, by omega, by omega, by omega, hat', hkn', HA.out.x, HA.out.bel⟩
                  have ST2 := Lib.hid st2
                  clear st2
                  rcases (show now + T + (f + b) - Wy % (D + 1) < 0 ∨ (0 ≤ now + T + (f + b) - Wy % (D + 1) ∧ 1099511627776 < now + T + (f + b) - Wy % (D + 1)) by omega) with j0 | ⟨j0, j1⟩
                  · have j0' : decide (now + T + (f + b) - Wy % (D + 1) < 0) = true := by simp; omega
                    clear hin j0
                    go_wp2_with (go_at_call 26; (first | with_reducible refine Calls.fold (Bounds_is HA.out.x.up HA.out.ok (by omega) (by omega) hbd) ?_ | with_reducible refine Calls.fresh (Bounds_is HA.out.x.up HA.out.ok (by omega) (by omega) hbd) ?_); intro x1)
                    have ST := ST2.out
                    exact ⟨⟨k + 1, S, _, _, by omega, by go_num, rfl, rfl, ⟨ST.ok, ST.sd, ST.sr, ST.so, ST.n0, ST.n1, ST.f0, ST.f1, ST.at', ST.kn, ST.x.up, below_up ST.bel ST.bel.size _⟩⟩, by simp [intOf]; omega⟩
                  · exfalso; omega
      ·
        go_wp2_with fail
        go_ret
        exact Gives.mk rfl HA.out.bel
    ·
      go_wp2_with fail
      go_ret
      exact Gives.mk rfl HA.out.bel
end Go.Proofs.Ytcdhhnodfgpkiaa
