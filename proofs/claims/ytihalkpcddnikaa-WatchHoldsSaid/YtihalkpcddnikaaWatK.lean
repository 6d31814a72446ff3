/-
  The law WatchHolds, walked.
-/
import Derived.Test.YtihalkpcddnikaaWatJ
import Derived.Test.YtihalkpcddnikaaBaseB
namespace Go.Proofs.Ytihalkpcddnikaa
open Go.RowKit Go.Maps
set_option linter.unusedVariables false
set_option linter.unusedSimpArgs false

theorem gr_to_set {a b : World} {c i : Nat} {v : Value} (h : a.grownBy b (some c)) : a.grownBy (b.setCell ⟨c, i, none⟩ v) (some c) := gr_trans h (gr_set b c i v)
theorem HInv.zero : HInv (-1) 0 0 0 Q.QOne.zero := ⟨rfl, by omega, by decide, by decide, by decide, by decide, by decide, .inl ⟨rfl, by decide⟩⟩
structure HdAt (w : World) (p : JB) (s : Int) (X : JS) (n : Nat) (since times good now : Int) (k : Nat) (wr : World) : Prop where
  x : JAt wr p X n
  q1 : X.Q.bad = 2
  q2 : X.Q.hold = 6
  q3 : X.Q.prove = 2
  inv : HInv since times good now (X.Q.l s.toNat)
  n0 : 0 ≤ now
  n1 : now ≤ 999
  s1 : -1 ≤ since
  s2 : since ≤ now
  g1 : good ≤ k
  t1 : times ≤ 1000000
  bel : Below w.heap.size w wr
  hp : ∀ r ∈ p.all, w.heap.size ≤ r
theorem JAt.times {w : World} {p : JB} {S : JS} {n : Nat} (h : JAt w p S n) (j : Nat) : (S.Q.l j).times ≤ (n : Int) := (h.ok.q1.one j).t1
theorem doJ_par (S : JS) (a : Ac) : (doJ S a).2.Q.bad = S.Q.bad ∧ (doJ S a).2.Q.hold = S.Q.hold ∧ (doJ S a).2.Q.prove = S.Q.prove := by
  have hp := fun k => hapS_par S.Q a.s a.x.tk k
  unfold doJ
  split
  · exact hp 0
  · show (lookJ S a.s a.x).2.Q.bad = S.Q.bad ∧ (lookJ S a.s a.x).2.Q.hold = S.Q.hold ∧ (lookJ S a.s a.x).2.Q.prove = S.Q.prove
    unfold lookJ lookX
    split
    · exact ⟨rfl, rfl, rfl⟩
    split
    · exact ⟨rfl, rfl, rfl⟩
    split
    · exact hp 2
    split
    · exact hp 2
    split
    · exact hp 3
    · exact hp 1
set_option maxRecDepth 100000 in
set_option maxHeartbeats 6400000 in
theorem WatchHolds_any (a : Option Addr) (len cap : Nat) (source : Int) (l2 : -9223372036854775808 ≤ source) (u2 : source ≤ 9223372036854775807) (w : World) (hr : Elems w acK a len) :
    Calls Try.prog 7 #[.slice a len cap, .int .i64 source] w (Gives w (.bool true)) := by
  have HR := Lib.hid hr
  have hlen := hr.1
  have hQ := amongV_bd source 8 (by omega)
  have HN := Lib.hid (fun W => jNew_good sp26_ok sp26_good W)
  have HSM := Lib.hid (fun W => small26 W)
  have HSV : Hid (sp26.v = .agg #[.int .i64 10, .int .i64 1, .int .i64 20, .int .i64 1, .int .i64 12, .int .i64 3, .int .i64 50, .int .i64 2, .int .i64 6, .int .i64 2]) := Lib.hid rfl
  rw [HSV.out] at HN HSM
  clear hr
  go_enter Try.func7, Try.ntmps7
  go_upto_region 4 with (first | (go_at_call 20; (first | with_reducible refine Calls.fold (works26 _) ?_ | with_reducible refine Calls.fresh (works26 _) ?_); intro x1) | (go_at_call 25; (first | with_reducible refine Calls.fold (HSM.out _) ?_ | with_reducible refine Calls.fresh (HSM.out _) ?_); intro x1) | (go_at_call 21; refine (HN.out _).mono ?_; rintro e2 w2 ⟨p, rfl, hp, hj, hb⟩))
  have hst : HdAt w p (amongV source 8) js0 0 (-1) 0 0 0 0 w2 :=
    ⟨hj, rfl, rfl, rfl, HInv.zero, by omega, by omega, by omega, by omega, by omega, by omega, Below.trans (up_below w x1) (hb.mono (up_size w x1)), fun r hr => Nat.le_trans (up_size w x1) (hp r hr)⟩
  have HST := Lib.hid hst
  clear hst hp hj hb
  clear x1
  go_wp2_with (go_at_call 11; with_reducible refine Calls.tells (Among_any _ _ _ (by omega) (by omega)) ?_)
  generalize amongV source 8 = s at *
  have HS := Lib.hid (And.intro hQ (show I64 s from ⟨by omega, by omega⟩))
  have HSB := Lib.hid (show srcB s = true by simp [srcB]; omega)
  clear hQ l2 u2
  go_loopw [7, 8, 9, 10, 11] (fun v7 v8 v9 v10 v11 wr => ∃ (k : Nat) (X : JS) (since times good now : Int), k ≤ 50 ∧ v11 = .int .i64 k ∧ v7 = .int .i64 since ∧ v8 = .int .i64 times ∧ v9 = .int .i64 good ∧ v10 = .int .i64 now ∧ HdAt w p s X (7 * k) since times good now k wr) (fun _ _ _ _ v11 _ => 50 - (intOf v11).toNat)
  case atStart => exact ⟨0, js0, -1, 0, 0, 0, by omega, rfl, rfl, rfl, rfl, rfl, HST.out⟩
  case round =>
    clear HST
    obtain ⟨k, X, since, times, good, now, hk, rfl, rfl, rfl, rfl, rfl, ha⟩ := hrel
    have HA := Lib.hid ha
    clear ha
    by_cases hkl : k < len
    · by_cases hk50 : k < 50
      · obtain ⟨B, off, ⟨s0, ⟨ax, tk0, ag, sy0, sy1, sy2, o0, o1, o2⟩, t⟩, rfl, hB, hs, hx, hc⟩ := ac_of HR.out hkl
        have HCE := Lib.hid (show ∀ W, Below w.heap.size w W → W.cell? ⟨B, off + k * 11, none⟩ = some (.int .i64 s0) ∧ W.cell? ⟨B, off + k * 11 + 1, none⟩ = some (.int .i64 ax) ∧ W.cell? ⟨B, off + k * 11 + 2, none⟩ = some (.int .i64 tk0) ∧ W.cell? ⟨B, off + k * 11 + 3, none⟩ = some (.int .i64 ag) ∧ W.cell? ⟨B, off + k * 11 + 4, none⟩ = some (.int .i64 sy0) ∧ W.cell? ⟨B, off + k * 11 + 5, none⟩ = some (.int .i64 sy1) ∧ W.cell? ⟨B, off + k * 11 + 6, none⟩ = some (.int .i64 sy2) ∧ W.cell? ⟨B, off + k * 11 + 7, none⟩ = some (.int .i64 o0) ∧ W.cell? ⟨B, off + k * 11 + 8, none⟩ = some (.int .i64 o1) ∧ W.cell? ⟨B, off + k * 11 + 9, none⟩ = some (.int .i64 o2) ∧ W.cell? ⟨B, off + k * 11 + 10, none⟩ = some (.bool t) from fun W hb => ⟨cell_belowI hb hB (hc 0 _ rfl), cell_belowI hb hB (hc 1 _ rfl), cell_belowI hb hB (hc 2 _ rfl), cell_belowI hb hB (hc 3 _ rfl), cell_belowI hb hB (hc 4 _ rfl), cell_belowI hb hB (hc 5 _ rfl), cell_belowI hb hB (hc 6 _ rfl), cell_belowI hb hB (hc 7 _ rfl), cell_belowI hb hB (hc 8 _ rfl), cell_belowI hb hB (hc 9 _ rfl), cell_belowI hb hB (hc 10 _ rfl)⟩)
        have hI1 : (k : Int) < (len : Int) := by omega
        have hI2 : (k : Int) < 50 := by omega
        have HI := Lib.hid (And.intro hk (And.intro hkl hk50))
        have HX0 := Lib.hid hx
        clear hc hs hx hk hkl hk50
        obtain ⟨x0, x1, x2, x3, x4, x5, x6, x7, x8, x9, x10⟩ := HCE.out _ HA.out.bel
        have hta := amongV_bd tk0 1000 (by omega)
        have hn0 := HA.out.n0
        have hn1 := HA.out.n1
        haveI : LtSize B wr := ⟨Nat.lt_of_lt_of_le hB HA.out.bel.size⟩
        have hBne : ¬ B = wr.heap.size := by have := HA.out.bel.size; omega
        have hBne2 : ¬ wr.heap.size = B := by have := HA.out.bel.size; omega
        go_upto_region 12 with (go_at_call 11; with_reducible refine Calls.tells (Among_any _ _ _ (by omega) (by omega)) ?_)
        obtain ⟨tk, htk⟩ : ∃ tk, max now (amongV tk0 1000) = tk := ⟨_, rfl⟩
        have htb : now ≤ tk ∧ tk ≤ 999 := by omega
        rw [htk]
        clear htk hta
        refine wp_gen (fun W => JAt W p X (7 * k) ∧ Below wr.heap.size wr W ∧ wr.heap.size < W.heap.size ∧ W.cell? ⟨wr.heap.size, 0, none⟩ = some (.int .i64 s) ∧ W.cell? ⟨wr.heap.size, 1, none⟩ = some (.int .i64 ax) ∧ W.cell? ⟨wr.heap.size, 2, none⟩ = some (.int .i64 tk) ∧ W.cell? ⟨wr.heap.size, 3, none⟩ = some (.int .i64 ag) ∧ W.cell? ⟨wr.heap.size, 4, none⟩ = some (.int .i64 sy0) ∧ W.cell? ⟨wr.heap.size, 5, none⟩ = some (.int .i64 sy1) ∧ W.cell? ⟨wr.heap.size, 6, none⟩ = some (.int .i64 sy2) ∧ W.cell? ⟨wr.heap.size, 7, none⟩ = some (.int .i64 o0) ∧ W.cell? ⟨wr.heap.size, 8, none⟩ = some (.int .i64 o1) ∧ W.cell? ⟨wr.heap.size, 9, none⟩ = some (.int .i64 o2) ∧ W.cell? ⟨wr.heap.size, 10, none⟩ = some (.bool t)) ⟨HA.out.x.new (Nat.le_refl _) (by (repeat (first | (with_reducible exact gr_refl _ _) | (with_reducible refine gr_to_set ?_) | (with_reducible refine gr_to_alloc ?_)))), by (repeat (first | (with_reducible exact Below.refl _ _) | (with_reducible assumption) | (with_reducible refine Below.alloc ?_ (by (repeat (first | (with_reducible exact Nat.le_refl _) | (with_reducible assumption) | (with_reducible refine le_up ?_) | (with_reducible refine le_alloc ?_) | (with_reducible refine le_setCell ?_) | (with_reducible refine le_drew ?_) | (with_reducible refine le_drewN ?_) | omega))) _) | (with_reducible refine Below.drew ?_) | (with_reducible refine Below.drewN ?_ _) | (with_reducible refine Below.setCell ?_ (by (repeat (first | (with_reducible exact Nat.le_refl _) | (with_reducible assumption) | (with_reducible refine le_up ?_) | (with_reducible refine le_alloc ?_) | (with_reducible refine le_setCell ?_) | (with_reducible refine le_drew ?_) | (with_reducible refine le_drewN ?_) | omega))) _) | (with_reducible refine Below.up ?_ (by (repeat (first | (with_reducible exact Nat.le_refl _) | (with_reducible assumption) | (with_reducible refine le_up ?_) | (with_reducible refine le_alloc ?_) | (with_reducible refine le_setCell ?_) | (with_reducible refine le_drew ?_) | (with_reducible refine le_drewN ?_) | omega)))))), by simp, by go_simp, by go_simp, by go_simp, by go_simp, by go_simp, by go_simp, by go_simp, by go_simp, by go_simp, by go_simp, by go_simp⟩ ?_
        rintro W2 ⟨hj2, hb2, hl2, y0, y1, y2, y3, y4, y5, y6, y7, y8, y9, y10⟩
        have hx2 : (Rd.mk ax tk ag sy0 sy1 sy2 o0 o1 o2).OK := ⟨HX0.out.ax, (show I64 tk from ⟨by omega, by omega⟩), HX0.out.ag, HX0.out.s0, HX0.out.s1, HX0.out.s2, HX0.out.o0, HX0.out.o1, HX0.out.o2⟩
        have hd := do26_any hj2 (by have := HI.out; omega) (a := ⟨s, ⟨ax, tk, ag, sy0, sy1, sy2, o0, o1, o2⟩, t⟩) HS.out.2 hx2
        have hrel := do_rel X ⟨s, ⟨ax, tk, ag, sy0, sy1, sy2, o0, o1, o2⟩, t⟩ HSB.out (by dsimp only; omega) (by dsimp only; omega)
        have hst := hstep HA.out.q1 HA.out.q2 HA.out.q3 HA.out.inv htb.1 (show 0 ≤ tk by omega) hrel
        obtain ⟨ans, hans⟩ : ∃ r, (doJ X ⟨s, ⟨ax, tk, ag, sy0, sy1, sy2, o0, o1, o2⟩, t⟩).1 = r := ⟨_, rfl⟩
        have hpar := doJ_par X ⟨s, ⟨ax, tk, ag, sy0, sy1, sy2, o0, o1, o2⟩, t⟩
        unfold JActR at hd
        rw [hans] at hd hst
        unfold Ac.v at hd
        dsimp only at hd hst hpar
        have HP := Lib.hid hpar
        generalize hX1 : (doJ X ⟨s, ⟨ax, tk, ag, sy0, sy1, sy2, o0, o1, o2⟩, t⟩).2 = X1 at hd hst HP
        have HD := Lib.hid hd
        clear hpar hd hrel hans hX1 hx2
        have HJ2 := Lib.hid (And.intro hb2 (And.intro hl2 (show ∀ r ∈ p.all, r ≠ wr.heap.size from fun r hr => by have := HA.out.x.lts r hr; omega)))
        clear x0 x1 x2 x3 x4 x5 x6 x7 x8 x9 x10 hj2 hb2 hBne hBne2
        go_upto_region 13 with (go_at_call 26; refine (HD.out).mono ?_; rintro e4 w4 ⟨rfl, hj4, hf4⟩)
        have hbk : w4.heap[wr.heap.size]? = W2.heap[wr.heap.size]? := hf4.block _ hl2 (fun hm => HJ2.out.2.2 _ hm rfl)
        have HBK := Lib.hid hbk
        obtain ⟨z0, z1, z2, z3, z4, z5, z6, z7, z8, z9, z10⟩ : w4.cell? ⟨wr.heap.size, 0, none⟩ = some (.int .i64 s) ∧ w4.cell? ⟨wr.heap.size, 1, none⟩ = some (.int .i64 ax) ∧ w4.cell? ⟨wr.heap.size, 2, none⟩ = some (.int .i64 tk) ∧ w4.cell? ⟨wr.heap.size, 3, none⟩ = some (.int .i64 ag) ∧ w4.cell? ⟨wr.heap.size, 4, none⟩ = some (.int .i64 sy0) ∧ w4.cell? ⟨wr.heap.size, 5, none⟩ = some (.int .i64 sy1) ∧ w4.cell? ⟨wr.heap.size, 6, none⟩ = some (.int .i64 sy2) ∧ w4.cell? ⟨wr.heap.size, 7, none⟩ = some (.int .i64 o0) ∧ w4.cell? ⟨wr.heap.size, 8, none⟩ = some (.int .i64 o1) ∧ w4.cell? ⟨wr.heap.size, 9, none⟩ = some (.int .i64 o2) ∧ w4.cell? ⟨wr.heap.size, 10, none⟩ = some (.bool t) := ⟨cell_blk y0 hbk, cell_blk y1 hbk, cell_blk y2 hbk, cell_blk y3 hbk, cell_blk y4 hbk, cell_blk y5 hbk, cell_blk y6 hbk, cell_blk y7 hbk, cell_blk y8 hbk, cell_blk y9 hbk, cell_blk y10 hbk⟩
        have HJ4 := Lib.hid (And.intro hj4 (And.intro (show Below w.heap.size w w4 from (HA.out.bel.trans (HJ2.out.1.mono HA.out.bel.size)).trans (hf4.toBelow HA.out.hp (Nat.le_trans HA.out.bel.size HJ2.out.1.size))) (show (X1.Q.l s.toNat).times ≤ 1000000 from Int.le_trans (hj4.times _) (by have := HI.out; omega))))
        have HT := Lib.hid (jTimes_any hj4 s)
        rw [show Q.qlookO X1.Q s = X1.Q.l s.toNat from by unfold Q.qlookO; rw [srcB_eq, HSB.out, if_pos rfl]] at HT
        clear hj4 hf4 hbk y0 y1 y2 y3 y4 y5 y6 y7 y8 y9 y10 HD hl2
        clear HBK
        have hsb1 := HA.out.s1
        have hsb2 := HA.out.s2
        have hgb := HA.out.g1
        have hgb0 := HA.out.inv.g
        have htm : 0 ≤ times := by rw [← HA.out.inv.t]; exact (HA.out.x.ok.q1.one s.toNat).t0
        have HEND := Lib.hid (show ∀ since' times' good' : Int, HInv since' times' good' tk (X1.Q.l s.toNat) → -1 ≤ since' → since' ≤ tk → good' ≤ (k + 1 : Nat) → HdAt w p s X1 (7 * (k + 1)) since' times' good' tk (k + 1) w4 from fun since' times' good' hi h1 h2 h3 =>
          ⟨HJ4.out.1.mono (by omega), HP.out.1.trans HA.out.q1, HP.out.2.1.trans HA.out.q2, HP.out.2.2.trans HA.out.q3, hi, by omega, htb.2, h1, h2, h3, by rw [← hi.t]; exact HJ4.out.2.2, HJ4.out.2.1, HA.out.hp⟩)
        have HTB := Lib.hid htb
        have hI5 : (k : Int) ≤ 50 := by omega
        have ht0 : 0 ≤ tk := by omega
        have ht1 : tk ≤ 999 := htb.2
        have hs9 : since ≤ 999 := by omega
        have hg5 : good ≤ 50 := by omega
        have htm6 : times ≤ 1000000 := HA.out.t1
        have HB := Lib.hid (And.intro hsb2 (And.intro hgb htb))
        clear hsb2 hgb htb
        obtain ⟨nt, hnt⟩ : ∃ nt, (X1.Q.l s.toNat).times = nt := ⟨_, rfl⟩
        rw [hnt] at HT
        have HNT := Lib.hid hnt
        cases hst with
        | new q1 q2 q3 =>
          rw [hnt] at q1 q3
          clear hnt
          have hz : (ans == 0) = false := by simpa using q2
          have HQ := Lib.hid q3
          clear q3
          go_wp2_with (go_at_call 24; with_reducible refine Calls.tells (HT.out) ?_)
          exact ⟨⟨k + 1, X1, tk, nt, 0, tk, by have := HI.out; omega, by go_num, rfl, rfl, rfl, rfl, HEND.out _ _ _ HQ.out (by omega) (by omega) (by omega)⟩, by have := HI.out; simp [intOf]; omega⟩
        | turn q1 q2 q3 =>
          rw [hnt] at q1
          subst q1
          have HQ := Lib.hid q3
          clear q3 hnt
          subst q2
          go_wp2_with (go_at_call 24; with_reducible refine Calls.tells (HT.out) ?_)
          all_goals exact ⟨⟨k + 1, X1, since, nt, good, tk, by have := HI.out; omega, by go_num, rfl, rfl, rfl, rfl, HEND.out _ _ _ HQ.out (by have := HB.out; omega) (by have := HB.out; omega) (by have := HB.out; omega)⟩, by have := HI.out; simp [intOf]; omega⟩
        | arg q1 q2 q3 q4 =>
          rw [hnt] at q1
          subst q1
          have HQ := Lib.hid q4
          clear q4 hnt
          subst q2
          subst q3
          go_wp2_with (go_at_call 24; with_reducible refine Calls.tells (HT.out) ?_)
          all_goals exact ⟨⟨k + 1, X1, since, nt, good, tk, by have := HI.out; omega, by go_num, rfl, rfl, rfl, rfl, HEND.out _ _ _ HQ.out (by have := HB.out; omega) (by have := HB.out; omega) (by have := HB.out; omega)⟩, by have := HI.out; simp [intOf]; omega⟩
        | none q1 q2 q3 q4 q5 =>
          rw [hnt] at q1
          subst q1
          have HQ := Lib.hid q5
          clear q5 hnt
          subst q2
          subst q4
          have hz2 : (ans == 2) = false := by simpa using q3
          go_wp2_with (go_at_call 24; with_reducible refine Calls.tells (HT.out) ?_)
          all_goals exact ⟨⟨k + 1, X1, -1, nt, good, tk, by have := HI.out; omega, by go_num, rfl, rfl, rfl, rfl, HEND.out _ _ _ HQ.out (by have := HB.out; omega) (by have := HB.out; omega) (by have := HB.out; omega)⟩, by have := HI.out; simp [intOf]; omega⟩
        | held q1 q2 q3 q4 q5 q6 q7 =>
          rw [hnt] at q1
          subst q1
          have HQ := Lib.hid q7
          clear q7 hnt
          subst q2
          have hz2 : (ans == 2) = false := by simpa using q3
          have hz0 : (ans == 0) = false := by simpa using q4
          have hd1 : decide (tk < since + 6) = true := decide_eq_true q6
          go_wp2_with (go_at_call 24; with_reducible refine Calls.tells (HT.out) ?_)
          all_goals exact ⟨⟨k + 1, X1, since, nt, good, tk, by have := HI.out; omega, by go_num, rfl, rfl, rfl, rfl, HEND.out _ _ _ HQ.out (by have := HB.out; omega) (by have := HB.out; omega) (by have := HB.out; omega)⟩, by have := HI.out; simp [intOf]; omega⟩
        | other q1 q2 q3 q4 q5 q6 q7 q8 =>
          rw [hnt] at q1
          subst q1
          have HQ := Lib.hid q8
          clear q8 hnt
          subst q2
          have hz2 : (ans == 2) = false := by simpa using q3
          have hz0 : (ans == 0) = false := by simpa using q4
          have hz3 : (ans == 262) = false := by simpa using q5
          have hd2 : ¬ tk < since + 6 := by omega
          have hd1 : decide (tk < since + 6) = false := decide_eq_false hd2
          go_wp2_with (go_at_call 24; with_reducible refine Calls.tells (HT.out) ?_)
          all_goals exact ⟨⟨k + 1, X1, since, nt, good, tk, by have := HI.out; omega, by go_num, rfl, rfl, rfl, rfl, HEND.out _ _ _ HQ.out (by have := HB.out; omega) (by have := HB.out; omega) (by have := HB.out; omega)⟩, by have := HI.out; simp [intOf]; omega⟩
        | trust q1 q2 q3 q4 q5 q6 =>
          rw [hnt] at q1
          subst q1
          have HQ := Lib.hid q6
          clear q6 hnt
          subst q2
          subst q3
          have hd2 : ¬ tk < since + 6 := by omega
          have hd1 : decide (tk < since + 6) = false := decide_eq_false hd2
          go_wp2_with (go_at_call 24; with_reducible refine Calls.tells (HT.out) ?_)
          all_goals exact ⟨⟨k + 1, X1, since, nt, good + 1, tk, by have := HI.out; omega, by go_num, rfl, rfl, rfl, rfl, HEND.out _ _ _ HQ.out (by have := HB.out; omega) (by have := HB.out; omega) (by have := HB.out; omega)⟩, by have := HI.out; simp [intOf]; omega⟩
        | ok q1 q2 q3 q4 q5 q6 q7 =>
          rw [hnt] at q1
          subst q1
          have HQ := Lib.hid q7
          clear q7 hnt
          subst q2
          subst q3
          have hd2 : ¬ tk < since + 6 := by omega
          have hd1 : decide (tk < since + 6) = false := decide_eq_false hd2
          have hg2 : ¬ good + 1 < 2 := by omega
          have hd3 : decide (good + 1 < 2) = false := decide_eq_false hg2
          go_wp2_with (go_at_call 24; with_reducible refine Calls.tells (HT.out) ?_)
          all_goals exact ⟨⟨k + 1, X1, since, nt, good + 1, tk, by have := HI.out; omega, by go_num, rfl, rfl, rfl, rfl, HEND.out _ _ _ HQ.out (by have := HB.out; omega) (by have := HB.out; omega) (by have := HB.out; omega)⟩, by have := HI.out; simp [intOf]; omega⟩
      · go_wp2_with fail
        go_ret
        exact Gives.mk rfl HA.out.bel
    · go_wp2_with fail
      go_ret
      exact Gives.mk rfl HA.out.bel
end Go.Proofs.Ytihalkpcddnikaa
