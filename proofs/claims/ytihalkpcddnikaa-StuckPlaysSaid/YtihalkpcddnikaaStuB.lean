/-
  The reference's watcher: a reading taken.
-/
import Derived.Test.YtihalkpcddnikaaStuA
namespace Go.Proofs.Ytihalkpcddnikaa
open Go.RowKit
set_option linter.unusedVariables false
set_option linter.unusedSimpArgs false

def rowO (o : StO) (x y z : Int) : Int := if 0 < o.row ∧ sameV o x y z = true then o.row + 1 else 1
def rtkO (same rate : Int) (o : StO) (x y z t : Int) : Int :=
  (if same < rowO o x y z then 1 else 0) + (if 0 < o.row ∧ fastB ⟨x, y, z, 0, 0⟩ o (limV rate (t - o.tk)) = true then 2 else 0)
theorem clip_lim {rate n : Int} (h0 : 0 ≤ rate) (h1 : rate ≤ 9223372036854775807) (n0 : 1 ≤ n) (n1 : n ≤ 65535) :
    clipV (toI (ofI (rate * n))) = (if 9223372036854775807 / n < rate then 9223372036854775807 else rate * n) := by
  have hb : rate * n ≤ 9223372036854775807 * 65535 := Int.mul_le_mul h1 n1 (by omega) (by omega)
  have hb0 : 0 ≤ rate * n := Int.mul_nonneg h0 (by omega)
  rw [toI_ofI (by omega) (by omega)]
  have hd : 9223372036854775807 / n < rate ↔ 9223372036854775807 < rate * n := Int.ediv_lt_iff_lt_mul (by omega)
  unfold clipV
  split
  · rename_i h; have := hd.1 h; omega
  · rename_i h
    have : ¬ 9223372036854775807 < rate * n := fun k => h (hd.2 k)
    omega
def fastK (x y z oa ob oc lim : Int) : Nat → Bool
  | 0 => false
  | 1 => farB x oa lim
  | 2 => farB x oa lim || farB y ob lim
  | _ => (farB x oa lim || farB y ob lim) || farB z oc lim
/-- The reading's box, and the last reading's variable. -/
structure TkAt (w : World) (d : Nat) (same rate : Int) (l : Nat → StO) (x y z oa ob oc ok orow : Int) (q : Nat) (W : World) : Prop where
  bel : Below w.heap.size w W
  rs : RsAt W d same rate l
  p0 : W.cell? ⟨w.heap.size, 0, none⟩ = some (.int .i64 x)
  p1 : W.cell? ⟨w.heap.size, 1, none⟩ = some (.int .i64 y)
  p2 : W.cell? ⟨w.heap.size, 2, none⟩ = some (.int .i64 z)
  q0 : W.cell? ⟨q, 0, none⟩ = some (.int .i64 oa)
  q1 : W.cell? ⟨q, 1, none⟩ = some (.int .i64 ob)
  q2 : W.cell? ⟨q, 2, none⟩ = some (.int .i64 oc)
  q3 : W.cell? ⟨q, 3, none⟩ = some (.int .i64 ok)
  q4 : W.cell? ⟨q, 4, none⟩ = some (.int .i64 orow)
  ord : d < w.heap.size ∧ w.heap.size < q ∧ q < W.heap.size
theorem TkAt.below {w : World} {d : Nat} {same rate : Int} {l : Nat → StO} {x y z oa ob oc ok orow : Int} {q : Nat} {W W' : World} (H : TkAt w d same rate l x y z oa ob oc ok orow q W) (hb : Below W.heap.size W W') : TkAt w d same rate l x y z oa ob oc ok orow q W' := by
  obtain ⟨o1, o2, o3⟩ := H.ord
  exact ⟨H.bel.trans (hb.mono H.bel.size), H.rs.below hb H.rs.lt, cell_belowI hb (by omega) H.p0, cell_belowI hb (by omega) H.p1, cell_belowI hb (by omega) H.p2, cell_belowI hb (by omega) H.q0, cell_belowI hb (by omega) H.q1, cell_belowI hb (by omega) H.q2, cell_belowI hb (by omega) H.q3, cell_belowI hb (by omega) H.q4, o1, o2, Nat.lt_of_lt_of_le o3 hb.size⟩
set_option maxRecDepth 100000 in
set_option maxHeartbeats 8000000 in
theorem rsTake_ok (d s : Nat) (same rate : Int) (l : Nat → StO) (x y z t : Int) (w : World) (H : RsAt w d same rate l) (hs : s < 8) (hx : I64 x) (hy : I64 y) (hz : I64 z) (r0 : 0 ≤ rate) (r1 : rate ≤ 9223372036854775807) (t1 : t ≤ 1099511627776)
    (k0 : 0 ≤ (l s).tk) (k1 : (l s).tk ≤ t) (w0 : 0 ≤ (l s).row) (w1 : (l s).row ≤ 1000000) (hla : I64 (l s).a) (hlb : I64 (l s).b) (hlc : I64 (l s).c) :
    Calls Try.prog 17 #[.pointer (some ⟨d, 0, none⟩), .int .i64 (s : Int), .agg #[.int .i64 x, .int .i64 y, .int .i64 z], .int .i64 t] w
      (fun e w' => e = .returned (.tuple #[.int .i64 (rtkO same rate (l s) x y z t), .int .i64 0]) ∧ RsAt w' d same rate (fun k => if k = s then ⟨x, y, z, t, rowO (l s) x y z⟩ else l k) ∧ w.grownBy w' (some d)) := by
  have HH := Lib.hid H
  have h1 : ¬ (s : Int) < 0 := by omega
  have h2 : ¬ 7 < (s : Int) := by omega
  have h3 : (s : Int) < 8 := by omega
  have h4 : (0 : Int) ≤ (s : Int) := by omega
  have c0 := H.cell hs 0 (by omega)
  have c1 := H.cell hs 1 (by omega)
  have c2 := H.cell hs 2 (by omega)
  have c3 := H.cell hs 3 (by omega)
  have c4 := H.cell hs 4 (by omega)
  rw [Nat.add_zero] at c0
  have HI := Lib.hid (show (I64 x ∧ I64 (l s).a) ∧ (I64 y ∧ I64 (l s).b) ∧ (I64 z ∧ I64 (l s).c) from ⟨⟨hx, hla⟩, ⟨hy, hlb⟩, hz, hlc⟩)
  have HI3 := Lib.hid HI.out.2.2
  have HSET := Lib.hid (fun (W : World) (hW : RsAt W d same rate l) => hW.set5 hs ⟨x, y, z, t, rowO (l s) x y z⟩)
  have HROW := Lib.hid (show rowO (l s) x y z = (if 0 < (l s).row ∧ sameV (l s) x y z = true then (l s).row + 1 else 1) from rfl)
  have HOUT := Lib.hid (show rtkO same rate (l s) x y z t = (if same < rowO (l s) x y z then 1 else 0) + (if 0 < (l s).row ∧ fastB ⟨x, y, z, 0, 0⟩ (l s) (limV rate (t - (l s).tk)) = true then 2 else 0) from rfl)
  have HSM := Lib.hid (show sameV (l s) x y z = ((l s).a == x && ((l s).b == y && (l s).c == z)) from rfl)
  have HFB := Lib.hid (fun lim => show fastB ⟨x, y, z, 0, 0⟩ (l s) lim = (farB x (l s).a lim || (farB y (l s).b lim || farB z (l s).c lim)) from rfl)
  have hn : 0 ≤ t := by omega
  haveI : LtSize d w := ⟨H.lt⟩
  have hdl := H.lt
  clear H hx hy hz hla hlb hlc
  simp only [oneF] at c0 c1 c2 c3 c4
  generalize sameV (l s) x y z = B at *
  generalize hR : rowO (l s) x y z = R at *
  have HRE := Lib.hid hR
  clear hR
  generalize fastB ⟨x, y, z, 0, 0⟩ (l s) = FB at *
  generalize rtkO same rate (l s) x y z t = out at *
  generalize (l s).a = oa at *
  generalize (l s).b = ob at *
  generalize (l s).c = oc at *
  generalize (l s).tk = ok at *
  generalize (l s).row = orow at *
  have g1 : ¬ t < 0 := by omega
  have g2 : ¬ 1099511627776 < t := by omega
  have g3 : ¬ t < ok := by omega
  go_enter Try.func17, Try.ntmps17
  go_upto_region 3 with fail
  go_upto_region 4 with fail
  refine wp_gen (TkAt w d same rate l x y z oa ob oc ok orow (w.heap.size + 1)) ?_ ?_
  · have hb : Below w.heap.size w ((w.alloc (.cells #[.int .i64 x, .int .i64 y, .int .i64 z] 25)).alloc (.cells #[.int .i64 oa, .int .i64 ob, .int .i64 oc, .int .i64 ok, .int .i64 orow] 49)) := by (repeat (first | (with_reducible exact Below.refl _ _) | (with_reducible assumption) | (with_reducible refine Below.alloc ?_ (by (repeat (first | (with_reducible exact Nat.le_refl _) | (with_reducible assumption) | (with_reducible refine le_up ?_) | (with_reducible refine le_alloc ?_) | (with_reducible refine le_setCell ?_) | (with_reducible refine le_drew ?_) | (with_reducible refine le_drewN ?_) | omega))) _) | (with_reducible refine Below.drew ?_) | (with_reducible refine Below.drewN ?_ _) | (with_reducible refine Below.setCell ?_ (by (repeat (first | (with_reducible exact Nat.le_refl _) | (with_reducible assumption) | (with_reducible refine le_up ?_) | (with_reducible refine le_alloc ?_) | (with_reducible refine le_setCell ?_) | (with_reducible refine le_drew ?_) | (with_reducible refine le_drewN ?_) | omega))) _) | (with_reducible refine Below.up ?_ (by (repeat (first | (with_reducible exact Nat.le_refl _) | (with_reducible assumption) | (with_reducible refine le_up ?_) | (with_reducible refine le_alloc ?_) | (with_reducible refine le_setCell ?_) | (with_reducible refine le_drew ?_) | (with_reducible refine le_drewN ?_) | omega))))))
    exact ⟨hb, HH.out.below hb HH.out.lt, by rw [alloc_cell_lt, cell_at]; rfl, by rw [alloc_cell_lt, cell_at]; rfl, by rw [alloc_cell_lt, cell_at]; rfl, by rw [cell_at]; rfl, by rw [cell_at]; rfl, by rw [cell_at]; rfl, by rw [cell_at]; rfl, by rw [cell_at]; rfl, hdl, by omega, by simp⟩
  clear c0 c1 c2 c3 c4 HH
  rintro W4 h4'
  have HT := Lib.hid h4'
  clear h4'
  have p0 := HT.out.p0
  have p1 := HT.out.p1
  have p2 := HT.out.p2
  have q0 := HT.out.q0
  have q1 := HT.out.q1
  have q2 := HT.out.q2
  have q3 := HT.out.q3
  have q4 := HT.out.q4
  have d0 := HT.out.rs.at_ 0 (by omega)
  have d1 := HT.out.rs.at_ 1 (by omega)
  have HZ := Lib.hid (show RsV same rate l 0 = .int .i64 same ∧ RsV same rate l 1 = .int .i64 rate from ⟨rfl, rfl⟩)
  rw [HZ.out.1] at d0
  rw [HZ.out.2] at d1
  obtain ⟨bx, hbx⟩ : ∃ b, b = w.heap.size := ⟨_, rfl⟩
  obtain ⟨bq, hbq⟩ : ∃ b, b = w.heap.size + 1 := ⟨_, rfl⟩
  rw [← hbq] at q0 q1 q2 q3 q4 ⊢
  rw [← hbx] at p0 p1 p2 ⊢
  haveI : LtSize bx W4 := ⟨by have := HT.out.ord; omega⟩
  haveI : LtSize bq W4 := ⟨by have := HT.out.ord; omega⟩
  haveI : LtSize d W4 := ⟨HT.out.rs.lt⟩
  have HBB := Lib.hid (And.intro hbx hbq)
  clear hbx hbq
  have heq : ∀ W, (Op.equalIn 10000 25 (.agg #[.int .i64 oa, .int .i64 ob, .int .i64 oc]) (.agg #[.int .i64 x, .int .i64 y, .int .i64 z])).run Try.prog W = .ok B W := fun W => by rw [HSM.out]; exact eq3 W oa ob oc x y z
  obtain ⟨BB, hBB⟩ : ∃ b, b = (decide (0 < orow) && B) := ⟨_, rfl⟩
  have HBE := Lib.hid hBB
  clear hBB
  go_upto_region 6 with fail
  go_cut [60] from 52 to 60 (fun v60 wc => v60 = .bool BB ∧ W4 = wc)
  case first =>
    by_cases hrow : 0 < orow
    · have hb : BB = B := by rw [HBE.out, decide_eq_true hrow, Bool.true_and]
      subst hb
      go_wp2_with fail
      go_meet
      exact ⟨rfl, rfl⟩
    · have hb : BB = false := by rw [HBE.out, decide_eq_false hrow, Bool.false_and]
      subst hb
      go_wp2_with fail
      go_meet
      exact ⟨rfl, rfl⟩
  case rest =>
  obtain ⟨rfl, rfl⟩ := hcut
  go_upto_if 60 with fail
  go_cut [12] from 61 to 63 (fun v12 wc => v12 = .int .i64 R ∧ W4 = wc)
  case first =>
    cases BB
    · have HR1 := Lib.hid (show R = 1 from by
        rw [HROW.out]
        have := HBE.out
        rw [if_neg (by intro h; rw [decide_eq_true h.1, h.2] at this; cases this)])
      go_wp2_with fail
      go_meet
      exact ⟨by rw [HR1.out], rfl⟩
    · have HR1 := Lib.hid (show R = orow + 1 from by
        rw [HROW.out]
        have := HBE.out.symm
        rw [Bool.and_eq_true, decide_eq_true_eq] at this
        rw [if_pos this])
      have hwr : IntKind.i64.wrap (orow + 1) = orow + 1 := by rw [IntKind.wrap_i64]; omega
      go_wp2_with fail
      go_meet
      exact ⟨by rw [HR1.out], rfl⟩
  case rest =>
  obtain ⟨rfl, rfl⟩ := hcut
  go_upto_if 69 with fail
  go_cut [11] from 64 to 69 (fun v11 wc => v11 = .int .i64 (if same < R then 1 else 0) ∧ W4 = wc)
  case first =>
    by_cases hst : same < R
    · go_wp2_with fail
      go_meet
      exact ⟨by rw [if_pos hst], rfl⟩
    · go_wp2_with fail
      go_meet
      exact ⟨by rw [if_neg (by omega)], rfl⟩
  case rest =>
  obtain ⟨rfl, rfl⟩ := hcut
  generalize hst : (if same < R then (1 : Int) else 0) = st at *
  have HSTI := Lib.hid (show (st = 0 ∨ st = 1) from by rw [← hst]; split <;> simp)
  have HST := Lib.hid hst
  clear hst
  obtain ⟨lim, hlim⟩ : ∃ m, m = limV rate (t - ok) := ⟨_, rfl⟩
  obtain ⟨n, hnn⟩ : ∃ n, n = min (max (t - ok) 1) 65535 := ⟨_, rfl⟩
  have HLM := Lib.hid (show clipV (toI (ofI (rate * n))) = lim from by
    rw [clip_lim r0 r1 (by omega) (by omega), hlim, hnn]; rfl)
  have HMU := Lib.hid (fun W => Mul_any rate n W (by omega) (by omega) (by omega) (by omega))
  have HCL := Lib.hid (fun W => Clip_any (ofI (rate * n)) W (ofI_lt _))
  rw [HLM.out] at HCL
  have HLE := Lib.hid hlim
  clear HLM hlim
  generalize clipO (toI (ofI (rate * n))) = lo at *
  generalize ofI (rate * n) = nn at *
  unfold wideV at HMU HCL
  have hws : IntKind.i64.wrap (t - ok) = t - ok := by rw [IntKind.wrap_i64]; omega
  go_upto_region 10 with fail
  go_cut [13, 14] from 70 to 84 (fun v13 v14 wc => v13 = .int .i64 lim ∧ ∃ o x, v14 = .bool o ∧ wc = up W4 x)
  case first =>
    rcases (show (t - ok < 1 ∧ n = 1) ∨ (65535 < t - ok ∧ n = 65535) ∨ (1 ≤ t - ok ∧ t - ok ≤ 65535 ∧ n = t - ok) by omega) with ⟨m1, rfl⟩ | ⟨m1, rfl⟩ | ⟨m1, m2, rfl⟩
    · clear hnn
      have hmx : max (t - ok) 1 = 1 := by omega
      have hmn : min (1 : Int) 65535 = 1 := by omega
      (refine wp_region_up (by kernel_rfl) (by kernel_rfl) ?_; (repeat (go_big_quiet_step (first | (go_at_call 35; exact Calls.up_gives (HMU.out _)) | (go_at_call 34; exact Calls.up_gives (HCL.out _))))); refine wpQuiet_nil ?_; intro _ hw'; obtain ⟨xq, hw''⟩ := hw'; subst hw'')
      go_wp2_with fail
      go_meet
      exact ⟨rfl, _, _, rfl, rfl⟩
    · clear hnn
      have hmx : max (t - ok) 1 = t - ok := by omega
      have hmn : min (t - ok) 65535 = 65535 := by omega
      (refine wp_region_up (by kernel_rfl) (by kernel_rfl) ?_; (repeat (go_big_quiet_step (first | (go_at_call 35; exact Calls.up_gives (HMU.out _)) | (go_at_call 34; exact Calls.up_gives (HCL.out _))))); refine wpQuiet_nil ?_; intro _ hw'; obtain ⟨xq, hw''⟩ := hw'; subst hw'')
      go_wp2_with fail
      go_meet
      exact ⟨rfl, _, _, rfl, rfl⟩
    · clear hnn
      have hmx : max (t - ok) 1 = t - ok := by omega
      have hmn : min (t - ok) 65535 = t - ok := by omega
      (refine wp_region_up (by kernel_rfl) (by kernel_rfl) ?_; (repeat (go_big_quiet_step (first | (go_at_call 35; exact Calls.up_gives (HMU.out _)) | (go_at_call 34; exact Calls.up_gives (HCL.out _))))); refine wpQuiet_nil ?_; intro _ hw'; obtain ⟨xq, hw''⟩ := hw'; subst hw'')
      go_wp2_with fail
      go_meet
      exact ⟨rfl, _, _, rfl, rfl⟩
  case rest =>
  obtain ⟨rfl, lo2, y10, rfl, rfl⟩ := hcut
  have HT2 := Lib.hid (HT.out.below (up_below W4 y10))
  clear HT HMU HCL p0 p1 p2 q0 q1 q2 q3 q4 d0 d1 heq hws hnn
  generalize up W4 y10 = W5 at *
  have HT := Lib.hid HT2.out
  clear HT2
  haveI : LtSize w.heap.size W5 := ⟨by have := HT.out.ord; omega⟩
  go_wp2_with fail
  go_loopw [15, 16] (fun v15 v16 wr => ∃ k : Nat, k ≤ 3 ∧ v16 = .int .i64 (k : Int) ∧ v15 = .bool (fastK x y z oa ob oc lim k) ∧ ∃ y, wr = up W5 y) (fun _ v16 _ => 3 - (intOf v16).toNat)
  case atStart => exact ⟨0, by omega, rfl, rfl, ex_up (Below.refl _ _)⟩
  case round =>
    obtain ⟨k, hk3, rfl, rfl, y16, rfl⟩ := hrel
    haveI : LtSize bx W5 := ⟨by have := HT.out.ord; have := HBB.out; omega⟩
    haveI : LtSize bq W5 := ⟨by have := HT.out.ord; have := HBB.out; omega⟩
    by_cases hlt : k < 3
    · rcases (show k = 0 ∨ k = 1 ∨ k = 2 by omega) with rfl | rfl | rfl
      ·
        have c1 := HT.out.p0
        have c2 := HT.out.q0
        rw [← HBB.out.1] at c1
        rw [← HBB.out.2] at c2
        have hfk : fastK x y z oa ob oc lim 1 = (fastK x y z oa ob oc lim 0 || farB x oa lim) := by unfold fastK; simp
        have HS := Lib.hid (fun W => rSub_any x oa W HI.out.1.1.1 HI.out.1.1.2 HI.out.1.2.1 HI.out.1.2.2)
        have HA := Lib.hid (fun W => rAbs_any (subV x oa) W (subV_bd x oa).1 (subV_bd x oa).2)
        have hfb : farB x oa lim = decide (lim < absV (subV x oa)) := rfl
        rw [hfb] at hfk
        clear hfb
        generalize absV (subV x oa) = av at *
        generalize rabsO (subV x oa) = ao at *
        generalize subV x oa = sv at *
        generalize subO x oa = so at *
        have HFK := Lib.hid hfk
        clear hfk
        rw [show ((0 : Nat) : Int) = 0 from rfl]
        generalize fastK x y z oa ob oc lim 0 = f1 at *
        cases f1
        · go_wp2_with (first | (refine wp_region_up (by kernel_rfl) (by kernel_rfl) ?_; (repeat (go_big_quiet_step ((go_at_call 36; exact Calls.up_gives (HS.out _))))); refine wpQuiet_nil ?_; intro _ hw'; obtain ⟨xq, hw''⟩ := hw'; subst hw'') | (go_at_call 37; (first | with_reducible refine Calls.fold (HA.out _) ?_ | with_reducible refine Calls.fresh (HA.out _) ?_); intro x1))
          exact ⟨⟨1, by omega, rfl, by rw [HFK.out]; simp, ex_up (by (repeat (first | (with_reducible exact Below.refl _ _) | (with_reducible assumption) | (with_reducible refine Below.alloc ?_ (by (repeat (first | (with_reducible exact Nat.le_refl _) | (with_reducible assumption) | (with_reducible refine le_up ?_) | (with_reducible refine le_alloc ?_) | (with_reducible refine le_setCell ?_) | (with_reducible refine le_drew ?_) | (with_reducible refine le_drewN ?_) | omega))) _) | (with_reducible refine Below.drew ?_) | (with_reducible refine Below.drewN ?_ _) | (with_reducible refine Below.setCell ?_ (by (repeat (first | (with_reducible exact Nat.le_refl _) | (with_reducible assumption) | (with_reducible refine le_up ?_) | (with_reducible refine le_alloc ?_) | (with_reducible refine le_setCell ?_) | (with_reducible refine le_drew ?_) | (with_reducible refine le_drewN ?_) | omega))) _) | (with_reducible refine Below.up ?_ (by (repeat (first | (with_reducible exact Nat.le_refl _) | (with_reducible assumption) | (with_reducible refine le_up ?_) | (with_reducible refine le_alloc ?_) | (with_reducible refine le_setCell ?_) | (with_reducible refine le_drew ?_) | (with_reducible refine le_drewN ?_) | omega)))))))⟩, by simp [intOf]⟩
        · go_wp2_with (first | (refine wp_region_up (by kernel_rfl) (by kernel_rfl) ?_; (repeat (go_big_quiet_step ((go_at_call 36; exact Calls.up_gives (HS.out _))))); refine wpQuiet_nil ?_; intro _ hw'; obtain ⟨xq, hw''⟩ := hw'; subst hw'') | (go_at_call 37; (first | with_reducible refine Calls.fold (HA.out _) ?_ | with_reducible refine Calls.fresh (HA.out _) ?_); intro x1))
          exact ⟨⟨1, by omega, rfl, by rw [HFK.out]; simp, ex_up (by (repeat (first | (with_reducible exact Below.refl _ _) | (with_reducible assumption) | (with_reducible refine Below.alloc ?_ (by (repeat (first | (with_reducible exact Nat.le_refl _) | (with_reducible assumption) | (with_reducible refine le_up ?_) | (with_reducible refine le_alloc ?_) | (with_reducible refine le_setCell ?_) | (with_reducible refine le_drew ?_) | (with_reducible refine le_drewN ?_) | omega))) _) | (with_reducible refine Below.drew ?_) | (with_reducible refine Below.drewN ?_ _) | (with_reducible refine Below.setCell ?_ (by (repeat (first | (with_reducible exact Nat.le_refl _) | (with_reducible assumption) | (with_reducible refine le_up ?_) | (with_reducible refine le_alloc ?_) | (with_reducible refine le_setCell ?_) | (with_reducible refine le_drew ?_) | (with_reducible refine le_drewN ?_) | omega))) _) | (with_reducible refine Below.up ?_ (by (repeat (first | (with_reducible exact Nat.le_refl _) | (with_reducible assumption) | (with_reducible refine le_up ?_) | (with_reducible refine le_alloc ?_) | (with_reducible refine le_setCell ?_) | (with_reducible refine le_drew ?_) | (with_reducible refine le_drewN ?_) | omega)))))))⟩, by simp [intOf]⟩
      ·
        have c1 := HT.out.p1
        have c2 := HT.out.q1
        rw [← HBB.out.1] at c1
        rw [← HBB.out.2] at c2
        have hfk : fastK x y z oa ob oc lim 2 = (fastK x y z oa ob oc lim 1 || farB y ob lim) := by rfl
        have HS := Lib.hid (fun W => rSub_any y ob W HI.out.2.1.1.1 HI.out.2.1.1.2 HI.out.2.1.2.1 HI.out.2.1.2.2)
        have HA := Lib.hid (fun W => rAbs_any (subV y ob) W (subV_bd y ob).1 (subV_bd y ob).2)
        have hfb : farB y ob lim = decide (lim < absV (subV y ob)) := rfl
        rw [hfb] at hfk
        clear hfb
        generalize absV (subV y ob) = av at *
        generalize rabsO (subV y ob) = ao at *
        generalize subV y ob = sv at *
        generalize subO y ob = so at *
        have HFK := Lib.hid hfk
        clear hfk
        rw [show ((1 : Nat) : Int) = 1 from rfl]
        generalize fastK x y z oa ob oc lim 1 = f1 at *
        cases f1
        · go_wp2_with (first | (refine wp_region_up (by kernel_rfl) (by kernel_rfl) ?_; (repeat (go_big_quiet_step ((go_at_call 36; exact Calls.up_gives (HS.out _))))); refine wpQuiet_nil ?_; intro _ hw'; obtain ⟨xq, hw''⟩ := hw'; subst hw'') | (go_at_call 37; (first | with_reducible refine Calls.fold (HA.out _) ?_ | with_reducible refine Calls.fresh (HA.out _) ?_); intro x1))
          exact ⟨⟨2, by omega, rfl, by rw [HFK.out]; simp, ex_up (by (repeat (first | (with_reducible exact Below.refl _ _) | (with_reducible assumption) | (with_reducible refine Below.alloc ?_ (by (repeat (first | (with_reducible exact Nat.le_refl _) | (with_reducible assumption) | (with_reducible refine le_up ?_) | (with_reducible refine le_alloc ?_) | (with_reducible refine le_setCell ?_) | (with_reducible refine le_drew ?_) | (with_reducible refine le_drewN ?_) | omega))) _) | (with_reducible refine Below.drew ?_) | (with_reducible refine Below.drewN ?_ _) | (with_reducible refine Below.setCell ?_ (by (repeat (first | (with_reducible exact Nat.le_refl _) | (with_reducible assumption) | (with_reducible refine le_up ?_) | (with_reducible refine le_alloc ?_) | (with_reducible refine le_setCell ?_) | (with_reducible refine le_drew ?_) | (with_reducible refine le_drewN ?_) | omega))) _) | (with_reducible refine Below.up ?_ (by (repeat (first | (with_reducible exact Nat.le_refl _) | (with_reducible assumption) | (with_reducible refine le_up ?_) | (with_reducible refine le_alloc ?_) | (with_reducible refine le_setCell ?_) | (with_reducible refine le_drew ?_) | (with_reducible refine le_drewN ?_) | omega)))))))⟩, by simp [intOf]⟩
        · go_wp2_with (first | (refine wp_region_up (by kernel_rfl) (by kernel_rfl) ?_; (repeat (go_big_quiet_step ((go_at_call 36; exact Calls.up_gives (HS.out _))))); refine wpQuiet_nil ?_; intro _ hw'; obtain ⟨xq, hw''⟩ := hw'; subst hw'') | (go_at_call 37; (first | with_reducible refine Calls.fold (HA.out _) ?_ | with_reducible refine Calls.fresh (HA.out _) ?_); intro x1))
          exact ⟨⟨2, by omega, rfl, by rw [HFK.out]; simp, ex_up (by (repeat (first | (with_reducible exact Below.refl _ _) | (with_reducible assumption) | (with_reducible refine Below.alloc ?_ (by (repeat (first | (with_reducible exact Nat.le_refl _) | (with_reducible assumption) | (with_reducible refine le_up ?_) | (with_reducible refine le_alloc ?_) | (with_reducible refine le_setCell ?_) | (with_reducible refine le_drew ?_) | (with_reducible refine le_drewN ?_) | omega))) _) | (with_reducible refine Below.drew ?_) | (with_reducible refine Below.drewN ?_ _) | (with_reducible refine Below.setCell ?_ (by (repeat (first | (with_reducible exact Nat.le_refl _) | (with_reducible assumption) | (with_reducible refine le_up ?_) | (with_reducible refine le_alloc ?_) | (with_reducible refine le_setCell ?_) | (with_reducible refine le_drew ?_) | (with_reducible refine le_drewN ?_) | omega))) _) | (with_reducible refine Below.up ?_ (by (repeat (first | (with_reducible exact Nat.le_refl _) | (with_reducible assumption) | (with_reducible refine le_up ?_) | (with_reducible refine le_alloc ?_) | (with_reducible refine le_setCell ?_) | (with_reducible refine le_drew ?_) | (with_reducible refine le_drewN ?_) | omega)))))))⟩, by simp [intOf]⟩
      ·
        have c1 := HT.out.p2
        have c2 := HT.out.q2
        rw [← HBB.out.1] at c1
        rw [← HBB.out.2] at c2
        have hfk : fastK x y z oa ob oc lim 3 = (fastK x y z oa ob oc lim 2 || farB z oc lim) := by rfl
        have HS := Lib.hid (fun W => rSub_any z oc W HI.out.2.2.1.1 HI.out.2.2.1.2 HI.out.2.2.2.1 HI.out.2.2.2.2)
        have HA := Lib.hid (fun W => rAbs_any (subV z oc) W (subV_bd z oc).1 (subV_bd z oc).2)
        have hfb : farB z oc lim = decide (lim < absV (subV z oc)) := rfl
        rw [hfb] at hfk
        clear hfb
        generalize absV (subV z oc) = av at *
        generalize rabsO (subV z oc) = ao at *
        generalize subV z oc = sv at *
        generalize subO z oc = so at *
        have HFK := Lib.hid hfk
        clear hfk
        rw [show ((2 : Nat) : Int) = 2 from rfl]
        generalize fastK x y z oa ob oc lim 2 = f1 at *
        cases f1
        · go_wp2_with (first | (refine wp_region_up (by kernel_rfl) (by kernel_rfl) ?_; (repeat (go_big_quiet_step ((go_at_call 36; exact Calls.up_gives (HS.out _))))); refine wpQuiet_nil ?_; intro _ hw'; obtain ⟨xq, hw''⟩ := hw'; subst hw'') | (go_at_call 37; (first | with_reducible refine Calls.fold (HA.out _) ?_ | with_reducible refine Calls.fresh (HA.out _) ?_); intro x1))
          exact ⟨⟨3, by omega, rfl, by rw [HFK.out]; simp, ex_up (by (repeat (first | (with_reducible exact Below.refl _ _) | (with_reducible assumption) | (with_reducible refine Below.alloc ?_ (by (repeat (first | (with_reducible exact Nat.le_refl _) | (with_reducible assumption) | (with_reducible refine le_up ?_) | (with_reducible refine le_alloc ?_) | (with_reducible refine le_setCell ?_) | (with_reducible refine le_drew ?_) | (with_reducible refine le_drewN ?_) | omega))) _) | (with_reducible refine Below.drew ?_) | (with_reducible refine Below.drewN ?_ _) | (with_reducible refine Below.setCell ?_ (by (repeat (first | (with_reducible exact Nat.le_refl _) | (with_reducible assumption) | (with_reducible refine le_up ?_) | (with_reducible refine le_alloc ?_) | (with_reducible refine le_setCell ?_) | (with_reducible refine le_drew ?_) | (with_reducible refine le_drewN ?_) | omega))) _) | (with_reducible refine Below.up ?_ (by (repeat (first | (with_reducible exact Nat.le_refl _) | (with_reducible assumption) | (with_reducible refine le_up ?_) | (with_reducible refine le_alloc ?_) | (with_reducible refine le_setCell ?_) | (with_reducible refine le_drew ?_) | (with_reducible refine le_drewN ?_) | omega)))))))⟩, by simp [intOf]⟩
        · go_wp2_with (first | (refine wp_region_up (by kernel_rfl) (by kernel_rfl) ?_; (repeat (go_big_quiet_step ((go_at_call 36; exact Calls.up_gives (HS.out _))))); refine wpQuiet_nil ?_; intro _ hw'; obtain ⟨xq, hw''⟩ := hw'; subst hw'') | (go_at_call 37; (first | with_reducible refine Calls.fold (HA.out _) ?_ | with_reducible refine Calls.fresh (HA.out _) ?_); intro x1))
          exact ⟨⟨3, by omega, rfl, by rw [HFK.out]; simp, ex_up (by (repeat (first | (with_reducible exact Below.refl _ _) | (with_reducible assumption) | (with_reducible refine Below.alloc ?_ (by (repeat (first | (with_reducible exact Nat.le_refl _) | (with_reducible assumption) | (with_reducible refine le_up ?_) | (with_reducible refine le_alloc ?_) | (with_reducible refine le_setCell ?_) | (with_reducible refine le_drew ?_) | (with_reducible refine le_drewN ?_) | omega))) _) | (with_reducible refine Below.drew ?_) | (with_reducible refine Below.drewN ?_ _) | (with_reducible refine Below.setCell ?_ (by (repeat (first | (with_reducible exact Nat.le_refl _) | (with_reducible assumption) | (with_reducible refine le_up ?_) | (with_reducible refine le_alloc ?_) | (with_reducible refine le_setCell ?_) | (with_reducible refine le_drew ?_) | (with_reducible refine le_drewN ?_) | omega))) _) | (with_reducible refine Below.up ?_ (by (repeat (first | (with_reducible exact Nat.le_refl _) | (with_reducible assumption) | (with_reducible refine le_up ?_) | (with_reducible refine le_alloc ?_) | (with_reducible refine le_setCell ?_) | (with_reducible refine le_drew ?_) | (with_reducible refine le_drewN ?_) | omega)))))))⟩, by simp [intOf]⟩
    · obtain rfl : k = 3 := by omega
      rw [show ((3 : Nat) : Int) = 3 from rfl]
      have HF3 := Lib.hid (show fastK x y z oa ob oc lim 3 = FB (limV rate (t - ok)) from by
        rw [← HLE.out, HFB.out lim]
        show ((farB x oa lim || farB y ob lim) || farB z oc lim) = _
        rw [Bool.or_assoc])
      generalize fastK x y z oa ob oc lim 3 = F3 at *
      have HU := Lib.hid (HT.out.below (up_below W5 y16))
      clear HT
      generalize up W5 y16 = W6 at *
      haveI : LtSize bx W6 := ⟨by have := HU.out.ord; have := HBB.out; omega⟩
      haveI : LtSize bq W6 := ⟨by have := HU.out.ord; have := HBB.out; omega⟩
      haveI : LtSize d W6 := ⟨HU.out.rs.lt⟩
      have q4 := HU.out.q4
      rw [← HBB.out.2] at q4
      obtain ⟨CC, hCC⟩ : ∃ b, b = (decide (0 < orow) && F3) := ⟨_, rfl⟩
      have HO2 := Lib.hid (show (if CC = true then st + 2 else st) = out from by
        have he : (0 < orow ∧ FB (limV rate (t - ok)) = true) ↔ CC = true := by
          rw [hCC, Bool.and_eq_true, decide_eq_true_eq, HF3.out]
        rw [HOUT.out]
        by_cases hc : CC = true
        · rw [if_pos hc, if_pos (he.2 hc)]
        · rw [if_neg hc, if_neg (fun h => hc (he.1 h)), Int.add_zero])
      have HCE := Lib.hid hCC
      clear hCC
      go_upto_region 18 with fail
      go_cut [116] from 111 to 116 (fun v116 wc => v116 = .bool CC ∧ W6 = wc)
      case first =>
        by_cases hrow : 0 < orow
        · have hb : CC = F3 := by rw [HCE.out, decide_eq_true hrow, Bool.true_and]
          subst hb
          go_wp2_with fail
          go_meet
          exact ⟨rfl, rfl⟩
        · have hb : CC = false := by rw [HCE.out, decide_eq_false hrow, Bool.false_and]
          subst hb
          go_wp2_with fail
          go_meet
          exact ⟨rfl, rfl⟩
      case rest =>
        obtain ⟨rfl, rfl⟩ := hcut
        go_upto_if 116 with fail
        go_cut [11] from 117 to 118 (fun v11 wc => v11 = .int .i64 out ∧ W6 = wc)
        case first =>
          cases CC
          · have HO3 := Lib.hid (show st = out from HO2.out)
            go_wp2_with fail
            go_meet
            exact ⟨by rw [HO3.out], rfl⟩
          · have HO3 := Lib.hid (show st + 2 = out from HO2.out)
            have hws2 : IntKind.i64.wrap (st + 2) = st + 2 := by have := HSTI.out; rw [IntKind.wrap_i64]; omega
            go_wp2_with fail
            go_meet
            exact ⟨by rw [HO3.out], rfl⟩
        case rest =>
          obtain ⟨rfl, rfl⟩ := hcut
          go_upto_region 20 with fail
          have p0 := HU.out.p0
          have p1 := HU.out.p1
          have p2 := HU.out.p2
          rw [← HBB.out.1] at p0 p1 p2
          have HP := Lib.hid (And.intro p0 (And.intro p1 p2))
          have HEND := Lib.hid (show RsAt (set5 W6.drew d (2 + s * 5) ⟨x, y, z, t, R⟩) d same rate (fun k => if k = s then ⟨x, y, z, t, R⟩ else l k) ∧ w.grownBy (set5 W6.drew d (2 + s * 5) ⟨x, y, z, t, R⟩) (some d) from
            ⟨HSET.out _ (Cells.drew HU.out.rs), gr_trans (gr_below (some d) (Below.drew HU.out.bel)) (gr_set5 _ _ _ _)⟩)
          have c0 := HU.out.rs.cell hs 0 (by omega)
          have c1 := HU.out.rs.cell hs 1 (by omega)
          have c2 := HU.out.rs.cell hs 2 (by omega)
          have c3 := HU.out.rs.cell hs 3 (by omega)
          have c4 := HU.out.rs.cell hs 4 (by omega)
          rw [Nat.add_zero] at c0
          have f0 := HU.out.rs.free (2 + s * 5)
          have f1 := HU.out.rs.free (2 + s * 5 + 1)
          have f2 := HU.out.rs.free (2 + s * 5 + 2)
          have f3 := HU.out.rs.free (2 + s * 5 + 3)
          have f4 := HU.out.rs.free (2 + s * 5 + 4)
          clear q4 p0 p1 p2 HU
          refine wp_region_slim [9] [(0, 3), (1, 3), (2, 0), (3, 3), (4, 3), (5, 3), (6, 3), (7, 3), (8, 3), (9, 2)] (fun X => X.cell? ⟨bx, 0, none⟩ = some (.int .i64 x) ∧ X.cell? ⟨bx, 1, none⟩ = some (.int .i64 y) ∧ X.cell? ⟨bx, 2, none⟩ = some (.int .i64 z)) (by kernel_rfl) (by kernel_rfl) (fun d v c a w h => by cases d <;> exact h) HP.out ?_
          simp only [List.map_cons, List.map_nil, slim]
          refine wpSched_pure ?sv1 rfl (by rfl) (fun W => ?sh1) ?sr1; (case sh1 => (go_simp; try (with_reducible rfl))); simp only [Act.put, List.getElem_toArray, List.getElem_cons_zero, List.getElem_cons_succ, List.setIfInBounds_toArray, List.set_cons_zero, List.set_cons_succ]
          refine wpSched_pure ?sv2 rfl (by rfl) (fun W => ?sh2) ?sr2; (case sh2 => (go_simp; try (with_reducible rfl))); simp only [Act.put, List.getElem_toArray, List.getElem_cons_zero, List.getElem_cons_succ, List.setIfInBounds_toArray, List.set_cons_zero, List.set_cons_succ]
          refine wpSched_still ?sv3 rfl (by rfl) (fun W hW => ?sh3) ?sr3; (case sh3 => (obtain ⟨h1, h2, h3⟩ := hW; go_simp; try (with_reducible rfl))); simp only [Act.put, List.getElem_toArray, List.getElem_cons_zero, List.getElem_cons_succ, List.setIfInBounds_toArray, List.set_cons_zero, List.set_cons_succ]
          refine wpSched_pure ?sv4 rfl (by rfl) (fun W => ?sh4) ?sr4; (case sh4 => (go_simp; try (with_reducible rfl))); simp only [Act.put, List.getElem_toArray, List.getElem_cons_zero, List.getElem_cons_succ, List.setIfInBounds_toArray, List.set_cons_zero, List.set_cons_succ]
          refine wpSched_pure ?sv5 rfl (by rfl) (fun W => ?sh5) ?sr5; (case sh5 => (go_simp; try (with_reducible rfl))); simp only [Act.put, List.getElem_toArray, List.getElem_cons_zero, List.getElem_cons_succ, List.setIfInBounds_toArray, List.set_cons_zero, List.set_cons_succ]
          refine wpSched_pure ?sv6 rfl (by rfl) (fun W => ?sh6) ?sr6; (case sh6 => (go_simp; try (with_reducible rfl))); simp only [Act.put, List.getElem_toArray, List.getElem_cons_zero, List.getElem_cons_succ, List.setIfInBounds_toArray, List.set_cons_zero, List.set_cons_succ]
          refine wpSched_pure ?sv7 rfl (by rfl) (fun W => ?sh7) ?sr7; (case sh7 => (go_simp; try (with_reducible rfl))); simp only [Act.put, List.getElem_toArray, List.getElem_cons_zero, List.getElem_cons_succ, List.setIfInBounds_toArray, List.set_cons_zero, List.set_cons_succ]
          refine wpSched_pure ?sv8 rfl (by rfl) (fun W => ?sh8) ?sr8; (case sh8 => (go_simp; try (with_reducible rfl))); simp only [Act.put, List.getElem_toArray, List.getElem_cons_zero, List.getElem_cons_succ, List.setIfInBounds_toArray, List.set_cons_zero, List.set_cons_succ]
          refine wpSched_pure ?sv9 rfl (by rfl) (fun W => ?sh9) ?sr9; (case sh9 => (go_simp; try (with_reducible rfl))); simp only [Act.put, List.getElem_toArray, List.getElem_cons_zero, List.getElem_cons_succ, List.setIfInBounds_toArray, List.set_cons_zero, List.set_cons_succ]
          refine wpSched_tail rfl (by rfl) (fun K hK => ?_); go_simp
          refine hK _ _ ?_
          clear hK K
          refine wpSched_nil ?_
          go_wp2_with fail
          go_ret2
          exact ⟨rfl, HEND.out.1, HEND.out.2⟩
end Go.Proofs.Ytihalkpcddnikaa
