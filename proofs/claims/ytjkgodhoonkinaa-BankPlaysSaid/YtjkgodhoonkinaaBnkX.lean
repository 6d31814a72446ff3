/-
  A record read of bytes, by the reference.
-/
import Derived.Test.YtjkgodhoonkinaaBnkW
namespace Go.Proofs.Ytjkgodhoonkinaa
open Go.RowKit
set_option linter.unusedVariables false
set_option linter.unusedSimpArgs false

def pTwo (j : Nat) : Bool := j == 0 || j == 17
theorem run_bld2 (w : World) (x y : Int) : (Instr.build 69 #[(0, .int .u32 x), (2, .int .u32 y)]).run Try.prog w = .ok (.agg #[.int .u32 x, .int .u32 0, .int .u64 0, .int .u32 0, .int .u64 0, .int .u32 0, .int .u64 0, .int .u32 0, .int .u64 0, .int .u32 0, .int .u64 0, .int .u32 0, .int .u64 0, .int .u32 0, .int .u64 0, .int .u32 0, .int .u64 0, .int .u32 y, .int .u8 0, .int .u8 0, .int .u8 0, .int .u8 0, .int .u8 0, .int .u8 0, .int .u8 0, .int .u8 0, .int .u8 0, .int .u8 0, .int .u8 0, .int .u8 0, .int .u8 0, .int .u8 0, .int .u8 0, .int .u8 0, .int .u8 0, .int .u8 0, .int .u8 0, .int .u8 0, .int .u8 0, .int .u8 0, .int .u8 0, .int .u8 0, .int .u8 0, .int .u8 0, .int .u8 0, .int .u8 0, .int .u8 0, .int .u8 0, .int .u8 0, .int .u8 0]) w := by kernel_rfl
theorem run_bldTwo (w : World) (R : List Nat) : (Instr.build 69 #[(0, .int .u32 ((R.getD 0 0 : Nat) : Int)), (2, .int .u32 ((R.getD 17 0 : Nat) : Int))]).run Try.prog w = .ok (.agg (fillL R pTwo).toArray) w := by
  have e : fillL R pTwo = [.int .u32 ((R.getD 0 0 : Nat) : Int), .int .u32 0, .int .u64 0, .int .u32 0, .int .u64 0, .int .u32 0, .int .u64 0, .int .u32 0, .int .u64 0, .int .u32 0, .int .u64 0, .int .u32 0, .int .u64 0, .int .u32 0, .int .u64 0, .int .u32 0, .int .u64 0, .int .u32 ((R.getD 17 0 : Nat) : Int), .int .u8 0, .int .u8 0, .int .u8 0, .int .u8 0, .int .u8 0, .int .u8 0, .int .u8 0, .int .u8 0, .int .u8 0, .int .u8 0, .int .u8 0, .int .u8 0, .int .u8 0, .int .u8 0, .int .u8 0, .int .u8 0, .int .u8 0, .int .u8 0, .int .u8 0, .int .u8 0, .int .u8 0, .int .u8 0, .int .u8 0, .int .u8 0, .int .u8 0, .int .u8 0, .int .u8 0, .int .u8 0, .int .u8 0, .int .u8 0, .int .u8 0, .int .u8 0] := rfl
  rw [e]
  exact run_bld2 w _ _
theorem wpList_bld2 {ops : Array Oper} {rest : List Oper} {o : Oper} {a : Act} {Q : Exit → Act → World → Prop} {w : World} (hgd : o.guard = none) (T : TypeId) (x y : Operand) (ho : o.op = .build T #[(0, x), (2, y)]) (vx vy v : Value)
    (hx : a.eval x = vx) (hy : a.eval y = vy) (hr : ∀ W, (Instr.build T #[(0, vx), (2, vy)]).run Try.prog W = .ok v W) (h : wpList Try.prog ops Q rest (a.put o.dst v) w) : wpList Try.prog ops Q (o :: rest) a w :=
  wpList_plain hgd fun K hK => by
    have hr' := hr w
    unfold Oper.wp execOp
    simp only [ho, Sem.run_bind, Sem.run_pure, Result.andThen_ok, List.map_toArray, List.map_cons, List.map_nil, hx, hy, hr']
    exact hK _ _ h
set_option maxRecDepth 100000 in
set_option maxHeartbeats 3200000 in
theorem rRead_bad (v : Value) (bs : List Nat) (w : World) (hv : Bts w v bs) (hl : bs.length ≤ 1000000) (hb : bnkG bs = false) :
    Calls Try.prog 41 #[v] w (Gives w (.tuple #[.agg (recL zeroR).toArray, .int .i64 300])) := by
  obtain ⟨va, vn, vc, rfl⟩ := hv.slice
  obtain hn := hv.len
  have HV := Lib.hid hv
  have HB := Lib.hid hb
  clear hv hb
  go_enter Try.func41, Try.ntmps41
  go_upto_region 1 with fail
  refine wp_gen (fun W => W.there w.heap.size 0 50 ∧ Below w.heap.size w W) ⟨there_new w _ _ 50 (by rfl), by (repeat (first | (with_reducible exact Below.refl _ _) | (with_reducible assumption) | (with_reducible refine Below.alloc ?_ (by (repeat (first | (with_reducible exact Nat.le_refl _) | (with_reducible assumption) | (with_reducible refine le_up ?_) | (with_reducible refine le_alloc ?_) | (with_reducible refine le_setCell ?_) | (with_reducible refine le_drew ?_) | (with_reducible refine le_drewN ?_) | omega))) _) | (with_reducible refine Below.drew ?_) | (with_reducible refine Below.drewN ?_ _) | (with_reducible refine Below.setCell ?_ (by (repeat (first | (with_reducible exact Nat.le_refl _) | (with_reducible assumption) | (with_reducible refine le_up ?_) | (with_reducible refine le_alloc ?_) | (with_reducible refine le_setCell ?_) | (with_reducible refine le_drew ?_) | (with_reducible refine le_drewN ?_) | omega))) _) | (with_reducible refine Below.up ?_ (by (repeat (first | (with_reducible exact Nat.le_refl _) | (with_reducible assumption) | (with_reducible refine le_up ?_) | (with_reducible refine le_alloc ?_) | (with_reducible refine le_setCell ?_) | (with_reducible refine le_drew ?_) | (with_reducible refine le_drewN ?_) | omega))))))⟩ ?_
  rintro W0 ⟨hth0, hbw0⟩
  have HR0 := Lib.hid (rRight_any _ bs W0 (HV.out.below hbw0) hl)
  have HT := Lib.hid (And.intro hth0 hbw0)
  clear hth0 hbw0
  by_cases h1 : vn = 140
  · subst h1
    have hbl := hn.symm
    have HGET := Lib.hid (fun x => (bget_any _ bs 0 4 (up W0 x) ((HV.out.below HT.out.2).up) (by omega) (by omega) hl))
    by_cases hr : rightB bs = true
    · have h0 : beN ((bs.drop 0).take 4) = 0 := by
        have hg := HB.out
        unfold bnkG at hg
        rw [hbl, hr] at hg
        simp only [decide_true, Bool.true_and, decide_eq_false_iff_not, Decidable.not_not] at hg
        rw [recP_get bs 0 (by omega)] at hg
        exact hg
      rw [hr] at HR0
      clear hr hn hbl
      go_wp2_with fail
      refine HR0.out.mono ?_
      rintro e1 w1 ⟨rfl, x1, rfl⟩
      have hget := HGET.out x1
      rw [h0] at hget
      have HG2 := Lib.hid hget
      clear hget h0 HGET
      go_wp2_with fail
      refine HG2.out.mono ?_
      rintro e2 w2 ⟨rfl, rfl⟩
      go_upto_region 2 with fail
      have HTB := Lib.hid (show (up W0 x1).there w.heap.size 0 50 ∧ Below w.heap.size w (up W0 x1) from ⟨there_up0 HT.out.1 x1, below_up HT.out.2 HT.out.2.size _⟩)
      refine wp_gen (fun W => W.there w.heap.size 0 50 ∧ Below w.heap.size w W) ⟨HTB.out.1, HTB.out.2⟩ ?_
      rintro WE ⟨hth, hbw⟩
      obtain ⟨Z, hZ⟩ : ∃ Z, Z = recL zeroR := ⟨_, rfl⟩
      have hzl : Z.length = 50 := by rw [hZ]; rfl
      have hz1 : Z.toArray.all (·.oneCell') = true := by rw [hZ]; exact recL_one rfl
      have hst := run_storeCells_mid WE w.heap.size 0 Z (by rw [hzl]; exact hth) hz1
      have hrs := World.rangeAt_setCells_same WE w.heap.size 0 Z (by rw [hzl]; exact hth)
      have HRES := Lib.hid (run_loadVar_mid (P := Try.prog) (WE.setCells w.heap.size 0 Z) w.heap.size 0 69 Z _ hrs Try.underlying69 (by rfl) (by rw [hzl]; kernel_rfl))
      have HBW := Lib.hid hbw
      have HZB := Lib.hid (fun W => (show (Instr.build 69 #[]).run Try.prog W = .ok (.agg Z.toArray) W by rw [hZ]; exact run_bld0r W))
      have HZE := Lib.hid hZ
      clear hth hbw hrs hz1 hZ
      go_wp2_with (refine wpList_bld0 rfl 69 rfl (.agg Z.toArray) HZB.out ?_)
      refine bodyPost_ret (v := .tuple #[.agg Z.toArray, .int .i64 300]) ?_ rfl (Gives.mk (by rw [HZE.out]) (HBW.out.trans (below_setCells _ _ _ _ _ (Nat.le_refl _))))
      simp only [results, show Try.func41.results = #[ResultVar.cell 2 69, ResultVar.tmp 3] from rfl]
      simp [asAddr, HRES.out]
    · rw [Bool.eq_false_iff.2 hr] at HR0
      clear hr hn hbl
      go_wp2_with fail
      refine HR0.out.mono ?_
      rintro e1 w1 ⟨rfl, x1, rfl⟩
      go_upto_region 2 with fail
      have HTB := Lib.hid (show (up W0 x1).there w.heap.size 0 50 ∧ Below w.heap.size w (up W0 x1) from ⟨there_up0 HT.out.1 x1, below_up HT.out.2 HT.out.2.size _⟩)
      refine wp_gen (fun W => W.there w.heap.size 0 50 ∧ Below w.heap.size w W) ⟨HTB.out.1, HTB.out.2⟩ ?_
      rintro WE ⟨hth, hbw⟩
      obtain ⟨Z, hZ⟩ : ∃ Z, Z = recL zeroR := ⟨_, rfl⟩
      have hzl : Z.length = 50 := by rw [hZ]; rfl
      have hz1 : Z.toArray.all (·.oneCell') = true := by rw [hZ]; exact recL_one rfl
      have hst := run_storeCells_mid WE w.heap.size 0 Z (by rw [hzl]; exact hth) hz1
      have hrs := World.rangeAt_setCells_same WE w.heap.size 0 Z (by rw [hzl]; exact hth)
      have HRES := Lib.hid (run_loadVar_mid (P := Try.prog) (WE.setCells w.heap.size 0 Z) w.heap.size 0 69 Z _ hrs Try.underlying69 (by rfl) (by rw [hzl]; kernel_rfl))
      have HBW := Lib.hid hbw
      have HZB := Lib.hid (fun W => (show (Instr.build 69 #[]).run Try.prog W = .ok (.agg Z.toArray) W by rw [hZ]; exact run_bld0r W))
      have HZE := Lib.hid hZ
      clear hth hbw hrs hz1 hZ
      go_wp2_with (refine wpList_bld0 rfl 69 rfl (.agg Z.toArray) HZB.out ?_)
      refine bodyPost_ret (v := .tuple #[.agg Z.toArray, .int .i64 300]) ?_ rfl (Gives.mk (by rw [HZE.out]) (HBW.out.trans (below_setCells _ _ _ _ _ (Nat.le_refl _))))
      simp only [results, show Try.func41.results = #[ResultVar.cell 2 69, ResultVar.tmp 3] from rfl]
      simp [asAddr, HRES.out]
  · have h1' : ((vn : Int) != 140) = true := by simp; omega
    clear hn
    go_upto_region 2 with fail
    have HTB := HT
    refine wp_gen (fun W => W.there w.heap.size 0 50 ∧ Below w.heap.size w W) ⟨HTB.out.1, HTB.out.2⟩ ?_
    rintro WE ⟨hth, hbw⟩
    obtain ⟨Z, hZ⟩ : ∃ Z, Z = recL zeroR := ⟨_, rfl⟩
    have hzl : Z.length = 50 := by rw [hZ]; rfl
    have hz1 : Z.toArray.all (·.oneCell') = true := by rw [hZ]; exact recL_one rfl
    have hst := run_storeCells_mid WE w.heap.size 0 Z (by rw [hzl]; exact hth) hz1
    have hrs := World.rangeAt_setCells_same WE w.heap.size 0 Z (by rw [hzl]; exact hth)
    have HRES := Lib.hid (run_loadVar_mid (P := Try.prog) (WE.setCells w.heap.size 0 Z) w.heap.size 0 69 Z _ hrs Try.underlying69 (by rfl) (by rw [hzl]; kernel_rfl))
    have HBW := Lib.hid hbw
    have HZB := Lib.hid (fun W => (show (Instr.build 69 #[]).run Try.prog W = .ok (.agg Z.toArray) W by rw [hZ]; exact run_bld0r W))
    have HZE := Lib.hid hZ
    clear hth hbw hrs hz1 hZ
    go_wp2_with (refine wpList_bld0 rfl 69 rfl (.agg Z.toArray) HZB.out ?_)
    refine bodyPost_ret (v := .tuple #[.agg Z.toArray, .int .i64 300]) ?_ rfl (Gives.mk (by rw [HZE.out]) (HBW.out.trans (below_setCells _ _ _ _ _ (Nat.le_refl _))))
    simp only [results, show Try.func41.results = #[ResultVar.cell 2 69, ResultVar.tmp 3] from rfl]
    simp [asAddr, HRES.out]
/-- The record's numbers that are read so far. -/
structure RefAt (w : World) (R : List Nat) (q : Nat) (wr : World) (p : Nat → Bool) : Prop where
  bel : Below w.heap.size w wr
  res : wr.there w.heap.size 0 50
  out : wr.rangeAt q 0 (fillL R p)
  oth : wr.there q 0 50
  ord : w.heap.size < q ∧ q < wr.heap.size
theorem RefAt.store {w : World} {R : List Nat} {q : Nat} {wr : World} {p : Nat → Bool} (H : RefAt w R q wr p) (hR : R.length = 50) (n i : Nat) (hi : i + n ≤ 50) {p2 : Nat → Bool} (hp : ∀ j, j < 50 → p2 j = (p j || (decide (i ≤ j) && decide (j < i + n)))) : RefAt w R q (wr.setCells q i (((recL R).drop i).take n)) p2 := by
  have h1 := fill_setCells R hR q n i p wr hi H.out
  obtain ⟨o1, o2⟩ := H.ord
  refine ⟨H.bel.trans (below_setCells _ _ _ _ _ (by omega)), World.there_setCells H.res _ _ _, ?_, World.there_setCells H.oth _ _ _, o1, by rw [size_setCells]; exact o2⟩
  rw [fillL_eq (R := R) (S := R) (q := fun j => p j || (decide (i ≤ j) && decide (j < i + n))) (fun j hj => by rw [hp j hj])]
  exact h1
set_option maxRecDepth 100000 in
set_option maxHeartbeats 3200000 in
theorem rRead_good (v : Value) (bs : List Nat) (w : World) (hv : Bts w v bs) (hg : bnkG bs = true) :
    Calls Try.prog 41 #[v] w (Gives w (.tuple #[.agg (recL (recP bs)).toArray, .int .i64 0])) := by
  have hg' := hg
  unfold bnkG at hg'
  simp only [Bool.and_eq_true, decide_eq_true_eq] at hg'
  obtain ⟨hl, hr, h0⟩ := hg'
  obtain ⟨vb, vo, vc, rfl, hlc, hc63, hvb, hcell⟩ := hv.some (by omega)
  have HL := Lib.hid hl
  have HCE := Lib.hid hcell
  rw [hl]
  rw [hl] at hv hlc
  have HV := Lib.hid hv
  have HOK := Lib.hid (recP_ok hv.1)
  have HB1 := Lib.hid hv.1
  have HGET := Lib.hid (fun (i n : Nat) (W : World) (hW : Below w.heap.size w W) (hn : n ≤ 8) (hi : i + n ≤ 140) => bget_any _ bs i n W (hv.below hW) hn (by omega) (by omega))
  have h00 : ¬ (((recP bs).getD 0 0 : Nat) : Int) = 0 := by omega
  have e0 := recP_get bs 0 (by omega)
  have e17 := recP_get bs 17 (by omega)
  rw [offs18.2.2, show widths.getD 0 0 = 4 from rfl] at e0
  rw [offs18.1, show widths.getD 17 0 = 4 from rfl] at e17
  have b0 := HOK.out.2 0 (by omega)
  have b17 := HOK.out.2 17 (by omega)
  rw [show widths.getD 0 0 = 4 from rfl] at b0
  rw [show widths.getD 17 0 = 4 from rfl] at b17
  have HBLD := Lib.hid (fun W => run_bldTwo W (recP bs))
  obtain ⟨Z, hZ⟩ : ∃ Z, Z = fillL (recP bs) pTwo := ⟨_, rfl⟩
  rw [← hZ] at HBLD
  have HZ := Lib.hid (And.intro hZ (show Z.length = 50 ∧ Z.toArray.all (·.oneCell') = true from hZ ▸ ⟨fillL_length _ _, fillL_one _ _⟩))
  generalize (recP bs).getD 0 0 = x0 at *
  generalize (recP bs).getD 17 0 = x17 at *
  have HE := Lib.hid (And.intro e0 e17)
  have hw0 : IntKind.u32.wrap (x0 : Int) = (x0 : Int) := by simp [IntKind.wrap, IntKind.bits, IntKind.signed]; omega
  have hw17 : IntKind.u32.wrap (x17 : Int) = (x17 : Int) := by simp [IntKind.wrap, IntKind.bits, IntKind.signed]; omega
  clear hv hcell hZ e0 e17 hg h0 b0 b17
  go_enter Try.func41, Try.ntmps41
  go_upto_region 1 with fail
  refine wp_gen (fun W => W.there w.heap.size 0 50 ∧ Below w.heap.size w W ∧ w.heap.size < W.heap.size) ⟨there_new w _ _ 50 (by rfl), by (repeat (first | (with_reducible exact Below.refl _ _) | (with_reducible assumption) | (with_reducible refine Below.alloc ?_ (by (repeat (first | (with_reducible exact Nat.le_refl _) | (with_reducible assumption) | (with_reducible refine le_up ?_) | (with_reducible refine le_alloc ?_) | (with_reducible refine le_setCell ?_) | (with_reducible refine le_drew ?_) | (with_reducible refine le_drewN ?_) | omega))) _) | (with_reducible refine Below.drew ?_) | (with_reducible refine Below.drewN ?_ _) | (with_reducible refine Below.setCell ?_ (by (repeat (first | (with_reducible exact Nat.le_refl _) | (with_reducible assumption) | (with_reducible refine le_up ?_) | (with_reducible refine le_alloc ?_) | (with_reducible refine le_setCell ?_) | (with_reducible refine le_drew ?_) | (with_reducible refine le_drewN ?_) | omega))) _) | (with_reducible refine Below.up ?_ (by (repeat (first | (with_reducible exact Nat.le_refl _) | (with_reducible assumption) | (with_reducible refine le_up ?_) | (with_reducible refine le_alloc ?_) | (with_reducible refine le_setCell ?_) | (with_reducible refine le_drew ?_) | (with_reducible refine le_drewN ?_) | omega)))))), by simp⟩ ?_
  rintro W0 ⟨hth0, hbw0, hz0⟩
  have HT := Lib.hid (And.intro hth0 (And.intro hbw0 hz0))
  have HR0 := Lib.hid (rRight_any _ bs W0 (HV.out.below hbw0) (by omega))
  rw [hr] at HR0
  clear hth0 hbw0 hz0 hl hr
  go_wp2_with fail
  refine HR0.out.mono ?_
  rintro e1 w1 ⟨rfl, x1, rfl⟩
  have HBU := Lib.hid (below_up HT.out.2.1 HT.out.2.1.size x1)
  have hg1 := HGET.out 0 4 (up W0 x1) HBU.out (by omega) (by omega)
  rw [← HE.out.1] at hg1
  have HG1 := Lib.hid hg1
  have hg17 := HGET.out 100 4 (up W0 x1) HBU.out (by omega) (by omega)
  rw [← HE.out.2] at hg17
  have HG17 := Lib.hid hg17
  clear hg1 hg17
  have hs := store_newR (up W0 x1) 69 Z HZ.out.2.1 HZ.out.2.2
  have hst := hs.1
  have hzl := HZ.out.2.1
  have H1 := Lib.hid hs.2
  clear hs
  go_upto_region 4 with (first | (go_at_call 75; with_reducible refine Calls.tells (HG1.out) ?_) | (go_at_call 75; with_reducible refine Calls.tells (HG17.out) ?_) | (refine wpList_bld2 rfl 69 _ _ rfl (.int .u32 (x0 : Int)) (.int .u32 (x17 : Int)) (.agg Z.toArray) rfl rfl HBLD.out ?_))
  refine wp_gen (fun W => RefAt w (recP bs) (up W0 x1).heap.size W pTwo) ?_ ?_
  · obtain ⟨b2, r2, t2, l2⟩ := H1.out
    rw [HZ.out.1] at r2 t2 l2 b2 ⊢
    exact ⟨HBU.out.trans (b2.mono HBU.out.size), there_below b2 (there_lt (there_up0 HT.out.1 x1) (by omega)) (there_up0 HT.out.1 x1), r2, t2, Nat.lt_of_lt_of_le HT.out.2.2 (up_size _ _), l2⟩
  rintro W2 hR2
  have HR2 := Lib.hid hR2
  clear hR2 H1 hst hzl HZ HBLD HG1 HG17 HR0 hw0 hw17 HE
  generalize (up W0 x1).heap.size = q at *
  go_wp2_with fail
  go_loopw [5] (fun v5 wr => ∃ k : Nat, k ≤ 8 ∧ v5 = .int .i64 (k : Int) ∧ RefAt w (recP bs) q wr (fun j => pTwo j || (decide (1 ≤ j) && decide (j < 1 + 2 * k)))) (fun v5 _ => 8 - (intOf v5).toNat)
  case atStart =>
    refine ⟨0, by omega, rfl, HR2.out.bel, HR2.out.res, ?_, HR2.out.oth, HR2.out.ord⟩
    rw [fillL_eq (R := recP bs) (S := recP bs) (q := pTwo) (fun j hj => by
      have : (decide (1 ≤ j) && decide (j < 1 + 2 * 0)) = false := by simp; omega
      rw [this, Bool.or_false])]
    exact HR2.out.out
  case round =>
    obtain ⟨k, hk, rfl, hR⟩ := hrel
    have HQ := Lib.hid hR
    clear hR HR2
    by_cases hk8 : k < 8
    · have i1 : (k : Int) < 8 := by omega
      have i2 : IntKind.i64.wrap ((k : Int) + 1) = ((k + 1 : Nat) : Int) := by rw [IntKind.wrap_i64]; omega
      have i3 : (0 : Int) ≤ (k : Int) := by omega
      have i4 : IntKind.i64.wrap (12 * (k : Int)) = ((12 * k : Nat) : Int) := by rw [IntKind.wrap_i64]; omega
      have i5 : IntKind.i64.wrap (4 + 12 * (k : Int)) = ((4 + 12 * k : Nat) : Int) := by rw [IntKind.wrap_i64]; omega
      have i6 : IntKind.i64.wrap (8 + 12 * (k : Int)) = ((8 + 12 * k : Nat) : Int) := by rw [IntKind.wrap_i64]; omega
      have e1 := recP_get bs (1 + 2 * k) (by omega)
      have e2 := recP_get bs (2 + 2 * k) (by omega)
      rw [(offs k hk8).1, (widths_mark hk8).1] at e1
      rw [(offs k hk8).2, (widths_mark hk8).2] at e2
      have hg1 := HGET.out (4 + 12 * k) 4 wr HQ.out.bel (by omega) (by omega)
      have hg2 := HGET.out (8 + 12 * k) 8 wr HQ.out.bel (by omega) (by omega)
      rw [← e1, show ((4 + 12 * k : Nat) : Int) = 4 + 12 * (k : Int) by omega] at hg1
      rw [← e2, show ((8 + 12 * k : Nat) : Int) = 8 + 12 * (k : Int) by omega] at hg2
      have be := HOK.out.2 (1 + 2 * k) (by omega)
      have bc := HOK.out.2 (2 + 2 * k) (by omega)
      rw [(widths_mark hk8).1] at be
      rw [(widths_mark hk8).2] at bc
      have hst := HQ.out.store (recP_length bs) 2 (1 + 2 * k) (by omega) (p2 := fun j => pTwo j || (decide (1 ≤ j) && decide (j < 1 + 2 * (k + 1)))) (fun j hj => by
        rw [Bool.or_assoc]
        congr 1
        rw [Bool.eq_iff_iff]
        simp
        omega)
      rw [mark_cells (recP_length bs) hk8] at hst
      have HTH := Lib.hid (there_sub HQ.out.oth (1 + k * 2) 2 (by omega))
      generalize (recP bs).getD (1 + 2 * k) 0 = e at *
      generalize (recP bs).getD (2 + 2 * k) 0 = c at *
      have hwe : IntKind.u32.wrap (e : Int) = (e : Int) := by simp [IntKind.wrap, IntKind.bits, IntKind.signed]; omega
      have hone := all_oneCell_toArray (cs := [Value.int .u32 (e : Int), .int .u64 (c : Int)]) (fun v hv => by
        simp only [List.mem_cons, List.not_mem_nil, or_false] at hv
        rcases hv with rfl | rfl <;> rfl)
      have HONE := Lib.hid hone
      rw [show 1 + 2 * k = 1 + k * 2 by omega] at hst
      have HST := Lib.hid hst
      have HG1 := Lib.hid hg1
      have HG2 := Lib.hid hg2
      clear e1 e2 hg1 hg2 be bc hst hone
      go_wp2_with (first | (go_at_call 75; with_reducible refine Calls.tells (HG1.out) ?_) | (go_at_call 75; with_reducible refine Calls.tells (HG2.out) ?_) | (refine wpList_store_mid rfl 66 (.tmp 46) (.tmp 44) rfl q (1 + k * 2) #[.int .u32 (e : Int), .int .u64 (c : Int)] rfl rfl HTH.out (by kernel_rfl) HONE.out ?_))
      exact ⟨⟨k + 1, by omega, (by first | rfl | go_num), HST.out⟩, by simp [intOf]; omega⟩
    · obtain rfl : k = 8 := by omega
      go_wp2_with fail
      go_loopw [6] (fun v6 wr => ∃ i : Nat, i ≤ 32 ∧ v6 = .int .i64 (i : Int) ∧ RefAt w (recP bs) q wr (fun j => decide (j < 18 + i))) (fun v6 _ => 32 - (intOf v6).toNat)
      case atStart =>
        refine ⟨0, by omega, rfl, HQ.out.bel, HQ.out.res, ?_, HQ.out.oth, HQ.out.ord⟩
        rw [fillL_eq (R := recP bs) (S := recP bs) (q := fun j => pTwo j || (decide (1 ≤ j) && decide (j < 1 + 2 * 8))) (fun j hj => by
          have : decide (j < 18 + 0) = (pTwo j || (decide (1 ≤ j) && decide (j < 1 + 2 * 8))) := by
            unfold pTwo
            rw [Bool.eq_iff_iff]
            simp
            omega
          rw [this])]
        exact HQ.out.out
      case round =>
        obtain ⟨i, hi, rfl, hR⟩ := hrel
        have HS := Lib.hid hR
        clear hR HQ
        by_cases hi32 : i < 32
        · have i1 : (i : Int) < 32 := by omega
          have i2 : IntKind.i64.wrap ((i : Int) + 1) = ((i + 1 : Nat) : Int) := by rw [IntKind.wrap_i64]; omega
          have i3 : (0 : Int) ≤ (i : Int) := by omega
          have i5 : IntKind.i64.wrap (104 + (i : Int)) = ((104 + i : Nat) : Int) := by rw [IntKind.wrap_i64]; omega
          have i6 : (0 : Int) ≤ ((104 + i : Nat) : Int) := by omega
          have i7 : ((104 + i : Nat) : Int) < 140 := by omega
          have i8 : (104 : Int) + (i : Int) < 140 := by omega
          have i9 : (0 : Int) ≤ (104 : Int) + (i : Int) := by omega
          have c0 : wr.cell? ⟨vb, vo + (104 + i), none⟩ = some (.int .u8 ((bs.getD (104 + i) 0 : Nat) : Int)) := by
            rw [HS.out.bel.cell (p := ⟨vb, vo + (104 + i), none⟩) hvb]; exact HCE.out (104 + i) (by rw [HL.out]; omega)
          haveI hltb : LtSize vb wr := ⟨Nat.lt_of_lt_of_le hvb HS.out.bel.size⟩
          haveI hltq : LtSize q wr := ⟨HS.out.ord.2⟩
          obtain ⟨hu1, hf1⟩ := HS.out.oth (18 + i) (by omega)
          rw [Nat.zero_add] at hu1 hf1
          obtain ⟨u1, hu1⟩ := Option.isSome_iff_exists.1 hu1
          have hst := HS.out.store (recP_length bs) 1 (18 + i) (by omega) (p2 := fun j => decide (j < 18 + (i + 1))) (fun j hj => by
            rw [Bool.eq_iff_iff]
            simp
            omega)
          have hkey : ((recL (recP bs)).drop (18 + i)).take 1 = [.int .u8 ((bs.getD (104 + i) 0 : Nat) : Int)] := by
            have h1 : (((recL (recP bs)).drop 18).take 32)[i]? = some (.int .u8 ((bs.getD (104 + i) 0 : Nat) : Int)) := by
              rw [key_list (recP_length bs), recP_key bs (by rw [HL.out]; omega), byteVs_get _ _ (by rw [List.length_take, List.length_drop, HL.out]; omega), List.getD_eq_getElem?_getD, List.getD_eq_getElem?_getD, List.getElem?_take, if_pos hi32, List.getElem?_drop]
            rw [List.getElem?_take, if_pos hi32, List.getElem?_drop] at h1
            have hl2 := recL_length (recP_length bs)
            rw [List.getElem?_eq_getElem (by omega)] at h1
            rw [List.drop_eq_getElem_cons (by omega), List.take_succ_cons, List.take_zero, Option.some.inj h1]
          rw [hkey] at hst
          have HST := Lib.hid (show RefAt w (recP bs) q (wr.setCell ⟨q, 18 + i, none⟩ (.int .u8 ((bs.getD (104 + i) 0 : Nat) : Int))) (fun j => decide (j < 18 + (i + 1))) from hst)
          generalize bs.getD (104 + i) 0 = y at *
          clear hst hkey
          go_wp2_with fail
          exact ⟨⟨i + 1, by omega, (by first | rfl | go_num), HST.out⟩, by simp [intOf]; omega⟩
        · obtain rfl : i = 32 := by omega
          have hout := HS.out.out
          rw [fillL_all (recP_length bs) (fun j hj => by simp; omega)] at hout
          obtain ⟨L, hL⟩ : ∃ L, L = recL (recP bs) := ⟨_, rfl⟩
          have hll : L.length = 50 := by rw [hL]; exact recL_length (recP_length bs)
          have hone : L.toArray.all (·.oneCell') = true := by rw [hL]; exact recL_one (recP_length bs)
          have hst2 := run_storeCells_mid wr w.heap.size 0 L (by rw [hll]; exact HS.out.res) hone
          have hrs := World.rangeAt_setCells_same wr w.heap.size 0 L (by rw [hll]; exact HS.out.res)
          have HRES := Lib.hid (run_loadVar_mid (P := Try.prog) (wr.setCells w.heap.size 0 L) w.heap.size 0 69 L _ hrs Try.underlying69 (by rfl) (by rw [hll]; kernel_rfl))
          have HLL := Lib.hid hll
          have HLR := Lib.hid (show wr.rangeAt q 0 L by rw [hL]; exact hout)
          have HLE := Lib.hid hL
          clear hout hone hrs hL
          go_wp2_with (refine wpList_load_mid rfl 69 (.tmp 4) (by rfl) q 0 (by rfl) L _ HLR.out Try.underlying69 (by rfl) (by rw [HLL.out]; kernel_rfl) ?_)
          refine bodyPost_ret (v := .tuple #[.agg L.toArray, .int .i64 0]) ?_ rfl (Gives.mk (by rw [HLE.out]) (HS.out.bel.trans (below_setCells _ _ _ _ _ (Nat.le_refl _))))
          simp only [results, show Try.func41.results = #[ResultVar.cell 2 69, ResultVar.tmp 3] from rfl]
          simp [asAddr, HRES.out]
theorem rbRead_any (v : Value) (bs : List Nat) (w : World) (hv : Bts w v bs) (hl : bs.length ≤ 1000000) :
    Calls Try.prog 41 #[v] w (Gives w (.tuple #[.agg (recL (bnkR bs)).toArray, .int .i64 (bnkF bs)])) := by
  unfold bnkR bnkF
  by_cases hg : bnkG bs = true
  · rw [if_pos hg, if_pos hg]
    exact rRead_good v bs w hv hg
  · rw [if_neg hg, if_neg hg]
    exact rRead_bad v bs w hv hl (Bool.eq_false_iff.2 hg)
end Go.Proofs.Ytjkgodhoonkinaa
