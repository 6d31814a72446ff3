/-
  A record's bytes read back, and bytes read written back.
-/
import Derived.Test.YtjkgodhoonkinaaBnkC
import Derived.Test.YtjkgodhoonkinaaFlatK
namespace Go.Proofs.Ytjkgodhoonkinaa
open Go.RowKit
set_option linter.unusedVariables false
set_option linter.unusedSimpArgs false

theorem rec_self (R : List Nat) (h : R.length = 50) (hI : IntCells (kinds.map some) (recL R)) (W : World) : (Op.equalIn 10000 50 (.agg (recL R).toArray) (.agg (recL R).toArray)).run Try.prog W = .ok true W :=
  eq_self 9 (by omega) 50 _ (by kernel_rfl) (by kernel_rfl) _ hI (by unfold Value.formed; rw [Try.underlying50]; simp only [List.size_toArray, recL_length h]; kernel_rfl) W
theorem zero_ints : IntCells (kinds.map some) (recL zeroR) := by
  have : ∀ ks : List IntKind, (∀ k ∈ ks, k = .u8 ∨ k = .u32 ∨ k = .u64) → IntCells (ks.map some) (List.zipWith (fun k (x : Nat) => Value.int k (x : Int)) ks (List.replicate ks.length 0)) := by
    intro ks
    induction ks with
    | nil => exact fun _ => trivial
    | cons k ks ih =>
      intro h
      refine ⟨⟨0, rfl, ?_⟩, ih (fun k hk => h k (List.mem_cons_of_mem _ hk))⟩
      rcases h k (List.mem_cons_self ..) with rfl | rfl | rfl <;> rfl
  exact this kinds (by decide)
set_option maxRecDepth 100000 in
set_option maxHeartbeats 3200000 in
theorem bRead_long (v : Value) (bs : List Nat) (w : World) (hv : Bts w v bs) (hb : bs.length ≠ 140) :
    Calls Try.prog 31 #[v] w (Gives w (.tuple #[.agg (recL zeroR).toArray, .int .i64 300])) := by
  obtain ⟨va, vn, vc, rfl⟩ := hv.slice
  obtain hn := hv.len
  clear hv
  go_enter Try.func31, Try.ntmps31
  go_upto_region 1 with fail
  refine wp_gen (fun W => W.there w.heap.size 0 50 ∧ Below w.heap.size w W) ⟨there_new w _ _ 50 (by rfl), by (repeat (first | (with_reducible exact Below.refl _ _) | (with_reducible assumption) | (with_reducible refine Below.alloc ?_ (by (repeat (first | (with_reducible exact Nat.le_refl _) | (with_reducible assumption) | (with_reducible refine le_up ?_) | (with_reducible refine le_alloc ?_) | (with_reducible refine le_setCell ?_) | (with_reducible refine le_drew ?_) | (with_reducible refine le_drewN ?_) | omega))) _) | (with_reducible refine Below.drew ?_) | (with_reducible refine Below.drewN ?_ _) | (with_reducible refine Below.setCell ?_ (by (repeat (first | (with_reducible exact Nat.le_refl _) | (with_reducible assumption) | (with_reducible refine le_up ?_) | (with_reducible refine le_alloc ?_) | (with_reducible refine le_setCell ?_) | (with_reducible refine le_drew ?_) | (with_reducible refine le_drewN ?_) | omega))) _) | (with_reducible refine Below.up ?_ (by (repeat (first | (with_reducible exact Nat.le_refl _) | (with_reducible assumption) | (with_reducible refine le_up ?_) | (with_reducible refine le_alloc ?_) | (with_reducible refine le_setCell ?_) | (with_reducible refine le_drew ?_) | (with_reducible refine le_drewN ?_) | omega))))))⟩ ?_
  rintro W0 ⟨hth0, hbw0⟩
  have HTB := Lib.hid (And.intro hth0 hbw0)
  clear hth0 hbw0
  have h1' : ((vn : Int) != 140) = true := by simp; omega
  clear hn hb
  go_upto_region 2 with fail
  refine wp_gen (fun W => W.there w.heap.size 0 50 ∧ Below w.heap.size w W) ⟨HTB.out.1, HTB.out.2⟩ ?_
  rintro WE ⟨hth, hbw⟩
  obtain ⟨Z, hZ⟩ : ∃ Z, Z = recL zeroR := ⟨_, rfl⟩
  have hzl : Z.length = 50 := by rw [hZ]; rfl
  have hz1 : Z.toArray.all (·.oneCell') = true := by rw [hZ]; exact recL_one rfl
  have hst := run_storeCells_mid WE w.heap.size 0 Z (by rw [hzl]; exact hth) hz1
  have hrs := World.rangeAt_setCells_same WE w.heap.size 0 Z (by rw [hzl]; exact hth)
  have HRES := Lib.hid (run_loadVar_mid (P := Try.prog) (WE.setCells w.heap.size 0 Z) w.heap.size 0 50 Z _ hrs Try.underlying50 (by rfl) (by rw [hzl]; kernel_rfl))
  have HBW := Lib.hid hbw
  have HZB := Lib.hid (fun W => (show (Instr.build 50 #[]).run Try.prog W = .ok (.agg Z.toArray) W by rw [hZ]; exact run_bld0 W))
  have HZE := Lib.hid hZ
  clear hth hbw hrs hz1 hZ
  go_wp2_with (refine wpList_bld0 rfl 50 rfl (.agg Z.toArray) HZB.out ?_)
  refine bodyPost_ret (v := .tuple #[.agg Z.toArray, .int .i64 300]) ?_ rfl (Gives.mk (by rw [HZE.out]) (HBW.out.trans (below_setCells _ _ _ _ _ (Nat.le_refl _))))
  simp only [results, show Try.func31.results = #[ResultVar.cell 2 50, ResultVar.tmp 3] from rfl]
  simp [asAddr, HRES.out]
theorem bRead_all (v : Value) (bs : List Nat) (w : World) (hv : Bts w v bs) :
    Calls Try.prog 31 #[v] w (Gives w (.tuple #[.agg (recL (bnkR bs)).toArray, .int .i64 (bnkF bs)])) := by
  by_cases h : bs.length = 140
  · exact bRead_any v bs w hv (by omega)
  · have hg : bnkG bs = false := by unfold bnkG; simp [h]
    have h2 := bRead_long v bs w hv h
    unfold bnkR bnkF
    rw [hg]
    exact h2
set_option maxRecDepth 100000 in
set_option maxHeartbeats 4000000 in
theorem BankBack_any (R : List Nat) (hR : RecOK R) (hI : IntCells (kinds.map some) (recL R)) (v : Value) (bs : List Nat) (w : World) (hv : Bts w v bs) :
    Calls Try.prog 7 #[.agg (recL R).toArray, v] w (Gives w (.bool true)) := by
  have HV := Lib.hid hv
  have hvl := hv.slice
  have HFS := Lib.hid (rec_self R hR.1 hI)
  have HZS := Lib.hid (rec_self zeroR rfl zero_ints)
  obtain ⟨va, vn, vc, rfl⟩ := hvl
  have hvl : True := trivial
  have HA := Lib.hid (rangeAt_boxed (w := w) (g := w.heap.size) (recL R) 50)
  have HBY := Lib.hid (fun W => Bytes_rec R W hR)
  have HLO := Lib.hid (And.intro (recL_length hR.1) (recL_one hR.1))
  obtain ⟨L, hL⟩ : ∃ L, L = recL R := ⟨_, rfl⟩
  have HLE := Lib.hid hL
  rw [← hL] at HFS HA HBY HLO ⊢
  clear hL hv hI
  have HLL := Lib.hid HLO.out.1
  go_enter Try.func7, Try.ntmps7
  go_upto_region 1 with fail
  refine wp_gen (fun W => Below w.heap.size w W ∧ W.rangeAt w.heap.size 0 L ∧ w.heap.size < W.heap.size) ⟨by (repeat (first | (with_reducible exact Below.refl _ _) | (with_reducible assumption) | (with_reducible refine Below.alloc ?_ (by (repeat (first | (with_reducible exact Nat.le_refl _) | (with_reducible assumption) | (with_reducible refine le_up ?_) | (with_reducible refine le_alloc ?_) | (with_reducible refine le_setCell ?_) | (with_reducible refine le_drew ?_) | (with_reducible refine le_drewN ?_) | omega))) _) | (with_reducible refine Below.drew ?_) | (with_reducible refine Below.drewN ?_ _) | (with_reducible refine Below.setCell ?_ (by (repeat (first | (with_reducible exact Nat.le_refl _) | (with_reducible assumption) | (with_reducible refine le_up ?_) | (with_reducible refine le_alloc ?_) | (with_reducible refine le_setCell ?_) | (with_reducible refine le_drew ?_) | (with_reducible refine le_drewN ?_) | omega))) _) | (with_reducible refine Below.up ?_ (by (repeat (first | (with_reducible exact Nat.le_refl _) | (with_reducible assumption) | (with_reducible refine le_up ?_) | (with_reducible refine le_alloc ?_) | (with_reducible refine le_setCell ?_) | (with_reducible refine le_drew ?_) | (with_reducible refine le_drewN ?_) | omega)))))), HA.out, by simp⟩ ?_
  rintro W0 ⟨hb0, hr0, hl0⟩
  have H0 := Lib.hid (And.intro hb0 (And.intro hr0 hl0))
  clear hb0 hr0 hl0 HA
  go_wp2_with fail
  refine (works30 W0).mono ?_
  rintro e1 w1 ⟨rfl, x1, rfl⟩
  go_upto_region 3 with fail
  refine wp_gen (fun W => Below w.heap.size w W ∧ W.rangeAt w.heap.size 0 L ∧ w.heap.size < W.heap.size) ⟨below_up H0.out.1 H0.out.1.size x1, rangeAt_below (up_below W0 x1) H0.out.2.2 H0.out.2.1, Nat.lt_of_lt_of_le H0.out.2.2 (up_size _ _)⟩ ?_
  rintro W1 ⟨hb1, hr1, hl1⟩
  have H1 := Lib.hid (And.intro hb1 (And.intro hr1 hl1))
  clear hb1 hr1 hl1 H0
  go_wp2_with (refine wpList_load_midG 50 (.tmp 2) (by with_reducible rfl) (by rfl) w.heap.size 0 (by rfl) L _ H1.out.2.1 Try.underlying50 (by rfl) (by rw [HLL.out]; kernel_rfl) ?_)
  refine (HBY.out W1).mono ?_
  rintro e2 w2 ⟨v2, rfl, ho2, hb2⟩
  have H2 := Lib.hid (show Below w.heap.size w w2 ∧ w2.rangeAt w.heap.size 0 L ∧ w.heap.size < w2.heap.size from ⟨H1.out.1.trans (hb2.mono H1.out.1.size), rangeAt_below hb2 H1.out.2.2 H1.out.2.1, Nat.lt_of_lt_of_le H1.out.2.2 hb2.size⟩)
  clear hb2
  by_cases h0 : R.getD 0 0 = 0
  · rw [show bnkE R = 2 by unfold bnkE; rw [if_pos h0]]
    clear h0 ho2
    go_upto_region 8 with fail
    refine wp_gen (fun W => Below w.heap.size w W) H2.out.1 ?_
    rintro W8 hb8
    have H8 := Lib.hid hb8
    have HRD := Lib.hid (bRead_all _ bs W8 (HV.out.below hb8))
    clear hb8
    by_cases hg : bnkG bs = true
    · have HBF := Lib.hid (bnk_forth HV.out.1 hg)
      have hok := bnkR_ok HV.out.1
      have HB2 := Lib.hid (fun W => Bytes_rec (bnkR bs) W hok)
      rw [show bnkF bs = 0 by unfold bnkF; rw [if_pos hg]] at HRD
      have HM := Lib.hid (And.intro (recL_length hok.1) (recL_one hok.1))
      obtain ⟨M, hM⟩ : ∃ M, M = recL (bnkR bs) := ⟨_, rfl⟩
      rw [← hM] at HRD HM HB2
      clear hM hg hok
      go_wp2_with fail
      refine HRD.out.mono ?_
      rintro e8 w8 ⟨rfl, x8, rfl⟩
      have hs := store_newR (up W8 x8) 50 M HM.out.1 HM.out.2
      have hst := hs.1
      have hml := HM.out.1
      have HS := Lib.hid hs.2.1
      have HRG := Lib.hid hs.2.2.1
      have hsz8 : Below w.heap.size w (up W8 x8) := below_up H8.out H8.out.size x8
      clear hs
      go_upto_region 11 with fail
      obtain ⟨q, hq⟩ : ∃ q, q = (up W8 x8).heap.size := ⟨_, rfl⟩
      rw [← hq]
      rw [← hq] at HS HRG
      refine wp_gen (fun W => Below w.heap.size w W ∧ W.rangeAt q 0 M) ⟨hsz8.trans (HS.out.mono (hq ▸ hsz8.size)), HRG.out⟩ ?_
      clear hst hml HS HRG hsz8 hq
      rintro W9 ⟨hb9, hr9⟩
      have H9 := Lib.hid (And.intro hb9 hr9)
      have HML := Lib.hid HM.out.1
      clear hb9 hr9
      go_wp2_with (refine wpList_load_midG 50 (.tmp 9) (by with_reducible rfl) (by rfl) q 0 (by rfl) M _ H9.out.2 Try.underlying50 (by rfl) (by rw [HML.out]; kernel_rfl) ?_)
      refine (HB2.out W9).mono ?_
      rintro e10 w10 ⟨v3, rfl, ho3, hb3⟩
      rw [HBF.out.2]
      rw [HBF.out.1] at ho3
      have HS3 := Lib.hid (SameBytes_any v3 _ bs bs w10 ho3.bts (HV.out.below (H9.out.1.trans (hb3.mono H9.out.1.size))))
      rw [show sameB bs bs = true from decide_eq_true rfl] at HS3
      have HE := Lib.hid (H9.out.1.trans (hb3.mono H9.out.1.size))
      clear ho3 hb3
      go_wp2_with fail
      refine HS3.out.mono ?_
      rintro e11 w11 ⟨rfl, rfl⟩
      go_wp2_with fail
      go_ret
      exact Gives.mk rfl HE.out
    · rw [show bnkR bs = zeroR by unfold bnkR; rw [if_neg hg], show bnkF bs = 300 by unfold bnkF; rw [if_neg hg]] at HRD
      have HM := Lib.hid (And.intro (recL_length (R := zeroR) rfl) (recL_one (R := zeroR) rfl))
      have HZB := Lib.hid (fun W => run_bld0 W)
      obtain ⟨M, hM⟩ : ∃ M, M = recL zeroR := ⟨_, rfl⟩
      rw [← hM] at HRD HM HZB HZS
      clear hM hg
      go_wp2_with fail
      refine HRD.out.mono ?_
      rintro e8 w8 ⟨rfl, x8, rfl⟩
      have hs := store_newR (up W8 x8) 50 M HM.out.1 HM.out.2
      have hst := hs.1
      have hml := HM.out.1
      have HS := Lib.hid hs.2.1
      have HRG := Lib.hid hs.2.2.1
      have hsz8 : Below w.heap.size w (up W8 x8) := below_up H8.out H8.out.size x8
      clear hs
      go_upto_region 10 with fail
      obtain ⟨q, hq⟩ : ∃ q, q = (up W8 x8).heap.size := ⟨_, rfl⟩
      rw [← hq]
      rw [← hq] at HS HRG
      refine wp_gen (fun W => Below w.heap.size w W ∧ W.rangeAt q 0 M) ⟨hsz8.trans (HS.out.mono (hq ▸ hsz8.size)), HRG.out⟩ ?_
      clear hst hml HS HRG hsz8 hq
      rintro W9 ⟨hb9, hr9⟩
      have H9 := Lib.hid (And.intro hb9 hr9)
      have HML := Lib.hid HM.out.1
      clear hb9 hr9
      have heq := HZS.out
      go_wp2_with (first | (refine wpList_load_midG 50 (.tmp 9) (by with_reducible rfl) (by rfl) q 0 (by rfl) M _ H9.out.2 Try.underlying50 (by rfl) (by rw [HML.out]; kernel_rfl) ?_) | (refine wpList_bld0 rfl 50 rfl (.agg M.toArray) HZB.out ?_))
      go_ret
      exact Gives.mk rfl H9.out.1
  · rw [show bnkE R = 0 by unfold bnkE; rw [if_neg h0]]
    have HBB := Lib.hid (bnk_back hR h0)
    rw [show bnkB R = putB (recB R) by unfold bnkB; rw [if_neg h0]] at ho2
    obtain ⟨a2, n2, c2, rfl⟩ := ho2.bts.slice
    have hlen := ho2.bts.len
    rw [HBB.out.1] at hlen
    replace hlen : n2 = 140 := by first | exact hlen.symm | exact hlen
    subst hlen
    have HRD := Lib.hid (bRead_all _ _ w2 ho2.bts)
    rw [HBB.out.2.2, show bnkF (putB (recB R)) = 0 by unfold bnkF; rw [if_pos HBB.out.2.1], ← HLE.out] at HRD
    clear h0 ho2
    go_wp2_with fail
    refine HRD.out.mono ?_
    rintro e3 w3 ⟨rfl, x3, rfl⟩
    have hs := store_newR (up w2 x3) 50 L HLO.out.1 HLO.out.2
    have hst := hs.1
    have hml := HLO.out.1
    have HS := Lib.hid hs.2.1
    have HRG := Lib.hid hs.2.2.1
    have hsz3 : Below w.heap.size w (up w2 x3) := below_up H2.out.1 H2.out.1.size x3
    have HR3 := Lib.hid (rangeAt_below (up_below w2 x3) H2.out.2.2 H2.out.2.1)
    have hl3 : w.heap.size < (up w2 x3).heap.size := Nat.lt_of_lt_of_le H2.out.2.2 (up_size _ _)
    clear hs
    go_upto_region 6 with fail
    obtain ⟨q, hq⟩ : ∃ q, q = (up w2 x3).heap.size := ⟨_, rfl⟩
    rw [← hq]
    rw [← hq] at HS HRG
    refine wp_gen (fun W => Below w.heap.size w W ∧ W.rangeAt q 0 L ∧ W.rangeAt w.heap.size 0 L) ⟨hsz3.trans (HS.out.mono (hq ▸ hsz3.size)), HRG.out, rangeAt_below HS.out (hq ▸ hl3) HR3.out⟩ ?_
    clear hst hml HS HRG hsz3 hq HR3 hl3
    rintro W4 ⟨hb4, hr4, hr4'⟩
    have H4 := Lib.hid (And.intro hb4 (And.intro hr4 hr4'))
    clear hb4 hr4 hr4'
    have heq := HFS.out
    go_upto_region 8 with (first | (refine wpList_load_midG 50 (.tmp 7) (by with_reducible rfl) (by rfl) q 0 (by rfl) L _ H4.out.2.1 Try.underlying50 (by rfl) (by rw [HLL.out]; kernel_rfl) ?_) | (refine wpList_load_midG 50 (.tmp 2) (by with_reducible rfl) (by rfl) w.heap.size 0 (by rfl) L _ H4.out.2.2 Try.underlying50 (by rfl) (by rw [HLL.out]; kernel_rfl) ?_))
    refine wp_gen (fun W => Below w.heap.size w W) H4.out.1 ?_
    rintro W8 hb8
    have H8 := Lib.hid hb8
    have HRD := Lib.hid (bRead_all _ bs W8 (HV.out.below hb8))
    clear hb8
    by_cases hg : bnkG bs = true
    · have HBF := Lib.hid (bnk_forth HV.out.1 hg)
      have hok := bnkR_ok HV.out.1
      have HB2 := Lib.hid (fun W => Bytes_rec (bnkR bs) W hok)
      rw [show bnkF bs = 0 by unfold bnkF; rw [if_pos hg]] at HRD
      have HM := Lib.hid (And.intro (recL_length hok.1) (recL_one hok.1))
      obtain ⟨M, hM⟩ : ∃ M, M = recL (bnkR bs) := ⟨_, rfl⟩
      rw [← hM] at HRD HM HB2
      clear hM hg hok
      go_wp2_with fail
      refine HRD.out.mono ?_
      rintro e8 w8 ⟨rfl, x8, rfl⟩
      have hs := store_newR (up W8 x8) 50 M HM.out.1 HM.out.2
      have hst := hs.1
      have hml := HM.out.1
      have HS := Lib.hid hs.2.1
      have HRG := Lib.hid hs.2.2.1
      have hsz8 : Below w.heap.size w (up W8 x8) := below_up H8.out H8.out.size x8
      clear hs
      go_upto_region 11 with fail
      obtain ⟨q, hq⟩ : ∃ q, q = (up W8 x8).heap.size := ⟨_, rfl⟩
      rw [← hq]
      rw [← hq] at HS HRG
      refine wp_gen (fun W => Below w.heap.size w W ∧ W.rangeAt q 0 M) ⟨hsz8.trans (HS.out.mono (hq ▸ hsz8.size)), HRG.out⟩ ?_
      clear hst hml HS HRG hsz8 hq
      rintro W9 ⟨hb9, hr9⟩
      have H9 := Lib.hid (And.intro hb9 hr9)
      have HML := Lib.hid HM.out.1
      clear hb9 hr9
      go_wp2_with (refine wpList_load_midG 50 (.tmp 9) (by with_reducible rfl) (by rfl) q 0 (by rfl) M _ H9.out.2 Try.underlying50 (by rfl) (by rw [HML.out]; kernel_rfl) ?_)
      refine (HB2.out W9).mono ?_
      rintro e10 w10 ⟨v3, rfl, ho3, hb3⟩
      rw [HBF.out.2]
      rw [HBF.out.1] at ho3
      have HS3 := Lib.hid (SameBytes_any v3 _ bs bs w10 ho3.bts (HV.out.below (H9.out.1.trans (hb3.mono H9.out.1.size))))
      rw [show sameB bs bs = true from decide_eq_true rfl] at HS3
      have HE := Lib.hid (H9.out.1.trans (hb3.mono H9.out.1.size))
      clear ho3 hb3
      go_wp2_with fail
      refine HS3.out.mono ?_
      rintro e11 w11 ⟨rfl, rfl⟩
      go_wp2_with fail
      go_ret
      exact Gives.mk rfl HE.out
    · rw [show bnkR bs = zeroR by unfold bnkR; rw [if_neg hg], show bnkF bs = 300 by unfold bnkF; rw [if_neg hg]] at HRD
      have HM := Lib.hid (And.intro (recL_length (R := zeroR) rfl) (recL_one (R := zeroR) rfl))
      have HZB := Lib.hid (fun W => run_bld0 W)
      obtain ⟨M, hM⟩ : ∃ M, M = recL zeroR := ⟨_, rfl⟩
      rw [← hM] at HRD HM HZB HZS
      clear hM hg
      go_wp2_with fail
      refine HRD.out.mono ?_
      rintro e8 w8 ⟨rfl, x8, rfl⟩
      have hs := store_newR (up W8 x8) 50 M HM.out.1 HM.out.2
      have hst := hs.1
      have hml := HM.out.1
      have HS := Lib.hid hs.2.1
      have HRG := Lib.hid hs.2.2.1
      have hsz8 : Below w.heap.size w (up W8 x8) := below_up H8.out H8.out.size x8
      clear hs
      go_upto_region 10 with fail
      obtain ⟨q, hq⟩ : ∃ q, q = (up W8 x8).heap.size := ⟨_, rfl⟩
      rw [← hq]
      rw [← hq] at HS HRG
      refine wp_gen (fun W => Below w.heap.size w W ∧ W.rangeAt q 0 M) ⟨hsz8.trans (HS.out.mono (hq ▸ hsz8.size)), HRG.out⟩ ?_
      clear hst hml HS HRG hsz8 hq
      rintro W9 ⟨hb9, hr9⟩
      have H9 := Lib.hid (And.intro hb9 hr9)
      have HML := Lib.hid HM.out.1
      clear hb9 hr9
      have heq := HZS.out
      go_wp2_with (first | (refine wpList_load_midG 50 (.tmp 9) (by with_reducible rfl) (by rfl) q 0 (by rfl) M _ H9.out.2 Try.underlying50 (by rfl) (by rw [HML.out]; kernel_rfl) ?_) | (refine wpList_bld0 rfl 50 rfl (.agg M.toArray) HZB.out ?_))
      go_ret
      exact Gives.mk rfl H9.out.1
end Go.Proofs.Ytjkgodhoonkinaa
