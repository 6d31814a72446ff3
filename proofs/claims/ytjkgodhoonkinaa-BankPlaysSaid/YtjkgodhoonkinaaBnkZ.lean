/-
  A store: a record begun, finished, recovered.
-/
import Derived.Test.YtjkgodhoonkinaaBnkY
namespace Go.Proofs.Ytjkgodhoonkinaa
open Go.RowKit
set_option linter.unusedVariables false
set_option linter.unusedSimpArgs false

def rcvR (x0 x1 : List Nat) : List Nat := if (cntS x0 x1).1 = -1 then zeroR else (cntS x0 x1).2
def rcvE (x0 x1 : List Nat) : Int := if (cntS x0 x1).1 = -1 then 300 else 0
theorem StoAt.up {w x : World} {s : Nat} {v0 v1 : Value} {bg : Int} {made : Bool} (H : StoAt w s v0 v1 bg made) : StoAt (up w x) s v0 v1 bg made := Cells.up H
theorem Begin_no (w : World) (p : Option Addr) (R : List Nat) (hR : R.length = 50) (H : ∀ W, Below w.heap.size w W → Calls Try.prog 76 #[.pointer p] W (Tells W (.bool false))) :
    Calls Try.prog 48 #[.pointer p, .agg (recL R).toArray] w (Gives w (.int .i64 1)) := by
  obtain ⟨L, hL⟩ : ∃ L, L = recL R := ⟨_, rfl⟩
  rw [← hL]
  have HH := Lib.hid (H _ ((Below.refl w.heap.size w).alloc (Nat.le_refl _) (.cells L.toArray 50)))
  clear H hL
  go_enter Try.func48, Try.ntmps48
  go_wp2_with (go_at_call 76; with_reducible refine Calls.tells (HH.out) ?_)
  go_ret
  exact Gives.mk rfl (by (repeat (first | (with_reducible exact Below.refl _ _) | (with_reducible assumption) | (with_reducible refine Below.alloc ?_ (by (repeat (first | (with_reducible exact Nat.le_refl _) | (with_reducible assumption) | (with_reducible refine le_up ?_) | (with_reducible refine le_alloc ?_) | (with_reducible refine le_setCell ?_) | (with_reducible refine le_drew ?_) | (with_reducible refine le_drewN ?_) | omega))) _) | (with_reducible refine Below.drew ?_) | (with_reducible refine Below.drewN ?_ _) | (with_reducible refine Below.setCell ?_ (by (repeat (first | (with_reducible exact Nat.le_refl _) | (with_reducible assumption) | (with_reducible refine le_up ?_) | (with_reducible refine le_alloc ?_) | (with_reducible refine le_setCell ?_) | (with_reducible refine le_drew ?_) | (with_reducible refine le_drewN ?_) | omega))) _) | (with_reducible refine Below.up ?_ (by (repeat (first | (with_reducible exact Nat.le_refl _) | (with_reducible assumption) | (with_reducible refine le_up ?_) | (with_reducible refine le_alloc ?_) | (with_reducible refine le_setCell ?_) | (with_reducible refine le_drew ?_) | (with_reducible refine le_drewN ?_) | omega)))))))
theorem Finish_no (w : World) (p : Option Addr) (H : Calls Try.prog 76 #[.pointer p] w (Tells w (.bool false))) :
    Calls Try.prog 49 #[.pointer p] w (Tells w (.int .i64 1)) := by
  have HH := Lib.hid H
  clear H
  go_enter Try.func49, Try.ntmps49
  go_wp2_with (go_at_call 76; with_reducible refine Calls.tells (HH.out) ?_)
  go_ret
  exact Tells.mk rfl
theorem Finish_none (w : World) (s : Nat) (v0 v1 : Value) (H : StoAt w s v0 v1 (-1) true) :
    Calls Try.prog 49 #[.pointer (some ⟨s, 0, none⟩)] w (Tells w (.int .i64 5)) := by
  have HH := Lib.hid H
  have c2 : w.cell? ⟨s, 2, none⟩ = some (.int .i64 (-1)) := H.at_ 2 (by omega)
  clear H
  go_enter Try.func49, Try.ntmps49
  go_wp2_with (go_at_call 76; with_reducible refine Calls.tells (bis_made _ _ _ _ _ _ HH.out) ?_)
  go_ret
  exact Tells.mk rfl
set_option maxRecDepth 100000 in
set_option maxHeartbeats 3200000 in
theorem Recover_no (w : World) (p : Option Addr) (H : ∀ W, Below w.heap.size w W → Calls Try.prog 76 #[.pointer p] W (Tells W (.bool false))) :
    Calls Try.prog 51 #[.pointer p] w (Gives w (.tuple #[.agg (recL zeroR).toArray, .int .i64 1])) := by
  have HH := Lib.hid H
  clear H
  go_enter Try.func51, Try.ntmps51
  go_upto_region 1 with fail
  refine wp_gen (fun W => W.there w.heap.size 0 50 ∧ Below w.heap.size w W) ⟨there_new w _ _ 50 (by rfl), by (repeat (first | (with_reducible exact Below.refl _ _) | (with_reducible assumption) | (with_reducible refine Below.alloc ?_ (by (repeat (first | (with_reducible exact Nat.le_refl _) | (with_reducible assumption) | (with_reducible refine le_up ?_) | (with_reducible refine le_alloc ?_) | (with_reducible refine le_setCell ?_) | (with_reducible refine le_drew ?_) | (with_reducible refine le_drewN ?_) | omega))) _) | (with_reducible refine Below.drew ?_) | (with_reducible refine Below.drewN ?_ _) | (with_reducible refine Below.setCell ?_ (by (repeat (first | (with_reducible exact Nat.le_refl _) | (with_reducible assumption) | (with_reducible refine le_up ?_) | (with_reducible refine le_alloc ?_) | (with_reducible refine le_setCell ?_) | (with_reducible refine le_drew ?_) | (with_reducible refine le_drewN ?_) | omega))) _) | (with_reducible refine Below.up ?_ (by (repeat (first | (with_reducible exact Nat.le_refl _) | (with_reducible assumption) | (with_reducible refine le_up ?_) | (with_reducible refine le_alloc ?_) | (with_reducible refine le_setCell ?_) | (with_reducible refine le_drew ?_) | (with_reducible refine le_drewN ?_) | omega))))))⟩ ?_
  rintro W0 ⟨hth0, hbw0⟩
  have HTB := Lib.hid (And.intro hth0 hbw0)
  have HI := Lib.hid (HH.out W0 hbw0)
  clear hth0 hbw0 HH
  go_upto_region 2 with (go_at_call 76; with_reducible refine Calls.tells (HI.out) ?_)
  refine wp_gen (fun W => W.there w.heap.size 0 50 ∧ Below w.heap.size w W) ⟨HTB.out.1, HTB.out.2⟩ ?_
  rintro WE ⟨hth, hbw⟩
  obtain ⟨Z, hZ⟩ : ∃ Z, Z = recL zeroR := ⟨_, rfl⟩
  have hzl : Z.length = 50 := by rw [hZ]; rfl
  have hz1 : Z.toArray.all (·.oneCell') = true := by rw [hZ]; exact recL_one rfl
  have hst := run_storeCells_mid WE w.heap.size 0 Z (by rw [hzl]; exact hth) hz1
  have hrs := World.rangeAt_setCells_same WE w.heap.size 0 Z (by rw [hzl]; exact hth)
  have HRES := Lib.hid (run_loadVar_mid (P := Try.prog) (WE.setCells w.heap.size 0 Z) w.heap.size 0 50 Z _ hrs Try.underlying50 (by rfl) (by rw [hzl]; kernel_rfl))
  have HBW := Lib.hid hbw
  have HZB := Lib.hid (fun W => (show (Instr.build 50 #[]).run Try.prog W = .ok (.agg Z.toArray) W by rw [hZ]; exact run_bld0 W))
  have HZE := Lib.hid hZ
  clear hth hbw hrs hz1 hZ
  go_wp2_with (refine wpList_bld0 rfl 50 rfl (.agg Z.toArray) HZB.out ?_)
  refine bodyPost_ret (v := .tuple #[.agg Z.toArray, .int .i64 1]) ?_ rfl (Gives.mk (by first | rw [HZE.out, HE.out.1, HE.out.2] | rw [HZE.out]) (HBW.out.trans (below_setCells _ _ _ _ _ (Nat.le_refl _))))
  simp only [results, show Try.func51.results = #[ResultVar.cell 2 50, ResultVar.tmp 3] from rfl]
  simp [asAddr, HRES.out]
set_option maxRecDepth 100000 in
set_option maxHeartbeats 3200000 in
theorem Recover_made (s : Nat) (v0 v1 : Value) (x0 x1 : List Nat) (bg : Int) (w : World) (H : StoAt w s v0 v1 bg true) (h0 : Bts w v0 x0) (h1 : Bts w v1 x1) (l0 : x0.length ≤ 1000000) (l1 : x1.length ≤ 1000000) :
    Calls Try.prog 51 #[.pointer (some ⟨s, 0, none⟩)] w (Gives w (.tuple #[.agg (recL (rcvR x0 x1)).toArray, .int .i64 (rcvE x0 x1)])) := by
  have HH := Lib.hid H
  have hlt := H.lt
  have HB := Lib.hid (And.intro h0 (And.intro h1 (And.intro l0 l1)))
  have HOK := Lib.hid (show RecOK (cntS x0 x1).2 ∧ ((cntS x0 x1).1 = -1 ∨ (cntS x0 x1).1 = 0 ∨ (cntS x0 x1).1 = 1) from by
    refine ⟨stepC_ok (stepC_ok zeroR_ok h0.1) h1.1, ?_⟩
    unfold cntS
    rcases stepC_at (c := stepC (-1, zeroR) 0 x0) (k := 1) (x := x1) with h | h
    · exact .inr (.inr h)
    · rcases stepC_at (c := (-1, zeroR)) (k := 0) (x := x0) with h' | h'
      · exact .inr (.inl (h.trans h'))
      · exact .inl (h.trans h'))
  clear H h0 h1 l0 l1
  go_enter Try.func51, Try.ntmps51
  go_upto_region 1 with fail
  refine wp_gen (fun W => W.there w.heap.size 0 50 ∧ Below w.heap.size w W) ⟨there_new w _ _ 50 (by rfl), by (repeat (first | (with_reducible exact Below.refl _ _) | (with_reducible assumption) | (with_reducible refine Below.alloc ?_ (by (repeat (first | (with_reducible exact Nat.le_refl _) | (with_reducible assumption) | (with_reducible refine le_up ?_) | (with_reducible refine le_alloc ?_) | (with_reducible refine le_setCell ?_) | (with_reducible refine le_drew ?_) | (with_reducible refine le_drewN ?_) | omega))) _) | (with_reducible refine Below.drew ?_) | (with_reducible refine Below.drewN ?_ _) | (with_reducible refine Below.setCell ?_ (by (repeat (first | (with_reducible exact Nat.le_refl _) | (with_reducible assumption) | (with_reducible refine le_up ?_) | (with_reducible refine le_alloc ?_) | (with_reducible refine le_setCell ?_) | (with_reducible refine le_drew ?_) | (with_reducible refine le_drewN ?_) | omega))) _) | (with_reducible refine Below.up ?_ (by (repeat (first | (with_reducible exact Nat.le_refl _) | (with_reducible assumption) | (with_reducible refine le_up ?_) | (with_reducible refine le_alloc ?_) | (with_reducible refine le_setCell ?_) | (with_reducible refine le_drew ?_) | (with_reducible refine le_drewN ?_) | omega))))))⟩ ?_
  rintro W0 ⟨hth0, hbw0⟩
  have HT0 := Lib.hid (And.intro hth0 hbw0)
  have HH0 := Lib.hid (HH.out.below hbw0 hlt)
  have HC := Lib.hid (counts_any s v0 v1 x0 x1 bg W0 HH0.out (HB.out.1.below hbw0) (HB.out.2.1.below hbw0) HB.out.2.2.1 HB.out.2.2.2)
  clear hth0 hbw0 HH
  obtain ⟨c, hc⟩ : ∃ c, c = cntS x0 x1 := ⟨_, rfl⟩
  rw [← hc] at HC HOK
  have HCE := Lib.hid hc
  clear hc
  obtain ⟨cz, cR⟩ := c
  dsimp only at HC HOK
  go_wp2_with (go_at_call 76; with_reducible refine Calls.tells (bis_made _ _ _ _ _ _ HH0.out) ?_)
  refine HC.out.mono ?_
  rintro e1 w1 ⟨rfl, xx, rfl⟩
  obtain ⟨L, hL⟩ : ∃ L, L = recL cR := ⟨_, rfl⟩
  have hll : L.length = 50 := by rw [hL]; exact recL_length HOK.out.1.1
  have hone : L.toArray.all (·.oneCell') = true := by rw [hL]; exact recL_one HOK.out.1.1
  have hs := store_newR (up W0 xx) 50 L hll hone
  have hst := hs.1
  have HS := Lib.hid hs.2
  have HLE := Lib.hid (And.intro hL (And.intro hll hone))
  rw [← hL]
  clear hs hL hone
  go_upto_region 4 with fail
  refine wp_gen (fun W => W.there w.heap.size 0 50 ∧ Below w.heap.size w W ∧ W.rangeAt (up W0 xx).heap.size 0 L) ?_ ?_
  · obtain ⟨t0, b0⟩ := HT0.out
    have hz := there_lt (there_up0 t0 xx) (by omega)
    exact ⟨there_below HS.out.1 hz (there_up0 t0 xx), (below_up b0 b0.size xx).trans (HS.out.1.mono (Nat.le_trans b0.size (up_size _ _))), HS.out.2.1⟩
  rintro W4 ⟨ht4, hb4, hr4⟩
  have H4 := Lib.hid (And.intro ht4 (And.intro hb4 hr4))
  clear ht4 hb4 hr4 hst HS HC HH0 HT0 hll
  generalize (up W0 xx).heap.size = q at *
  by_cases hz : cz = -1
  · subst hz
    have HTB := Lib.hid (And.intro H4.out.1 H4.out.2.1)
    have HE := Lib.hid (show recL zeroR = recL (rcvR x0 x1) ∧ (300 : Int) = rcvE x0 x1 by unfold rcvR rcvE; rw [← HCE.out]; exact ⟨rfl, rfl⟩)
    go_upto_region 5 with fail
    refine wp_gen (fun W => W.there w.heap.size 0 50 ∧ Below w.heap.size w W) ⟨HTB.out.1, HTB.out.2⟩ ?_
    rintro WE ⟨hth, hbw⟩
    obtain ⟨Z, hZ⟩ : ∃ Z, Z = recL zeroR := ⟨_, rfl⟩
    have hzl : Z.length = 50 := by rw [hZ]; rfl
    have hz1 : Z.toArray.all (·.oneCell') = true := by rw [hZ]; exact recL_one rfl
    have hst := run_storeCells_mid WE w.heap.size 0 Z (by rw [hzl]; exact hth) hz1
    have hrs := World.rangeAt_setCells_same WE w.heap.size 0 Z (by rw [hzl]; exact hth)
    have HRES := Lib.hid (run_loadVar_mid (P := Try.prog) (WE.setCells w.heap.size 0 Z) w.heap.size 0 50 Z _ hrs Try.underlying50 (by rfl) (by rw [hzl]; kernel_rfl))
    have HBW := Lib.hid hbw
    have HZB := Lib.hid (fun W => (show (Instr.build 50 #[]).run Try.prog W = .ok (.agg Z.toArray) W by rw [hZ]; exact run_bld0 W))
    have HZE := Lib.hid hZ
    clear hth hbw hrs hz1 hZ
    go_wp2_with (refine wpList_bld0 rfl 50 rfl (.agg Z.toArray) HZB.out ?_)
    refine bodyPost_ret (v := .tuple #[.agg Z.toArray, .int .i64 300]) ?_ rfl (Gives.mk (by first | rw [HZE.out, HE.out.1, HE.out.2] | rw [HZE.out]) (HBW.out.trans (below_setCells _ _ _ _ _ (Nat.le_refl _))))
    simp only [results, show Try.func51.results = #[ResultVar.cell 2 50, ResultVar.tmp 3] from rfl]
    simp [asAddr, HRES.out]
  · have HE := Lib.hid (show L = recL (rcvR x0 x1) ∧ (0 : Int) = rcvE x0 x1 by unfold rcvR rcvE; rw [← HCE.out, HLE.out.1]; dsimp only; rw [if_neg hz, if_neg hz]; exact ⟨rfl, rfl⟩)
    have hll := HLE.out.2.1
    have hst2 := run_storeCells_mid W4 w.heap.size 0 L (by rw [hll]; exact H4.out.1) HLE.out.2.2
    have hrs := World.rangeAt_setCells_same W4 w.heap.size 0 L (by rw [hll]; exact H4.out.1)
    have HRES := Lib.hid (run_loadVar_mid (P := Try.prog) (W4.setCells w.heap.size 0 L) w.heap.size 0 50 L _ hrs Try.underlying50 (by rfl) (by rw [hll]; kernel_rfl))
    have HLR := Lib.hid H4.out.2.2
    have HLL := Lib.hid hll
    have hz' : ¬ (cz = -1) := hz
    clear hrs
    go_wp2_with (refine wpList_load_mid rfl 50 (.tmp 5) (by rfl) q 0 (by rfl) L _ HLR.out Try.underlying50 (by rfl) (by rw [HLL.out]; kernel_rfl) ?_)
    refine bodyPost_ret (v := .tuple #[.agg L.toArray, .int .i64 0]) ?_ rfl (Gives.mk (by rw [← HE.out.1, ← HE.out.2]) (H4.out.2.1.trans (below_setCells _ _ _ _ _ (Nat.le_refl _))))
    simp only [results, show Try.func51.results = #[ResultVar.cell 2 50, ResultVar.tmp 3] from rfl]
    simp [asAddr, HRES.out]
end Go.Proofs.Ytjkgodhoonkinaa
