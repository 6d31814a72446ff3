/-
  The example of the keeper of quarantines; the law QuarVoid, walked.
-/
import Derived.Test.YtcdhhnodfgpkiaaQuarV
import Derived.Test.YtcdhhnodfgpkiaaGen
import Derived.Deep.CutRange
namespace Go.Proofs.Ytcdhhnodfgpkiaa
open Go.RowKit
set_option linter.unusedVariables false

def wS0 : QuarS := QuarS.new 2 5 1
def wS1 : QuarS := hapS wS0 6 0 2
def wS2 : QuarS := hapS wS1 6 0 2
def wS3 : QuarS := hapS wS2 6 4 1
def wS4 : QuarS := hapS wS3 6 5 1
set_option maxRecDepth 100000 in
theorem works25 (w : World) : Calls Try.prog 29 #[] w (Gives w (.bool true)) := by
  have ok0 : QuarOK wS0 0 := QuarOK.new (bad := 2) (hold := 5) (prove := 1) rfl
  have ok1 : QuarOK wS1 1 := ok0.hap 6 0 2
  have ok2 : QuarOK wS2 2 := ok1.hap 6 0 2
  have ok3 : QuarOK wS3 3 := ok2.hap 6 4 1
  have ok4 : QuarOK wS4 4 := ok3.hap 6 5 1
  have n1 : hapN wS0 6 0 2 = 1 := by decide
  have n2 : hapN wS1 6 0 2 = 2 := by decide
  have n3 : hapN wS2 6 4 1 = 2 := by decide
  have n4 : hapN wS3 6 5 1 = 0 := by decide
  have e1 : hapE 6 0 = 0 := by decide
  have e3 : hapE 6 4 = 0 := by decide
  have e4 : hapE 6 5 = 0 := by decide
  have s5 : (srcB 6 && decide ((qlookO wS4 6).st < 2)) = true := by decide
  have s6 : (qlookO wS4 6).times = 1 := by decide
  go_enter Try.func29, Try.ntmps29
  go_wp2_with fail
  refine (qNew_good (bad := 2) (hold := 5) (prove := 1) _ rfl).mono ?_
  rintro e w1 ⟨c, rfl, hc, h1, b1⟩
  have H1 := Lib.hid h1
  have B1 := Lib.hid b1
  clear h1 b1
  go_wp2_with fail
  refine (qBad_any c 6 0 wS0 0 _ H1.out ok0 (by omega)).mono ?_
  rintro e w2 ⟨he, h2, g2⟩
  rw [n1, e1] at he
  subst he
  have H2 := Lib.hid h2
  have B2 : Hid (Below w.heap.size w w2) := Lib.hid (below_gr B1.out g2 B1.out.size hc)
  clear h2 g2
  go_wp2_with fail
  refine (qBad_any c 6 0 wS1 1 _ H2.out ok1 (by omega)).mono ?_
  rintro e w3 ⟨he, h3, g3⟩
  rw [n2, e1] at he
  subst he
  have H3 := Lib.hid h3
  have B3 : Hid (Below w.heap.size w w3) := Lib.hid (below_gr B2.out g3 B2.out.size hc)
  clear h3 g3
  go_wp2_with fail
  refine (qGood_any c 6 4 wS2 2 _ H3.out ok2 (by omega)).mono ?_
  rintro e w4 ⟨he, h4, g4⟩
  rw [n3, e3] at he
  subst he
  have H4 := Lib.hid h4
  have B4 : Hid (Below w.heap.size w w4) := Lib.hid (below_gr B3.out g4 B3.out.size hc)
  clear h4 g4
  go_wp2_with fail
  refine (qGood_any c 6 5 wS3 3 _ H4.out ok3 (by omega)).mono ?_
  rintro e w5 ⟨he, h5, g5⟩
  rw [n4, e4] at he
  subst he
  have H5 := Lib.hid h5
  have B5 : Hid (Below w.heap.size w w5) := Lib.hid (below_gr B4.out g5 B4.out.size hc)
  clear h5 g5
  have H5 : Hid (QuarAt w5 c wS4) := H5
  go_wp2_with (first | (go_at_call 31; with_reducible refine Calls.tells (qCounts_is (S := wS4) H5.out ok4 s5) ?_) | (go_at_call 32; with_reducible refine Calls.tells (qTimes_is (S := wS4) H5.out ok4 s6) ?_))
  go_ret
  exact Gives.mk rfl B5.out
set_option maxRecDepth 100000 in
set_option maxHeartbeats 800000 in
theorem QuarVoid_any (d s t : Int) (w : World) : Calls Try.prog 12 #[.agg #[.int .i64 d, .int .i64 s, .int .i64 t]] w (Gives w (.bool true)) := by
  go_enter Try.func12, Try.ntmps12
  go_upto_region 4 with (go_at_call 29; (first | with_reducible refine Calls.fold (works25 _) ?_ | with_reducible refine Calls.fresh (works25 _) ?_); intro x1)
  refine wp_gen (fun W => Below w.heap.size w W ∧ w.heap.size < W.heap.size ∧ W.cell? ⟨w.heap.size, 0, none⟩ = some (.int .i64 d) ∧ W.cell? ⟨w.heap.size, 1, none⟩ = some (.int .i64 s) ∧ W.cell? ⟨w.heap.size, 2, none⟩ = some (.int .i64 t)) ⟨by (repeat (first | (with_reducible exact Below.refl _ _) | (with_reducible assumption) | (with_reducible refine Below.alloc ?_ (by (repeat (first | (with_reducible exact Nat.le_refl _) | (with_reducible assumption) | (with_reducible refine le_up ?_) | (with_reducible refine le_alloc ?_) | (with_reducible refine le_setCell ?_) | (with_reducible refine le_drew ?_) | (with_reducible refine le_drewN ?_) | omega))) _) | (with_reducible refine Below.drew ?_) | (with_reducible refine Below.drewN ?_ _) | (with_reducible refine Below.setCell ?_ (by (repeat (first | (with_reducible exact Nat.le_refl _) | (with_reducible assumption) | (with_reducible refine le_up ?_) | (with_reducible refine le_alloc ?_) | (with_reducible refine le_setCell ?_) | (with_reducible refine le_drew ?_) | (with_reducible refine le_drewN ?_) | omega))) _) | (with_reducible refine Below.up ?_ (by (repeat (first | (with_reducible exact Nat.le_refl _) | (with_reducible assumption) | (with_reducible refine le_up ?_) | (with_reducible refine le_alloc ?_) | (with_reducible refine le_setCell ?_) | (with_reducible refine le_drew ?_) | (with_reducible refine le_drewN ?_) | omega)))))), LtSize.lt, by simp, by simp, by simp⟩ ?_
  rintro w2 ⟨hb2, hl2, g0, g1, g2⟩
  have HB2 := Lib.hid hb2
  have G0 := Lib.hid g0
  have G1 := Lib.hid g1
  have G2 := Lib.hid g2
  clear hb2 g0 g1 g2
  haveI : LtSize w.heap.size w2 := ⟨hl2⟩
  go_upto_region 5 with fail
  refine wp_gen (fun W => Below w2.heap.size w2 W ∧ W.cell? ⟨w2.heap.size, 1, none⟩ = some (.int .i64 0) ∧ w2.heap.size < W.heap.size) ⟨by (repeat (first | (with_reducible exact Below.refl _ _) | (with_reducible assumption) | (with_reducible refine Below.alloc ?_ (by (repeat (first | (with_reducible exact Nat.le_refl _) | (with_reducible assumption) | (with_reducible refine le_up ?_) | (with_reducible refine le_alloc ?_) | (with_reducible refine le_setCell ?_) | (with_reducible refine le_drew ?_) | (with_reducible refine le_drewN ?_) | omega))) _) | (with_reducible refine Below.drew ?_) | (with_reducible refine Below.drewN ?_ _) | (with_reducible refine Below.setCell ?_ (by (repeat (first | (with_reducible exact Nat.le_refl _) | (with_reducible assumption) | (with_reducible refine le_up ?_) | (with_reducible refine le_alloc ?_) | (with_reducible refine le_setCell ?_) | (with_reducible refine le_drew ?_) | (with_reducible refine le_drewN ?_) | omega))) _) | (with_reducible refine Below.up ?_ (by (repeat (first | (with_reducible exact Nat.le_refl _) | (with_reducible assumption) | (with_reducible refine le_up ?_) | (with_reducible refine le_alloc ?_) | (with_reducible refine le_setCell ?_) | (with_reducible refine le_drew ?_) | (with_reducible refine le_drewN ?_) | omega)))))), by simp, LtSize.lt⟩ ?_
  rintro w3 ⟨hb3, z1, hl3⟩
  have HB3 : Hid (Below w.heap.size w w3) := Lib.hid (HB2.out.trans (hb3.mono HB2.out.size))
  haveI : LtSize w2.heap.size w3 := ⟨hl3⟩
  haveI : LtSize w.heap.size w3 := ⟨by omega⟩
  have g0 : w3.cell? ⟨w.heap.size, 0, none⟩ = some (.int .i64 d) := by rw [hb3.cell (p := ⟨w.heap.size, _, none⟩) hl2]; exact G0.out
  have g1 : w3.cell? ⟨w.heap.size, 1, none⟩ = some (.int .i64 s) := by rw [hb3.cell (p := ⟨w.heap.size, _, none⟩) hl2]; exact G1.out
  have g2 : w3.cell? ⟨w.heap.size, 2, none⟩ = some (.int .i64 t) := by rw [hb3.cell (p := ⟨w.heap.size, _, none⟩) hl2]; exact G2.out
  clear hb3
  go_upto_region 7 with (first
    | (go_at_call 33; (first | with_reducible refine Calls.fold (do25_nil d s t _) ?_ | with_reducible refine Calls.fresh (do25_nil d s t _) ?_); intro x1)
    | (go_at_call 33; (first | with_reducible refine Calls.fold (do25_void _ d s t _ (by simp [z1])) ?_ | with_reducible refine Calls.fresh (do25_void _ d s t _ (by simp [z1])) ?_); intro x1))
  (refine wp_region_up (by kernel_rfl) (by kernel_rfl) ?_; (repeat (go_big_quiet_step (first | (go_at_call 40; with_reducible exact Calls.up_tells (qState_nil s _)) | (go_at_call 40; with_reducible exact Calls.up_tells (qState_void _ s _ (by simp [z1]))) | (go_at_call 43; with_reducible exact Calls.up_tells (qUntil_nil s _)) | (go_at_call 32; with_reducible exact Calls.up_tells (qTimes_void _ s _ (by simp [z1]))) | (go_at_call 31; with_reducible exact Calls.up_tells (qCounts_nil s _)) | (go_at_call 31; with_reducible exact Calls.up_tells (qCounts_void _ s _ (by simp [z1])))))); refine wpQuiet_nil ?_; intro _ hw'; obtain ⟨xq, hw''⟩ := hw'; subst hw'')
  go_wp2_with fail
  go_ret
  exact Gives.mk rfl (below_up (below_up HB3.out HB3.out.size _) (by (repeat (first | (with_reducible exact Nat.le_refl _) | (with_reducible assumption) | (with_reducible refine le_up ?_) | (with_reducible refine le_alloc ?_) | (with_reducible refine le_setCell ?_) | (with_reducible refine le_drew ?_) | (with_reducible refine le_drewN ?_) | omega))) _)
end Go.Proofs.Ytcdhhnodfgpkiaa
