/-
  The reference's store: a record finished, a bank spoilt.
-/
import Derived.Test.YtjkgodhoonkinaaBnkM
import Derived.Test.YtjkgodhoonkinaaBnkQ
/-
  The reference's store: the record that counts.
-/
namespace Go.Proofs.Ytjkgodhoonkinaa
open Go.RowKit
set_option linter.unusedVariables false
set_option linter.unusedSimpArgs false

theorem rcnt_cases (x0 x1 : List Nat) : (rcnt x0 x1 = -1 ∧ rcvR x0 x1 = zeroR ∧ rcvE x0 x1 = 300) ∨ (rcnt x0 x1 = 0 ∧ rcvR x0 x1 = rdR x0 ∧ rcvE x0 x1 = 0) ∨ (rcnt x0 x1 = 1 ∧ rcvR x0 x1 = rdR x1 ∧ rcvE x0 x1 = 0) := by
  have h1 := rcnt_eq x0 x1
  have h2 := cntS_read x0 x1
  have h3 : rcnt x0 x1 = -1 ∨ rcnt x0 x1 = 0 ∨ rcnt x0 x1 = 1 := by
    unfold rcnt
    split
    · exact .inr (.inl rfl)
    · split
      · exact .inr (.inr rfl)
      · exact .inl rfl
  unfold rcvR rcvE
  rw [← h1] at h2 ⊢
  rcases h3 with h | h | h
  · rw [h]; exact .inl ⟨rfl, rfl, rfl⟩
  · rw [h] at h2 ⊢; exact .inr (.inl ⟨rfl, h2, rfl⟩)
  · rw [h] at h2 ⊢; exact .inr (.inr ⟨rfl, h2, rfl⟩)
set_option maxRecDepth 100000 in
set_option maxHeartbeats 3200000 in
theorem rRecover_any (w : World) (s : Nat) (v0 v1 : Value) (bg : Int) (x0 x1 : List Nat) (H : RstAt w s v0 v1 bg) (h0 : Bts w v0 x0) (h1 : Bts w v1 x1) (l0 : x0.length ≤ 1000000) (l1 : x1.length ≤ 1000000) :
    Calls Try.prog 56 #[.pointer (some ⟨s, 0, none⟩)] w (Gives w (.tuple #[.agg (recL (rcvR x0 x1)).toArray, .int .i64 (rcvE x0 x1)])) := by
  have hlt := H.lt
  have HRD0 := Lib.hid (fun (W : World) (hb : Below w.heap.size w W) => rread_any W s 0 v0 x0 (by omega) (H.below hb H.lt).lt ((H.below hb H.lt).at_ 0 (by omega)) (h0.below hb) l0)
  have HRD1 := Lib.hid (fun (W : World) (hb : Below w.heap.size w W) => rread_any W s 1 v1 x1 (by omega) (H.below hb H.lt).lt ((H.below hb H.lt).at_ 1 (by omega)) (h1.below hb) l1)
  have HCN := Lib.hid (fun (W : World) (hb : Below w.heap.size w W) => rcounts_any W s v0 v1 bg x0 x1 (H.below hb H.lt) (h0.below hb) (h1.below hb) l0 l1)
  have HCA := Lib.hid (rcnt_cases x0 x1)
  have HOK := Lib.hid (And.intro (rdR_ok h0.1) (rdR_ok h1.1))
  clear H h0 h1 l0 l1
  generalize rcvE x0 x1 = er at *
  generalize rcvR x0 x1 = rr at *
  generalize rcnt x0 x1 = cz at *
  go_enter Try.func56, Try.ntmps56
  go_upto_region 1 with fail
  refine wp_gen (fun W => W.there w.heap.size 0 50 ∧ Below w.heap.size w W ∧ w.heap.size < W.heap.size) ⟨there_new w _ _ 50 (by rfl), by (repeat (first | (with_reducible exact Below.refl _ _) | (with_reducible assumption) | (with_reducible refine Below.alloc ?_ (by (repeat (first | (with_reducible exact Nat.le_refl _) | (with_reducible assumption) | (with_reducible refine le_up ?_) | (with_reducible refine le_alloc ?_) | (with_reducible refine le_setCell ?_) | (with_reducible refine le_drew ?_) | (with_reducible refine le_drewN ?_) | omega))) _) | (with_reducible refine Below.drew ?_) | (with_reducible refine Below.drewN ?_ _) | (with_reducible refine Below.setCell ?_ (by (repeat (first | (with_reducible exact Nat.le_refl _) | (with_reducible assumption) | (with_reducible refine le_up ?_) | (with_reducible refine le_alloc ?_) | (with_reducible refine le_setCell ?_) | (with_reducible refine le_drew ?_) | (with_reducible refine le_drewN ?_) | omega))) _) | (with_reducible refine Below.up ?_ (by (repeat (first | (with_reducible exact Nat.le_refl _) | (with_reducible assumption) | (with_reducible refine le_up ?_) | (with_reducible refine le_alloc ?_) | (with_reducible refine le_setCell ?_) | (with_reducible refine le_drew ?_) | (with_reducible refine le_drewN ?_) | omega)))))), by simp⟩ ?_
  rintro W1 ⟨ht1, hb1, hl1⟩
  have H1 := Lib.hid (And.intro ht1 (And.intro hb1 hl1))
  have HC := Lib.hid (HCN.out W1 hb1)
  clear ht1 hb1 hl1 HCN
  go_wp2_with fail
  refine HC.out.mono ?_
  rintro a1 w1 ⟨rfl, y1, rfl⟩
  rcases HCA.out with ⟨hz, e1, e2⟩ | ⟨hz, e1, e2⟩ | ⟨hz, e1, e2⟩
  · subst hz
    have HE := Lib.hid (And.intro e1 e2)
    clear e1 e2 HCA HRD0 HRD1 HOK
    go_upto_region 3 with fail
    refine wp_gen (fun W => W.there w.heap.size 0 50 ∧ Below w.heap.size w W) ⟨there_up0 H1.out.1 y1, below_up H1.out.2.1 H1.out.2.1.size y1⟩ ?_
    clear HC H1
    rintro WE ⟨hth, hbw⟩
    obtain ⟨Z, hZ⟩ : ∃ Z, Z = recL zeroR := ⟨_, rfl⟩
    have hzl : Z.length = 50 := by rw [hZ]; rfl
    have hz1 : Z.toArray.all (·.oneCell') = true := by rw [hZ]; exact recL_one rfl
    have hst := run_storeCells_mid WE w.heap.size 0 Z (by rw [hzl]; exact hth) hz1
    have hrs := World.rangeAt_setCells_same WE w.heap.size 0 Z (by rw [hzl]; exact hth)
    have HRES := Lib.hid (run_loadVar_mid (P := Try.prog) (WE.setCells w.heap.size 0 Z) w.heap.size 0 69 Z _ hrs Try.underlying69 (by rfl) (by rw [hzl]; kernel_rfl))
    have HBW := Lib.hid hbw
    have HZB := Lib.hid (fun W => (show (Instr.build 69 #[]).run Try.prog W = .ok (.agg Z.toArray) W by rw [hZ]; exact run_bld0r W))
    have HZE := Lib.hid hZ
    clear hth hbw hrs hz1 hZ
    go_wp2_with (refine wpList_bld0 rfl 69 rfl (.agg Z.toArray) HZB.out ?_)
    refine bodyPost_ret (v := .tuple #[.agg Z.toArray, .int .i64 300]) ?_ rfl (Gives.mk (by rw [HZE.out, HE.out.1, HE.out.2]) (HBW.out.trans (below_setCells _ _ _ _ _ (Nat.le_refl _))))
    simp only [results, show Try.func56.results = #[ResultVar.cell 2 69, ResultVar.tmp 3] from rfl]
    simp [asAddr, HRES.out]
  · subst hz
    obtain ⟨L, hL⟩ : ∃ L, L = recL (rdR x0) := ⟨_, rfl⟩
    have HE := Lib.hid (And.intro e1 e2)
    have HL := Lib.hid (And.intro hL (show L.length = 50 ∧ L.toArray.all (·.oneCell') = true by rw [hL]; exact ⟨recL_length HOK.out.1.1, recL_one HOK.out.1.1⟩))
    obtain ⟨g0, hg0⟩ : ∃ g, g = goodX x0 := ⟨_, rfl⟩
    rw [← hL, ← hg0] at HRD0
    have HRD := Lib.hid HRD0.out
    clear e1 e2 HCA HRD0 HRD1 HOK hL hg0
    go_upto_region 4 with fail
    refine wp_gen (fun W => W.there w.heap.size 0 50 ∧ Below w.heap.size w W ∧ w.heap.size < W.heap.size) ?_ ?_
    · obtain ⟨t0, b0, l0⟩ := H1.out
      exact ⟨there_up0 t0 y1, below_up b0 b0.size y1, Nat.lt_of_lt_of_le l0 (up_size _ _)⟩
    clear HC H1
    rintro W2 ⟨ht2, hb2, hl2⟩
    have H2 := Lib.hid (And.intro ht2 (And.intro hb2 hl2))
    have HRR := Lib.hid (HRD.out W2 hb2)
    clear ht2 hb2 hl2 HRD
    go_wp2_with fail
    refine HRR.out.mono ?_
    rintro a2 w2 ⟨rfl, y2, rfl⟩
    have hs := store_newR (up W2 y2) 69 L HL.out.2.1 HL.out.2.2
    have hst := hs.1
    have hml := HL.out.2.1
    have HS := Lib.hid hs.2
    clear hs
    go_upto_region 5 with fail
    refine wp_gen (fun W => W.there w.heap.size 0 50 ∧ Below w.heap.size w W ∧ W.rangeAt (up W2 y2).heap.size 0 L) ?_ ?_
    · obtain ⟨t0, b0, l0⟩ := H2.out
      have hb := (up_below W2 y2).trans (HS.out.1.mono (up_size W2 y2))
      exact ⟨there_below hb l0 t0, b0.trans (hb.mono b0.size), HS.out.2.1⟩
    clear hst HS H2 HRR hml
    generalize (up W2 y2).heap.size = q
    rintro W3 ⟨ht3, hb3, hr3⟩
    have hll := HL.out.2.1
    have hst2 := run_storeCells_mid W3 w.heap.size 0 L (by rw [hll]; exact ht3) HL.out.2.2
    have hrs := World.rangeAt_setCells_same W3 w.heap.size 0 L (by rw [hll]; exact ht3)
    have HRES := Lib.hid (run_loadVar_mid (P := Try.prog) (W3.setCells w.heap.size 0 L) w.heap.size 0 69 L _ hrs Try.underlying69 (by rfl) (by rw [hll]; kernel_rfl))
    have HLR := Lib.hid hr3
    have HB3 := Lib.hid hb3
    clear hrs ht3 hr3 hb3
    go_wp2_with (refine wpList_load_mid rfl 69 (.tmp 5) (by rfl) q 0 (by rfl) L _ HLR.out Try.underlying69 (by rfl) (by rw [HL.out.2.1]; kernel_rfl) ?_)
    refine bodyPost_ret (v := .tuple #[.agg L.toArray, .int .i64 0]) ?_ rfl (Gives.mk (by rw [HE.out.1, HE.out.2, HL.out.1]) (HB3.out.trans (below_setCells _ _ _ _ _ (Nat.le_refl _))))
    simp only [results, show Try.func56.results = #[ResultVar.cell 2 69, ResultVar.tmp 3] from rfl]
    simp [asAddr, HRES.out]
  · subst hz
    obtain ⟨L, hL⟩ : ∃ L, L = recL (rdR x1) := ⟨_, rfl⟩
    have HE := Lib.hid (And.intro e1 e2)
    have HL := Lib.hid (And.intro hL (show L.length = 50 ∧ L.toArray.all (·.oneCell') = true by rw [hL]; exact ⟨recL_length HOK.out.2.1, recL_one HOK.out.2.1⟩))
    obtain ⟨g0, hg0⟩ : ∃ g, g = goodX x1 := ⟨_, rfl⟩
    rw [← hL, ← hg0] at HRD1
    have HRD := Lib.hid HRD1.out
    clear e1 e2 HCA HRD0 HRD1 HOK hL hg0
    go_upto_region 4 with fail
    refine wp_gen (fun W => W.there w.heap.size 0 50 ∧ Below w.heap.size w W ∧ w.heap.size < W.heap.size) ?_ ?_
    · obtain ⟨t0, b0, l0⟩ := H1.out
      exact ⟨there_up0 t0 y1, below_up b0 b0.size y1, Nat.lt_of_lt_of_le l0 (up_size _ _)⟩
    clear HC H1
    rintro W2 ⟨ht2, hb2, hl2⟩
    have H2 := Lib.hid (And.intro ht2 (And.intro hb2 hl2))
    have HRR := Lib.hid (HRD.out W2 hb2)
    clear ht2 hb2 hl2 HRD
    go_wp2_with fail
    refine HRR.out.mono ?_
    rintro a2 w2 ⟨rfl, y2, rfl⟩
    have hs := store_newR (up W2 y2) 69 L HL.out.2.1 HL.out.2.2
    have hst := hs.1
    have hml := HL.out.2.1
    have HS := Lib.hid hs.2
    clear hs
    go_upto_region 5 with fail
    refine wp_gen (fun W => W.there w.heap.size 0 50 ∧ Below w.heap.size w W ∧ W.rangeAt (up W2 y2).heap.size 0 L) ?_ ?_
    · obtain ⟨t0, b0, l0⟩ := H2.out
      have hb := (up_below W2 y2).trans (HS.out.1.mono (up_size W2 y2))
      exact ⟨there_below hb l0 t0, b0.trans (hb.mono b0.size), HS.out.2.1⟩
    clear hst HS H2 HRR hml
    generalize (up W2 y2).heap.size = q
    rintro W3 ⟨ht3, hb3, hr3⟩
    have hll := HL.out.2.1
    have hst2 := run_storeCells_mid W3 w.heap.size 0 L (by rw [hll]; exact ht3) HL.out.2.2
    have hrs := World.rangeAt_setCells_same W3 w.heap.size 0 L (by rw [hll]; exact ht3)
    have HRES := Lib.hid (run_loadVar_mid (P := Try.prog) (W3.setCells w.heap.size 0 L) w.heap.size 0 69 L _ hrs Try.underlying69 (by rfl) (by rw [hll]; kernel_rfl))
    have HLR := Lib.hid hr3
    have HB3 := Lib.hid hb3
    clear hrs ht3 hr3 hb3
    go_wp2_with (refine wpList_load_mid rfl 69 (.tmp 5) (by rfl) q 0 (by rfl) L _ HLR.out Try.underlying69 (by rfl) (by rw [HL.out.2.1]; kernel_rfl) ?_)
    refine bodyPost_ret (v := .tuple #[.agg L.toArray, .int .i64 0]) ?_ rfl (Gives.mk (by rw [HE.out.1, HE.out.2, HL.out.1]) (HB3.out.trans (below_setCells _ _ _ _ _ (Nat.le_refl _))))
    simp only [results, show Try.func56.results = #[ResultVar.cell 2 69, ResultVar.tmp 3] from rfl]
    simp [asAddr, HRES.out]
end Go.Proofs.Ytjkgodhoonkinaa

/-
  The reference's store: a record begun.
-/
namespace Go.Proofs.Ytjkgodhoonkinaa
open Go.RowKit
set_option linter.unusedVariables false
set_option linter.unusedSimpArgs false

/-- What a record that was begun leaves: bank k holds 0 and its bytes, in a block that is new. -/
def RBegunR (w : World) (s : Nat) (v0 v1 : Value) (k : Nat) (B : List Nat) (e : Ending) (w' : World) : Prop :=
  ∃ v, e = .returned (.int .i64 0) ∧ RstAt w' s (if k = 0 then v else v0) (if k = 0 then v1 else v) (k : Int) ∧ OwnB w' w.heap.size v (0 :: B) ∧ w.grownBy w' (some s)
theorem gr_setlt {w w' : World} {row : Option Nat} (h : w.grownBy w' row) {b : Nat} (hb : row = some b) (i : Nat) (v : Value) : w.grownBy (w'.setCell ⟨b, i, none⟩ v) row := by
  subst hb
  exact gr_trans h (gr_set _ _ _ _)
set_option maxRecDepth 100000 in
set_option maxHeartbeats 4000000 in
theorem rBegin_made (s : Nat) (v0 v1 : Value) (x0 x1 : List Nat) (bg : Int) (R : List Nat) (w : World) (H : RstAt w s v0 v1 bg) (h0 : Bts w v0 x0) (h1 : Bts w v1 x1) (l0 : x0.length ≤ 1000000) (l1 : x1.length ≤ 1000000) (hR : RecOK R) (hR0 : R.getD 0 0 ≠ 0) :
    Calls Try.prog 78 #[.pointer (some ⟨s, 0, none⟩), .agg (recL R).toArray] w (RBegunR w s v0 v1 (nextK x0 x1) (putB (recB R))) := by
  obtain ⟨a0, n0, c0, rfl⟩ := h0.slice
  obtain ⟨a1, n1, c1, rfl⟩ := h1.slice
  have HH := Lib.hid H
  have hlt := H.lt
  have HB := Lib.hid (And.intro h0 (And.intro h1 (And.intro l0 l1)))
  have HBR := Lib.hid (fun W => rBytes_rec R W hR)
  have HK := Lib.hid (show nextK x0 x1 = if rcnt x0 x1 = 0 then 1 else 0 by rw [rcnt_eq]; rfl)
  have HA := Lib.hid (rangeAt_boxed (w := w) (g := w.heap.size) (recL R) 69)
  have HEB := Lib.hid (show bnkE R = 0 ∧ bnkB R = putB (recB R) ∧ (putB (recB R)).length ≤ 1000 by unfold bnkE bnkB; rw [if_neg hR0, if_neg hR0, putB_length, recB_length hR.1]; exact ⟨rfl, rfl, by decide⟩)
  obtain ⟨L, hL⟩ : ∃ L, L = recL R := ⟨_, rfl⟩
  have HLL := Lib.hid (show L.length = 50 by rw [hL]; exact recL_length hR.1)
  rw [← hL] at HBR HA ⊢
  clear H h0 h1 l0 l1 hL hR0 hR
  obtain ⟨B, hBe⟩ : ∃ B, B = putB (recB R) := ⟨_, rfl⟩
  rw [← hBe] at HEB ⊢
  have HBL := Lib.hid HEB.out.2.2
  clear hBe
  generalize Value.slice a0 n0 c0 = v0 at *
  generalize Value.slice a1 n1 c1 = v1 at *
  go_enter Try.func78, Try.ntmps78
  go_upto_region 1 with fail
  refine wp_gen (fun W => Below w.heap.size w W ∧ W.rangeAt w.heap.size 0 L) ⟨by (repeat (first | (with_reducible exact Below.refl _ _) | (with_reducible assumption) | (with_reducible refine Below.alloc ?_ (by (repeat (first | (with_reducible exact Nat.le_refl _) | (with_reducible assumption) | (with_reducible refine le_up ?_) | (with_reducible refine le_alloc ?_) | (with_reducible refine le_setCell ?_) | (with_reducible refine le_drew ?_) | (with_reducible refine le_drewN ?_) | omega))) _) | (with_reducible refine Below.drew ?_) | (with_reducible refine Below.drewN ?_ _) | (with_reducible refine Below.setCell ?_ (by (repeat (first | (with_reducible exact Nat.le_refl _) | (with_reducible assumption) | (with_reducible refine le_up ?_) | (with_reducible refine le_alloc ?_) | (with_reducible refine le_setCell ?_) | (with_reducible refine le_drew ?_) | (with_reducible refine le_drewN ?_) | omega))) _) | (with_reducible refine Below.up ?_ (by (repeat (first | (with_reducible exact Nat.le_refl _) | (with_reducible assumption) | (with_reducible refine le_up ?_) | (with_reducible refine le_alloc ?_) | (with_reducible refine le_setCell ?_) | (with_reducible refine le_drew ?_) | (with_reducible refine le_drewN ?_) | omega)))))), HA.out⟩ ?_
  rintro W0 ⟨hb0, hr0⟩
  have HR0 := Lib.hid hr0
  have HB0 := Lib.hid hb0
  clear hb0 hr0 HA
  go_wp2_with (refine wpList_load_mid rfl 69 (.tmp 3) (by rfl) w.heap.size 0 (by rfl) L _ HR0.out Try.underlying69 (by rfl) (by rw [HLL.out]; kernel_rfl) ?_)
  refine (HBR.out W0).mono ?_
  rintro e1 w1 ⟨bv, rfl, ho1, hb1⟩
  rw [HEB.out.1]
  rw [HEB.out.2.1] at ho1
  have H1 := Lib.hid (show Below w.heap.size w w1 ∧ OwnB w1 w.heap.size bv B from ⟨HB0.out.trans (hb1.mono HB0.out.size), ho1.mono HB0.out.size⟩)
  have HH1 := Lib.hid (HH.out.below H1.out.1 hlt)
  have HC := Lib.hid (rcounts_any w1 s v0 v1 bg x0 x1 HH1.out (HB.out.1.below H1.out.1) (HB.out.2.1.below H1.out.1) HB.out.2.2.1 HB.out.2.2.2)
  clear ho1 hb1 HR0 HB0
  generalize rcnt x0 x1 = cz at *
  generalize nextK x0 x1 = kk at *
  go_wp2_with fail
  refine HC.out.mono ?_
  rintro e2 w2 ⟨rfl, y1, rfl⟩
  by_cases hz : cz = 0
  · subst hz
    have hkk : kk = 1 := by rw [HK.out]; rfl
    subst hkk
    go_upto_region 7 with fail
    refine wp_gen (fun W => RstAt W s v0 v1 bg ∧ Below w.heap.size w W ∧ OwnB W w.heap.size bv B ∧ s < W.heap.size) ⟨HH1.out.below (up_below w1 y1) HH1.out.lt, below_up H1.out.1 H1.out.1.size y1, H1.out.2.up, Nat.lt_of_lt_of_le HH1.out.lt (up_size _ _)⟩ ?_
    clear HC
    rintro W9 ⟨hs9, hb9, ho9, hl9⟩
    have H9 := Lib.hid (And.intro hs9 (And.intro hb9 ho9))
    obtain ⟨ba, bn_, bc, rfl⟩ := ho9.bts.slice
    clear hs9 hb9 ho9
    refine wp_region_slim [2, 4, 8] [(0, 3), (1, 3), (3, 3), (5, 3), (6, 3), (2, 2), (4, 2), (7, 3), (8, 2)] (fun _ => True) (by kernel_rfl) (by kernel_rfl) (fun d v c a w h => by cases d <;> exact h) True.intro ?_
    simp only [List.map_cons, List.map_nil, slim]
    refine wpSched_pure ?sv1 rfl (by rfl) (fun W => ?sh1) ?sr1; (case sh1 => (go_simp; try (with_reducible rfl))); simp only [Act.put, List.getElem_toArray, List.getElem_cons_zero, List.getElem_cons_succ, List.setIfInBounds_toArray, List.set_cons_zero, List.set_cons_succ]
    refine wpSched_pure ?sv2 rfl (by rfl) (fun W => ?sh2) ?sr2; (case sh2 => (go_simp; try (with_reducible rfl))); simp only [Act.put, List.getElem_toArray, List.getElem_cons_zero, List.getElem_cons_succ, List.setIfInBounds_toArray, List.set_cons_zero, List.set_cons_succ]
    refine wpSched_pure ?sv3 rfl (by rfl) (fun W => ?sh3) ?sr3; (case sh3 => (go_simp; try (with_reducible rfl))); simp only [Act.put, List.getElem_toArray, List.getElem_cons_zero, List.getElem_cons_succ, List.setIfInBounds_toArray, List.set_cons_zero, List.set_cons_succ]
    refine wpSched_pure ?sv4 rfl (by rfl) (fun W => ?sh4) ?sr4; (case sh4 => (go_simp; try (with_reducible rfl))); simp only [Act.put, List.getElem_toArray, List.getElem_cons_zero, List.getElem_cons_succ, List.setIfInBounds_toArray, List.set_cons_zero, List.set_cons_succ]
    refine wpSched_pure ?sv5 rfl (by rfl) (fun W => ?sh5) ?sr5; (case sh5 => (go_simp; try (with_reducible rfl))); simp only [Act.put, List.getElem_toArray, List.getElem_cons_zero, List.getElem_cons_succ, List.setIfInBounds_toArray, List.set_cons_zero, List.set_cons_succ]
    refine wpSched_tail rfl (by rfl) (fun K hK => ?_); go_simp
    refine hK _ _ ?_
    clear hK K
    have hbD : Below W9.heap.size W9 (W9.drew.alloc (.cells #[.int .u8 0] 5)) := (Below.drew (Below.refl _ _)).alloc (Nat.le_refl _) _
    have hlit : OwnB (W9.drew.alloc (.cells #[.int .u8 0] 5)) W9.heap.size (.slice (some ⟨W9.heap.size, 0, none⟩) 1 1) [0] := OwnB.lit W9.drew (bs := [0]) rfl (by simp) (by simp)
    obtain ⟨vA, wA, hrA, hoA, hgA, hlA⟩ := run_append_btsA (W9.drew.alloc (.cells #[.int .u8 0] 5)) 22 (.slice (some ⟨W9.heap.size, 0, none⟩) 1 1) _ [0] B (hlit.mono (Nat.zero_le _)) (H9.out.2.2.bts.below hbD) (by have := HBL.out; simp; omega)
    have hzA : (W9.drew.alloc (.cells #[.int .u8 0] 5)).heap.size = W9.heap.size + 1 := by rw [World.size_alloc]; rfl
    have hne : ∀ b, (Value.slice (some ⟨W9.heap.size, 0, none⟩) 1 1).ownBlock = some b → b = W9.heap.size := fun b hb => by simp only [Value.ownBlock, Option.some.injEq] at hb; exact hb.symm
    refine wpSched_runT vA rfl (by rfl) (exec_append (.tmp 21) (.tmp 22) 22 rfl (by rfl) (by rfl) hrA) ?_
    simp only [Act.put, List.getElem_toArray, List.getElem_cons_zero, List.getElem_cons_succ, List.setIfInBounds_toArray, List.set_cons_zero, List.set_cons_succ]
    refine wpSched_pure ?sv6 rfl (by rfl) (fun W => ?sh6) ?sr6; (case sh6 => (go_simp; try (with_reducible rfl))); simp only [Act.put, List.getElem_toArray, List.getElem_cons_zero, List.getElem_cons_succ, List.setIfInBounds_toArray, List.set_cons_zero, List.set_cons_succ]
    have hbA : Below W9.heap.size W9 wA := hbD.grown hgA (by omega) (fun b hb => by have := hne b hb; omega)
    have hvA : ∀ b, vA.ownBlock = some b → W9.heap.size ≤ b := fun b hb => by
      rcases hlA with h | h
      · have := hne b (by rw [← h]; exact hb); omega
      · rw [h] at hb; simp only [Option.some.injEq] at hb; omega
    have hsA9 : RstAt wA s v0 v1 bg := H9.out.1.below hbA hl9
    have cKA : wA.cell? ⟨s, 1, none⟩ = some v1 := hsA9.at_ 1 (by omega)
    have fKA := hsA9.free 1
    have c2A : wA.cell? ⟨s, 2, none⟩ = some (.int .i64 bg) := hsA9.at_ 2 (by omega)
    have f2A := hsA9.free 2
    haveI hlsA : LtSize s wA := ⟨hsA9.lt⟩
    have HEND := Lib.hid (show RBegunR w s v0 v1 1 B (.returned (.int .i64 0)) ((wA.setCell ⟨s, 1, none⟩ vA).setCell ⟨s, 2, none⟩ (.int .i64 1)) from by
      have hzz : w.heap.size ≤ W9.heap.size := H9.out.2.1.size
      refine ⟨vA, rfl, ((hsA9.set 1 (by omega) vA).set 2 (by omega) _).same (fun i hi => ?_), ?_, gr_trans (gr_trans (gr_trans (gr_below _ H9.out.2.1) (gr_below _ hbA)) (gr_set _ _ _ _)) (gr_set _ _ _ _)⟩
      · have : i = 0 ∨ i = 1 ∨ i = 2 := by omega
        rcases this with rfl | rfl | rfl <;> rfl
      · have h1 : OwnB wA w.heap.size vA (0 :: B) := by
          refine ⟨hoA.1, hoA.2.1, hoA.2.2.imp id (fun ⟨g, cap, cur, k1, k2, k3⟩ => ⟨g, cap, cur, k1, ?_, k3⟩)⟩
          have := hvA g (by rw [k1]; rfl)
          omega
        have hno : vA.ownBlock = none ∨ vA.ownBlock ≠ some s := .inr (fun e => by have := hvA _ e; omega)
        exact (h1.kept (gr_set _ _ _ _) hno).kept (gr_set _ _ _ _) hno)
    obtain ⟨sa, sn, sc, hve⟩ := hoA.bts.slice
    subst hve
    clear hvA hbA hne hrA hoA hgA hlA hlit hbD hsA9 hzA
    refine wpSched_tail rfl (by rfl) (fun K hK => ?_); go_simp
    refine hK _ _ ?_
    clear hK K
    refine wpSched_nil ?_
    go_wp2_with fail
    go_ret
    exact HEND.out
  · have hkk : kk = 0 := by rw [HK.out, if_neg hz]
    subst hkk
    have hz' : ¬ cz = 0 := hz
    go_upto_region 7 with fail
    refine wp_gen (fun W => RstAt W s v0 v1 bg ∧ Below w.heap.size w W ∧ OwnB W w.heap.size bv B ∧ s < W.heap.size) ⟨HH1.out.below (up_below w1 y1) HH1.out.lt, below_up H1.out.1 H1.out.1.size y1, H1.out.2.up, Nat.lt_of_lt_of_le HH1.out.lt (up_size _ _)⟩ ?_
    clear HC
    rintro W9 ⟨hs9, hb9, ho9, hl9⟩
    have H9 := Lib.hid (And.intro hs9 (And.intro hb9 ho9))
    obtain ⟨ba, bn_, bc, rfl⟩ := ho9.bts.slice
    clear hs9 hb9 ho9
    refine wp_region_slim [2, 4, 8] [(0, 3), (1, 3), (3, 3), (5, 3), (6, 3), (2, 2), (4, 2), (7, 3), (8, 2)] (fun _ => True) (by kernel_rfl) (by kernel_rfl) (fun d v c a w h => by cases d <;> exact h) True.intro ?_
    simp only [List.map_cons, List.map_nil, slim]
    refine wpSched_pure ?sv7 rfl (by rfl) (fun W => ?sh7) ?sr7; (case sh7 => (go_simp; try (with_reducible rfl))); simp only [Act.put, List.getElem_toArray, List.getElem_cons_zero, List.getElem_cons_succ, List.setIfInBounds_toArray, List.set_cons_zero, List.set_cons_succ]
    refine wpSched_pure ?sv8 rfl (by rfl) (fun W => ?sh8) ?sr8; (case sh8 => (go_simp; try (with_reducible rfl))); simp only [Act.put, List.getElem_toArray, List.getElem_cons_zero, List.getElem_cons_succ, List.setIfInBounds_toArray, List.set_cons_zero, List.set_cons_succ]
    refine wpSched_pure ?sv9 rfl (by rfl) (fun W => ?sh9) ?sr9; (case sh9 => (go_simp; try (with_reducible rfl))); simp only [Act.put, List.getElem_toArray, List.getElem_cons_zero, List.getElem_cons_succ, List.setIfInBounds_toArray, List.set_cons_zero, List.set_cons_succ]
    refine wpSched_pure ?sv10 rfl (by rfl) (fun W => ?sh10) ?sr10; (case sh10 => (go_simp; try (with_reducible rfl))); simp only [Act.put, List.getElem_toArray, List.getElem_cons_zero, List.getElem_cons_succ, List.setIfInBounds_toArray, List.set_cons_zero, List.set_cons_succ]
    refine wpSched_pure ?sv11 rfl (by rfl) (fun W => ?sh11) ?sr11; (case sh11 => (go_simp; try (with_reducible rfl))); simp only [Act.put, List.getElem_toArray, List.getElem_cons_zero, List.getElem_cons_succ, List.setIfInBounds_toArray, List.set_cons_zero, List.set_cons_succ]
    refine wpSched_tail rfl (by rfl) (fun K hK => ?_); go_simp
    refine hK _ _ ?_
    clear hK K
    have hbD : Below W9.heap.size W9 (W9.drew.alloc (.cells #[.int .u8 0] 5)) := (Below.drew (Below.refl _ _)).alloc (Nat.le_refl _) _
    have hlit : OwnB (W9.drew.alloc (.cells #[.int .u8 0] 5)) W9.heap.size (.slice (some ⟨W9.heap.size, 0, none⟩) 1 1) [0] := OwnB.lit W9.drew (bs := [0]) rfl (by simp) (by simp)
    obtain ⟨vA, wA, hrA, hoA, hgA, hlA⟩ := run_append_btsA (W9.drew.alloc (.cells #[.int .u8 0] 5)) 22 (.slice (some ⟨W9.heap.size, 0, none⟩) 1 1) _ [0] B (hlit.mono (Nat.zero_le _)) (H9.out.2.2.bts.below hbD) (by have := HBL.out; simp; omega)
    have hzA : (W9.drew.alloc (.cells #[.int .u8 0] 5)).heap.size = W9.heap.size + 1 := by rw [World.size_alloc]; rfl
    have hne : ∀ b, (Value.slice (some ⟨W9.heap.size, 0, none⟩) 1 1).ownBlock = some b → b = W9.heap.size := fun b hb => by simp only [Value.ownBlock, Option.some.injEq] at hb; exact hb.symm
    refine wpSched_runT vA rfl (by rfl) (exec_append (.tmp 21) (.tmp 22) 22 rfl (by rfl) (by rfl) hrA) ?_
    simp only [Act.put, List.getElem_toArray, List.getElem_cons_zero, List.getElem_cons_succ, List.setIfInBounds_toArray, List.set_cons_zero, List.set_cons_succ]
    refine wpSched_pure ?sv12 rfl (by rfl) (fun W => ?sh12) ?sr12; (case sh12 => (go_simp; try (with_reducible rfl))); simp only [Act.put, List.getElem_toArray, List.getElem_cons_zero, List.getElem_cons_succ, List.setIfInBounds_toArray, List.set_cons_zero, List.set_cons_succ]
    have hbA : Below W9.heap.size W9 wA := hbD.grown hgA (by omega) (fun b hb => by have := hne b hb; omega)
    have hvA : ∀ b, vA.ownBlock = some b → W9.heap.size ≤ b := fun b hb => by
      rcases hlA with h | h
      · have := hne b (by rw [← h]; exact hb); omega
      · rw [h] at hb; simp only [Option.some.injEq] at hb; omega
    have hsA9 : RstAt wA s v0 v1 bg := H9.out.1.below hbA hl9
    have cKA : wA.cell? ⟨s, 0, none⟩ = some v0 := hsA9.at_ 0 (by omega)
    have fKA := hsA9.free 0
    have c2A : wA.cell? ⟨s, 2, none⟩ = some (.int .i64 bg) := hsA9.at_ 2 (by omega)
    have f2A := hsA9.free 2
    haveI hlsA : LtSize s wA := ⟨hsA9.lt⟩
    have HEND := Lib.hid (show RBegunR w s v0 v1 0 B (.returned (.int .i64 0)) ((wA.setCell ⟨s, 0, none⟩ vA).setCell ⟨s, 2, none⟩ (.int .i64 0)) from by
      have hzz : w.heap.size ≤ W9.heap.size := H9.out.2.1.size
      refine ⟨vA, rfl, ((hsA9.set 0 (by omega) vA).set 2 (by omega) _).same (fun i hi => ?_), ?_, gr_trans (gr_trans (gr_trans (gr_below _ H9.out.2.1) (gr_below _ hbA)) (gr_set _ _ _ _)) (gr_set _ _ _ _)⟩
      · have : i = 0 ∨ i = 1 ∨ i = 2 := by omega
        rcases this with rfl | rfl | rfl <;> rfl
      · have h1 : OwnB wA w.heap.size vA (0 :: B) := by
          refine ⟨hoA.1, hoA.2.1, hoA.2.2.imp id (fun ⟨g, cap, cur, k1, k2, k3⟩ => ⟨g, cap, cur, k1, ?_, k3⟩)⟩
          have := hvA g (by rw [k1]; rfl)
          omega
        have hno : vA.ownBlock = none ∨ vA.ownBlock ≠ some s := .inr (fun e => by have := hvA _ e; omega)
        exact (h1.kept (gr_set _ _ _ _) hno).kept (gr_set _ _ _ _) hno)
    obtain ⟨sa, sn, sc, hve⟩ := hoA.bts.slice
    subst hve
    clear hvA hbA hne hrA hoA hgA hlA hlit hbD hsA9 hzA
    refine wpSched_tail rfl (by rfl) (fun K hK => ?_); go_simp
    refine hK _ _ ?_
    clear hK K
    refine wpSched_nil ?_
    go_wp2_with fail
    go_ret
    exact HEND.out
set_option maxRecDepth 100000 in
theorem rBegin_bad (s : Nat) (R : List Nat) (w : World) (hR : RecOK R) (hR0 : R.getD 0 0 = 0) :
    Calls Try.prog 78 #[.pointer (some ⟨s, 0, none⟩), .agg (recL R).toArray] w (Gives w (.int .i64 2)) := by
  have HBR := Lib.hid (fun W => rBytes_rec R W hR)
  have HA := Lib.hid (rangeAt_boxed (w := w) (g := w.heap.size) (recL R) 69)
  have HEB := Lib.hid (show bnkE R = 2 by unfold bnkE; rw [if_pos hR0])
  obtain ⟨L, hL⟩ : ∃ L, L = recL R := ⟨_, rfl⟩
  have HLL := Lib.hid (show L.length = 50 by rw [hL]; exact recL_length hR.1)
  rw [← hL] at HBR HA ⊢
  clear hL hR0 hR
  go_enter Try.func78, Try.ntmps78
  go_upto_region 1 with fail
  refine wp_gen (fun W => Below w.heap.size w W ∧ W.rangeAt w.heap.size 0 L) ⟨by (repeat (first | (with_reducible exact Below.refl _ _) | (with_reducible assumption) | (with_reducible refine Below.alloc ?_ (by (repeat (first | (with_reducible exact Nat.le_refl _) | (with_reducible assumption) | (with_reducible refine le_up ?_) | (with_reducible refine le_alloc ?_) | (with_reducible refine le_setCell ?_) | (with_reducible refine le_drew ?_) | (with_reducible refine le_drewN ?_) | omega))) _) | (with_reducible refine Below.drew ?_) | (with_reducible refine Below.drewN ?_ _) | (with_reducible refine Below.setCell ?_ (by (repeat (first | (with_reducible exact Nat.le_refl _) | (with_reducible assumption) | (with_reducible refine le_up ?_) | (with_reducible refine le_alloc ?_) | (with_reducible refine le_setCell ?_) | (with_reducible refine le_drew ?_) | (with_reducible refine le_drewN ?_) | omega))) _) | (with_reducible refine Below.up ?_ (by (repeat (first | (with_reducible exact Nat.le_refl _) | (with_reducible assumption) | (with_reducible refine le_up ?_) | (with_reducible refine le_alloc ?_) | (with_reducible refine le_setCell ?_) | (with_reducible refine le_drew ?_) | (with_reducible refine le_drewN ?_) | omega)))))), HA.out⟩ ?_
  rintro W0 ⟨hb0, hr0⟩
  have HR0 := Lib.hid hr0
  have HB0 := Lib.hid hb0
  clear hb0 hr0 HA
  go_wp2_with (refine wpList_load_mid rfl 69 (.tmp 3) (by rfl) w.heap.size 0 (by rfl) L _ HR0.out Try.underlying69 (by rfl) (by rw [HLL.out]; kernel_rfl) ?_)
  refine (HBR.out W0).mono ?_
  rintro e1 w1 ⟨bv, rfl, ho1, hb1⟩
  rw [HEB.out]
  have H1 := Lib.hid (HB0.out.trans (hb1.mono HB0.out.size))
  clear ho1 hb1
  go_wp2_with fail
  go_ret
  exact Gives.mk rfl H1.out
set_option maxRecDepth 100000 in
theorem Begin_bad (s : Nat) (v0 v1 : Value) (bg : Int) (R : List Nat) (w : World) (H : StoAt w s v0 v1 bg true) (hR : RecOK R) (hR0 : R.getD 0 0 = 0) :
    Calls Try.prog 48 #[.pointer (some ⟨s, 0, none⟩), .agg (recL R).toArray] w (Gives w (.int .i64 2)) := by
  have HH := Lib.hid H
  have HBR := Lib.hid (fun W => Bytes_rec R W hR)
  have HA := Lib.hid (rangeAt_boxed (w := w) (g := w.heap.size) (recL R) 50)
  have HEB := Lib.hid (show bnkE R = 2 by unfold bnkE; rw [if_pos hR0])
  obtain ⟨L, hL⟩ : ∃ L, L = recL R := ⟨_, rfl⟩
  have HLL := Lib.hid (show L.length = 50 by rw [hL]; exact recL_length hR.1)
  rw [← hL] at HBR HA ⊢
  clear hL hR0 hR H
  go_enter Try.func48, Try.ntmps48
  go_upto_region 1 with fail
  refine wp_gen (fun W => Below w.heap.size w W ∧ W.rangeAt w.heap.size 0 L) ⟨by (repeat (first | (with_reducible exact Below.refl _ _) | (with_reducible assumption) | (with_reducible refine Below.alloc ?_ (by (repeat (first | (with_reducible exact Nat.le_refl _) | (with_reducible assumption) | (with_reducible refine le_up ?_) | (with_reducible refine le_alloc ?_) | (with_reducible refine le_setCell ?_) | (with_reducible refine le_drew ?_) | (with_reducible refine le_drewN ?_) | omega))) _) | (with_reducible refine Below.drew ?_) | (with_reducible refine Below.drewN ?_ _) | (with_reducible refine Below.setCell ?_ (by (repeat (first | (with_reducible exact Nat.le_refl _) | (with_reducible assumption) | (with_reducible refine le_up ?_) | (with_reducible refine le_alloc ?_) | (with_reducible refine le_setCell ?_) | (with_reducible refine le_drew ?_) | (with_reducible refine le_drewN ?_) | omega))) _) | (with_reducible refine Below.up ?_ (by (repeat (first | (with_reducible exact Nat.le_refl _) | (with_reducible assumption) | (with_reducible refine le_up ?_) | (with_reducible refine le_alloc ?_) | (with_reducible refine le_setCell ?_) | (with_reducible refine le_drew ?_) | (with_reducible refine le_drewN ?_) | omega)))))), HA.out⟩ ?_
  rintro W0 ⟨hb0, hr0⟩
  have HR0 := Lib.hid hr0
  have HB0 := Lib.hid hb0
  have HH0 := Lib.hid (HH.out.below hb0 HH.out.lt)
  clear hb0 hr0 HA
  go_wp2_with (first | (go_at_call 76; with_reducible refine Calls.tells (bis_made _ _ _ _ _ _ HH0.out) ?_) | (refine wpList_load_mid rfl 50 (.tmp 3) (by rfl) w.heap.size 0 (by rfl) L _ HR0.out Try.underlying50 (by rfl) (by rw [HLL.out]; kernel_rfl) ?_))
  refine (HBR.out W0).mono ?_
  rintro e1 w1 ⟨bv, rfl, ho1, hb1⟩
  rw [HEB.out]
  have H1 := Lib.hid (HB0.out.trans (hb1.mono HB0.out.size))
  clear ho1 hb1
  go_wp2_with fail
  go_ret
  exact Gives.mk rfl H1.out
end Go.Proofs.Ytjkgodhoonkinaa
namespace Go.Proofs.Ytjkgodhoonkinaa
open Go.RowKit
set_option linter.unusedVariables false
set_option linter.unusedSimpArgs false

/-- Bank k has other bytes, in a block that is new. -/
def RPutR (w : World) (s : Nat) (v0 v1 : Value) (bg : Int) (k : Nat) (B : List Nat) (e : Ending) (w' : World) : Prop :=
  ∃ v, e = .returned (.int .i64 0) ∧ RstAt w' s (if k = 0 then v else v0) (if k = 0 then v1 else v) bg ∧ OwnB w' w.heap.size v B ∧ w.grownBy w' (some s)
theorem rFinish_none (w : World) (s : Nat) (v0 v1 : Value) (H : RstAt w s v0 v1 (-1)) :
    Calls Try.prog 79 #[.pointer (some ⟨s, 0, none⟩)] w (Tells w (.int .i64 5)) := by
  have c2 : w.cell? ⟨s, 2, none⟩ = some (.int .i64 (-1)) := H.at_ 2 (by omega)
  clear H
  go_enter Try.func79, Try.ntmps79
  go_wp2_with fail
  go_ret
  exact Tells.mk rfl
set_option maxRecDepth 100000 in
set_option maxHeartbeats 3200000 in
theorem rFinish_made (w : World) (s k : Nat) (v0 v1 : Value) (x : List Nat) (H : RstAt w s v0 v1 (k : Int)) (hk : k = 0 ∧ Bts w v0 x ∨ k = 1 ∧ Bts w v1 x) (hx : 0 < x.length) (hl : x.length ≤ 1000000) :
    Calls Try.prog 79 #[.pointer (some ⟨s, 0, none⟩)] w (RPutR w s v0 v1 (-1) k (x.set 0 165)) := by
  have HH := Lib.hid H
  have hk1 : k ≤ 1 := by rcases hk with ⟨h, _⟩ | ⟨h, _⟩ <;> omega
  have c2 : w.cell? ⟨s, 2, none⟩ = some (.int .i64 (k : Int)) := H.at_ 2 (by omega)
  obtain ⟨v, hv, ck⟩ : ∃ v, Bts w v x ∧ w.cell? ⟨s, k, none⟩ = some v := by
    rcases hk with ⟨rfl, h⟩ | ⟨rfl, h⟩
    · exact ⟨v0, h, H.at_ 0 (by omega)⟩
    · exact ⟨v1, h, H.at_ 1 (by omega)⟩
  obtain ⟨va, vn, vc, rfl⟩ := hv.slice
  have HV := Lib.hid (And.intro hv (And.intro hx hl))
  have hkn : ¬ (k : Int) < 0 := by omega
  have hk2 : (k : Int) < 2 := by omega
  have hk3 : (0 : Int) ≤ (k : Int) := by omega
  have hsl := H.lt
  have HK1 := Lib.hid (And.intro hk1 hsl)
  clear H hk hv hx hl
  haveI hls : LtSize s w := ⟨hsl⟩
  have HC := Lib.hid (And.intro c2 ck)
  go_enter Try.func79, Try.ntmps79
  go_upto_region 3 with fail
  refine wp_region_slim [10] [(1, 3), (2, 3), (3, 3), (4, 3), (5, 0), (6, 3), (7, 3), (8, 3), (9, 0), (0, 1), (10, 2), (11, 3)] (fun X => X.cell? ⟨s, 2, none⟩ = some (.int .i64 (k : Int)) ∧ X.cell? ⟨s, k, none⟩ = some (.slice va vn vc)) (by kernel_rfl) (by kernel_rfl) (fun d v c a w h => by cases d <;> exact h) HC.out ?_
  simp only [List.map_cons, List.map_nil, slim]
  refine wpSched_pure ?sv13 rfl (by rfl) (fun W => ?sh13) ?sr13; (case sh13 => (go_simp; try (with_reducible rfl))); simp only [Act.put, List.getElem_toArray, List.getElem_cons_zero, List.getElem_cons_succ, List.setIfInBounds_toArray, List.set_cons_zero, List.set_cons_succ]
  refine wpSched_pure ?sv14 rfl (by rfl) (fun W => ?sh14) ?sr14; (case sh14 => (go_simp; try (with_reducible rfl))); simp only [Act.put, List.getElem_toArray, List.getElem_cons_zero, List.getElem_cons_succ, List.setIfInBounds_toArray, List.set_cons_zero, List.set_cons_succ]
  refine wpSched_pure ?sv15 rfl (by rfl) (fun W => ?sh15) ?sr15; (case sh15 => (go_simp; try (with_reducible rfl))); simp only [Act.put, List.getElem_toArray, List.getElem_cons_zero, List.getElem_cons_succ, List.setIfInBounds_toArray, List.set_cons_zero, List.set_cons_succ]
  refine wpSched_pure ?sv16 rfl (by rfl) (fun W => ?sh16) ?sr16; (case sh16 => (go_simp; try (with_reducible rfl))); simp only [Act.put, List.getElem_toArray, List.getElem_cons_zero, List.getElem_cons_succ, List.setIfInBounds_toArray, List.set_cons_zero, List.set_cons_succ]
  refine wpSched_still ?sv17 rfl (by rfl) (fun W hW => ?sh17) ?sr17; (case sh17 => (obtain ⟨h1, h2⟩ := hW; go_simp; try (with_reducible rfl))); simp only [Act.put, List.getElem_toArray, List.getElem_cons_zero, List.getElem_cons_succ, List.setIfInBounds_toArray, List.set_cons_zero, List.set_cons_succ]
  refine wpSched_pure ?sv18 rfl (by rfl) (fun W => ?sh18) ?sr18; (case sh18 => (go_simp; try (with_reducible rfl))); simp only [Act.put, List.getElem_toArray, List.getElem_cons_zero, List.getElem_cons_succ, List.setIfInBounds_toArray, List.set_cons_zero, List.set_cons_succ]
  refine wpSched_pure ?sv19 rfl (by rfl) (fun W => ?sh19) ?sr19; (case sh19 => (go_simp; try (with_reducible rfl))); simp only [Act.put, List.getElem_toArray, List.getElem_cons_zero, List.getElem_cons_succ, List.setIfInBounds_toArray, List.set_cons_zero, List.set_cons_succ]
  refine wpSched_pure ?sv20 rfl (by rfl) (fun W => ?sh20) ?sr20; (case sh20 => (go_simp; try (with_reducible rfl))); simp only [Act.put, List.getElem_toArray, List.getElem_cons_zero, List.getElem_cons_succ, List.setIfInBounds_toArray, List.set_cons_zero, List.set_cons_succ]
  refine wpSched_still ?sv21 rfl (by rfl) (fun W hW => ?sh21) ?sr21; (case sh21 => (obtain ⟨h1, h2⟩ := hW; go_simp; try (with_reducible rfl))); simp only [Act.put, List.getElem_toArray, List.getElem_cons_zero, List.getElem_cons_succ, List.setIfInBounds_toArray, List.set_cons_zero, List.set_cons_succ]
  refine wpSched_eff rfl (by rfl) (fun K hK => ?_); go_simp
  have hbD : Below w.heap.size w (w.drew.alloc (.cells #[] 5)) := (Below.drew (Below.refl _ _)).alloc (Nat.le_refl _) _
  refine hK _ _ ⟨cell_below hbD HK1.out.2 HC.out.1, cell_below hbD HK1.out.2 HC.out.2⟩ ?_
  clear hK K
  have hE : OwnB (w.drew.alloc (.cells #[] 5)) w.heap.size (.slice (some ⟨w.heap.size, 0, none⟩) 0 0) [] := OwnB.empty w.drew
  obtain ⟨vA, wA, hrA, hoA, hgA, hlA⟩ := run_append_btsA (w.drew.alloc (.cells #[] 5)) 22 (.slice (some ⟨w.heap.size, 0, none⟩) 0 0) _ [] x (hE.mono (Nat.zero_le _)) (HV.out.1.below hbD) (by have := HV.out.2.2; simp; omega)
  refine wpSched_runT vA rfl (by rfl) (exec_append (.tmp 9) (.tmp 18) 22 rfl (by rfl) (by rfl) hrA) ?_
  simp only [Act.put, List.getElem_toArray, List.getElem_cons_zero, List.getElem_cons_succ, List.setIfInBounds_toArray, List.set_cons_zero, List.set_cons_succ]
  refine wpSched_pure ?sv22 rfl (by rfl) (fun W => ?sh22) ?sr22; (case sh22 => (go_simp; try (with_reducible rfl))); simp only [Act.put, List.getElem_toArray, List.getElem_cons_zero, List.getElem_cons_succ, List.setIfInBounds_toArray, List.set_cons_zero, List.set_cons_succ]
  refine wpSched_nil ?_
  have hne : ∀ b, (Value.slice (some ⟨w.heap.size, 0, none⟩) 0 0).ownBlock = some b → b = w.heap.size := fun b hb => by simp only [Value.ownBlock, Option.some.injEq] at hb; exact hb.symm
  have hzA : (w.drew.alloc (.cells #[] 5)).heap.size = w.heap.size + 1 := by rw [World.size_alloc]; rfl
  have hbA : Below w.heap.size w wA := hbD.grown hgA (by omega) (fun b hb => by have := hne b hb; omega)
  have hvA : ∀ b, vA.ownBlock = some b → w.heap.size ≤ b := fun b hb => by
    rcases hlA with h | h
    · have := hne b (by rw [← h]; exact hb); omega
    · rw [h] at hb; simp only [Option.some.injEq] at hb; omega
  have h1 : OwnB wA w.heap.size vA x := by
    rw [List.nil_append] at hoA
    refine ⟨hoA.1, hoA.2.1, hoA.2.2.imp id (fun ⟨g, cap, cur, k1, k2, k3⟩ => ⟨g, cap, cur, k1, ?_, k3⟩)⟩
    exact hvA g (by rw [k1]; rfl)
  obtain ⟨g, cap, rfl, hg, hgl⟩ := own_slice h1 HV.out.2.1
  have HA := Lib.hid (And.intro h1 hbA)
  clear hvA hne hrA hoA hgA hlA hE hzA hbD c2 ck
  go_upto_region 4 with fail
  have zg : wA.cell? ⟨g, 0, none⟩ = some (.int .u8 ((x.getD 0 0 : Nat) : Int)) := HA.out.1.cell 0 HV.out.2.1
  have fg := HA.out.1.free 0
  haveI : LtSize g wA := ⟨hgl⟩
  have hxl := HV.out.2.1
  generalize x.getD 0 0 = y at zg
  have hn0 : (0 : Int) < (x.length : Int) := by omega
  generalize x.length = n at *
  go_upto_region 5 with fail
  refine wp_gen (fun W => RstAt W s v0 v1 (k : Int) ∧ w.grownBy W none ∧ OwnB W w.heap.size (.slice (some ⟨g, 0, none⟩) n cap) (x.set 0 165)) ?_ ?_
  · have hb2 : Below w.heap.size w (wA.setCell ⟨g, 0, none⟩ (.int .u8 165)) := HA.out.2.setCell hg _
    exact ⟨HH.out.below hb2 HK1.out.2, gr_below _ hb2, HA.out.1.store 0 165 (by omega)⟩
  clear zg fg HA hbA h1 hgl
  rintro W5 ⟨hs5, hg5, ho5⟩
  have c2 : W5.cell? ⟨s, 2, none⟩ = some (.int .i64 (k : Int)) := hs5.at_ 2 (by omega)
  have f2 := hs5.free 2
  obtain ⟨vk, ck⟩ : ∃ vk, W5.cell? ⟨s, k, none⟩ = some vk := ⟨_, hs5.at_ k (by have := HK1.out.1; omega)⟩
  have fk := hs5.free k
  have hsl5 := hs5.lt
  have HEND := Lib.hid (show RPutR w s v0 v1 (-1) k (x.set 0 165) (.returned (.int .i64 0)) ((W5.drew.setCell ⟨s, k, none⟩ (.slice (some ⟨g, 0, none⟩) n cap)).setCell ⟨s, 2, none⟩ (.int .i64 (-1))) from by
    have hno : (Value.slice (some ⟨g, 0, none⟩) n cap).ownBlock = none ∨ (Value.slice (some ⟨g, 0, none⟩) n cap).ownBlock ≠ some s := .inr (fun e => by simp only [Value.ownBlock, Option.some.injEq] at e; have := HK1.out.2; omega)
    refine ⟨.slice (some ⟨g, 0, none⟩) n cap, rfl, (((Cells.drew hs5).set k (by have := HK1.out.1; omega) _).set 2 (by omega) _).same (fun i hi => ?_), ?_, ?_⟩
    · have hk1 := HK1.out.1
      have : i = 0 ∨ i = 1 ∨ i = 2 := by omega
      rcases this with rfl | rfl | rfl
      · rcases (show k = 0 ∨ k = 1 by omega) with rfl | rfl <;> rfl
      · rcases (show k = 0 ∨ k = 1 by omega) with rfl | rfl <;> rfl
      · rfl
    · exact ((ho5.below (Below.drew (Below.refl W5.heap.size W5)) (Nat.le_refl _)).kept (gr_set _ _ _ _) hno).kept (gr_set _ _ _ _) hno
    · have h0 : w.grownBy W5.drew (some s) := ⟨hg5.os, hg5.tape, hg5.output, hg5.size, fun k hk _ => hg5.block k hk (by simp)⟩
      exact gr_trans (gr_trans h0 (gr_set _ _ _ _)) (gr_set _ _ _ _))
  have H5 := Lib.hid c2
  clear hs5 hg5 ho5
  haveI : LtSize s W5 := ⟨hsl5⟩
  refine wp_region_slim [9] [(0, 3), (1, 3), (2, 3), (3, 3), (4, 0), (5, 3), (6, 3), (7, 3), (8, 3), (9, 2)] (fun X => X.cell? ⟨s, 2, none⟩ = some (.int .i64 (k : Int))) (by kernel_rfl) (by kernel_rfl) (fun d v c a w h => by cases d <;> exact h) H5.out ?_
  simp only [List.map_cons, List.map_nil, slim]
  refine wpSched_pure ?sv23 rfl (by rfl) (fun W => ?sh23) ?sr23; (case sh23 => (go_simp; try (with_reducible rfl))); simp only [Act.put, List.getElem_toArray, List.getElem_cons_zero, List.getElem_cons_succ, List.setIfInBounds_toArray, List.set_cons_zero, List.set_cons_succ]
  refine wpSched_pure ?sv24 rfl (by rfl) (fun W => ?sh24) ?sr24; (case sh24 => (go_simp; try (with_reducible rfl))); simp only [Act.put, List.getElem_toArray, List.getElem_cons_zero, List.getElem_cons_succ, List.setIfInBounds_toArray, List.set_cons_zero, List.set_cons_succ]
  refine wpSched_pure ?sv25 rfl (by rfl) (fun W => ?sh25) ?sr25; (case sh25 => (go_simp; try (with_reducible rfl))); simp only [Act.put, List.getElem_toArray, List.getElem_cons_zero, List.getElem_cons_succ, List.setIfInBounds_toArray, List.set_cons_zero, List.set_cons_succ]
  refine wpSched_pure ?sv26 rfl (by rfl) (fun W => ?sh26) ?sr26; (case sh26 => (go_simp; try (with_reducible rfl))); simp only [Act.put, List.getElem_toArray, List.getElem_cons_zero, List.getElem_cons_succ, List.setIfInBounds_toArray, List.set_cons_zero, List.set_cons_succ]
  refine wpSched_still ?sv27 rfl (by rfl) (fun W hW => ?sh27) ?sr27; (case sh27 => (have h1 := hW; go_simp; try (with_reducible rfl))); simp only [Act.put, List.getElem_toArray, List.getElem_cons_zero, List.getElem_cons_succ, List.setIfInBounds_toArray, List.set_cons_zero, List.set_cons_succ]
  refine wpSched_pure ?sv28 rfl (by rfl) (fun W => ?sh28) ?sr28; (case sh28 => (go_simp; try (with_reducible rfl))); simp only [Act.put, List.getElem_toArray, List.getElem_cons_zero, List.getElem_cons_succ, List.setIfInBounds_toArray, List.set_cons_zero, List.set_cons_succ]
  refine wpSched_pure ?sv29 rfl (by rfl) (fun W => ?sh29) ?sr29; (case sh29 => (go_simp; try (with_reducible rfl))); simp only [Act.put, List.getElem_toArray, List.getElem_cons_zero, List.getElem_cons_succ, List.setIfInBounds_toArray, List.set_cons_zero, List.set_cons_succ]
  refine wpSched_pure ?sv30 rfl (by rfl) (fun W => ?sh30) ?sr30; (case sh30 => (go_simp; try (with_reducible rfl))); simp only [Act.put, List.getElem_toArray, List.getElem_cons_zero, List.getElem_cons_succ, List.setIfInBounds_toArray, List.set_cons_zero, List.set_cons_succ]
  refine wpSched_pure ?sv31 rfl (by rfl) (fun W => ?sh31) ?sr31; (case sh31 => (go_simp; try (with_reducible rfl))); simp only [Act.put, List.getElem_toArray, List.getElem_cons_zero, List.getElem_cons_succ, List.setIfInBounds_toArray, List.set_cons_zero, List.set_cons_succ]
  refine wpSched_tail rfl (by rfl) (fun K hK => ?_); go_simp
  refine hK _ _ ?_
  clear hK K
  refine wpSched_nil ?_
  have hk2n : ¬ (2 = k) := by have := HK1.out.1; omega
  have hk2m : ¬ (k = 2) := by have := HK1.out.1; omega
  go_wp2_with fail
  go_ret
  exact HEND.out
set_option maxRecDepth 100000 in
theorem rSpoil_out (w : World) (s : Nat) (k at_ by_ : Int) (hk : k < 0 ∨ 2 ≤ k) :
    Calls Try.prog 80 #[.pointer (some ⟨s, 0, none⟩), .int .i64 k, .int .i64 at_, .int .u8 by_] w (Tells w (.int .i64 2)) := by
  rcases Int.lt_or_le k 0 with h | h
  · clear hk
    go_enter Try.func80, Try.ntmps80
    go_wp2_with fail
    go_ret
    exact Tells.mk rfl
  · have h2 : 1 < k := by omega
    have h3 : ¬ k < 0 := by omega
    clear hk h
    go_enter Try.func80, Try.ntmps80
    go_wp2_with fail
    go_ret
    exact Tells.mk rfl
set_option maxRecDepth 100000 in
theorem rSpoil_place (w : World) (s k vn vc : Nat) (va : Option Addr) (at_ by_ : Int) (hs : s < w.heap.size) (hk : k ≤ 1) (hc : w.cell? ⟨s, k, none⟩ = some (.slice va vn vc)) (ha : at_ < 0 ∨ (vn : Int) ≤ at_) :
    Calls Try.prog 80 #[.pointer (some ⟨s, 0, none⟩), .int .i64 (k : Int), .int .i64 at_, .int .u8 by_] w (Tells w (.int .i64 2)) := by
  have k1 : ¬ (k : Int) < 0 := by omega
  have k2 : (k : Int) < 2 := by omega
  have k3 : ¬ (1 : Int) < (k : Int) := by omega
  have k4 : (0 : Int) ≤ (k : Int) := by omega
  have k5 : (k : Int) ≤ 1 := by omega
  haveI : LtSize s w := ⟨hs⟩
  clear hk
  rcases Int.lt_or_le at_ 0 with h | h
  · clear ha
    go_enter Try.func80, Try.ntmps80
    go_wp2_with fail
    go_ret
    exact Tells.mk rfl
  · have h2 : (vn : Int) ≤ at_ := by omega
    have h3 : ¬ at_ < 0 := by omega
    clear ha h
    go_enter Try.func80, Try.ntmps80
    go_wp2_with fail
    go_ret
    exact Tells.mk rfl
set_option maxRecDepth 100000 in
set_option maxHeartbeats 3200000 in
theorem rSpoil_in (w : World) (s k i b : Nat) (v0 v1 v : Value) (bg : Int) (x : List Nat) (H : RstAt w s v0 v1 bg) (hk : k ≤ 1) (hc : w.cell? ⟨s, k, none⟩ = some v) (hv : Bts w v x) (hi : i < x.length) (hl : x.length ≤ 1000000) (hb : b < 256) :
    Calls Try.prog 80 #[.pointer (some ⟨s, 0, none⟩), .int .i64 (k : Int), .int .i64 (i : Int), .int .u8 (b : Int)] w (RPutR w s v0 v1 bg k (x.set i (x.getD i 0 ^^^ b))) := by
  have HH := Lib.hid H
  obtain ⟨va, vn, vc, rfl⟩ := hv.slice
  have hvn := hv.len
  have k1 : ¬ (k : Int) < 0 := by omega
  have k2 : (k : Int) < 2 := by omega
  have k3 : ¬ (1 : Int) < (k : Int) := by omega
  have k4 : (0 : Int) ≤ (k : Int) := by omega
  have k5 : (k : Int) ≤ 1 := by omega
  have i1 : ¬ (i : Int) < 0 := by omega
  have i2 : (i : Int) < (vn : Int) := by omega
  have i3 : ¬ (vn : Int) ≤ (i : Int) := by omega
  have i4 : (0 : Int) ≤ (i : Int) := by omega
  have hy256 : x.getD i 0 < 256 := Bts.lt hv i
  have hx := u8_xor_nat (x.getD i 0) b hy256 hb
  have HXY := Lib.hid (byte_xor hy256 hb)
  have HV := Lib.hid (And.intro hv (And.intro hi (And.intro hl hk)))
  have HVN := Lib.hid hvn
  have hsl := H.lt
  haveI hls : LtSize s w := ⟨hsl⟩
  clear H hv hl hvn hk hy256
  go_enter Try.func80, Try.ntmps80
  have he := Lib.hid (OwnB.empty w)
  go_upto_region 4 with (at_builtin; refine wpList_append_bts rfl _ _ rfl w.heap.size _ [] rfl he.out _ x rfl HV.out.1.alloc (by have := HV.out.2.2.1; simp; omega) (by simp) (fun v' w' ho hg hne => ?_); have HO := Lib.hid ho; have HG := Lib.hid hg; clear ho hg hne)
  have h1 : OwnB w' w.heap.size v' x := by have := HO.out; rwa [List.nil_append] at this
  have hbA : Below w.heap.size w w' := ((Below.refl _ _).alloc (Nat.le_refl _) _).trans (Below.grownBy HG.out (by simp) (fun k hk => he.out.own k hk))
  obtain ⟨g, cap, rfl, hg, hgl⟩ := own_slice h1 (by omega)
  have hgi := h1.cell i HV.out.2.1
  have hgf := h1.free i
  haveI : LtSize g w' := ⟨hgl⟩
  have H1 := Lib.hid (And.intro h1 hbA)
  have i5 : (i : Int) < (x.length : Int) := by omega
  clear h1 hbA HO HG he hc
  generalize x.getD i 0 = y at *
  generalize x.length = n at *
  go_upto_region 5 with fail
  refine wp_gen (fun W => RstAt W s v0 v1 bg ∧ w.grownBy W none ∧ OwnB W w.heap.size (.slice (some ⟨g, 0, none⟩) n cap) (x.set i (y ^^^ b))) ?_ ?_
  · have hb2 : Below w.heap.size w (w'.setCell ⟨g, i, none⟩ (.int .u8 ((y ^^^ b : Nat) : Int))) := H1.out.2.setCell hg _
    exact ⟨HH.out.below hb2 hsl, gr_below _ hb2, H1.out.1.store i _ HXY.out⟩
  clear hgi hgf H1 hgl
  rintro W5 ⟨hs5, hg5, ho5⟩
  obtain ⟨vk, ck⟩ : ∃ vk, W5.cell? ⟨s, k, none⟩ = some vk := ⟨_, hs5.at_ k (by have := HV.out.2.2.2; omega)⟩
  have fk := hs5.free k
  have hsl5 := hs5.lt
  have HEND := Lib.hid (show RPutR w s v0 v1 bg k (x.set i (y ^^^ b)) (.returned (.int .i64 0)) (W5.setCell ⟨s, k, none⟩ (.slice (some ⟨g, 0, none⟩) n cap)) from by
    have hno : (Value.slice (some ⟨g, 0, none⟩) n cap).ownBlock = none ∨ (Value.slice (some ⟨g, 0, none⟩) n cap).ownBlock ≠ some s := .inr (fun e => by simp only [Value.ownBlock, Option.some.injEq] at e; omega)
    refine ⟨.slice (some ⟨g, 0, none⟩) n cap, rfl, (hs5.set k (by have := HV.out.2.2.2; omega) _).same (fun j hj => ?_), ?_, ?_⟩
    · have hk1 := HV.out.2.2.2
      have : j = 0 ∨ j = 1 ∨ j = 2 := by omega
      rcases (show k = 0 ∨ k = 1 by omega) with rfl | rfl <;> rcases this with rfl | rfl | rfl <;> rfl
    · exact ho5.kept (gr_set _ _ _ _) hno
    · have h0 : w.grownBy W5 (some s) := ⟨hg5.os, hg5.tape, hg5.output, hg5.size, fun k hk _ => hg5.block k hk (by simp)⟩
      exact gr_trans h0 (gr_set _ _ _ _))
  clear hs5 hg5 ho5
  haveI : LtSize s W5 := ⟨hsl5⟩
  go_wp2_with fail
  go_ret
  exact HEND.out
end Go.Proofs.Ytjkgodhoonkinaa
