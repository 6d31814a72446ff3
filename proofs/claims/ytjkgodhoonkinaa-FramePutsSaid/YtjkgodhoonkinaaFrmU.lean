/-
  The walk over the law FramePuts.
-/
import Derived.Test.YtjkgodhoonkinaaFrmQ
import Derived.Test.YtjkgodhoonkinaaSlim
namespace Go.Proofs.Ytjkgodhoonkinaa
open Go.RowKit
set_option linter.unusedVariables false
set_option linter.unusedSimpArgs false

theorem few_few (f : FrmS) : fewS (fewS f) = fewS f := by unfold fewS; simp [List.take_take]
theorem few_len (f : FrmS) : (fewS f).body.length ≤ 60 := by show (f.body.take 60).length ≤ 60; rw [List.length_take]; omega
theorem sameB_self (l : List Nat) : sameB l l = true := decide_eq_true rfl
set_option maxRecDepth 100000 in
set_option maxHeartbeats 6400000 in
theorem FramePuts_any (f g : FrmS) (v u : Value) (w : World) (hv : FrA w f v) (hu : FrA w g u) :
    Calls Try.prog 6 #[v, u] w (Gives w (.bool true)) := by
  obtain ⟨L0, rfl, hL0, h10⟩ := hv.list
  obtain ⟨M0, rfl, hM0, k10⟩ := hu.list
  have HFW := Lib.hid (fun (W : World) (h : Below w.heap.size w W) => few_own f _ W (hv.below h))
  have HGW := Lib.hid (fun (W : World) (h : Below w.heap.size w W) => few_own g _ W (hu.below h))
  have HA := Lib.hid (World.rangeAt_alloc (rangeAt_at (g := w.heap.size) w L0 28) (.cells M0.toArray 28))
  have HB := Lib.hid (rangeAt_at (g := w.heap.size + 1) (w.alloc (.cells L0.toArray 28)) M0 28)
  have HATH := Lib.hid (World.there_alloc (there_at (g := w.heap.size) w L0.toArray 28 21 (by simpa using hL0)) (.cells M0.toArray 28))
  have HBTH := Lib.hid (there_at (g := w.heap.size + 1) (w.alloc (.cells L0.toArray 28)) M0.toArray 28 21 (by simpa using hM0))
  have HL0 := Lib.hid hL0
  have HM0 := Lib.hid hM0
  clear hv hu hL0 h10 hM0 k10
  go_enter Try.func6, Try.ntmps6
  go_upto_region 1 with fail
  refine wp_gen (fun W => Below w.heap.size w W ∧ W.rangeAt w.heap.size 0 L0 ∧ W.rangeAt (w.heap.size + 1) 0 M0 ∧ W.there w.heap.size 0 21 ∧ W.there (w.heap.size + 1) 0 21 ∧ w.heap.size + 1 < W.heap.size) ⟨by (repeat (first | (with_reducible exact Below.refl _ _) | (with_reducible assumption) | (with_reducible refine Below.alloc ?_ (by (repeat (first | (with_reducible exact Nat.le_refl _) | (with_reducible assumption) | (with_reducible refine le_up ?_) | (with_reducible refine le_alloc ?_) | (with_reducible refine le_setCell ?_) | (with_reducible refine le_drew ?_) | (with_reducible refine le_drewN ?_) | omega))) _) | (with_reducible refine Below.drew ?_) | (with_reducible refine Below.drewN ?_ _) | (with_reducible refine Below.setCell ?_ (by (repeat (first | (with_reducible exact Nat.le_refl _) | (with_reducible assumption) | (with_reducible refine le_up ?_) | (with_reducible refine le_alloc ?_) | (with_reducible refine le_setCell ?_) | (with_reducible refine le_drew ?_) | (with_reducible refine le_drewN ?_) | omega))) _) | (with_reducible refine Below.up ?_ (by (repeat (first | (with_reducible exact Nat.le_refl _) | (with_reducible assumption) | (with_reducible refine le_up ?_) | (with_reducible refine le_alloc ?_) | (with_reducible refine le_setCell ?_) | (with_reducible refine le_drew ?_) | (with_reducible refine le_drewN ?_) | omega)))))), HA.out, HB.out, HATH.out, HBTH.out, by simp⟩ ?_
  rintro W1 ⟨hb, hr, hr', hth, hth', hlt⟩
  have H1 := Lib.hid (And.intro hb (And.intro hr (And.intro hr' (And.intro hth (And.intro hth' hlt)))))
  clear hb hr hr' hth hth' hlt HA HB HATH HBTH
  refine wp_region_sched [3, 4, 5] [(0, 0), (2, 0), (1, 1), (3, 2), (4, 2), (5, 2)] (fun W => W.rangeAt w.heap.size 0 L0 ∧ W.rangeAt (w.heap.size + 1) 0 M0) (by kernel_rfl) (by kernel_rfl) (fun d v c a w h => by cases d <;> exact h) ⟨H1.out.2.1, H1.out.2.2.1⟩ ?_
  refine wpSched_load 28 (.tmp 2) w.heap.size 0 L0 _ rfl rfl (by rfl) (by rfl) (fun X hX => hX.1) Try.underlying28 (by rfl) (by rw [HL0.out]; kernel_rfl) ?_
  simp only [Act.put, List.getElem_toArray, List.getElem_cons_zero, List.getElem_cons_succ, List.setIfInBounds_toArray, List.set_cons_zero, List.set_cons_succ]
  refine wpSched_load 28 (.tmp 3) (w.heap.size + 1) 0 M0 _ rfl rfl (by rfl) (by rfl) (fun X hX => hX.2) Try.underlying28 (by rfl) (by rw [HM0.out]; kernel_rfl) ?_
  simp only [Act.put, List.getElem_toArray, List.getElem_cons_zero, List.getElem_cons_succ, List.setIfInBounds_toArray, List.set_cons_zero, List.set_cons_succ]
  refine wpSched_eff rfl (by rfl) (fun K hK => ?_); go_simp
  refine (HFW.out W1.drew H1.out.1.drew).mono ?_
  rintro e2 w2 ⟨v2, rfl, hf2, hb2⟩
  obtain ⟨L1, rfl, hL1, h11⟩ := hf2.fr.list
  have hlt2 : w.heap.size + 1 < W1.drew.heap.size := H1.out.2.2.2.2.2
  refine hK _ _ ⟨rangeAt_below hb2 (by omega) H1.out.2.1, rangeAt_below hb2 hlt2 H1.out.2.2.1⟩ ?_
  clear hK K
  have HB2 := Lib.hid (H1.out.1.drew.trans (hb2.mono H1.out.1.size))
  have hz2 : W1.drew.heap.size ≤ w2.heap.size := hb2.size
  have HT2 := Lib.hid (And.intro (there_below hb2 (by omega) H1.out.2.2.2.1) (there_below hb2 hlt2 H1.out.2.2.2.2.1))
  have HF2 := Lib.hid hf2
  have HL1 := Lib.hid (And.intro hL1 h11)
  clear hb2 hf2 hL1 h11 H1
  refine wpSched_tail rfl (by rfl) (fun K hK => ?_); go_simp
  refine (HGW.out w2 HB2.out).mono ?_
  rintro e3 w3 ⟨v3, rfl, hf3, hb3⟩
  obtain ⟨M1, rfl, hM1, k11⟩ := hf3.fr.list
  refine hK _ _ ?_
  clear hK K
  have HB3 := Lib.hid (HB2.out.trans (hb3.mono HB2.out.size))
  have hz3 : w2.heap.size ≤ w3.heap.size := hb3.size
  have HT3 := Lib.hid (And.intro (there_below hb3 (by omega) HT2.out.1) (there_below hb3 (by omega) HT2.out.2))
  have HF3 := Lib.hid (And.intro (HF2.out.below hb3) hf3)
  have HM1 := Lib.hid (And.intro hM1 k11)
  clear hb3 hf3 hM1 k11 HB2 HF2 HT2
  refine wpSched_storeT rfl (by rfl) (exec_store 28 (.tmp 2) (.tmp 10) w.heap.size 0 L1 rfl (by rfl) (by rfl) (by rw [HL1.out.1]; exact HT3.out.1) (by rw [HL1.out.1]; kernel_rfl) HL1.out.2) ?_
  simp only [Act.put, List.getElem_toArray, List.getElem_cons_zero, List.getElem_cons_succ, List.setIfInBounds_toArray, List.set_cons_zero, List.set_cons_succ]
  have hthb : (w3.setCells w.heap.size 0 L1).there (w.heap.size + 1) 0 21 := World.there_setCells HT3.out.2 _ _ _
  refine wpSched_storeT rfl (by rfl) (exec_store 28 (.tmp 3) (.tmp 12) (w.heap.size + 1) 0 M1 rfl (by rfl) (by rfl) (by rw [HM1.out.1]; exact hthb) (by rw [HM1.out.1]; kernel_rfl) HM1.out.2) ?_
  simp only [Act.put, List.getElem_toArray, List.getElem_cons_zero, List.getElem_cons_succ, List.setIfInBounds_toArray, List.set_cons_zero, List.set_cons_succ]
  refine wpSched_nil ?_
  have hra := World.rangeAt_setCells_apart (World.rangeAt_setCells_same w3 w.heap.size 0 L1 (by rw [HL1.out.1]; exact HT3.out.1)) (w.heap.size + 1) 0 M1 (.inl (by omega))
  have hrb := World.rangeAt_setCells_same (w3.setCells w.heap.size 0 L1) (w.heap.size + 1) 0 M1 (by rw [HM1.out.1]; exact hthb)
  have HR4 := Lib.hid (And.intro hra hrb)
  clear hthb hra hrb
  go_upto_region 2 with fail
  refine wp_gen (fun W => Below w.heap.size w W ∧ W.rangeAt w.heap.size 0 L1 ∧ W.rangeAt (w.heap.size + 1) 0 M1 ∧ FrA W (fewS f) (.agg L1.toArray) ∧ FrA W (fewS g) (.agg M1.toArray) ∧ w.heap.size + 1 < W.heap.size)
    ⟨(HB3.out.trans (below_setCells _ _ _ _ _ (Nat.le_refl _))).trans (below_setCells _ _ _ _ _ (Nat.le_succ _)), HR4.out.1, HR4.out.2,
     ((HF3.out.1.kept (gr_setCells L1 w3 w.heap.size 0) (by omega)).kept (gr_setCells M1 _ (w.heap.size + 1) 0) hlt2).fr,
     ((HF3.out.2.kept (gr_setCells L1 w3 w.heap.size 0) (by omega)).kept (gr_setCells M1 _ (w.heap.size + 1) 0) (by omega)).fr, by rw [size_setCells, size_setCells]; omega⟩ ?_
  rintro W4 ⟨hb, hr, hr', hf, hg, hlt⟩
  have H4 := Lib.hid (And.intro hb (And.intro hr (And.intro hr' (And.intro hf (And.intro hg hlt)))))
  clear hb hr hr' hf hg hlt HR4 HB3 HF3 HT3 HFW HGW HL0 HM0 hlt2 hz2 hz3
  have HE := Lib.hid (And.intro (few_few f) (And.intro (few_few g) (And.intro (few_len f) (few_len g))))
  generalize fewS f = P at *
  generalize fewS g = G at *
  go_wp2_with (refine wpList_load_mid rfl 28 (.tmp 2) (by rfl) w.heap.size 0 (by rfl) L1 _ H4.out.2.1 Try.underlying28 (by rfl) (by rw [HL1.out.1]; kernel_rfl) ?_)
  refine (few_any P _ W4 H4.out.2.2.2.1).mono ?_
  rintro e5 w5 ⟨v5, rfl, hf5, hb5⟩
  rw [HE.out.1] at hf5
  obtain ⟨L5, rfl, hL5, _⟩ := hf5.list
  go_wp2_with fail
  refine (fPutA P _ w5 hf5).mono ?_
  rintro e6 w6 ⟨v6, rfl, ho6, hb6⟩
  obtain ⟨E, hE⟩ : ∃ E, putE P = E := ⟨_, rfl⟩
  rw [hE]
  obtain ⟨sa, sn, sc, rfl⟩ := ho6.bts.slice
  have HB6 := Lib.hid (hb5.trans (hb6.mono hb5.size))
  have HO6 := Lib.hid ho6.bts
  have HEE := Lib.hid hE
  clear hf5 hb5 ho6 hb6 hL5 hE
  have HR6 := Lib.hid (rangeAt_below HB6.out (Nat.lt_of_succ_lt H4.out.2.2.2.2.2) H4.out.2.1)
  go_upto_region 3 with fail
  go_wp2_with (refine wpList_load_mid rfl 28 (.tmp 2) (by rfl) w.heap.size 0 (by rfl) L1 _ HR6.out Try.underlying28 (by rfl) (by rw [HL1.out.1]; kernel_rfl) ?_)
  refine (rPutA P _ w6 (H4.out.2.2.2.1.below HB6.out)).mono ?_
  rintro e7 W0 ⟨v7, rfl, ho7, hb7⟩
  rw [HEE.out]
  obtain ⟨ta, tn, tc, rfl⟩ := ho7.bts.slice
  have hbb := HB6.out.trans (hb7.mono HB6.out.size)
  have H0 := Lib.hid (show Below w.heap.size w W0 ∧ W0.rangeAt w.heap.size 0 L1 ∧ W0.rangeAt (w.heap.size + 1) 0 M1 ∧ FrA W0 P (.agg L1.toArray) ∧ FrA W0 G (.agg M1.toArray) ∧ Bts W0 (.slice sa sn sc) (putR P) ∧ Bts W0 (.slice ta tn tc) (putR P) ∧ w.heap.size + 1 < W0.heap.size from
    ⟨H4.out.1.trans (hbb.mono H4.out.1.size), rangeAt_below hbb (Nat.lt_of_succ_lt H4.out.2.2.2.2.2) H4.out.2.1, rangeAt_below hbb H4.out.2.2.2.2.2 H4.out.2.2.1, H4.out.2.2.2.1.below hbb, H4.out.2.2.2.2.1.below hbb, HO6.out.below hb7, ho7.bts, Nat.lt_of_lt_of_le H4.out.2.2.2.2.2 hbb.size⟩)
  clear ho7 hb7 hbb H4 HB6 HO6 HR6
  go_upto_region 4 with fail
  refine wp_region_slim [31, 34] [(0, 3), (1, 3), (2, 1), (3, 3), (4, 3), (5, 3), (6, 3), (7, 3), (8, 3), (9, 0), (12, 0), (10, 1), (11, 1), (13, 1), (14, 1), (15, 3), (16, 3), (17, 0), (19, 0), (22, 0), (23, 0), (18, 1), (20, 1), (21, 1), (24, 1), (25, 3), (26, 3), (27, 3), (28, 0), (29, 0), (30, 1), (31, 2), (32, 3), (33, 3), (34, 2), (35, 3), (36, 3)] (fun X => Below W0.heap.size W0 X) (by kernel_rfl) (by kernel_rfl) (fun d v c a w h => by cases d <;> exact h) (Below.drew (Below.refl _ _)) ?_
  simp only [List.map_cons, List.map_nil, slim]
  refine wpSched_pure ?sv1 rfl (by rfl) (fun W => ?sh1) ?sr1; (case sh1 => (go_simp; try (with_reducible rfl))); simp only [Act.put, List.getElem_toArray, List.getElem_cons_zero, List.getElem_cons_succ, List.setIfInBounds_toArray, List.set_cons_zero, List.set_cons_succ]
  refine wpSched_pure ?sv2 rfl (by rfl) (fun W => ?sh2) ?sr2; (case sh2 => (go_simp; try (with_reducible rfl))); simp only [Act.put, List.getElem_toArray, List.getElem_cons_zero, List.getElem_cons_succ, List.setIfInBounds_toArray, List.set_cons_zero, List.set_cons_succ]
  have sX : Below W0.heap.size W0 W0.drew := Below.drew (Below.refl _ _)
  refine wpSched_eff rfl (by rfl) (fun K hK => ?_); go_simp
  refine (SameBytes_any _ _ _ _ W0.drew (H0.out.2.2.2.2.2.1.below sX) (H0.out.2.2.2.2.2.2.1.below sX)).mono ?_
  rintro e wx ⟨rfl, rfl⟩
  rw [sameB_self]
  refine hK _ _ sX ?_
  clear hK K
  refine wpSched_pure ?sv3 rfl (by rfl) (fun W => ?sh3) ?sr3; (case sh3 => (go_simp; try (with_reducible rfl))); simp only [Act.put, List.getElem_toArray, List.getElem_cons_zero, List.getElem_cons_succ, List.setIfInBounds_toArray, List.set_cons_zero, List.set_cons_succ]
  refine wpSched_pure ?sv4 rfl (by rfl) (fun W => ?sh4) ?sr4; (case sh4 => (go_simp; try (with_reducible rfl))); simp only [Act.put, List.getElem_toArray, List.getElem_cons_zero, List.getElem_cons_succ, List.setIfInBounds_toArray, List.set_cons_zero, List.set_cons_succ]
  refine wpSched_pure ?sv5 rfl (by rfl) (fun W => ?sh5) ?sr5; (case sh5 => (go_simp; try (with_reducible rfl))); simp only [Act.put, List.getElem_toArray, List.getElem_cons_zero, List.getElem_cons_succ, List.setIfInBounds_toArray, List.set_cons_zero, List.set_cons_succ]
  refine wpSched_pure ?sv6 rfl (by rfl) (fun W => ?sh6) ?sr6; (case sh6 => (go_simp; try (with_reducible rfl))); simp only [Act.put, List.getElem_toArray, List.getElem_cons_zero, List.getElem_cons_succ, List.setIfInBounds_toArray, List.set_cons_zero, List.set_cons_succ]
  refine wpSched_pure ?sv7 rfl (by rfl) (fun W => ?sh7) ?sr7; (case sh7 => (go_simp; try (with_reducible rfl))); simp only [Act.put, List.getElem_toArray, List.getElem_cons_zero, List.getElem_cons_succ, List.setIfInBounds_toArray, List.set_cons_zero, List.set_cons_succ]
  refine wpSched_pure ?sv8 rfl (by rfl) (fun W => ?sh8) ?sr8; (case sh8 => (go_simp; try (with_reducible rfl))); simp only [Act.put, List.getElem_toArray, List.getElem_cons_zero, List.getElem_cons_succ, List.setIfInBounds_toArray, List.set_cons_zero, List.set_cons_succ]
  refine wpSched_load 28 (.tmp 2) w.heap.size 0 L1 _ rfl rfl (by rfl) (by rfl) (fun X hX => rangeAt_below hX (Nat.lt_of_succ_lt H0.out.2.2.2.2.2.2.2) H0.out.2.1) Try.underlying28 (by rfl) (by rw [HL1.out.1]; kernel_rfl) ?_
  simp only [Act.put, List.getElem_toArray, List.getElem_cons_zero, List.getElem_cons_succ, List.setIfInBounds_toArray, List.set_cons_zero, List.set_cons_succ]
  refine wpSched_load 28 (.tmp 2) w.heap.size 0 L1 _ rfl rfl (by rfl) (by rfl) (fun X hX => rangeAt_below hX (Nat.lt_of_succ_lt H0.out.2.2.2.2.2.2.2) H0.out.2.1) Try.underlying28 (by rfl) (by rw [HL1.out.1]; kernel_rfl) ?_
  simp only [Act.put, List.getElem_toArray, List.getElem_cons_zero, List.getElem_cons_succ, List.setIfInBounds_toArray, List.set_cons_zero, List.set_cons_succ]
  have sW : Below W0.heap.size W0 W0.drew := sX
  obtain ⟨wd, hwd⟩ : ∃ x, x = W0.drew := ⟨_, rfl⟩
  rw [← hwd] at sW ⊢
  clear sX hwd
  have swd := sW
  refine wpSched_eff rfl (by rfl) (fun K hK => ?_); go_simp
  refine (few_any P _ wd (H0.out.2.2.2.1.below swd)).mono ?_
  rintro e w10 ⟨v10, rfl, hf10, hb10⟩
  rw [HE.out.1] at hf10
  obtain ⟨N10, rfl, _, _⟩ := hf10.list
  have sw10 : Below W0.heap.size W0 w10 := swd.trans (hb10.mono swd.size)
  refine hK _ _ sw10 ?_
  clear hK K hb10
  refine wpSched_eff rfl (by rfl) (fun K hK => ?_); go_simp
  refine (SignedA P _ w10 hf10 (by have := HE.out.2.2.1; omega)).mono ?_
  rintro e w11 ⟨v11, rfl, ho11, hb11, _⟩
  obtain ⟨ga, gn, gc, rfl⟩ := ho11.bts.slice
  have sw11 : Below W0.heap.size W0 w11 := sw10.trans (hb11.mono sw10.size)
  have HO11 := Lib.hid ho11.bts
  refine hK _ _ sw11 ?_
  clear hK K hb11 ho11
  refine wpSched_eff rfl (by rfl) (fun K hK => ?_); go_simp
  refine (rSigned_any P _ w11 (H0.out.2.2.2.1.below sw11) (by have := HE.out.2.2.1; omega)).mono ?_
  rintro e w13 ⟨g13, c13, rfl, _, _, ho13, hb13⟩
  have sw13 : Below W0.heap.size W0 w13 := sw11.trans (hb13.mono sw11.size)
  have HO13 := Lib.hid (And.intro ho13.bts (HO11.out.below hb13))
  refine hK _ _ sw13 ?_
  clear hK K hb13 ho13 HO11
  refine wpSched_eff rfl (by rfl) (fun K hK => ?_); go_simp
  refine (SameBytes_any _ _ _ _ w13 HO13.out.2 HO13.out.1).mono ?_
  rintro e wx ⟨rfl, rfl⟩
  rw [sameB_self]
  refine hK _ _ sw13 ?_
  clear hK K
  refine wpSched_pure ?sv9 rfl (by rfl) (fun W => ?sh9) ?sr9; (case sh9 => (go_simp; try (with_reducible rfl))); simp only [Act.put, List.getElem_toArray, List.getElem_cons_zero, List.getElem_cons_succ, List.setIfInBounds_toArray, List.set_cons_zero, List.set_cons_succ]
  refine wpSched_pure ?sv10 rfl (by rfl) (fun W => ?sh10) ?sr10; (case sh10 => (go_simp; try (with_reducible rfl))); simp only [Act.put, List.getElem_toArray, List.getElem_cons_zero, List.getElem_cons_succ, List.setIfInBounds_toArray, List.set_cons_zero, List.set_cons_succ]
  refine wpSched_load 28 (.tmp 2) w.heap.size 0 L1 _ rfl rfl (by rfl) (by rfl) (fun X hX => rangeAt_below hX (Nat.lt_of_succ_lt H0.out.2.2.2.2.2.2.2) H0.out.2.1) Try.underlying28 (by rfl) (by rw [HL1.out.1]; kernel_rfl) ?_
  simp only [Act.put, List.getElem_toArray, List.getElem_cons_zero, List.getElem_cons_succ, List.setIfInBounds_toArray, List.set_cons_zero, List.set_cons_succ]
  refine wpSched_load 28 (.tmp 3) (w.heap.size + 1) 0 M1 _ rfl rfl (by rfl) (by rfl) (fun X hX => rangeAt_below hX H0.out.2.2.2.2.2.2.2 H0.out.2.2.1) Try.underlying28 (by rfl) (by rw [HM1.out.1]; kernel_rfl) ?_
  simp only [Act.put, List.getElem_toArray, List.getElem_cons_zero, List.getElem_cons_succ, List.setIfInBounds_toArray, List.set_cons_zero, List.set_cons_succ]
  refine wpSched_load 28 (.tmp 2) w.heap.size 0 L1 _ rfl rfl (by rfl) (by rfl) (fun X hX => rangeAt_below hX (Nat.lt_of_succ_lt H0.out.2.2.2.2.2.2.2) H0.out.2.1) Try.underlying28 (by rfl) (by rw [HL1.out.1]; kernel_rfl) ?_
  simp only [Act.put, List.getElem_toArray, List.getElem_cons_zero, List.getElem_cons_succ, List.setIfInBounds_toArray, List.set_cons_zero, List.set_cons_succ]
  refine wpSched_load 28 (.tmp 3) (w.heap.size + 1) 0 M1 _ rfl rfl (by rfl) (by rfl) (fun X hX => rangeAt_below hX H0.out.2.2.2.2.2.2.2 H0.out.2.2.1) Try.underlying28 (by rfl) (by rw [HM1.out.1]; kernel_rfl) ?_
  simp only [Act.put, List.getElem_toArray, List.getElem_cons_zero, List.getElem_cons_succ, List.setIfInBounds_toArray, List.set_cons_zero, List.set_cons_succ]
  refine wpSched_eff rfl (by rfl) (fun K hK => ?_); go_simp
  refine (few_any P _ w13 (H0.out.2.2.2.1.below sw13)).mono ?_
  rintro e w18 ⟨v18, rfl, hf18, hb18⟩
  rw [HE.out.1] at hf18
  obtain ⟨N18, rfl, _, _⟩ := hf18.list
  have sw18 : Below W0.heap.size W0 w18 := sw13.trans (hb18.mono sw13.size)
  refine hK _ _ sw18 ?_
  clear hK K hb18
  refine wpSched_eff rfl (by rfl) (fun K hK => ?_); go_simp
  refine (few_any G _ w18 (H0.out.2.2.2.2.1.below sw18)).mono ?_
  rintro e w20 ⟨v20, rfl, hf20, hb20⟩
  rw [HE.out.2.1] at hf20
  obtain ⟨N20, rfl, _, _⟩ := hf20.list
  have sw20 : Below W0.heap.size W0 w20 := sw18.trans (hb20.mono sw18.size)
  have hbx20 := hb20
  refine hK _ _ sw20 ?_
  clear hK K hb20
  refine wpSched_eff rfl (by rfl) (fun K hK => ?_); go_simp
  refine (fSameA P G _ _ w20 (hf18.below hbx20) hf20).mono ?_
  rintro e w21 ⟨rfl, x21, hx21⟩
  have sw21 : Below W0.heap.size W0 w21 := by rw [hx21]; exact below_up sw20 sw20.size _
  refine hK _ _ sw21 ?_
  clear hK K hx21
  refine wpSched_eff rfl (by rfl) (fun K hK => ?_); go_simp
  refine (rSameA P G _ _ w21 (H0.out.2.2.2.1.below sw21) (H0.out.2.2.2.2.1.below sw21)).mono ?_
  rintro e w24 ⟨rfl, x24, hx24⟩
  have sw24 : Below W0.heap.size W0 w24 := by rw [hx24]; exact below_up sw21 sw21.size _
  refine hK _ _ sw24 ?_
  clear hK K hx24
  generalize sameF P G = SB at *
  refine wpSched_pure ?sv11 rfl (by rfl) (fun W => ?sh11) ?sr11; (case sh11 => (go_simp; try (with_reducible rfl))); simp only [Act.put, List.getElem_toArray, List.getElem_cons_zero, List.getElem_cons_succ, List.setIfInBounds_toArray, List.set_cons_zero, List.set_cons_succ]
  refine wpSched_pure ?sv12 rfl (by rfl) (fun W => ?sh12) ?sr12; (case sh12 => (go_simp; try (with_reducible rfl))); simp only [Act.put, List.getElem_toArray, List.getElem_cons_zero, List.getElem_cons_succ, List.setIfInBounds_toArray, List.set_cons_zero, List.set_cons_succ]
  refine wpSched_pure ?sv13 rfl (by rfl) (fun W => ?sh13) ?sr13; (case sh13 => (go_simp; try (with_reducible rfl))); simp only [Act.put, List.getElem_toArray, List.getElem_cons_zero, List.getElem_cons_succ, List.setIfInBounds_toArray, List.set_cons_zero, List.set_cons_succ]
  refine wpSched_load 28 (.tmp 2) w.heap.size 0 L1 _ rfl rfl (by rfl) (by rfl) (fun X hX => rangeAt_below hX (Nat.lt_of_succ_lt H0.out.2.2.2.2.2.2.2) H0.out.2.1) Try.underlying28 (by rfl) (by rw [HL1.out.1]; kernel_rfl) ?_
  simp only [Act.put, List.getElem_toArray, List.getElem_cons_zero, List.getElem_cons_succ, List.setIfInBounds_toArray, List.set_cons_zero, List.set_cons_succ]
  refine wpSched_load 28 (.tmp 2) w.heap.size 0 L1 _ rfl rfl (by rfl) (by rfl) (fun X hX => rangeAt_below hX (Nat.lt_of_succ_lt H0.out.2.2.2.2.2.2.2) H0.out.2.1) Try.underlying28 (by rfl) (by rw [HL1.out.1]; kernel_rfl) ?_
  simp only [Act.put, List.getElem_toArray, List.getElem_cons_zero, List.getElem_cons_succ, List.setIfInBounds_toArray, List.set_cons_zero, List.set_cons_succ]
  refine wpSched_eff rfl (by rfl) (fun K hK => ?_); go_simp
  refine (few_any P _ w24 (H0.out.2.2.2.1.below sw24)).mono ?_
  rintro e w30 ⟨v30, rfl, hf30, hb30⟩
  rw [HE.out.1] at hf30
  obtain ⟨N30, rfl, _, _⟩ := hf30.list
  have sw30 : Below W0.heap.size W0 w30 := sw24.trans (hb30.mono sw24.size)
  refine hK _ _ sw30 ?_
  clear hK K hb30
  refine wpSched_tail rfl (by rfl) (fun K hK => ?_); go_simp
  have hsf := fSameA P P _ _ w30 (H0.out.2.2.2.1.below sw30) hf30
  rw [sameF_yes] at hsf
  refine hsf.mono ?_
  rintro e w31 ⟨rfl, x31, hx31⟩
  have sw31 : Below W0.heap.size W0 w31 := by rw [hx31]; exact below_up sw30 sw30.size _
  refine hK _ _ ?_
  clear hK K hx31 hsf
  refine wpSched_pure ?sv14 rfl (by rfl) (fun W => ?sh14) ?sr14; (case sh14 => (go_simp; try (with_reducible rfl))); simp only [Act.put, List.getElem_toArray, List.getElem_cons_zero, List.getElem_cons_succ, List.setIfInBounds_toArray, List.set_cons_zero, List.set_cons_succ]
  refine wpSched_pure ?sv15 rfl (by rfl) (fun W => ?sh15) ?sr15; (case sh15 => (go_simp; try (with_reducible rfl))); simp only [Act.put, List.getElem_toArray, List.getElem_cons_zero, List.getElem_cons_succ, List.setIfInBounds_toArray, List.set_cons_zero, List.set_cons_succ]
  refine wpSched_tail rfl (by rfl) (fun K hK => ?_); go_simp
  refine (works13 w31).mono ?_
  rintro e w34 ⟨rfl, x34, hx34⟩
  have sw34 : Below W0.heap.size W0 w34 := by rw [hx34]; exact below_up sw31 sw31.size _
  refine hK _ _ ?_
  clear hK K hx34
  refine wpSched_pure ?sv16 rfl (by rfl) (fun W => ?sh16) ?sr16; (case sh16 => (go_simp; try (with_reducible rfl))); simp only [Act.put, List.getElem_toArray, List.getElem_cons_zero, List.getElem_cons_succ, List.setIfInBounds_toArray, List.set_cons_zero, List.set_cons_succ]
  refine wpSched_pure ?sv17 rfl (by rfl) (fun W => ?sh17) ?sr17; (case sh17 => (go_simp; try (with_reducible rfl))); simp only [Act.put, List.getElem_toArray, List.getElem_cons_zero, List.getElem_cons_succ, List.setIfInBounds_toArray, List.set_cons_zero, List.set_cons_succ]
  refine wpSched_nil ?_
  go_wp2_with fail
  go_ret
  exact Gives.mk rfl (H0.out.1.trans (sw34.mono H0.out.1.size))
end Go.Proofs.Ytjkgodhoonkinaa
