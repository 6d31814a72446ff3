/-
  The walk over the law FrameBack.
-/
import Derived.Test.YtjkgodhoonkinaaFrmO
import Derived.Test.YtjkgodhoonkinaaFrmB
namespace Go.Proofs.Ytjkgodhoonkinaa
open Go.RowKit
set_option linter.unusedVariables false
set_option linter.unusedSimpArgs false

theorem readS_back {f : FrmS} (h : Fits f) (more : List Nat) : readE (putF f ++ more) = 0 ∧ readS (putF f ++ more) = f ∧ readN (putF f ++ more) = (putF f).length := by
  have h0 := readE_put h
  have hl := putF_length f h.tag
  have hx := readE_ext (putF f) more (fun e => by rw [e] at hl; simp at hl; omega) (by rw [h0]; decide)
  rw [h0] at hx
  obtain ⟨hg, h2⟩ := goodS_ext (putF f) more h0
  have h2' := putF_two h
  exact ⟨hx, by unfold readS; rw [if_pos hx, hg, goodS_put h], by unfold readN; rw [if_pos hx, h2, h2', hl]; omega⟩
set_option maxRecDepth 100000 in
set_option maxHeartbeats 6400000 in
theorem FrameBack_any (f : FrmS) (v u : Value) (ms : List Nat) (w : World) (hv : FrA w f v) (hu : Bts w u ms) :
    Calls Try.prog 4 #[v, u] w (Gives w (.bool true)) := by
  obtain ⟨L, rfl, hL, h1⟩ := hv.list
  have HFW := Lib.hid (fun (W : World) (h : Below w.heap.size w W) => few_own f _ W (hv.below h))
  have HFF := Lib.hid (few_fits hv)
  have HA := Lib.hid (rangeAt_at (g := w.heap.size) w L 28)
  have HATH := Lib.hid (there_at (g := w.heap.size) w L.toArray 28 21 (by simpa using hL))
  have HL := Lib.hid hL
  clear hv hL h1
  have HC := Lib.hid (hu.cutV 100)
  have HTK := Lib.hid (show (ms.take 100).length ≤ 100 by rw [List.length_take]; omega)
  obtain ⟨va, vn, vc, rfl⟩ := hu.slice
  obtain rfl := hu.len
  have hroom := bts_room hu
  clear hu
  generalize hn : ms.length = n at *
  obtain ⟨cs, hcs⟩ : ∃ cs, cs = ms.take 100 := ⟨_, rfl⟩
  rw [← hcs] at HC HTK
  clear hcs hn
  have i1 : (0 : Int) ≤ (n : Int) := by omega
  have i2 : (n : Int) ≤ (vc : Int) := by omega
  clear hroom
  go_enter Try.func4, Try.ntmps4
  go_upto_region 3 with (go_at_call 20; (first | with_reducible refine Calls.fold (works13 _) ?_ | with_reducible refine Calls.fresh (works13 _) ?_); intro x1)
  refine wp_gen (fun W => Below w.heap.size w W ∧ W.rangeAt w.heap.size 0 L ∧ W.there w.heap.size 0 21 ∧ w.heap.size < W.heap.size) ⟨by (repeat (first | (with_reducible exact Below.refl _ _) | (with_reducible assumption) | (with_reducible refine Below.alloc ?_ (by (repeat (first | (with_reducible exact Nat.le_refl _) | (with_reducible assumption) | (with_reducible refine le_up ?_) | (with_reducible refine le_alloc ?_) | (with_reducible refine le_setCell ?_) | (with_reducible refine le_drew ?_) | (with_reducible refine le_drewN ?_) | omega))) _) | (with_reducible refine Below.drew ?_) | (with_reducible refine Below.drewN ?_ _) | (with_reducible refine Below.setCell ?_ (by (repeat (first | (with_reducible exact Nat.le_refl _) | (with_reducible assumption) | (with_reducible refine le_up ?_) | (with_reducible refine le_alloc ?_) | (with_reducible refine le_setCell ?_) | (with_reducible refine le_drew ?_) | (with_reducible refine le_drewN ?_) | omega))) _) | (with_reducible refine Below.up ?_ (by (repeat (first | (with_reducible exact Nat.le_refl _) | (with_reducible assumption) | (with_reducible refine le_up ?_) | (with_reducible refine le_alloc ?_) | (with_reducible refine le_setCell ?_) | (with_reducible refine le_drew ?_) | (with_reducible refine le_drewN ?_) | omega)))))), rangeAt_below (up_below _ _) (by simp) HA.out, there_below (up_below _ _) (by simp) HATH.out, LtSize.lt⟩ ?_
  rintro W3 ⟨hbw, hr, hth, hlt⟩
  have H3 := Lib.hid (And.intro hbw (And.intro hr (And.intro hth hlt)))
  clear hbw hr hth hlt HA HATH
  by_cases h100 : n ≤ 100
  · have i0 : (if (100 : Int) < (n : Int) then (100 : Int) else (n : Int)) = n := if_neg (by omega)
    rw [show cutV 100 (.slice va n vc) = .slice va n vc from by simp [cutV]; omega] at HC
    refine wp_region_sched [1, 7] [(0, 0), (2, 3), (3, 3), (4, 3), (5, 3), (6, 3), (1, 2), (7, 2), (8, 3)] (fun W => W.rangeAt w.heap.size 0 L) (by kernel_rfl) (by kernel_rfl) (fun d v c a w h => by cases d <;> exact h) H3.out.2.1 ?_
    refine wpSched_load 28 (.tmp 2) w.heap.size 0 L _ rfl rfl (by rfl) (by rfl) (fun _ hW => hW) Try.underlying28 (by rfl) (by rw [HL.out]; kernel_rfl) ?_
    simp only [Act.put, List.setIfInBounds_toArray, List.set_cons_zero, List.set_cons_succ]
    refine wpSched_pure ?sv1 rfl (by rfl) (fun W => ?sh1) ?sr1; (case sh1 => (go_simp; try (with_reducible rfl))); simp only [Act.put, List.setIfInBounds_toArray, List.set_cons_zero, List.set_cons_succ]
    refine wpSched_pure ?sv2 rfl (by rfl) (fun W => ?sh2) ?sr2; (case sh2 => (go_simp; try (with_reducible rfl))); simp only [Act.put, List.setIfInBounds_toArray, List.set_cons_zero, List.set_cons_succ]
    refine wpSched_pure ?sv3 rfl (by rfl) (fun W => ?sh3) ?sr3; (case sh3 => (go_simp; try (with_reducible rfl))); simp only [Act.put, List.setIfInBounds_toArray, List.set_cons_zero, List.set_cons_succ]
    refine wpSched_pure ?sv4 rfl (by rfl) (fun W => ?sh4) ?sr4; (case sh4 => (go_simp; try (with_reducible rfl))); simp only [Act.put, List.setIfInBounds_toArray, List.set_cons_zero, List.set_cons_succ]
    refine wpSched_pure ?sv5 rfl (by rfl) (fun W => ?sh5) ?sr5; (case sh5 => (go_simp; try (with_reducible rfl))); simp only [Act.put, List.setIfInBounds_toArray, List.set_cons_zero, List.set_cons_succ]
    refine wpSched_tail rfl (by rfl) (fun K hK => ?_); go_simp
    refine (HFW.out W3.drew H3.out.1.drew).mono ?_
    rintro e4 w4 ⟨v4, rfl, hf4, hb4⟩
    obtain ⟨L4, rfl, hL4, h14⟩ := hf4.fr.list
    have hth4 := there_below hb4 (show w.heap.size < W3.drew.heap.size from H3.out.2.2.2) H3.out.2.2.1
    have hz4 : W3.heap.size ≤ w4.heap.size := hb4.size
    have HB4 := Lib.hid (H3.out.1.drew.trans (hb4.mono H3.out.1.size))
    have HF4 := Lib.hid (hf4.kept (gr_setCells L4 w4 w.heap.size 0) H3.out.2.2.2).fr
    have HL4 := Lib.hid hL4
    refine hK _ _ ?_
    clear hK K hf4 hb4
    refine wpSched_storeT rfl (by rfl) (exec_store 28 (.tmp 2) (.tmp 17) w.heap.size 0 L4 rfl (by rfl) (by rfl) (by rw [hL4]; exact hth4) (by rw [hL4]; kernel_rfl) h14) ?_
    simp only [Act.put, List.setIfInBounds_toArray, List.set_cons_zero, List.set_cons_succ]
    refine wpSched_pure ?sv6 rfl (by rfl) (fun W => ?sh6) ?sr6; (case sh6 => (go_simp; try (with_reducible rfl))); simp only [Act.put, List.setIfInBounds_toArray, List.set_cons_zero, List.set_cons_succ]
    refine wpSched_nil ?_
    have hrs4 := World.rangeAt_setCells_same w4 w.heap.size 0 L4 (by rw [hL4]; exact hth4)
    clear h14 hth4 hL4
    have HX4 := Lib.hid hrs4
    clear hrs4
    go_upto_region 4 with fail
    refine wp_gen (fun W => Below w.heap.size w W ∧ W.rangeAt w.heap.size 0 L4 ∧ w.heap.size < W.heap.size ∧ FrA W (fewS f) (.agg L4.toArray)) ⟨HB4.out.trans (below_setCells _ _ _ _ _ (Nat.le_refl _)), HX4.out, by rw [size_setCells]; exact Nat.lt_of_lt_of_le H3.out.2.2.2 hz4, HF4.out⟩ ?_
    rintro W5 ⟨hb5, hr5, hl5, hf5⟩
    have H5 := Lib.hid (And.intro hb5 (And.intro hr5 (And.intro hl5 hf5)))
    clear hb5 hr5 hl5 hf5 HX4 HF4 HB4 hz4 H3 HFW HL
    go_wp2_with (refine wpList_load_mid rfl 28 (.tmp 2) (by rfl) w.heap.size 0 (by rfl) L4 _ H5.out.2.1 Try.underlying28 (by rfl) (by rw [HL4.out]; kernel_rfl) ?_)
    refine (fPutA (fewS f) _ W5 H5.out.2.2.2).mono ?_
    rintro e6 w6 ⟨v6, rfl, ho6, hb6⟩
    have HO6 := Lib.hid ho6
    have HB6 := Lib.hid (H5.out.1.trans (hb6.mono H5.out.1.size))
    have HB6' := Lib.hid hb6
    clear ho6 hb6
    rcases putE_cases (fewS f) with hE | hE | hE
    · have hR : putR (fewS f) = [] := by unfold putR; rw [hE]; rfl
      rw [hR] at HO6
      rw [hE]
      obtain ⟨pa, pn, pc, rfl⟩ := HO6.out.bts.slice
      obtain rfl : pn = 0 := HO6.out.bts.len
      go_wp2_with fail
      go_ret
      exact Gives.mk rfl HB6.out
    · have hR : putR (fewS f) = [] := by unfold putR; rw [hE]; rfl
      rw [hR] at HO6
      rw [hE]
      obtain ⟨pa, pn, pc, rfl⟩ := HO6.out.bts.slice
      obtain rfl : pn = 0 := HO6.out.bts.len
      go_wp2_with fail
      go_ret
      exact Gives.mk rfl HB6.out
    · have hF := HFF.out hE
      have hPl := putF_length (fewS f) hF.tag
      have hPR : putR (fewS f) = putF (fewS f) := by unfold putR; rw [if_pos hE]
      rw [hPR] at HO6
      have hb48 := hF.body
      have HBK := Lib.hid (readS_back hF cs)
      have HCT := Lib.hid (fun (i : Nat) (h : i < (putF (fewS f)).length) => readE_cut hF i h)
      rw [hE]
      clear hE hPR HFF hF
      generalize hm : (fewS f).body.length = m at *
      clear hm
      generalize putF (fewS f) = P at *
      generalize fewS f = F at *
      obtain ⟨g6, c6, rfl, hg6, hl6⟩ := HO6.out.shape (fun e => by have h := HO6.out.bts; rw [e] at h; have := h.len; omega)
      rw [hPl] at HO6 HCT HBK ⊢
      have HPL := Lib.hid hPl
      clear hPl
      go_wp2_with fail
      refine (Bytes_any _ P w6 HO6.out.bts (by rw [HPL.out]; omega)).mono ?_
      rintro e7 w7 ⟨g7, c7, rfl, hg7, hl7, ho7, hb7⟩
      rw [HPL.out] at ho7 ⊢
      have HO7 := Lib.hid ho7
      have HB7 := Lib.hid hb7
      clear ho7 hb7
      have hz6 := HB6.out.size
      have hz7 := HB7.out.size
      go_wp2_with (at_builtin; refine wpList_append_bts rfl (.tmp 35) (.tmp 36) rfl w6.heap.size (.slice (some ⟨g7, 0, none⟩) (37 + m) c7) P (by rfl) HO7.out (.slice va n vc) cs (by rfl) (HC.out.below (HB6.out.trans (HB7.out.mono hz6))) (by rw [HPL.out]; have := HTK.out; omega) hz7 (fun v' w' ho hg hne => ?_); have HO8 := Lib.hid ho; have HG8 := Lib.hid hg; clear ho hg hne)
      have hb8 : Below w6.heap.size w6 w' := HB7.out.grown HG8.out hz7 (fun k hk => HO7.out.own k hk)
      refine (fRead_any _ (P ++ cs) w' HO8.out.bts (by rw [List.length_append, HPL.out]; have := HTK.out; omega)).mono ?_
      intro e9 w9 hg9
      obtain ⟨v9, rfl, hf9, hb9⟩ := hg9.fr HO8.out.1
      rw [HBK.out.1, HBK.out.2.2]
      rw [HBK.out.2.1] at hf9
      obtain ⟨L9, rfl, hL9, h19⟩ := hf9.list
      have hs9 := store_new w9 L9 hL9 h19
      have hst9 := hs9.1
      have HS9 := Lib.hid hs9.2
      have HF9 := Lib.hid hf9
      have HL9 := Lib.hid hL9
      have HB9 := Lib.hid (hb8.trans (hb9.mono hb8.size))
      clear hs9 hf9 hb9 hg9 h19 hb8 hL9
      go_upto_region 8 with fail
      refine wp_gen (fun W => Below w6.heap.size w6 W ∧ W.rangeAt w9.heap.size 0 L9 ∧ w9.heap.size < W.heap.size ∧ FrA W F (.agg L9.toArray)) ⟨HB9.out.trans (HS9.out.1.mono HB9.out.size), HS9.out.2.1, HS9.out.2.2, HF9.out.below HS9.out.1⟩ ?_
      rintro W0 ⟨hb0, hr0, hl0, hf0⟩
      have hz0 := hb0.size
      have H0 := Lib.hid (show Below w.heap.size w W0 ∧ W0.rangeAt w9.heap.size 0 L9 ∧ FrA W0 F (.agg L9.toArray) ∧ W0.rangeAt w.heap.size 0 L4 ∧ FrA W0 F (.agg L4.toArray) ∧ Bts W0 (.slice (some ⟨g6, 0, none⟩) (37 + m) c6) P ∧ w9.heap.size < W0.heap.size ∧ w.heap.size < W0.heap.size from
        ⟨HB6.out.trans (hb0.mono hz6), hr0, hf0, rangeAt_below (HB6'.out.trans (hb0.mono HB6'.out.size)) H5.out.2.2.1 H5.out.2.1, H5.out.2.2.2.below (HB6'.out.trans (hb0.mono HB6'.out.size)), HO6.out.bts.below hb0, hl0, Nat.lt_of_lt_of_le H5.out.2.2.1 (Nat.le_trans HB6'.out.size hz0)⟩)
      clear hb0 hr0 hl0 hf0 HB9 HF9 HS9 hst9 HO8 HG8 HO7 HB7 HB6 HB6' HO6 H5 hz6 hz7 hz0
      go_wp2_with fail
      go_loopw [10] (fun v10 wr => ∃ k : Nat, k ≤ 37 + m ∧ v10 = .int .i64 k ∧ Below W0.heap.size W0 wr) (fun v10 _ => 37 + m - (intOf v10).toNat)
      case atStart => exact ⟨0, by omega, rfl, Below.refl _ _⟩
      case round =>
        obtain ⟨k, hk, rfl, hbr⟩ := hrel
        have HBR := Lib.hid hbr
        clear hbr
        by_cases hlt : k < 37 + m
        · have hI : (k : Int) < 37 + (m : Int) := by omega
          have hkc : (k : Int) ≤ (c6 : Int) := by have := bts_room H0.out.2.2.2.2.2.1; omega
          have HCK := Lib.hid ((H0.out.2.2.2.2.2.1.below HBR.out).cut k (by omega))
          go_wp2_with fail
          refine (fRead_any _ (P.take k) wr HCK.out (by rw [List.length_take, HPL.out]; omega)).mono ?_
          intro e3 w3 hg3
          obtain ⟨v3, rfl, hf3, hb3⟩ := hg3.fr HCK.out.1
          rw [HCT.out k hlt]
          obtain ⟨L3, rfl, hL3, h13⟩ := hf3.list
          have hs3 := store_new w3 L3 hL3 h13
          have hst3 := hs3.1
          have HB3 := Lib.hid (HBR.out.trans ((hb3.trans (hs3.2.1.mono hb3.size)).mono HBR.out.size))
          generalize readN (P.take k) = N at *
          clear hs3 hf3 hb3 hg3 h13
          go_wp2_with fail
          exact ⟨⟨k + 1, by omega, by go_num, HB3.out⟩, by simp [intOf]; omega⟩
        · obtain rfl : k = 37 + m := by omega
          have hI : ¬ (37 : Int) + (m : Int) < 37 + (m : Int) := by omega
          have h85 : (37 : Int) + (m : Int) ≤ 85 := by omega
          have hsm := rSameA _ _ _ _ wr (H0.out.2.2.2.2.1.below HBR.out) (H0.out.2.2.1.below HBR.out)
          rw [sameF_yes] at hsm
          have HSM := Lib.hid hsm
          have HRA := Lib.hid (rangeAt_below HBR.out H0.out.2.2.2.2.2.2.2 H0.out.2.2.2.1)
          have HRB := Lib.hid (rangeAt_below HBR.out H0.out.2.2.2.2.2.2.1 H0.out.2.1)
          have HBF := Lib.hid (H0.out.1.trans (HBR.out.mono H0.out.1.size))
          clear hsm
          go_wp2_with (first | (refine wpList_load_mid rfl 28 (.tmp 2) (by rfl) w.heap.size 0 (by rfl) L4 _ HRA.out Try.underlying28 (by rfl) (by rw [HL4.out]; kernel_rfl) ?_) | (refine wpList_load_mid rfl 28 (.tmp 7) (by rfl) w9.heap.size 0 (by rfl) L9 _ HRB.out Try.underlying28 (by rfl) (by rw [HL9.out]; kernel_rfl) ?_) | (go_at_call 19; (first | with_reducible refine Calls.fresh HSM.out ?_); intro x1))
          go_ret
          exact Gives.mk rfl (below_up HBF.out HBF.out.size _)
  · have i0 : (if (100 : Int) < (n : Int) then (100 : Int) else (n : Int)) = 100 := if_pos (by omega)
    have i3 : (100 : Int) ≤ (vc : Int) := by omega
    rw [show cutV 100 (.slice va n vc) = .slice va 100 vc from by simp [cutV]; omega] at HC
    refine wp_region_sched [1, 7] [(0, 0), (2, 3), (3, 3), (4, 3), (5, 3), (6, 3), (1, 2), (7, 2), (8, 3)] (fun W => W.rangeAt w.heap.size 0 L) (by kernel_rfl) (by kernel_rfl) (fun d v c a w h => by cases d <;> exact h) H3.out.2.1 ?_
    refine wpSched_load 28 (.tmp 2) w.heap.size 0 L _ rfl rfl (by rfl) (by rfl) (fun _ hW => hW) Try.underlying28 (by rfl) (by rw [HL.out]; kernel_rfl) ?_
    simp only [Act.put, List.setIfInBounds_toArray, List.set_cons_zero, List.set_cons_succ]
    refine wpSched_pure ?sv7 rfl (by rfl) (fun W => ?sh7) ?sr7; (case sh7 => (go_simp; try (with_reducible rfl))); simp only [Act.put, List.setIfInBounds_toArray, List.set_cons_zero, List.set_cons_succ]
    refine wpSched_pure ?sv8 rfl (by rfl) (fun W => ?sh8) ?sr8; (case sh8 => (go_simp; try (with_reducible rfl))); simp only [Act.put, List.setIfInBounds_toArray, List.set_cons_zero, List.set_cons_succ]
    refine wpSched_pure ?sv9 rfl (by rfl) (fun W => ?sh9) ?sr9; (case sh9 => (go_simp; try (with_reducible rfl))); simp only [Act.put, List.setIfInBounds_toArray, List.set_cons_zero, List.set_cons_succ]
    refine wpSched_pure ?sv10 rfl (by rfl) (fun W => ?sh10) ?sr10; (case sh10 => (go_simp; try (with_reducible rfl))); simp only [Act.put, List.setIfInBounds_toArray, List.set_cons_zero, List.set_cons_succ]
    refine wpSched_pure ?sv11 rfl (by rfl) (fun W => ?sh11) ?sr11; (case sh11 => (go_simp; try (with_reducible rfl))); simp only [Act.put, List.setIfInBounds_toArray, List.set_cons_zero, List.set_cons_succ]
    refine wpSched_tail rfl (by rfl) (fun K hK => ?_); go_simp
    refine (HFW.out W3.drew H3.out.1.drew).mono ?_
    rintro e4 w4 ⟨v4, rfl, hf4, hb4⟩
    obtain ⟨L4, rfl, hL4, h14⟩ := hf4.fr.list
    have hth4 := there_below hb4 (show w.heap.size < W3.drew.heap.size from H3.out.2.2.2) H3.out.2.2.1
    have hz4 : W3.heap.size ≤ w4.heap.size := hb4.size
    have HB4 := Lib.hid (H3.out.1.drew.trans (hb4.mono H3.out.1.size))
    have HF4 := Lib.hid (hf4.kept (gr_setCells L4 w4 w.heap.size 0) H3.out.2.2.2).fr
    have HL4 := Lib.hid hL4
    refine hK _ _ ?_
    clear hK K hf4 hb4
    refine wpSched_storeT rfl (by rfl) (exec_store 28 (.tmp 2) (.tmp 17) w.heap.size 0 L4 rfl (by rfl) (by rfl) (by rw [hL4]; exact hth4) (by rw [hL4]; kernel_rfl) h14) ?_
    simp only [Act.put, List.setIfInBounds_toArray, List.set_cons_zero, List.set_cons_succ]
    refine wpSched_pure ?sv12 rfl (by rfl) (fun W => ?sh12) ?sr12; (case sh12 => (go_simp; try (with_reducible rfl))); simp only [Act.put, List.setIfInBounds_toArray, List.set_cons_zero, List.set_cons_succ]
    refine wpSched_nil ?_
    have hrs4 := World.rangeAt_setCells_same w4 w.heap.size 0 L4 (by rw [hL4]; exact hth4)
    clear h14 hth4 hL4
    have HX4 := Lib.hid hrs4
    clear hrs4
    go_upto_region 4 with fail
    refine wp_gen (fun W => Below w.heap.size w W ∧ W.rangeAt w.heap.size 0 L4 ∧ w.heap.size < W.heap.size ∧ FrA W (fewS f) (.agg L4.toArray)) ⟨HB4.out.trans (below_setCells _ _ _ _ _ (Nat.le_refl _)), HX4.out, by rw [size_setCells]; exact Nat.lt_of_lt_of_le H3.out.2.2.2 hz4, HF4.out⟩ ?_
    rintro W5 ⟨hb5, hr5, hl5, hf5⟩
    have H5 := Lib.hid (And.intro hb5 (And.intro hr5 (And.intro hl5 hf5)))
    clear hb5 hr5 hl5 hf5 HX4 HF4 HB4 hz4 H3 HFW HL
    go_wp2_with (refine wpList_load_mid rfl 28 (.tmp 2) (by rfl) w.heap.size 0 (by rfl) L4 _ H5.out.2.1 Try.underlying28 (by rfl) (by rw [HL4.out]; kernel_rfl) ?_)
    refine (fPutA (fewS f) _ W5 H5.out.2.2.2).mono ?_
    rintro e6 w6 ⟨v6, rfl, ho6, hb6⟩
    have HO6 := Lib.hid ho6
    have HB6 := Lib.hid (H5.out.1.trans (hb6.mono H5.out.1.size))
    have HB6' := Lib.hid hb6
    clear ho6 hb6
    rcases putE_cases (fewS f) with hE | hE | hE
    · have hR : putR (fewS f) = [] := by unfold putR; rw [hE]; rfl
      rw [hR] at HO6
      rw [hE]
      obtain ⟨pa, pn, pc, rfl⟩ := HO6.out.bts.slice
      obtain rfl : pn = 0 := HO6.out.bts.len
      go_wp2_with fail
      go_ret
      exact Gives.mk rfl HB6.out
    · have hR : putR (fewS f) = [] := by unfold putR; rw [hE]; rfl
      rw [hR] at HO6
      rw [hE]
      obtain ⟨pa, pn, pc, rfl⟩ := HO6.out.bts.slice
      obtain rfl : pn = 0 := HO6.out.bts.len
      go_wp2_with fail
      go_ret
      exact Gives.mk rfl HB6.out
    · have hF := HFF.out hE
      have hPl := putF_length (fewS f) hF.tag
      have hPR : putR (fewS f) = putF (fewS f) := by unfold putR; rw [if_pos hE]
      rw [hPR] at HO6
      have hb48 := hF.body
      have HBK := Lib.hid (readS_back hF cs)
      have HCT := Lib.hid (fun (i : Nat) (h : i < (putF (fewS f)).length) => readE_cut hF i h)
      rw [hE]
      clear hE hPR HFF hF
      generalize hm : (fewS f).body.length = m at *
      clear hm
      generalize putF (fewS f) = P at *
      generalize fewS f = F at *
      obtain ⟨g6, c6, rfl, hg6, hl6⟩ := HO6.out.shape (fun e => by have h := HO6.out.bts; rw [e] at h; have := h.len; omega)
      rw [hPl] at HO6 HCT HBK ⊢
      have HPL := Lib.hid hPl
      clear hPl
      go_wp2_with fail
      refine (Bytes_any _ P w6 HO6.out.bts (by rw [HPL.out]; omega)).mono ?_
      rintro e7 w7 ⟨g7, c7, rfl, hg7, hl7, ho7, hb7⟩
      rw [HPL.out] at ho7 ⊢
      have HO7 := Lib.hid ho7
      have HB7 := Lib.hid hb7
      clear ho7 hb7
      have hz6 := HB6.out.size
      have hz7 := HB7.out.size
      go_wp2_with (at_builtin; refine wpList_append_bts rfl (.tmp 35) (.tmp 36) rfl w6.heap.size (.slice (some ⟨g7, 0, none⟩) (37 + m) c7) P (by rfl) HO7.out (.slice va 100 vc) cs (by rfl) (HC.out.below (HB6.out.trans (HB7.out.mono hz6))) (by rw [HPL.out]; have := HTK.out; omega) hz7 (fun v' w' ho hg hne => ?_); have HO8 := Lib.hid ho; have HG8 := Lib.hid hg; clear ho hg hne)
      have hb8 : Below w6.heap.size w6 w' := HB7.out.grown HG8.out hz7 (fun k hk => HO7.out.own k hk)
      refine (fRead_any _ (P ++ cs) w' HO8.out.bts (by rw [List.length_append, HPL.out]; have := HTK.out; omega)).mono ?_
      intro e9 w9 hg9
      obtain ⟨v9, rfl, hf9, hb9⟩ := hg9.fr HO8.out.1
      rw [HBK.out.1, HBK.out.2.2]
      rw [HBK.out.2.1] at hf9
      obtain ⟨L9, rfl, hL9, h19⟩ := hf9.list
      have hs9 := store_new w9 L9 hL9 h19
      have hst9 := hs9.1
      have HS9 := Lib.hid hs9.2
      have HF9 := Lib.hid hf9
      have HL9 := Lib.hid hL9
      have HB9 := Lib.hid (hb8.trans (hb9.mono hb8.size))
      clear hs9 hf9 hb9 hg9 h19 hb8 hL9
      go_upto_region 8 with fail
      refine wp_gen (fun W => Below w6.heap.size w6 W ∧ W.rangeAt w9.heap.size 0 L9 ∧ w9.heap.size < W.heap.size ∧ FrA W F (.agg L9.toArray)) ⟨HB9.out.trans (HS9.out.1.mono HB9.out.size), HS9.out.2.1, HS9.out.2.2, HF9.out.below HS9.out.1⟩ ?_
      rintro W0 ⟨hb0, hr0, hl0, hf0⟩
      have hz0 := hb0.size
      have H0 := Lib.hid (show Below w.heap.size w W0 ∧ W0.rangeAt w9.heap.size 0 L9 ∧ FrA W0 F (.agg L9.toArray) ∧ W0.rangeAt w.heap.size 0 L4 ∧ FrA W0 F (.agg L4.toArray) ∧ Bts W0 (.slice (some ⟨g6, 0, none⟩) (37 + m) c6) P ∧ w9.heap.size < W0.heap.size ∧ w.heap.size < W0.heap.size from
        ⟨HB6.out.trans (hb0.mono hz6), hr0, hf0, rangeAt_below (HB6'.out.trans (hb0.mono HB6'.out.size)) H5.out.2.2.1 H5.out.2.1, H5.out.2.2.2.below (HB6'.out.trans (hb0.mono HB6'.out.size)), HO6.out.bts.below hb0, hl0, Nat.lt_of_lt_of_le H5.out.2.2.1 (Nat.le_trans HB6'.out.size hz0)⟩)
      clear hb0 hr0 hl0 hf0 HB9 HF9 HS9 hst9 HO8 HG8 HO7 HB7 HB6 HB6' HO6 H5 hz6 hz7 hz0
      go_wp2_with fail
      go_loopw [10] (fun v10 wr => ∃ k : Nat, k ≤ 37 + m ∧ v10 = .int .i64 k ∧ Below W0.heap.size W0 wr) (fun v10 _ => 37 + m - (intOf v10).toNat)
      case atStart => exact ⟨0, by omega, rfl, Below.refl _ _⟩
      case round =>
        obtain ⟨k, hk, rfl, hbr⟩ := hrel
        have HBR := Lib.hid hbr
        clear hbr
        by_cases hlt : k < 37 + m
        · have hI : (k : Int) < 37 + (m : Int) := by omega
          have hkc : (k : Int) ≤ (c6 : Int) := by have := bts_room H0.out.2.2.2.2.2.1; omega
          have HCK := Lib.hid ((H0.out.2.2.2.2.2.1.below HBR.out).cut k (by omega))
          go_wp2_with fail
          refine (fRead_any _ (P.take k) wr HCK.out (by rw [List.length_take, HPL.out]; omega)).mono ?_
          intro e3 w3 hg3
          obtain ⟨v3, rfl, hf3, hb3⟩ := hg3.fr HCK.out.1
          rw [HCT.out k hlt]
          obtain ⟨L3, rfl, hL3, h13⟩ := hf3.list
          have hs3 := store_new w3 L3 hL3 h13
          have hst3 := hs3.1
          have HB3 := Lib.hid (HBR.out.trans ((hb3.trans (hs3.2.1.mono hb3.size)).mono HBR.out.size))
          generalize readN (P.take k) = N at *
          clear hs3 hf3 hb3 hg3 h13
          go_wp2_with fail
          exact ⟨⟨k + 1, by omega, by go_num, HB3.out⟩, by simp [intOf]; omega⟩
        · obtain rfl : k = 37 + m := by omega
          have hI : ¬ (37 : Int) + (m : Int) < 37 + (m : Int) := by omega
          have h85 : (37 : Int) + (m : Int) ≤ 85 := by omega
          have hsm := rSameA _ _ _ _ wr (H0.out.2.2.2.2.1.below HBR.out) (H0.out.2.2.1.below HBR.out)
          rw [sameF_yes] at hsm
          have HSM := Lib.hid hsm
          have HRA := Lib.hid (rangeAt_below HBR.out H0.out.2.2.2.2.2.2.2 H0.out.2.2.2.1)
          have HRB := Lib.hid (rangeAt_below HBR.out H0.out.2.2.2.2.2.2.1 H0.out.2.1)
          have HBF := Lib.hid (H0.out.1.trans (HBR.out.mono H0.out.1.size))
          clear hsm
          go_wp2_with (first | (refine wpList_load_mid rfl 28 (.tmp 2) (by rfl) w.heap.size 0 (by rfl) L4 _ HRA.out Try.underlying28 (by rfl) (by rw [HL4.out]; kernel_rfl) ?_) | (refine wpList_load_mid rfl 28 (.tmp 7) (by rfl) w9.heap.size 0 (by rfl) L9 _ HRB.out Try.underlying28 (by rfl) (by rw [HL9.out]; kernel_rfl) ?_) | (go_at_call 19; (first | with_reducible refine Calls.fresh HSM.out ?_); intro x1))
          go_ret
          exact Gives.mk rfl (below_up HBF.out HBF.out.size _)
end Go.Proofs.Ytjkgodhoonkinaa
