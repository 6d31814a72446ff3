/-
  The walk over the law FrameReads.
-/
import Derived.Test.YtjkgodhoonkinaaFrmM
namespace Go.Proofs.Ytjkgodhoonkinaa
open Go.RowKit
set_option linter.unusedVariables false
set_option linter.unusedSimpArgs false

theorem rSameA (f g : FrmS) (v u : Value) (w : World) (hv : FrA w f v) (hu : FrA w g u) : Calls Try.prog 19 #[v, u] w (Gives w (.bool (sameF f g))) := by
  obtain ⟨bv, rfl, h1, h2, h3, h4, h5⟩ := hv
  obtain ⟨cv, rfl, k1, k2, k3, k4, k5⟩ := hu
  exact rSame_any f g bv cv w h1 k1 h4 k4
theorem fSameA (f g : FrmS) (v u : Value) (w : World) (hv : FrA w f v) (hu : FrA w g u) : Calls Try.prog 28 #[v, u] w (Gives w (.bool (sameF f g))) := by
  obtain ⟨bv, rfl, h1, h2, h3, h4, h5⟩ := hv
  obtain ⟨cv, rfl, k1, k2, k3, k4, k5⟩ := hu
  exact fSame_any f g bv cv w h1 k1 h4 k4
/-- A frame in a variable just made: what its store leaves. -/
theorem store_new (w : World) (L : List Value) (hL : L.length = 21) (h1 : L.toArray.all (·.oneCell') = true) :
    (storeCells ⟨w.heap.size, 0, none⟩ L).run Try.prog (w.alloc (.cells #[.int .i64 0, .int .i64 0, .int .u32 0, .int .u64 0, .slice none 0 0, .int .u8 0, .int .u8 0, .int .u8 0, .int .u8 0, .int .u8 0, .int .u8 0, .int .u8 0, .int .u8 0, .int .u8 0, .int .u8 0, .int .u8 0, .int .u8 0, .int .u8 0, .int .u8 0, .int .u8 0, .int .u8 0] 28)) = .ok () ((w.alloc (.cells #[.int .i64 0, .int .i64 0, .int .u32 0, .int .u64 0, .slice none 0 0, .int .u8 0, .int .u8 0, .int .u8 0, .int .u8 0, .int .u8 0, .int .u8 0, .int .u8 0, .int .u8 0, .int .u8 0, .int .u8 0, .int .u8 0, .int .u8 0, .int .u8 0, .int .u8 0, .int .u8 0, .int .u8 0] 28)).setCells w.heap.size 0 L) ∧
    Below w.heap.size w ((w.alloc (.cells #[.int .i64 0, .int .i64 0, .int .u32 0, .int .u64 0, .slice none 0 0, .int .u8 0, .int .u8 0, .int .u8 0, .int .u8 0, .int .u8 0, .int .u8 0, .int .u8 0, .int .u8 0, .int .u8 0, .int .u8 0, .int .u8 0, .int .u8 0, .int .u8 0, .int .u8 0, .int .u8 0, .int .u8 0] 28)).setCells w.heap.size 0 L) ∧ ((w.alloc (.cells #[.int .i64 0, .int .i64 0, .int .u32 0, .int .u64 0, .slice none 0 0, .int .u8 0, .int .u8 0, .int .u8 0, .int .u8 0, .int .u8 0, .int .u8 0, .int .u8 0, .int .u8 0, .int .u8 0, .int .u8 0, .int .u8 0, .int .u8 0, .int .u8 0, .int .u8 0, .int .u8 0, .int .u8 0] 28)).setCells w.heap.size 0 L).rangeAt w.heap.size 0 L ∧
    w.heap.size < ((w.alloc (.cells #[.int .i64 0, .int .i64 0, .int .u32 0, .int .u64 0, .slice none 0 0, .int .u8 0, .int .u8 0, .int .u8 0, .int .u8 0, .int .u8 0, .int .u8 0, .int .u8 0, .int .u8 0, .int .u8 0, .int .u8 0, .int .u8 0, .int .u8 0, .int .u8 0, .int .u8 0, .int .u8 0, .int .u8 0] 28)).setCells w.heap.size 0 L).heap.size :=
  ⟨(res_zero _ w.heap.size (there_new w _ _ 21 rfl) L hL h1).1, ((Below.refl _ _).alloc (Nat.le_refl _) _).trans (below_setCells _ _ _ _ _ (Nat.le_refl _)), World.rangeAt_setCells_same _ _ _ _ (by rw [hL]; exact there_new w _ _ 21 rfl), by rw [size_setCells]; simp⟩
set_option maxRecDepth 100000 in
set_option maxHeartbeats 3200000 in
theorem FrameReads_any (v : Value) (bs : List Nat) (w : World) (hv : Bts w v bs) :
    Calls Try.prog 3 #[v] w (Gives w (.bool true)) := by
  have HC := Lib.hid (hv.cutV 300)
  have HTK := Lib.hid (show (bs.take 300).length ≤ 300 by rw [List.length_take]; omega)
  obtain ⟨va, vn, vc, rfl⟩ := hv.slice
  obtain rfl := hv.len
  have hroom := bts_room hv
  clear hv
  generalize hn : bs.length = n at *
  obtain ⟨cs, hcs⟩ : ∃ cs, cs = bs.take 300 := ⟨_, rfl⟩
  rw [← hcs] at HC HTK
  clear hcs hn
  obtain ⟨N, hN⟩ : ∃ N, readN cs = N := ⟨_, rfl⟩
  obtain ⟨E, hE⟩ : ∃ E, readE cs = E := ⟨_, rfl⟩
  have HNE := Lib.hid (And.intro hN hE)
  clear hN hE
  have i1 : (0 : Int) ≤ (n : Int) := by omega
  have i2 : (n : Int) ≤ (vc : Int) := by omega
  clear hroom
  by_cases h300 : n ≤ 300
  · have i0 : (if (300 : Int) < (n : Int) then (300 : Int) else (n : Int)) = n := if_neg (by omega)
    rw [show cutV 300 (.slice va n vc) = .slice va n vc from by simp [cutV]; omega] at HC
    have HRR := Lib.hid (fun (W : World) (h : Below w.heap.size w W) => rRead_any _ cs W (HC.out.below h) (by have := HTK.out; omega))
    go_enter Try.func3, Try.ntmps3
    go_wp2_with fail
    refine (Bytes_any _ cs _ HC.out (by have := HTK.out; omega)).mono ?_
    rintro e1 w1 ⟨g1, c1, rfl, hg1, hl1, ho1, hb1⟩
    have HO1 := Lib.hid ho1
    have HB1 := Lib.hid hb1
    clear ho1 hb1 hg1 hl1
    go_wp2_with fail
    refine (fRead_any _ cs w1 HO1.out.bts (by have := HTK.out; omega)).mono ?_
    intro e2 w2 hg2
    obtain ⟨v2, rfl, hf2, hb2⟩ := hg2.fr HO1.out.1
    obtain ⟨L2, rfl, hL2, h12⟩ := hf2.list
    have hs2 := store_new w2 L2 hL2 h12
    have hst2 := hs2.1
    have HS2 := Lib.hid hs2.2
    have HF2 := Lib.hid hf2
    have HB2 := Lib.hid (HB1.out.trans (hb2.mono HB1.out.size))
    have HL2 := Lib.hid hL2
    clear hs2 hf2 hb2 hg2 h12
    rw [HNE.out.1, HNE.out.2]
    go_upto_region 3 with fail
    refine wp_gen (fun W => Below w.heap.size w W ∧ W.rangeAt w2.heap.size 0 L2 ∧ w2.heap.size < W.heap.size ∧ FrA W (readS cs) (.agg L2.toArray)) ⟨HB2.out.trans (HS2.out.1.mono HB2.out.size), HS2.out.2.1, HS2.out.2.2, HF2.out.below HS2.out.1⟩ ?_
    rintro W3 ⟨hb3, hr3, hl3, hf3⟩
    have H3 := Lib.hid (And.intro hb3 (And.intro hr3 (And.intro hl3 hf3)))
    clear hb3 hr3 hl3 hf3 HB2 HS2 HF2 hst2 HO1 HB1
    clear hL2
    go_wp2_with fail
    refine (HRR.out W3 H3.out.1).mono ?_
    intro e4 w4 hg4
    obtain ⟨v4, rfl, hf4, hb4⟩ := hg4.fr HC.out.1
    obtain ⟨L4, rfl, hL4, h14⟩ := hf4.list
    have hs4 := store_new w4 L4 hL4 h14
    have hst4 := hs4.1
    have HS4 := Lib.hid hs4.2
    have HF4 := Lib.hid hf4
    have HB4 := Lib.hid hb4
    have HL4 := Lib.hid hL4
    rw [HNE.out.1, HNE.out.2]
    clear hs4 hf4 hb4 hg4 h14
    go_upto_region 4 with fail
    refine wp_gen (fun W => Below w.heap.size w W ∧ W.rangeAt w2.heap.size 0 L2 ∧ FrA W (readS cs) (.agg L2.toArray) ∧ W.rangeAt w4.heap.size 0 L4 ∧ FrA W (readS cs) (.agg L4.toArray))
      ⟨H3.out.1.trans ((HB4.out.trans (HS4.out.1.mono HB4.out.size)).mono H3.out.1.size), rangeAt_below (HB4.out.trans (HS4.out.1.mono HB4.out.size)) H3.out.2.2.1 H3.out.2.1, (H3.out.2.2.2.below HB4.out).below HS4.out.1, HS4.out.2.1, HF4.out.below HS4.out.1⟩ ?_
    rintro W5 ⟨hb5, hr52, hf52, hr54, hf54⟩
    have HSM := Lib.hid (rSameA _ _ _ _ W5 hf52 hf54)
    have H5 := Lib.hid (And.intro hb5 (And.intro hr52 hr54))
    clear hb5 hr52 hf52 hr54 hf54 H3 HS4 HF4 HB4 hst4 hL4
    rw [sameF_yes] at HSM
    go_wp2_with (first | (refine wpList_load_mid' 28 (.tmp 3) (by with_reducible rfl) (by rfl) w2.heap.size 0 (by rfl) L2 _ H5.out.2.1 Try.underlying28 (by rfl) (by rw [HL2.out]; kernel_rfl) ?_) | (refine wpList_load_mid' 28 (.tmp 6) (by with_reducible rfl) (by rfl) w4.heap.size 0 (by rfl) L4 _ H5.out.2.2 Try.underlying28 (by rfl) (by rw [HL4.out]; kernel_rfl) ?_) | (go_at_call 19; (first | with_reducible refine Calls.fresh HSM.out ?_); intro x1) | (go_at_call 20; (first | with_reducible refine Calls.fold (works13 _) ?_ | with_reducible refine Calls.fresh (works13 _) ?_); intro x1))
    go_ret
    exact Gives.mk rfl (below_up H5.out.1 H5.out.1.size _)
  · have i0 : (if (300 : Int) < (n : Int) then (300 : Int) else (n : Int)) = 300 := if_pos (by omega)
    have i3 : (300 : Int) ≤ (vc : Int) := by omega
    rw [show cutV 300 (.slice va n vc) = .slice va 300 vc from by simp [cutV]; omega] at HC
    have HRR := Lib.hid (fun (W : World) (h : Below w.heap.size w W) => rRead_any _ cs W (HC.out.below h) (by have := HTK.out; omega))
    go_enter Try.func3, Try.ntmps3
    go_wp2_with fail
    refine (Bytes_any _ cs _ HC.out (by have := HTK.out; omega)).mono ?_
    rintro e1 w1 ⟨g1, c1, rfl, hg1, hl1, ho1, hb1⟩
    have HO1 := Lib.hid ho1
    have HB1 := Lib.hid hb1
    clear ho1 hb1 hg1 hl1
    go_wp2_with fail
    refine (fRead_any _ cs w1 HO1.out.bts (by have := HTK.out; omega)).mono ?_
    intro e2 w2 hg2
    obtain ⟨v2, rfl, hf2, hb2⟩ := hg2.fr HO1.out.1
    obtain ⟨L2, rfl, hL2, h12⟩ := hf2.list
    have hs2 := store_new w2 L2 hL2 h12
    have hst2 := hs2.1
    have HS2 := Lib.hid hs2.2
    have HF2 := Lib.hid hf2
    have HB2 := Lib.hid (HB1.out.trans (hb2.mono HB1.out.size))
    have HL2 := Lib.hid hL2
    clear hs2 hf2 hb2 hg2 h12
    rw [HNE.out.1, HNE.out.2]
    go_upto_region 3 with fail
    refine wp_gen (fun W => Below w.heap.size w W ∧ W.rangeAt w2.heap.size 0 L2 ∧ w2.heap.size < W.heap.size ∧ FrA W (readS cs) (.agg L2.toArray)) ⟨HB2.out.trans (HS2.out.1.mono HB2.out.size), HS2.out.2.1, HS2.out.2.2, HF2.out.below HS2.out.1⟩ ?_
    rintro W3 ⟨hb3, hr3, hl3, hf3⟩
    have H3 := Lib.hid (And.intro hb3 (And.intro hr3 (And.intro hl3 hf3)))
    clear hb3 hr3 hl3 hf3 HB2 HS2 HF2 hst2 HO1 HB1
    clear hL2
    go_wp2_with fail
    refine (HRR.out W3 H3.out.1).mono ?_
    intro e4 w4 hg4
    obtain ⟨v4, rfl, hf4, hb4⟩ := hg4.fr HC.out.1
    obtain ⟨L4, rfl, hL4, h14⟩ := hf4.list
    have hs4 := store_new w4 L4 hL4 h14
    have hst4 := hs4.1
    have HS4 := Lib.hid hs4.2
    have HF4 := Lib.hid hf4
    have HB4 := Lib.hid hb4
    have HL4 := Lib.hid hL4
    rw [HNE.out.1, HNE.out.2]
    clear hs4 hf4 hb4 hg4 h14
    go_upto_region 4 with fail
    refine wp_gen (fun W => Below w.heap.size w W ∧ W.rangeAt w2.heap.size 0 L2 ∧ FrA W (readS cs) (.agg L2.toArray) ∧ W.rangeAt w4.heap.size 0 L4 ∧ FrA W (readS cs) (.agg L4.toArray))
      ⟨H3.out.1.trans ((HB4.out.trans (HS4.out.1.mono HB4.out.size)).mono H3.out.1.size), rangeAt_below (HB4.out.trans (HS4.out.1.mono HB4.out.size)) H3.out.2.2.1 H3.out.2.1, (H3.out.2.2.2.below HB4.out).below HS4.out.1, HS4.out.2.1, HF4.out.below HS4.out.1⟩ ?_
    rintro W5 ⟨hb5, hr52, hf52, hr54, hf54⟩
    have HSM := Lib.hid (rSameA _ _ _ _ W5 hf52 hf54)
    have H5 := Lib.hid (And.intro hb5 (And.intro hr52 hr54))
    clear hb5 hr52 hf52 hr54 hf54 H3 HS4 HF4 HB4 hst4 hL4
    rw [sameF_yes] at HSM
    go_wp2_with (first | (refine wpList_load_mid' 28 (.tmp 3) (by with_reducible rfl) (by rfl) w2.heap.size 0 (by rfl) L2 _ H5.out.2.1 Try.underlying28 (by rfl) (by rw [HL2.out]; kernel_rfl) ?_) | (refine wpList_load_mid' 28 (.tmp 6) (by with_reducible rfl) (by rfl) w4.heap.size 0 (by rfl) L4 _ H5.out.2.2 Try.underlying28 (by rfl) (by rw [HL4.out]; kernel_rfl) ?_) | (go_at_call 19; (first | with_reducible refine Calls.fresh HSM.out ?_); intro x1) | (go_at_call 20; (first | with_reducible refine Calls.fold (works13 _) ?_ | with_reducible refine Calls.fresh (works13 _) ?_); intro x1))
    go_ret
    exact Gives.mk rfl (below_up H5.out.1 H5.out.1.size _)
end Go.Proofs.Ytjkgodhoonkinaa
