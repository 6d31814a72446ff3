/-
  few once more: the frame that it answers has a body of its own.
-/
import Derived.Test.YtjkgodhoonkinaaFrmN
namespace Go.Proofs.Ytjkgodhoonkinaa
open Go.RowKit
set_option linter.unusedVariables false
set_option linter.unusedSimpArgs false

/-- v is the frame f, in w, and its body lies in a block from base on. -/
def FrO (w : World) (base : Nat) (f : FrmS) (v : Value) : Prop := ∃ bv, v = .agg (frL f bv).toArray ∧ OwnB w base bv f.body ∧ f.epoch < 4294967296 ∧ f.counter < 18446744073709551616 ∧ f.tag.length = 16 ∧ (∀ x ∈ f.tag, x < 256)
theorem FrO.fr {w : World} {base : Nat} {f : FrmS} {v : Value} (h : FrO w base f v) : FrA w f v := by
  obtain ⟨bv, h1, h2, h3⟩ := h
  exact ⟨bv, h1, h2.bts, h3⟩
theorem FrO.kept {w w' : World} {base : Nat} {f : FrmS} {v : Value} {r : Nat} (h : FrO w base f v) (hg : w.grownBy w' (some r)) (hr : r < base) : FrO w' base f v := by
  obtain ⟨bv, h1, h2, h3⟩ := h
  exact ⟨bv, h1, h2.kept hg (.inr (fun e => by have := h2.own _ e; omega)), h3⟩
theorem FrO.below {w w' : World} {base : Nat} {f : FrmS} {v : Value} (h : FrO w base f v) (hb : Below w.heap.size w w') : FrO w' base f v := by
  obtain ⟨bv, h1, h2, h3⟩ := h
  exact ⟨bv, h1, h2.below hb (Nat.le_refl _), h3⟩
def GivesO (w : World) (f : FrmS) (e : Ending) (w' : World) : Prop := ∃ v, e = .returned v ∧ FrO w' w.heap.size f v ∧ Below w.heap.size w w'
set_option maxRecDepth 100000 in
set_option maxHeartbeats 3200000 in
theorem few_own (f : FrmS) (v : Value) (w : World) (h : FrA w f v) :
    Calls Try.prog 21 #[v] w (GivesO w (fewS f)) := by
  obtain ⟨bv, rfl, hb, he, hc, ht, htl⟩ := h
  have HL21 := Lib.hid (fun b => frL_length f b ht)
  have HC := Lib.hid (hb.cutV 60)
  have HX := Lib.hid (And.intro he (And.intro hc (And.intro ht htl)))
  have l4 : (frL f bv)[4]? = some bv := rfl
  have hset : ∀ u, (frL f bv).set 4 u = frL (fewS f) u := fun u => rfl
  have HS := Lib.hid hset
  have HR := Lib.hid (rangeAt_at (g := w.heap.size) w (frL f bv) 28)
  have HTH := Lib.hid (there_at (g := w.heap.size) w (frL f bv).toArray 28 21 (by rw [List.size_toArray]; exact HL21.out bv))
  obtain ⟨va, vn, vc, rfl⟩ := hb.slice
  obtain rfl := hb.len
  have hroom := bts_room hb
  have HN := Lib.hid hb.len
  have HTK := Lib.hid (show (f.body.take 60).length ≤ 60 by rw [List.length_take]; omega)
  generalize frL f (.slice va f.body.length vc) = L at *
  clear hset he hc ht htl hb
  generalize hn : f.body.length = n at *
  have i1 : (0 : Int) ≤ (n : Int) := by omega
  have i2 : (n : Int) ≤ (vc : Int) := by omega
  clear hroom
  by_cases h60 : n ≤ 60
  · have i0 : (if (60 : Int) < (n : Int) then (60 : Int) else (n : Int)) = n := if_neg (by omega)
    rw [show cutV 60 (.slice va n vc) = .slice va n vc from by simp [cutV]; omega] at HC
    go_enter Try.func21, Try.ntmps21
    go_wp2_with fail
    refine (Bytes_any _ (f.body.take 60) _ (HC.out.alloc.alloc) (by have := HTK.out; omega)).mono ?_
    rintro e1 w1 ⟨g1, c1, rfl, hg1, hl1, ho1, hb1⟩
    obtain ⟨n1, hn1⟩ : ∃ x, x = (f.body.take 60).length := ⟨_, rfl⟩
    rw [← hn1] at ho1 ⊢
    have hlt0 : w.heap.size < ((w.alloc (.cells L.toArray 28)).alloc (.cells #[.int .i64 0, .int .i64 0, .int .u32 0, .int .u64 0, .slice none 0 0, .int .u8 0, .int .u8 0, .int .u8 0, .int .u8 0, .int .u8 0, .int .u8 0, .int .u8 0, .int .u8 0, .int .u8 0, .int .u8 0, .int .u8 0, .int .u8 0, .int .u8 0, .int .u8 0, .int .u8 0, .int .u8 0] 28)).heap.size := by simp; omega
    have hlt1 : w.heap.size + 1 < ((w.alloc (.cells L.toArray 28)).alloc (.cells #[.int .i64 0, .int .i64 0, .int .u32 0, .int .u64 0, .slice none 0 0, .int .u8 0, .int .u8 0, .int .u8 0, .int .u8 0, .int .u8 0, .int .u8 0, .int .u8 0, .int .u8 0, .int .u8 0, .int .u8 0, .int .u8 0, .int .u8 0, .int .u8 0, .int .u8 0, .int .u8 0, .int .u8 0] 28)).heap.size := by simp
    have hth1 := there_below hb1 hlt0 (World.there_alloc HTH.out _)
    have hthz := there_below hb1 hlt1 (there_at (g := w.heap.size + 1) _ _ _ 21 rfl)
    have hr1 := rangeAt_below hb1 hlt0 (World.rangeAt_alloc HR.out _)
    have z4 := hr1 4 _ l4
    have F4 := (hth1 4 (by omega)).2
    rw [Nat.zero_add] at z4 F4
    have hbw1 : Below w.heap.size w w1 := Below.trans (by (repeat (first | (with_reducible exact Below.refl _ _) | (with_reducible assumption) | (with_reducible refine Below.alloc ?_ (by (repeat (first | (with_reducible exact Nat.le_refl _) | (with_reducible assumption) | (with_reducible refine le_up ?_) | (with_reducible refine le_alloc ?_) | (with_reducible refine le_setCell ?_) | (with_reducible refine le_drew ?_) | (with_reducible refine le_drewN ?_) | omega))) _) | (with_reducible refine Below.drew ?_) | (with_reducible refine Below.drewN ?_ _) | (with_reducible refine Below.setCell ?_ (by (repeat (first | (with_reducible exact Nat.le_refl _) | (with_reducible assumption) | (with_reducible refine le_up ?_) | (with_reducible refine le_alloc ?_) | (with_reducible refine le_setCell ?_) | (with_reducible refine le_drew ?_) | (with_reducible refine le_drewN ?_) | omega))) _) | (with_reducible refine Below.up ?_ (by (repeat (first | (with_reducible exact Nat.le_refl _) | (with_reducible assumption) | (with_reducible refine le_up ?_) | (with_reducible refine le_alloc ?_) | (with_reducible refine le_setCell ?_) | (with_reducible refine le_drew ?_) | (with_reducible refine le_drewN ?_) | omega))))))) (hb1.mono (by simp; omega))
    have hne : ¬ g1 = w.heap.size ∧ ¬ g1 = w.heap.size + 1 := by simp at hg1; omega
    have HNE := Lib.hid hne
    have HX1 := Lib.hid (And.intro hbw1 (And.intro hr1 (And.intro hthz (And.intro ho1 hne))))
    clear hth1 hthz hr1 hbw1 ho1 hb1 hne hg1 hlt0 hlt1 hn1
    go_upto_region 2 with fail
    refine wp_gen (fun W => Below w.heap.size w W ∧ W.rangeAt w.heap.size 0 (L.set 4 (.slice (some ⟨g1, 0, none⟩) n1 c1)) ∧ W.there (w.heap.size + 1) 0 21 ∧ OwnB W w.heap.size (.slice (some ⟨g1, 0, none⟩) n1 c1) (f.body.take 60)) ⟨HX1.out.1.setCell (p := ⟨w.heap.size, 4, none⟩) (Nat.le_refl _) _, rangeAt_set HX1.out.2.1 4 _, there_set HX1.out.2.2.1 _, (HX1.out.2.2.2.1.mono (by simp; omega)).kept (gr_set _ _ _ _) (.inr (by simp [Value.ownBlock]; exact HNE.out.1))⟩ ?_
    rintro W2 ⟨hbw2, hr2, hth2, hbt2⟩
    rw [HS.out] at hr2
    have hM21 := frL_length (fewS f) (.slice (some ⟨g1, 0, none⟩) n1 c1) HX.out.2.2.1
    have hM1 := frL_one (fewS f) (one_slice hbt2.bts)
    have HFM := Lib.hid (show FrO (W2.setCells (w.heap.size + 1) 0 (frL (fewS f) (.slice (some ⟨g1, 0, none⟩) n1 c1))) w.heap.size (fewS f) (.agg (frL (fewS f) (.slice (some ⟨g1, 0, none⟩) n1 c1)).toArray) from ⟨_, rfl, hbt2.kept (gr_setCells _ _ _ _) (.inr (by simp [Value.ownBlock]; exact HNE.out.2)), HX.out⟩)
    generalize frL (fewS f) (.slice (some ⟨g1, 0, none⟩) n1 c1) = M at *
    have hst2 := run_storeCells_mid W2 (w.heap.size + 1) 0 M (by rw [hM21]; exact hth2) hM1
    have hrs2 := World.rangeAt_setCells_same W2 (w.heap.size + 1) 0 M (by rw [hM21]; exact hth2)
    have hres := run_loadVar_mid (P := Try.prog) (W2.setCells (w.heap.size + 1) 0 M) (w.heap.size + 1) 0 28 M _ hrs2 Try.underlying28 (by rfl) (by rw [hM21]; kernel_rfl)
    have HRES := Lib.hid hres
    have HM := Lib.hid (And.intro hbw2 (And.intro hr2 hM21))
    clear hbw2 hr2 hM1 hrs2 hres hth2 hbt2 z4 F4 HX1
    go_wp2_with (refine wpList_load_mid rfl 28 (.tmp 1) (by rfl) w.heap.size 0 (by rfl) M _ HM.out.2.1 Try.underlying28 (by rfl) (by rw [HM.out.2.2]; kernel_rfl) ?_)
    refine bodyPost_ret (v := .agg M.toArray) ?_ rfl ⟨_, rfl, ?_, ?_⟩
    · simp only [results, show Try.func21.results = #[ResultVar.cell 2 28] from rfl]
      simp [asAddr, HRES.out]
    · exact HFM.out
    · exact HM.out.1.trans (below_setCells _ _ _ _ _ (Nat.le_succ _))
  · have i0 : (if (60 : Int) < (n : Int) then (60 : Int) else (n : Int)) = 60 := if_pos (by omega)
    have i3 : (60 : Int) ≤ (vc : Int) := by omega
    rw [show cutV 60 (.slice va n vc) = .slice va 60 vc from by simp [cutV]; omega] at HC
    go_enter Try.func21, Try.ntmps21
    go_wp2_with fail
    refine (Bytes_any _ (f.body.take 60) _ (HC.out.alloc.alloc) (by have := HTK.out; omega)).mono ?_
    rintro e1 w1 ⟨g1, c1, rfl, hg1, hl1, ho1, hb1⟩
    obtain ⟨n1, hn1⟩ : ∃ x, x = (f.body.take 60).length := ⟨_, rfl⟩
    rw [← hn1] at ho1 ⊢
    have hlt0 : w.heap.size < ((w.alloc (.cells L.toArray 28)).alloc (.cells #[.int .i64 0, .int .i64 0, .int .u32 0, .int .u64 0, .slice none 0 0, .int .u8 0, .int .u8 0, .int .u8 0, .int .u8 0, .int .u8 0, .int .u8 0, .int .u8 0, .int .u8 0, .int .u8 0, .int .u8 0, .int .u8 0, .int .u8 0, .int .u8 0, .int .u8 0, .int .u8 0, .int .u8 0] 28)).heap.size := by simp; omega
    have hlt1 : w.heap.size + 1 < ((w.alloc (.cells L.toArray 28)).alloc (.cells #[.int .i64 0, .int .i64 0, .int .u32 0, .int .u64 0, .slice none 0 0, .int .u8 0, .int .u8 0, .int .u8 0, .int .u8 0, .int .u8 0, .int .u8 0, .int .u8 0, .int .u8 0, .int .u8 0, .int .u8 0, .int .u8 0, .int .u8 0, .int .u8 0, .int .u8 0, .int .u8 0, .int .u8 0] 28)).heap.size := by simp
    have hth1 := there_below hb1 hlt0 (World.there_alloc HTH.out _)
    have hthz := there_below hb1 hlt1 (there_at (g := w.heap.size + 1) _ _ _ 21 rfl)
    have hr1 := rangeAt_below hb1 hlt0 (World.rangeAt_alloc HR.out _)
    have z4 := hr1 4 _ l4
    have F4 := (hth1 4 (by omega)).2
    rw [Nat.zero_add] at z4 F4
    have hbw1 : Below w.heap.size w w1 := Below.trans (by (repeat (first | (with_reducible exact Below.refl _ _) | (with_reducible assumption) | (with_reducible refine Below.alloc ?_ (by (repeat (first | (with_reducible exact Nat.le_refl _) | (with_reducible assumption) | (with_reducible refine le_up ?_) | (with_reducible refine le_alloc ?_) | (with_reducible refine le_setCell ?_) | (with_reducible refine le_drew ?_) | (with_reducible refine le_drewN ?_) | omega))) _) | (with_reducible refine Below.drew ?_) | (with_reducible refine Below.drewN ?_ _) | (with_reducible refine Below.setCell ?_ (by (repeat (first | (with_reducible exact Nat.le_refl _) | (with_reducible assumption) | (with_reducible refine le_up ?_) | (with_reducible refine le_alloc ?_) | (with_reducible refine le_setCell ?_) | (with_reducible refine le_drew ?_) | (with_reducible refine le_drewN ?_) | omega))) _) | (with_reducible refine Below.up ?_ (by (repeat (first | (with_reducible exact Nat.le_refl _) | (with_reducible assumption) | (with_reducible refine le_up ?_) | (with_reducible refine le_alloc ?_) | (with_reducible refine le_setCell ?_) | (with_reducible refine le_drew ?_) | (with_reducible refine le_drewN ?_) | omega))))))) (hb1.mono (by simp; omega))
    have hne : ¬ g1 = w.heap.size ∧ ¬ g1 = w.heap.size + 1 := by simp at hg1; omega
    have HNE := Lib.hid hne
    have HX1 := Lib.hid (And.intro hbw1 (And.intro hr1 (And.intro hthz (And.intro ho1 hne))))
    clear hth1 hthz hr1 hbw1 ho1 hb1 hne hg1 hlt0 hlt1 hn1
    go_upto_region 2 with fail
    refine wp_gen (fun W => Below w.heap.size w W ∧ W.rangeAt w.heap.size 0 (L.set 4 (.slice (some ⟨g1, 0, none⟩) n1 c1)) ∧ W.there (w.heap.size + 1) 0 21 ∧ OwnB W w.heap.size (.slice (some ⟨g1, 0, none⟩) n1 c1) (f.body.take 60)) ⟨HX1.out.1.setCell (p := ⟨w.heap.size, 4, none⟩) (Nat.le_refl _) _, rangeAt_set HX1.out.2.1 4 _, there_set HX1.out.2.2.1 _, (HX1.out.2.2.2.1.mono (by simp; omega)).kept (gr_set _ _ _ _) (.inr (by simp [Value.ownBlock]; exact HNE.out.1))⟩ ?_
    rintro W2 ⟨hbw2, hr2, hth2, hbt2⟩
    rw [HS.out] at hr2
    have hM21 := frL_length (fewS f) (.slice (some ⟨g1, 0, none⟩) n1 c1) HX.out.2.2.1
    have hM1 := frL_one (fewS f) (one_slice hbt2.bts)
    have HFM := Lib.hid (show FrO (W2.setCells (w.heap.size + 1) 0 (frL (fewS f) (.slice (some ⟨g1, 0, none⟩) n1 c1))) w.heap.size (fewS f) (.agg (frL (fewS f) (.slice (some ⟨g1, 0, none⟩) n1 c1)).toArray) from ⟨_, rfl, hbt2.kept (gr_setCells _ _ _ _) (.inr (by simp [Value.ownBlock]; exact HNE.out.2)), HX.out⟩)
    generalize frL (fewS f) (.slice (some ⟨g1, 0, none⟩) n1 c1) = M at *
    have hst2 := run_storeCells_mid W2 (w.heap.size + 1) 0 M (by rw [hM21]; exact hth2) hM1
    have hrs2 := World.rangeAt_setCells_same W2 (w.heap.size + 1) 0 M (by rw [hM21]; exact hth2)
    have hres := run_loadVar_mid (P := Try.prog) (W2.setCells (w.heap.size + 1) 0 M) (w.heap.size + 1) 0 28 M _ hrs2 Try.underlying28 (by rfl) (by rw [hM21]; kernel_rfl)
    have HRES := Lib.hid hres
    have HM := Lib.hid (And.intro hbw2 (And.intro hr2 hM21))
    clear hbw2 hr2 hM1 hrs2 hres hth2 hbt2 z4 F4 HX1
    go_wp2_with (refine wpList_load_mid rfl 28 (.tmp 1) (by rfl) w.heap.size 0 (by rfl) M _ HM.out.2.1 Try.underlying28 (by rfl) (by rw [HM.out.2.2]; kernel_rfl) ?_)
    refine bodyPost_ret (v := .agg M.toArray) ?_ rfl ⟨_, rfl, ?_, ?_⟩
    · simp only [results, show Try.func21.results = #[ResultVar.cell 2 28] from rfl]
      simp [asAddr, HRES.out]
    · exact HFM.out
    · exact HM.out.1.trans (below_setCells _ _ _ _ _ (Nat.le_succ _))
end Go.Proofs.Ytjkgodhoonkinaa
