/-
  A record begun, and finished.
-/
import Derived.Test.YtjkgodhoonkinaaBnkZ
namespace Go.Proofs.Ytjkgodhoonkinaa
open Go.RowKit
set_option linter.unusedVariables false
set_option linter.unusedSimpArgs false

theorem Finish_made (w : World) (s k g n cap base : Nat) (v0 v1 : Value) (x : List Nat) (H : StoAt w s v0 v1 (k : Int) true) (hk : k = 0 ∧ v0 = .slice (some ⟨g, 0, none⟩) n cap ∨ k = 1 ∧ v1 = .slice (some ⟨g, 0, none⟩) n cap) (ho : OwnB w base (.slice (some ⟨g, 0, none⟩) n cap) x) (hx : 0 < x.length) (hg : g ≠ s) :
    Calls Try.prog 49 #[.pointer (some ⟨s, 0, none⟩)] w (fun e w' => e = .returned (.int .i64 0) ∧ w' = (w.drew.setCell ⟨g, 0, none⟩ (.int .u8 165)).setCell ⟨s, 2, none⟩ (.int .i64 (-1)) ∧ StoAt w' s v0 v1 (-1) true ∧ OwnB w' base (.slice (some ⟨g, 0, none⟩) n cap) (x.set 0 165)) := by
  have HH := Lib.hid H
  have HO := Lib.hid ho
  have hnl := ho.bts.len
  have hgl : g < w.heap.size := (ho.2.lt g rfl).2
  have hsl := H.lt
  have c2 : w.cell? ⟨s, 2, none⟩ = some (.int .i64 (k : Int)) := H.at_ 2 (by omega)
  have f2 := H.free 2
  have zg : w.cell? ⟨g, 0, none⟩ = some (.int .u8 ((x.getD 0 0 : Nat) : Int)) := ho.cell 0 hx
  have fg := ho.free 0
  have hk1 : k ≤ 1 := by rcases hk with ⟨h, _⟩ | ⟨h, _⟩ <;> omega
  have ck : w.cell? ⟨s, k, none⟩ = some (.slice (some ⟨g, 0, none⟩) n cap) := by
    rcases hk with ⟨rfl, h⟩ | ⟨rfl, h⟩
    · rw [← h]; exact H.at_ 0 (by omega)
    · rw [← h]; exact H.at_ 1 (by omega)
  haveI hls : LtSize s w := ⟨hsl⟩
  haveI hlg : LtSize g w := ⟨hgl⟩
  have hn0 : (0 : Int) < (n : Int) := by omega
  have hn1 : 0 < n := by omega
  have hkn : ¬ (k : Int) = -1 := by omega
  have hk2 : (k : Int) < 2 := by omega
  have hk3 : (0 : Int) ≤ (k : Int) := by omega
  have HEND := Lib.hid (show StoAt ((w.drew.setCell ⟨g, 0, none⟩ (.int .u8 165)).setCell ⟨s, 2, none⟩ (.int .i64 (-1))) s v0 v1 (-1) true ∧ OwnB ((w.drew.setCell ⟨g, 0, none⟩ (.int .u8 165)).setCell ⟨s, 2, none⟩ (.int .i64 (-1))) base (.slice (some ⟨g, 0, none⟩) n cap) (x.set 0 165) from by
    have h1 : StoAt w.drew s v0 v1 (k : Int) true := H.drew
    have h2 : StoAt (w.drew.setCell ⟨g, 0, none⟩ (.int .u8 165)) s v0 v1 (k : Int) true := h1.kept (gr_set _ _ _ _) (by intro e; injection e with e; exact hg e.symm)
    refine ⟨(h2.set 2 (by omega) _).same (fun i hi => ?_), ?_⟩
    · have : i = 0 ∨ i = 1 ∨ i = 2 ∨ i = 3 := by omega
      rcases this with rfl | rfl | rfl | rfl <;> rfl
    · have h3 : OwnB w.drew base (.slice (some ⟨g, 0, none⟩) n cap) x := ho.below (Below.drew (Below.refl w.heap.size w)) (Nat.le_refl _)
      exact (h3.store 0 165 (by omega)).kept (gr_set _ _ _ _) (.inr (by simp only [Value.ownBlock]; intro e; injection e with e; exact hg e))
  )
  clear H ho hk hnl
  generalize x.getD 0 0 = y at *
  go_enter Try.func49, Try.ntmps49
  go_upto_region 5 with (go_at_call 76; with_reducible refine Calls.tells (bis_made _ _ _ _ _ _ HH.out) ?_)
  refine wp_region_slim [10] [(0, 3), (1, 3), (2, 3), (3, 3), (4, 0), (5, 3), (6, 3), (7, 3), (8, 0), (9, 3), (10, 2)] (fun X => X.cell? ⟨s, 2, none⟩ = some (.int .i64 (k : Int)) ∧ X.cell? ⟨s, k, none⟩ = some (.slice (some ⟨g, 0, none⟩) n cap)) (by kernel_rfl) (by kernel_rfl) (fun d v c a w h => by cases d <;> exact h) ⟨c2, ck⟩ ?_
  simp only [List.map_cons, List.map_nil, slim]
  refine wpSched_pure ?sv1 rfl (by rfl) (fun W => ?sh1) ?sr1; (case sh1 => (go_simp; try (with_reducible rfl))); simp only [Act.put, List.getElem_toArray, List.getElem_cons_zero, List.getElem_cons_succ, List.setIfInBounds_toArray, List.set_cons_zero, List.set_cons_succ]
  refine wpSched_pure ?sv2 rfl (by rfl) (fun W => ?sh2) ?sr2; (case sh2 => (go_simp; try (with_reducible rfl))); simp only [Act.put, List.getElem_toArray, List.getElem_cons_zero, List.getElem_cons_succ, List.setIfInBounds_toArray, List.set_cons_zero, List.set_cons_succ]
  refine wpSched_pure ?sv3 rfl (by rfl) (fun W => ?sh3) ?sr3; (case sh3 => (go_simp; try (with_reducible rfl))); simp only [Act.put, List.getElem_toArray, List.getElem_cons_zero, List.getElem_cons_succ, List.setIfInBounds_toArray, List.set_cons_zero, List.set_cons_succ]
  refine wpSched_pure ?sv4 rfl (by rfl) (fun W => ?sh4) ?sr4; (case sh4 => (go_simp; try (with_reducible rfl))); simp only [Act.put, List.getElem_toArray, List.getElem_cons_zero, List.getElem_cons_succ, List.setIfInBounds_toArray, List.set_cons_zero, List.set_cons_succ]
  refine wpSched_still ?sv5 rfl (by rfl) (fun W hW => ?sh5) ?sr5; (case sh5 => (obtain ⟨h1, h2⟩ := hW; go_simp; try (with_reducible rfl))); simp only [Act.put, List.getElem_toArray, List.getElem_cons_zero, List.getElem_cons_succ, List.setIfInBounds_toArray, List.set_cons_zero, List.set_cons_succ]
  refine wpSched_pure ?sv6 rfl (by rfl) (fun W => ?sh6) ?sr6; (case sh6 => (go_simp; try (with_reducible rfl))); simp only [Act.put, List.getElem_toArray, List.getElem_cons_zero, List.getElem_cons_succ, List.setIfInBounds_toArray, List.set_cons_zero, List.set_cons_succ]
  refine wpSched_pure ?sv7 rfl (by rfl) (fun W => ?sh7) ?sr7; (case sh7 => (go_simp; try (with_reducible rfl))); simp only [Act.put, List.getElem_toArray, List.getElem_cons_zero, List.getElem_cons_succ, List.setIfInBounds_toArray, List.set_cons_zero, List.set_cons_succ]
  refine wpSched_pure ?sv8 rfl (by rfl) (fun W => ?sh8) ?sr8; (case sh8 => (go_simp; try (with_reducible rfl))); simp only [Act.put, List.getElem_toArray, List.getElem_cons_zero, List.getElem_cons_succ, List.setIfInBounds_toArray, List.set_cons_zero, List.set_cons_succ]
  refine wpSched_still ?sv9 rfl (by rfl) (fun W hW => ?sh9) ?sr9; (case sh9 => (obtain ⟨h1, h2⟩ := hW; go_simp; try (with_reducible rfl))); simp only [Act.put, List.getElem_toArray, List.getElem_cons_zero, List.getElem_cons_succ, List.setIfInBounds_toArray, List.set_cons_zero, List.set_cons_succ]
  refine wpSched_pure ?sv10 rfl (by rfl) (fun W => ?sh10) ?sr10; (case sh10 => (go_simp; try (with_reducible rfl))); simp only [Act.put, List.getElem_toArray, List.getElem_cons_zero, List.getElem_cons_succ, List.setIfInBounds_toArray, List.set_cons_zero, List.set_cons_succ]
  refine wpSched_tail rfl (by rfl) (fun K hK => ?_); go_simp
  refine hK _ _ ?_
  clear hK K
  refine wpSched_nil ?_
  have hne : ¬ s = g := fun e => hg e.symm
  go_wp2_with fail
  go_ret
  exact ⟨rfl, rfl, HEND.out.1, HEND.out.2⟩
/-- What a record that was begun leaves: bank k holds 0 and its bytes, in a block that is new. -/
def BegunR (w : World) (s : Nat) (v0 v1 : Value) (k : Nat) (B : List Nat) (e : Ending) (w' : World) : Prop :=
  ∃ v, e = .returned (.int .i64 0) ∧ StoAt w' s (if k = 0 then v else v0) (if k = 0 then v1 else v) (k : Int) true ∧ OwnB w' w.heap.size v (0 :: B) ∧ w.grownBy w' (some s)
def nextK (x0 x1 : List Nat) : Nat := if (cntS x0 x1).1 = 0 then 1 else 0
set_option maxRecDepth 100000 in
set_option maxHeartbeats 4000000 in
theorem Begin_made (s : Nat) (v0 v1 : Value) (x0 x1 : List Nat) (bg : Int) (R : List Nat) (w : World) (H : StoAt w s v0 v1 bg true) (h0 : Bts w v0 x0) (h1 : Bts w v1 x1) (l0 : x0.length ≤ 1000000) (l1 : x1.length ≤ 1000000) (hR : RecOK R) (hR0 : R.getD 0 0 ≠ 0) :
    Calls Try.prog 48 #[.pointer (some ⟨s, 0, none⟩), .agg (recL R).toArray] w (BegunR w s v0 v1 (nextK x0 x1) (putB (recB R))) := by
  have HH := Lib.hid H
  have hlt := H.lt
  have HB := Lib.hid (And.intro h0 (And.intro h1 (And.intro l0 l1)))
  have HBR := Lib.hid (fun W => Bytes_rec R W hR)
  have HK := Lib.hid (show nextK x0 x1 = if (cntS x0 x1).1 = 0 then 1 else 0 from rfl)
  have HA := Lib.hid (rangeAt_boxed (w := w) (g := w.heap.size) (recL R) 50)
  have HEB := Lib.hid (show bnkE R = 0 ∧ bnkB R = putB (recB R) ∧ (putB (recB R)).length ≤ 1000 by unfold bnkE bnkB; rw [if_neg hR0, if_neg hR0, putB_length, recB_length hR.1]; exact ⟨rfl, rfl, by decide⟩)
  have HCOK := Lib.hid (show RecOK (cntS x0 x1).2 from stepC_ok (stepC_ok (c := (-1, zeroR)) zeroR_ok h0.1) h1.1)
  obtain ⟨L, hL⟩ : ∃ L, L = recL R := ⟨_, rfl⟩
  have HLL := Lib.hid (show L.length = 50 by rw [hL]; exact recL_length hR.1)
  rw [← hL] at HBR HA ⊢
  clear H h0 h1 l0 l1 hL hR0 hR
  obtain ⟨B, hBe⟩ : ∃ B, B = putB (recB R) := ⟨_, rfl⟩
  rw [← hBe] at HEB ⊢
  have HBL := Lib.hid HEB.out.2.2
  clear hBe
  go_enter Try.func48, Try.ntmps48
  go_upto_region 1 with fail
  refine wp_gen (fun W => Below w.heap.size w W ∧ W.rangeAt w.heap.size 0 L) ⟨by (repeat (first | (with_reducible exact Below.refl _ _) | (with_reducible assumption) | (with_reducible refine Below.alloc ?_ (by (repeat (first | (with_reducible exact Nat.le_refl _) | (with_reducible assumption) | (with_reducible refine le_up ?_) | (with_reducible refine le_alloc ?_) | (with_reducible refine le_setCell ?_) | (with_reducible refine le_drew ?_) | (with_reducible refine le_drewN ?_) | omega))) _) | (with_reducible refine Below.drew ?_) | (with_reducible refine Below.drewN ?_ _) | (with_reducible refine Below.setCell ?_ (by (repeat (first | (with_reducible exact Nat.le_refl _) | (with_reducible assumption) | (with_reducible refine le_up ?_) | (with_reducible refine le_alloc ?_) | (with_reducible refine le_setCell ?_) | (with_reducible refine le_drew ?_) | (with_reducible refine le_drewN ?_) | omega))) _) | (with_reducible refine Below.up ?_ (by (repeat (first | (with_reducible exact Nat.le_refl _) | (with_reducible assumption) | (with_reducible refine le_up ?_) | (with_reducible refine le_alloc ?_) | (with_reducible refine le_setCell ?_) | (with_reducible refine le_drew ?_) | (with_reducible refine le_drewN ?_) | omega)))))), HA.out⟩ ?_
  rintro W0 ⟨hb0, hr0⟩
  have HH0 := Lib.hid (HH.out.below hb0 hlt)
  have HR0 := Lib.hid hr0
  have HB0 := Lib.hid hb0
  clear hb0 hr0
  go_wp2_with (first | (go_at_call 76; with_reducible refine Calls.tells (bis_made _ _ _ _ _ _ HH0.out) ?_) | (refine wpList_load_mid rfl 50 (.tmp 3) (by rfl) w.heap.size 0 (by rfl) L _ HR0.out Try.underlying50 (by rfl) (by rw [HLL.out]; kernel_rfl) ?_))
  refine (HBR.out W0).mono ?_
  rintro e1 w1 ⟨bv, rfl, ho1, hb1⟩
  rw [HEB.out.1]
  rw [HEB.out.2.1] at ho1
  have H1 := Lib.hid (show Below w.heap.size w w1 ∧ OwnB w1 w.heap.size bv B from ⟨HB0.out.trans (hb1.mono HB0.out.size), ho1.mono HB0.out.size⟩)
  have HH1 := Lib.hid (HH.out.below H1.out.1 hlt)
  have HC := Lib.hid (counts_any s v0 v1 x0 x1 bg w1 HH1.out (HB.out.1.below H1.out.1) (HB.out.2.1.below H1.out.1) HB.out.2.2.1 HB.out.2.2.2)
  clear ho1 hb1 HR0 HB0 HH0
  obtain ⟨c, hc⟩ : ∃ c, c = cntS x0 x1 := ⟨_, rfl⟩
  have hcok : RecOK c.2 := by rw [hc]; exact HCOK.out
  rw [← hc] at HC HK
  clear hc HCOK
  obtain ⟨cz, cR⟩ := c
  dsimp only at HC HK hcok
  generalize nextK x0 x1 = kk at *
  go_wp2_with fail
  refine HC.out.mono ?_
  rintro e2 w2 ⟨rfl, xx, rfl⟩
  obtain ⟨M, hM⟩ : ∃ M, M = recL cR := ⟨_, rfl⟩
  have hml : M.length = 50 := by rw [hM]; exact recL_length hcok.1
  have hs := store_newR (up w1 xx) 50 M hml (by rw [hM]; exact recL_one hcok.1)
  have hst := hs.1
  have HS := Lib.hid hs.2.1
  rw [← hM]
  clear hs hM hcok
  go_upto_region 7 with fail
  refine wp_gen (fun W => StoAt W s v0 v1 bg true ∧ Below w.heap.size w W ∧ OwnB W w.heap.size bv B) ?_ ?_
  · have hbx : Below w1.heap.size w1 _ := (up_below w1 xx).trans (HS.out.mono (up_size w1 xx))
    exact ⟨HH1.out.below hbx HH1.out.lt, H1.out.1.trans (hbx.mono H1.out.1.size), H1.out.2.below hbx (Nat.le_refl _)⟩
  rintro W6 ⟨hs6, hb6, ho6⟩
  have c2 : W6.cell? ⟨s, 2, none⟩ = some (.int .i64 bg) := hs6.at_ 2 (by omega)
  have f2 := hs6.free 2
  haveI hls : LtSize s W6 := ⟨hs6.lt⟩
  have H6 := Lib.hid (And.intro hs6 (And.intro hb6 ho6))
  clear hs6 hb6 ho6 hst hml HS HC H1 HH1
  have hown : ∀ b, bv.ownBlock = some b → w.heap.size ≤ b := fun b hb => (H6.out.2.2.2.lt b hb).1
  by_cases hz : cz = 0
  · subst hz
    have hkk : kk = 1 := by rw [HK.out]; rfl
    subst hkk
    go_upto_region 10 with fail
    refine wp_gen (fun W => StoAt W s v0 v1 (1 : Int) true ∧ w.grownBy W (some s) ∧ OwnB W w.heap.size bv B ∧ s < W.heap.size) ?_ ?_
    · have hne : bv.ownBlock ≠ some s := fun e => by have := hown _ e; omega
      exact ⟨((H6.out.1.set 2 (by omega) _).set 2 (by omega) _).same (fun i hi => by
        have : i = 0 ∨ i = 1 ∨ i = 2 ∨ i = 3 := by omega
        rcases this with rfl | rfl | rfl | rfl <;> rfl), gr_trans (gr_below _ H6.out.2.1) (gr_trans (gr_set _ _ _ _) (gr_set _ _ _ _)), (H6.out.2.2.kept (gr_set _ _ _ _) (.inr hne)).kept (gr_set _ _ _ _) (.inr hne), by simpa using H6.out.1.lt⟩
    rintro W9 ⟨hs9, hg9, ho9, hl9⟩
    have c2 : W9.cell? ⟨s, 2, none⟩ = some (.int .i64 1) := hs9.at_ 2 (by omega)
    have cK : W9.cell? ⟨s, 1, none⟩ = some v1 := hs9.at_ 1 (by omega)
    have fK := hs9.free 1
    have H9 := Lib.hid (And.intro hs9 (And.intro hg9 ho9))
    clear hs9 hg9 ho9
    have HFK := Lib.hid (And.intro cK fK)
    clear cK fK
    refine wp_region_slim [11] [(0, 3), (1, 3), (2, 3), (3, 3), (4, 0), (6, 3), (8, 3), (9, 3), (5, 1), (7, 1), (10, 3), (11, 2)] (fun X => X.cell? ⟨s, 2, none⟩ = some (.int .i64 1)) (by kernel_rfl) (by kernel_rfl) (fun d v c a w h => by cases d <;> exact h) c2 ?_
    simp only [List.map_cons, List.map_nil, slim]
    refine wpSched_pure ?sv11 rfl (by rfl) (fun W => ?sh11) ?sr11; (case sh11 => (go_simp; try (with_reducible rfl))); simp only [Act.put, List.getElem_toArray, List.getElem_cons_zero, List.getElem_cons_succ, List.setIfInBounds_toArray, List.set_cons_zero, List.set_cons_succ]
    refine wpSched_pure ?sv12 rfl (by rfl) (fun W => ?sh12) ?sr12; (case sh12 => (go_simp; try (with_reducible rfl))); simp only [Act.put, List.getElem_toArray, List.getElem_cons_zero, List.getElem_cons_succ, List.setIfInBounds_toArray, List.set_cons_zero, List.set_cons_succ]
    refine wpSched_pure ?sv13 rfl (by rfl) (fun W => ?sh13) ?sr13; (case sh13 => (go_simp; try (with_reducible rfl))); simp only [Act.put, List.getElem_toArray, List.getElem_cons_zero, List.getElem_cons_succ, List.setIfInBounds_toArray, List.set_cons_zero, List.set_cons_succ]
    refine wpSched_pure ?sv14 rfl (by rfl) (fun W => ?sh14) ?sr14; (case sh14 => (go_simp; try (with_reducible rfl))); simp only [Act.put, List.getElem_toArray, List.getElem_cons_zero, List.getElem_cons_succ, List.setIfInBounds_toArray, List.set_cons_zero, List.set_cons_succ]
    refine wpSched_still ?sv15 rfl (by rfl) (fun W hW => ?sh15) ?sr15; (case sh15 => (have h1 := hW; go_simp; try (with_reducible rfl))); simp only [Act.put, List.getElem_toArray, List.getElem_cons_zero, List.getElem_cons_succ, List.setIfInBounds_toArray, List.set_cons_zero, List.set_cons_succ]
    refine wpSched_pure ?sv16 rfl (by rfl) (fun W => ?sh16) ?sr16; (case sh16 => (go_simp; try (with_reducible rfl))); simp only [Act.put, List.getElem_toArray, List.getElem_cons_zero, List.getElem_cons_succ, List.setIfInBounds_toArray, List.set_cons_zero, List.set_cons_succ]
    refine wpSched_pure ?sv17 rfl (by rfl) (fun W => ?sh17) ?sr17; (case sh17 => (go_simp; try (with_reducible rfl))); simp only [Act.put, List.getElem_toArray, List.getElem_cons_zero, List.getElem_cons_succ, List.setIfInBounds_toArray, List.set_cons_zero, List.set_cons_succ]
    refine wpSched_pure ?sv18 rfl (by rfl) (fun W => ?sh18) ?sr18; (case sh18 => (go_simp; try (with_reducible rfl))); simp only [Act.put, List.getElem_toArray, List.getElem_cons_zero, List.getElem_cons_succ, List.setIfInBounds_toArray, List.set_cons_zero, List.set_cons_succ]
    refine wpSched_eff rfl (by rfl) (fun K hK => ?_); go_simp
    have hcA : (W9.drew.alloc (.cells #[.int .u8 0] 5)).cell? ⟨s, 2, none⟩ = some (.int .i64 1) := cell_below (B := W9.heap.size) ((Below.drew (Below.refl _ _)).alloc (Nat.le_refl _) _) hl9 c2
    refine hK _ _ hcA ?_
    clear hK K
    have hbD : Below W9.heap.size W9 (W9.drew.alloc (.cells #[.int .u8 0] 5)) := (Below.drew (Below.refl _ _)).alloc (Nat.le_refl _) _
    have hlit : OwnB (W9.drew.alloc (.cells #[.int .u8 0] 5)) W9.heap.size (.slice (some ⟨W9.heap.size, 0, none⟩) 1 1) [0] := OwnB.lit W9.drew (bs := [0]) rfl (by simp) (by simp)
    obtain ⟨vA, wA, hrA, hoA, hgA, hlA⟩ := run_append_btsA (W9.drew.alloc (.cells #[.int .u8 0] 5)) 22 (.slice (some ⟨W9.heap.size, 0, none⟩) 1 1) bv [0] B (hlit.mono (Nat.zero_le _)) (H9.out.2.2.bts.below hbD) (by have := HBL.out; simp; omega)
    have hzA : (W9.drew.alloc (.cells #[.int .u8 0] 5)).heap.size = W9.heap.size + 1 := by rw [World.size_alloc]; rfl
    have hsA := hgA.size
    have hne : ∀ b, (Value.slice (some ⟨W9.heap.size, 0, none⟩) 1 1).ownBlock = some b → b = W9.heap.size := fun b hb => by simp only [Value.ownBlock, Option.some.injEq] at hb; exact hb.symm
    have cA2 := kept_cell' hcA hgA (fun e => by have := hne _ e; omega)
    refine wpSched_run vA rfl (by rfl) (exec_append (.tmp 38) (.tmp 39) 22 rfl (by rfl) (by rfl) hrA) cA2 ?_
    simp only [Act.put, List.getElem_toArray, List.getElem_cons_zero, List.getElem_cons_succ, List.setIfInBounds_toArray, List.set_cons_zero, List.set_cons_succ]
    refine wpSched_pure ?sv19 rfl (by rfl) (fun W => ?sh19) ?sr19; (case sh19 => (go_simp; try (with_reducible rfl))); simp only [Act.put, List.getElem_toArray, List.getElem_cons_zero, List.getElem_cons_succ, List.setIfInBounds_toArray, List.set_cons_zero, List.set_cons_succ]
    have hbA : Below W9.heap.size W9 wA := hbD.grown hgA (by omega) (fun b hb => by have := hne b hb; omega)
    have hvA : ∀ b, vA.ownBlock = some b → W9.heap.size ≤ b := fun b hb => by
      rcases hlA with h | h
      · have := hne b (by rw [← h]; exact hb); omega
      · rw [h] at hb; simp only [Option.some.injEq] at hb; omega
    have hsA9 : StoAt wA s v0 v1 (1 : Int) true := H9.out.1.below hbA hl9
    have cK := HFK.out.1
    have cKA : wA.cell? ⟨s, 1, none⟩ = some v1 := hsA9.at_ 1 (by omega)
    have fKA := hsA9.free 1
    haveI hlsA : LtSize s wA := ⟨hsA9.lt⟩
    have hEND : BegunR w s v0 v1 1 B (.returned (.int .i64 0)) (wA.setCell ⟨s, 1, none⟩ vA) := by
      refine ⟨vA, rfl, (hsA9.set 1 (by omega) vA).same (fun i hi => ?_), ?_, gr_trans H9.out.2.1 (gr_trans (gr_below _ hbA) (gr_set _ _ _ _))⟩
      · have : i = 0 ∨ i = 1 ∨ i = 2 ∨ i = 3 := by omega
        rcases this with rfl | rfl | rfl | rfl <;> rfl
      · have h1 : OwnB wA w.heap.size vA (0 :: B) := by
          refine ⟨hoA.1, hoA.2.1, hoA.2.2.imp id (fun ⟨g, cap, cur, k1, k2, k3⟩ => ⟨g, cap, cur, k1, ?_, k3⟩)⟩
          have := hvA g (by rw [k1]; rfl)
          have := H9.out.2.1.size
          omega
        exact h1.kept (gr_set _ _ _ _) (.inr (fun e => by have := hvA _ e; omega))
    have HEND := Lib.hid hEND
    obtain ⟨sa, sn, sc, hve⟩ := hoA.bts.slice
    subst hve
    clear hEND hvA hbA hne cA2 hrA hoA hgA hlA hlit hbD hcA c2 cK
    refine wpSched_tail rfl (by rfl) (fun K hK => ?_); go_simp
    refine hK _ _ ?_
    clear hK K
    refine wpSched_nil ?_
    go_wp2_with fail
    go_ret
    exact HEND.out
  · have hkk : kk = 0 := by rw [HK.out, if_neg hz]
    subst hkk
    have hz' : ¬ cz = 0 := hz
    go_upto_region 10 with fail
    refine wp_gen (fun W => StoAt W s v0 v1 (0 : Int) true ∧ w.grownBy W (some s) ∧ OwnB W w.heap.size bv B ∧ s < W.heap.size) ?_ ?_
    · have hne : bv.ownBlock ≠ some s := fun e => by have := hown _ e; omega
      exact ⟨(H6.out.1.set 2 (by omega) _).same (fun i hi => by
        have : i = 0 ∨ i = 1 ∨ i = 2 ∨ i = 3 := by omega
        rcases this with rfl | rfl | rfl | rfl <;> rfl), gr_trans (gr_below _ H6.out.2.1) (gr_set _ _ _ _), H6.out.2.2.kept (gr_set _ _ _ _) (.inr hne), by simpa using H6.out.1.lt⟩
    rintro W9 ⟨hs9, hg9, ho9, hl9⟩
    have c2 : W9.cell? ⟨s, 2, none⟩ = some (.int .i64 0) := hs9.at_ 2 (by omega)
    have cK : W9.cell? ⟨s, 0, none⟩ = some v0 := hs9.at_ 0 (by omega)
    have fK := hs9.free 0
    have H9 := Lib.hid (And.intro hs9 (And.intro hg9 ho9))
    clear hs9 hg9 ho9
    have HFK := Lib.hid (And.intro cK fK)
    clear cK fK
    refine wp_region_slim [11] [(0, 3), (1, 3), (2, 3), (3, 3), (4, 0), (6, 3), (8, 3), (9, 3), (5, 1), (7, 1), (10, 3), (11, 2)] (fun X => X.cell? ⟨s, 2, none⟩ = some (.int .i64 0)) (by kernel_rfl) (by kernel_rfl) (fun d v c a w h => by cases d <;> exact h) c2 ?_
    simp only [List.map_cons, List.map_nil, slim]
    refine wpSched_pure ?sv20 rfl (by rfl) (fun W => ?sh20) ?sr20; (case sh20 => (go_simp; try (with_reducible rfl))); simp only [Act.put, List.getElem_toArray, List.getElem_cons_zero, List.getElem_cons_succ, List.setIfInBounds_toArray, List.set_cons_zero, List.set_cons_succ]
    refine wpSched_pure ?sv21 rfl (by rfl) (fun W => ?sh21) ?sr21; (case sh21 => (go_simp; try (with_reducible rfl))); simp only [Act.put, List.getElem_toArray, List.getElem_cons_zero, List.getElem_cons_succ, List.setIfInBounds_toArray, List.set_cons_zero, List.set_cons_succ]
    refine wpSched_pure ?sv22 rfl (by rfl) (fun W => ?sh22) ?sr22; (case sh22 => (go_simp; try (with_reducible rfl))); simp only [Act.put, List.getElem_toArray, List.getElem_cons_zero, List.getElem_cons_succ, List.setIfInBounds_toArray, List.set_cons_zero, List.set_cons_succ]
    refine wpSched_pure ?sv23 rfl (by rfl) (fun W => ?sh23) ?sr23; (case sh23 => (go_simp; try (with_reducible rfl))); simp only [Act.put, List.getElem_toArray, List.getElem_cons_zero, List.getElem_cons_succ, List.setIfInBounds_toArray, List.set_cons_zero, List.set_cons_succ]
    refine wpSched_still ?sv24 rfl (by rfl) (fun W hW => ?sh24) ?sr24; (case sh24 => (have h1 := hW; go_simp; try (with_reducible rfl))); simp only [Act.put, List.getElem_toArray, List.getElem_cons_zero, List.getElem_cons_succ, List.setIfInBounds_toArray, List.set_cons_zero, List.set_cons_succ]
    refine wpSched_pure ?sv25 rfl (by rfl) (fun W => ?sh25) ?sr25; (case sh25 => (go_simp; try (with_reducible rfl))); simp only [Act.put, List.getElem_toArray, List.getElem_cons_zero, List.getElem_cons_succ, List.setIfInBounds_toArray, List.set_cons_zero, List.set_cons_succ]
    refine wpSched_pure ?sv26 rfl (by rfl) (fun W => ?sh26) ?sr26; (case sh26 => (go_simp; try (with_reducible rfl))); simp only [Act.put, List.getElem_toArray, List.getElem_cons_zero, List.getElem_cons_succ, List.setIfInBounds_toArray, List.set_cons_zero, List.set_cons_succ]
    refine wpSched_pure ?sv27 rfl (by rfl) (fun W => ?sh27) ?sr27; (case sh27 => (go_simp; try (with_reducible rfl))); simp only [Act.put, List.getElem_toArray, List.getElem_cons_zero, List.getElem_cons_succ, List.setIfInBounds_toArray, List.set_cons_zero, List.set_cons_succ]
    refine wpSched_eff rfl (by rfl) (fun K hK => ?_); go_simp
    have hcA : (W9.drew.alloc (.cells #[.int .u8 0] 5)).cell? ⟨s, 2, none⟩ = some (.int .i64 0) := cell_below (B := W9.heap.size) ((Below.drew (Below.refl _ _)).alloc (Nat.le_refl _) _) hl9 c2
    refine hK _ _ hcA ?_
    clear hK K
    have hbD : Below W9.heap.size W9 (W9.drew.alloc (.cells #[.int .u8 0] 5)) := (Below.drew (Below.refl _ _)).alloc (Nat.le_refl _) _
    have hlit : OwnB (W9.drew.alloc (.cells #[.int .u8 0] 5)) W9.heap.size (.slice (some ⟨W9.heap.size, 0, none⟩) 1 1) [0] := OwnB.lit W9.drew (bs := [0]) rfl (by simp) (by simp)
    obtain ⟨vA, wA, hrA, hoA, hgA, hlA⟩ := run_append_btsA (W9.drew.alloc (.cells #[.int .u8 0] 5)) 22 (.slice (some ⟨W9.heap.size, 0, none⟩) 1 1) bv [0] B (hlit.mono (Nat.zero_le _)) (H9.out.2.2.bts.below hbD) (by have := HBL.out; simp; omega)
    have hzA : (W9.drew.alloc (.cells #[.int .u8 0] 5)).heap.size = W9.heap.size + 1 := by rw [World.size_alloc]; rfl
    have hsA := hgA.size
    have hne : ∀ b, (Value.slice (some ⟨W9.heap.size, 0, none⟩) 1 1).ownBlock = some b → b = W9.heap.size := fun b hb => by simp only [Value.ownBlock, Option.some.injEq] at hb; exact hb.symm
    have cA2 := kept_cell' hcA hgA (fun e => by have := hne _ e; omega)
    refine wpSched_run vA rfl (by rfl) (exec_append (.tmp 38) (.tmp 39) 22 rfl (by rfl) (by rfl) hrA) cA2 ?_
    simp only [Act.put, List.getElem_toArray, List.getElem_cons_zero, List.getElem_cons_succ, List.setIfInBounds_toArray, List.set_cons_zero, List.set_cons_succ]
    refine wpSched_pure ?sv28 rfl (by rfl) (fun W => ?sh28) ?sr28; (case sh28 => (go_simp; try (with_reducible rfl))); simp only [Act.put, List.getElem_toArray, List.getElem_cons_zero, List.getElem_cons_succ, List.setIfInBounds_toArray, List.set_cons_zero, List.set_cons_succ]
    have hbA : Below W9.heap.size W9 wA := hbD.grown hgA (by omega) (fun b hb => by have := hne b hb; omega)
    have hvA : ∀ b, vA.ownBlock = some b → W9.heap.size ≤ b := fun b hb => by
      rcases hlA with h | h
      · have := hne b (by rw [← h]; exact hb); omega
      · rw [h] at hb; simp only [Option.some.injEq] at hb; omega
    have hsA9 : StoAt wA s v0 v1 (0 : Int) true := H9.out.1.below hbA hl9
    have cK := HFK.out.1
    have cKA : wA.cell? ⟨s, 0, none⟩ = some v0 := hsA9.at_ 0 (by omega)
    have fKA := hsA9.free 0
    haveI hlsA : LtSize s wA := ⟨hsA9.lt⟩
    have hEND : BegunR w s v0 v1 0 B (.returned (.int .i64 0)) (wA.setCell ⟨s, 0, none⟩ vA) := by
      refine ⟨vA, rfl, (hsA9.set 0 (by omega) vA).same (fun i hi => ?_), ?_, gr_trans H9.out.2.1 (gr_trans (gr_below _ hbA) (gr_set _ _ _ _))⟩
      · have : i = 0 ∨ i = 1 ∨ i = 2 ∨ i = 3 := by omega
        rcases this with rfl | rfl | rfl | rfl <;> rfl
      · have h1 : OwnB wA w.heap.size vA (0 :: B) := by
          refine ⟨hoA.1, hoA.2.1, hoA.2.2.imp id (fun ⟨g, cap, cur, k1, k2, k3⟩ => ⟨g, cap, cur, k1, ?_, k3⟩)⟩
          have := hvA g (by rw [k1]; rfl)
          have := H9.out.2.1.size
          omega
        exact h1.kept (gr_set _ _ _ _) (.inr (fun e => by have := hvA _ e; omega))
    have HEND := Lib.hid hEND
    obtain ⟨sa, sn, sc, hve⟩ := hoA.bts.slice
    subst hve
    clear hEND hvA hbA hne cA2 hrA hoA hgA hlA hlit hbD hcA c2 cK
    refine wpSched_tail rfl (by rfl) (fun K hK => ?_); go_simp
    refine hK _ _ ?_
    clear hK K
    refine wpSched_nil ?_
    go_wp2_with fail
    go_ret
    exact HEND.out
end Go.Proofs.Ytjkgodhoonkinaa
