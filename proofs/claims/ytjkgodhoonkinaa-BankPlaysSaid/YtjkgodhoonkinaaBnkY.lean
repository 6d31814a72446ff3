/-
  A store of two banks: its small methods, and which bank counts.
-/
import Derived.Test.YtjkgodhoonkinaaBnkX
namespace Go.Proofs.Ytjkgodhoonkinaa
open Go.RowKit
set_option linter.unusedVariables false
set_option linter.unusedSimpArgs false

def StoV (v0 v1 : Value) (bg : Int) (made : Bool) : Nat → Value
  | 0 => v0
  | 1 => v1
  | 2 => .int .i64 bg
  | _ => .bool made
abbrev StoAt (w : World) (s : Nat) (v0 v1 : Value) (bg : Int) (made : Bool) : Prop := Cells w s 4 (StoV v0 v1 bg made)
theorem bis_made (w : World) (s : Nat) (v0 v1 : Value) (bg : Int) (made : Bool) (H : StoAt w s v0 v1 bg made) :
    Calls Try.prog 76 #[.pointer (some ⟨s, 0, none⟩)] w (Tells w (.bool made)) := by
  have c3 : w.cell? ⟨s, 3, none⟩ = some (.bool made) := H.at_ 3 (by omega)
  clear H
  go_enter Try.func76, Try.ntmps76
  go_wp2
  go_ret
  exact Tells.mk rfl
theorem bis_nil (w : World) : Calls Try.prog 76 #[.pointer none] w (Tells w (.bool false)) := by
  go_enter Try.func76, Try.ntmps76
  go_wp2
  go_ret
  exact Tells.mk rfl
theorem bNew_any (w : World) : Calls Try.prog 47 #[] w (fun e w' => e = .returned (.pointer (some ⟨w.heap.size, 0, none⟩)) ∧ Below w.heap.size w w' ∧ StoAt w' w.heap.size (.slice none 0 0) (.slice none 0 0) (-1) true ∧ w.heap.size < w'.heap.size) := by
  go_enter Try.func47, Try.ntmps47
  go_wp2
  go_ret
  refine ⟨rfl, by (repeat (first | (with_reducible exact Below.refl _ _) | (with_reducible assumption) | (with_reducible refine Below.alloc ?_ (by (repeat (first | (with_reducible exact Nat.le_refl _) | (with_reducible assumption) | (with_reducible refine le_up ?_) | (with_reducible refine le_alloc ?_) | (with_reducible refine le_setCell ?_) | (with_reducible refine le_drew ?_) | (with_reducible refine le_drewN ?_) | omega))) _) | (with_reducible refine Below.drew ?_) | (with_reducible refine Below.drewN ?_ _) | (with_reducible refine Below.setCell ?_ (by (repeat (first | (with_reducible exact Nat.le_refl _) | (with_reducible assumption) | (with_reducible refine le_up ?_) | (with_reducible refine le_alloc ?_) | (with_reducible refine le_setCell ?_) | (with_reducible refine le_drew ?_) | (with_reducible refine le_drewN ?_) | omega))) _) | (with_reducible refine Below.up ?_ (by (repeat (first | (with_reducible exact Nat.le_refl _) | (with_reducible assumption) | (with_reducible refine le_up ?_) | (with_reducible refine le_alloc ?_) | (with_reducible refine le_setCell ?_) | (with_reducible refine le_drew ?_) | (with_reducible refine le_drewN ?_) | omega)))))), ⟨by simp, fun i hi => ?_, fun i => World.frozen?_alloc_new _ _ _ _⟩, by simp⟩
  have : i = 0 ∨ i = 1 ∨ i = 2 ∨ i = 3 := by omega
  rcases this with rfl | rfl | rfl | rfl <;> simp [StoV]
theorem Lose_made (w : World) (s : Nat) (v0 v1 : Value) (bg : Int) (H : StoAt w s v0 v1 bg true) :
    Calls Try.prog 50 #[.pointer (some ⟨s, 0, none⟩)] w (fun e w' => (∃ v, e = .returned v) ∧ StoAt w' s v0 v1 (-1) true ∧ w.grownBy w' (some s)) := by
  have HH := Lib.hid H
  have c2 : w.cell? ⟨s, 2, none⟩ = some (.int .i64 bg) := H.at_ 2 (by omega)
  have f2 := H.free 2
  clear H
  go_enter Try.func50, Try.ntmps50
  go_wp2_with (go_at_call 76; with_reducible refine Calls.tells (bis_made _ _ _ _ _ _ HH.out) ?_)
  go_end0
  refine ⟨⟨_, rfl⟩, (HH.out.set 2 (by omega) _).same (fun i hi => ?_), gr_set _ _ _ _⟩
  have : i = 0 ∨ i = 1 ∨ i = 2 ∨ i = 3 := by omega
  rcases this with rfl | rfl | rfl | rfl <;> rfl
theorem Lose_no (w : World) (p : Option Addr) (H : Calls Try.prog 76 #[.pointer p] w (Tells w (.bool false))) :
    Calls Try.prog 50 #[.pointer p] w (fun e w' => (∃ v, e = .returned v) ∧ w = w') := by
  have HH := Lib.hid H
  clear H
  go_enter Try.func50, Try.ntmps50
  go_wp2_with (go_at_call 76; with_reducible refine Calls.tells (HH.out) ?_)
  go_end0
  exact ⟨⟨_, rfl⟩, rfl⟩
/-! ### which bank counts -/
def goodX (x : List Nat) : Bool := decide (0 < x.length) && (decide (x.getD 0 0 = 165) && bnkG (x.drop 1))
def stepC (c : Int × List Nat) (k : Int) (x : List Nat) : Int × List Nat :=
  if goodX x && (decide (c.1 = -1) || decide (c.2.getD 0 0 < (bnkR (x.drop 1)).getD 0 0)) then (k, bnkR (x.drop 1)) else c
def cntS (x0 x1 : List Nat) : Int × List Nat := stepC (stepC (-1, zeroR) 0 x0) 1 x1
theorem stepC_ok {c : Int × List Nat} (hc : RecOK c.2) {k : Int} {x : List Nat} (hx : ∀ y ∈ x, y < 256) : RecOK (stepC c k x).2 := by
  unfold stepC
  split
  · exact bnkR_ok (fun y hy => hx y (List.mem_of_mem_drop hy))
  · exact hc
theorem stepC_at {c : Int × List Nat} {k : Int} {x : List Nat} : (stepC c k x).1 = k ∨ (stepC c k x).1 = c.1 := by
  unfold stepC
  split
  · exact .inl rfl
  · exact .inr rfl
/-- What counts so far: t the result's variable, b the best one's. -/
structure CntAt (w : World) (t b : Nat) (c : Int × List Nat) (wr : World) : Prop where
  bel : Below w.heap.size w wr
  res : wr.there t 0 50
  best : wr.rangeAt b 0 (recL c.2)
  oth : wr.there b 0 50
  ord : w.heap.size ≤ t ∧ t < b ∧ b < wr.heap.size
theorem CntAt.below {w wr w' : World} {t b : Nat} {c : Int × List Nat} (H : CntAt w t b c wr) (hb : Below wr.heap.size wr w') : CntAt w t b c w' := by
  obtain ⟨o1, o2, o3⟩ := H.ord
  exact ⟨H.bel.trans (hb.mono H.bel.size), there_below hb (by omega) H.res, rangeAt_below hb o3 H.best, there_below hb o3 H.oth, o1, o2, Nat.lt_of_lt_of_le o3 hb.size⟩
theorem CntAt.take {w wr : World} {t b : Nat} {c : Int × List Nat} (H : CntAt w t b c wr) (c2 : Int × List Nat) (h2 : RecOK c2.2) : CntAt w t b c2 (wr.setCells b 0 (recL c2.2)) := by
  obtain ⟨o1, o2, o3⟩ := H.ord
  exact ⟨H.bel.trans (below_setCells _ _ _ _ _ (by omega)), World.there_setCells H.res _ _ _, World.rangeAt_setCells_same _ _ _ _ (by rw [recL_length h2.1]; exact H.oth), World.there_setCells H.oth _ _ _, o1, o2, by rw [size_setCells]; exact o3⟩
theorem run_ix2a (w : World) (a0 : Option Addr) (n0 c0 : Nat) (a1 : Option Addr) (n1 c1 : Nat) : (Instr.index 98 (.agg #[.slice a0 n0 c0, .slice a1 n1 c1]) (.int .i64 0)).run Try.prog w = .ok (.slice a0 n0 c0) w := by kernel_rfl
theorem run_ix2b (w : World) (a0 : Option Addr) (n0 c0 : Nat) (a1 : Option Addr) (n1 c1 : Nat) : (Instr.index 98 (.agg #[.slice a0 n0 c0, .slice a1 n1 c1]) (.int .i64 1)).run Try.prog w = .ok (.slice a1 n1 c1) w := by kernel_rfl
set_option maxRecDepth 100000 in
set_option maxHeartbeats 4000000 in
theorem counts_any (s : Nat) (v0 v1 : Value) (x0 x1 : List Nat) (bg : Int) (w : World) (H : StoAt w s v0 v1 bg true) (h0 : Bts w v0 x0) (h1 : Bts w v1 x1) (l0 : x0.length ≤ 1000000) (l1 : x1.length ≤ 1000000) :
    Calls Try.prog 77 #[.pointer (some ⟨s, 0, none⟩)] w (Gives w (.tuple #[.int .i64 (cntS x0 x1).1, .agg (recL (cntS x0 x1).2).toArray])) := by
  have HH := Lib.hid H
  have HB := Lib.hid (And.intro h0 h1)
  have HL := Lib.hid (And.intro l0 l1)
  obtain ⟨a0, n0, c0, rfl⟩ := h0.slice
  obtain ⟨a1, n1, c1, rfl⟩ := h1.slice
  clear H h0 h1 l0 l1
  go_enter Try.func77, Try.ntmps77
  go_upto_region 1 with fail
  refine wp_gen (fun W => W.there w.heap.size 0 50 ∧ Below w.heap.size w W ∧ W.heap.size = w.heap.size + 1) ⟨there_new w _ _ 50 (by rfl), by (repeat (first | (with_reducible exact Below.refl _ _) | (with_reducible assumption) | (with_reducible refine Below.alloc ?_ (by (repeat (first | (with_reducible exact Nat.le_refl _) | (with_reducible assumption) | (with_reducible refine le_up ?_) | (with_reducible refine le_alloc ?_) | (with_reducible refine le_setCell ?_) | (with_reducible refine le_drew ?_) | (with_reducible refine le_drewN ?_) | omega))) _) | (with_reducible refine Below.drew ?_) | (with_reducible refine Below.drewN ?_ _) | (with_reducible refine Below.setCell ?_ (by (repeat (first | (with_reducible exact Nat.le_refl _) | (with_reducible assumption) | (with_reducible refine le_up ?_) | (with_reducible refine le_alloc ?_) | (with_reducible refine le_setCell ?_) | (with_reducible refine le_drew ?_) | (with_reducible refine le_drewN ?_) | omega))) _) | (with_reducible refine Below.up ?_ (by (repeat (first | (with_reducible exact Nat.le_refl _) | (with_reducible assumption) | (with_reducible refine le_up ?_) | (with_reducible refine le_alloc ?_) | (with_reducible refine le_setCell ?_) | (with_reducible refine le_drew ?_) | (with_reducible refine le_drewN ?_) | omega)))))), by simp⟩ ?_
  rintro W0 ⟨ht0, hb0, hs0⟩
  obtain ⟨Z, hZ⟩ : ∃ Z, Z = recL zeroR := ⟨_, rfl⟩
  have hzl : Z.length = 50 := by rw [hZ]; rfl
  have hs := store_newR W0 50 Z hzl (by rw [hZ]; exact recL_one rfl)
  have hst := hs.1
  have H1 := Lib.hid (And.intro ht0 (And.intro hb0 (And.intro hs0 hs.2)))
  have HZB := Lib.hid (fun W => (show (Instr.build 50 #[]).run Try.prog W = .ok (.agg Z.toArray) W by rw [hZ]; exact run_bld0 W))
  have HZE := Lib.hid hZ
  clear ht0 hb0 hs0 hs hZ
  go_upto_region 2 with (refine wpList_bld0 rfl 50 rfl (.agg Z.toArray) HZB.out ?_)
  refine wp_gen (fun W => CntAt w w.heap.size W0.heap.size (-1, zeroR) W) ?_ ?_
  · obtain ⟨ht0, hb0, hs0, b2, r2, t2, l2⟩ := H1.out
    rw [HZE.out] at r2 t2 l2 b2 ⊢
    exact ⟨hb0.trans (b2.mono hb0.size), there_below b2 (by omega) ht0, r2, t2, Nat.le_refl _, by omega, l2⟩
  rintro W1 hC1
  have HC1 := Lib.hid hC1
  clear hC1 H1 hst hzl HZB HZE
  generalize W0.heap.size = b at *
  have c0 : W1.cell? ⟨s, 0, none⟩ = some (.slice a0 n0 c0) := by rw [HC1.out.bel.cell (p := ⟨s, 0, none⟩) HH.out.lt]; exact HH.out.at_ 0 (by omega)
  have c1 : W1.cell? ⟨s, 1, none⟩ = some (.slice a1 n1 c1) := by rw [HC1.out.bel.cell (p := ⟨s, 1, none⟩) HH.out.lt]; exact HH.out.at_ 1 (by omega)
  haveI hls : LtSize s W1 := ⟨Nat.lt_of_lt_of_le HH.out.lt HC1.out.bel.size⟩
  go_wp2_with fail
  clear c0 c1
  go_loopw [4, 15] (fun v4 v15 wr => ∃ (k : Nat) (c : Int × List Nat), v15 = .int .i64 (k : Int) ∧ v4 = .int .i64 c.1 ∧ (k = 0 ∧ c = (-1, zeroR) ∨ k = 1 ∧ c = stepC (-1, zeroR) 0 x0 ∨ k = 2 ∧ c = cntS x0 x1) ∧ CntAt w w.heap.size b c wr) (fun _ v15 _ => 2 - (intOf v15).toNat)
  case atStart => exact ⟨0, _, rfl, rfl, .inl ⟨rfl, rfl⟩, HC1.out⟩
  case round =>
    obtain ⟨k, c, rfl, rfl, hkc, hC⟩ := hrel
    have HC := Lib.hid hC
    clear hC HC1 hls
    rcases hkc with ⟨rfl, hc⟩ | ⟨rfl, hc⟩ | ⟨rfl, hc⟩
    · have HR := Lib.hid (show RecOK c.2 ∧ (c.1 = -1 ∨ c.1 = 0) from by rw [hc]; exact ⟨zeroR_ok, .inl rfl⟩)
      have HN := Lib.hid (fun (c' : Int × List Nat) (h : c' = stepC c 0 x0) => (show c' = stepC (-1, zeroR) 0 x0 by rw [h, hc]))
      clear hc
      obtain ⟨cz, cR⟩ := c
      dsimp only at HR ⊢
      rw [show ((0 : Nat) : Int) = 0 from rfl]
      have hix := run_ix2a wr a0 n0 c0 a1 n1 c1
      obtain ⟨x, hx⟩ : ∃ x, x = x0 := ⟨_, rfl⟩
      have HX := Lib.hid (show Bts w (.slice a0 n0 c0) x ∧ x.length ≤ 1000000 by rw [hx]; exact ⟨HB.out.1, HL.out.1⟩)
      rw [← hx] at HN
      have HXE := Lib.hid hx
      clear hx
      by_cases hn : n0 = 0
      · subst hn
        have hsame := HN.out (cz, cR) (by
          have := HX.out.1.len
          have hg : goodX x = false := by unfold goodX; rw [← this]; rfl
          unfold stepC; rw [hg]; rfl)
        have HS := Lib.hid hsame
        clear hsame
        go_wp2_with fail
        exact ⟨⟨1, (cz, cR), (by first | rfl | go_num), rfl, .inr (.inl ⟨rfl, by rw [← HXE.out]; exact HS.out⟩), HC.out⟩, by simp [intOf]⟩
      · have hxl := HX.out.1.len
        have hxp : 0 < x.length := by omega
        obtain ⟨g, off, cap, hsl, hlc, hc63, hgb, hcell⟩ := HX.out.1.some hxp
        obtain ⟨rfl, rfl, rfl⟩ : a0 = some ⟨g, off, none⟩ ∧ n0 = x.length ∧ c0 = cap := by simpa using hsl
        have z0 : wr.cell? ⟨g, off, none⟩ = some (.int .u8 ((x.getD 0 0 : Nat) : Int)) := by
          rw [HC.out.bel.cell (p := ⟨g, off, none⟩) hgb]; exact hcell 0 hxp
        haveI hlg : LtSize g wr := ⟨Nat.lt_of_lt_of_le hgb HC.out.bel.size⟩
        have HXL := Lib.hid (And.intro hxp (And.intro hlc hcell))
        generalize hm : x.length = m at *
        have HM := Lib.hid hm
        clear hxp hlc hcell hsl hm
        have hn' : ¬ (m : Int) = 0 := by omega
        have hn0 : (0 : Int) < (m : Int) := by omega
        obtain ⟨y0, hy0⟩ : ∃ y, y = x.getD 0 0 := ⟨_, rfl⟩
        rw [← hy0] at z0
        have HY := Lib.hid hy0
        clear hy0
        by_cases h165 : y0 = 165
        · subst h165
          have hm1 : 1 ≤ m := by omega
          have hlc' : m ≤ c0 := HXL.out.2.1
          have HBK := Lib.hid (bts_skip (show Bts wr (.slice (some ⟨g, off, none⟩) m c0) x from HX.out.1.below HC.out.bel) 1 hm1 hlc')
          have hxl1 := HX.out.2
          go_wp2_with (refine wpList_skip rfl _ _ rfl 1 g off m c0 rfl rfl hm1 hlc' ?_)
          refine (bRead_any _ (x.drop 1) wr HBK.out (by rw [List.length_drop, HM.out]; omega)).mono ?_
          rintro e2 w2 ⟨rfl, xx, rfl⟩
          obtain ⟨L8, hL8⟩ : ∃ L, L = recL (bnkR (x.drop 1)) := ⟨_, rfl⟩
          have hok8 : RecOK (bnkR (x.drop 1)) := bnkR_ok (fun y hy => HX.out.1.1 y (List.mem_of_mem_drop hy))
          have hll8 : L8.length = 50 := by rw [hL8]; exact recL_length hok8.1
          have hone8 : L8.toArray.all (·.oneCell') = true := by rw [hL8]; exact recL_one hok8.1
          have hs8 := store_newR (up wr xx) 50 L8 hll8 hone8
          have hst8 := hs8.1
          have HS8 := Lib.hid hs8.2
          have HL8 := Lib.hid (And.intro hll8 (And.intro hone8 (And.intro hL8 hok8)))
          rw [← hL8]
          clear hs8 hone8 hL8 hok8 hxl1
          have hFv : bnkF (x.drop 1) = if bnkG (x.drop 1) then 0 else 300 := rfl
          by_cases hg : bnkG (x.drop 1) = true
          · rw [hFv, if_pos hg]
            have HGX := Lib.hid (show goodX x = true by unfold goodX; rw [← HY.out, hg, HM.out]; simp; omega)
            clear hFv hg
            go_upto_region 7 with fail
            refine wp_gen (fun W => CntAt w w.heap.size b (cz, cR) W ∧ W.rangeAt (up wr xx).heap.size 0 L8 ∧ (up wr xx).heap.size < W.heap.size) ⟨HC.out.below ((up_below wr xx).trans (HS8.out.1.mono (up_size wr xx))), HS8.out.2.1, HS8.out.2.2.2⟩ ?_
            rintro W7 ⟨hc7, hr7, hl7⟩
            have HC7 := Lib.hid (And.intro hc7 (And.intro hr7 hl7))
            clear hst8 hc7 hr7 hll8 HS8
            generalize (up wr xx).heap.size = q8 at *
            haveI hlq : LtSize q8 W7 := ⟨hl7⟩
            haveI hlb : LtSize b W7 := ⟨HC7.out.1.ord.2.2⟩
            have z8 : W7.cell? ⟨q8, 0, none⟩ = some (.int .u32 (((bnkR (x.drop 1)).getD 0 0 : Nat) : Int)) := by
              have := HC7.out.2.1 0 _ (by rw [HL8.out.2.2.1]; exact recL_get HL8.out.2.2.2.1 0 (by omega))
              rwa [Nat.zero_add] at this
            have zb : W7.cell? ⟨b, 0, none⟩ = some (.int .u32 ((cR.getD 0 0 : Nat) : Int)) := by
              have := HC7.out.1.best 0 _ (recL_get HR.out.1.1 0 (by omega))
              rwa [Nat.zero_add] at this
            have HR2 := HR.out.2
            rcases HR2 with hz | hz
            · skip
              subst hz
              have HW := Lib.hid True.intro
              have HS := Lib.hid (HN.out (0, bnkR (x.drop 1)) (by unfold stepC; rw [HGX.out]; simp))
              go_upto_region 8 with fail
              refine wp_region_slim [3] [(0, 3), (1, 0), (2, 3), (3, 2)] (fun X => X.rangeAt q8 0 L8) (by kernel_rfl) (by kernel_rfl) (fun d v c a w h => by cases d <;> exact h) HC7.out.2.1 ?_
              simp only [List.map_cons, List.map_nil, slim]
              refine wpSched_pure ?sv1 rfl (by rfl) (fun W => ?sh1) ?sr1; (case sh1 => (go_simp; try (with_reducible rfl))); simp only [Act.put, List.getElem_toArray, List.getElem_cons_zero, List.getElem_cons_succ, List.setIfInBounds_toArray, List.set_cons_zero, List.set_cons_succ]
              refine wpSched_load 50 (.tmp 8) q8 0 L8 _ rfl rfl (by rfl) (by rfl) (fun X hX => hX) Try.underlying50 (by rfl) (by rw [HL8.out.1]; kernel_rfl) ?_
              simp only [Act.put, List.getElem_toArray, List.getElem_cons_zero, List.getElem_cons_succ, List.setIfInBounds_toArray, List.set_cons_zero, List.set_cons_succ]
              refine wpSched_pure ?sv2 rfl (by rfl) (fun W => ?sh2) ?sr2; (case sh2 => (go_simp; try (with_reducible rfl))); simp only [Act.put, List.getElem_toArray, List.getElem_cons_zero, List.getElem_cons_succ, List.setIfInBounds_toArray, List.set_cons_zero, List.set_cons_succ]
              refine wpSched_storeT rfl (by rfl) (exec_store 50 (.tmp 5) (.tmp 48) b 0 L8 rfl (by rfl) (by rfl) (by rw [HL8.out.1]; exact HC7.out.1.oth) (by rw [HL8.out.1]; kernel_rfl) HL8.out.2.1) ?_
              simp only [Act.put, List.getElem_toArray, List.getElem_cons_zero, List.getElem_cons_succ, List.setIfInBounds_toArray, List.set_cons_zero, List.set_cons_succ]
              refine wpSched_nil ?_
              have HT := Lib.hid (show CntAt w w.heap.size b (0, bnkR (x.drop 1)) (W7.drew.setCells b 0 L8) from by
                rw [HL8.out.2.2.1]; exact (HC7.out.1.below (Below.drew (Below.refl _ _))).take (0, bnkR (x.drop 1)) HL8.out.2.2.2)
              go_wp2_with fail
              exact ⟨⟨1, (0, bnkR (x.drop 1)), (by first | rfl | go_num), rfl, .inr (.inl ⟨rfl, by rw [← HXE.out]; exact HS.out⟩), HT.out⟩, by simp [intOf]⟩
            · skip
              subst hz
              obtain ⟨s8, hs8⟩ : ∃ s, s = (bnkR (x.drop 1)).getD 0 0 := ⟨_, rfl⟩
              obtain ⟨sb, hsb⟩ : ∃ s, s = cR.getD 0 0 := ⟨_, rfl⟩
              rw [← hs8] at z8
              rw [← hsb] at zb
              by_cases hlt : sb < s8
              · have HW := Lib.hid (show decide (cR.getD 0 0 < (bnkR (x.drop 1)).getD 0 0) = true by rw [← hs8, ← hsb]; simp [hlt])
                have hlt' : (sb : Int) < (s8 : Int) := by omega
                clear hs8 hsb
                have HS := Lib.hid (HN.out (0, bnkR (x.drop 1)) (by unfold stepC; rw [HGX.out]; dsimp only; rw [HW.out]; simp))
                go_upto_region 8 with fail
                refine wp_region_slim [3] [(0, 3), (1, 0), (2, 3), (3, 2)] (fun X => X.rangeAt q8 0 L8) (by kernel_rfl) (by kernel_rfl) (fun d v c a w h => by cases d <;> exact h) HC7.out.2.1 ?_
                simp only [List.map_cons, List.map_nil, slim]
                refine wpSched_pure ?sv3 rfl (by rfl) (fun W => ?sh3) ?sr3; (case sh3 => (go_simp; try (with_reducible rfl))); simp only [Act.put, List.getElem_toArray, List.getElem_cons_zero, List.getElem_cons_succ, List.setIfInBounds_toArray, List.set_cons_zero, List.set_cons_succ]
                refine wpSched_load 50 (.tmp 8) q8 0 L8 _ rfl rfl (by rfl) (by rfl) (fun X hX => hX) Try.underlying50 (by rfl) (by rw [HL8.out.1]; kernel_rfl) ?_
                simp only [Act.put, List.getElem_toArray, List.getElem_cons_zero, List.getElem_cons_succ, List.setIfInBounds_toArray, List.set_cons_zero, List.set_cons_succ]
                refine wpSched_pure ?sv4 rfl (by rfl) (fun W => ?sh4) ?sr4; (case sh4 => (go_simp; try (with_reducible rfl))); simp only [Act.put, List.getElem_toArray, List.getElem_cons_zero, List.getElem_cons_succ, List.setIfInBounds_toArray, List.set_cons_zero, List.set_cons_succ]
                refine wpSched_storeT rfl (by rfl) (exec_store 50 (.tmp 5) (.tmp 48) b 0 L8 rfl (by rfl) (by rfl) (by rw [HL8.out.1]; exact HC7.out.1.oth) (by rw [HL8.out.1]; kernel_rfl) HL8.out.2.1) ?_
                simp only [Act.put, List.getElem_toArray, List.getElem_cons_zero, List.getElem_cons_succ, List.setIfInBounds_toArray, List.set_cons_zero, List.set_cons_succ]
                refine wpSched_nil ?_
                have HT := Lib.hid (show CntAt w w.heap.size b (0, bnkR (x.drop 1)) (W7.drew.setCells b 0 L8) from by
                  rw [HL8.out.2.2.1]; exact (HC7.out.1.below (Below.drew (Below.refl _ _))).take (0, bnkR (x.drop 1)) HL8.out.2.2.2)
                go_wp2_with fail
                exact ⟨⟨1, (0, bnkR (x.drop 1)), (by first | rfl | go_num), rfl, .inr (.inl ⟨rfl, by rw [← HXE.out]; exact HS.out⟩), HT.out⟩, by simp [intOf]⟩
              · have HS := Lib.hid (HN.out (0, cR) (by
                  have : decide (cR.getD 0 0 < (bnkR (x.drop 1)).getD 0 0) = false := by rw [← hs8, ← hsb]; simp; omega
                  unfold stepC; rw [HGX.out, this]; rfl))
                have hlt' : ¬ (sb : Int) < (s8 : Int) := by omega
                have hlt2 : (s8 : Int) ≤ (sb : Int) := by omega
                clear hs8 hsb
                go_wp2_with fail
                exact ⟨⟨1, (0, cR), (by first | rfl | go_num), rfl, .inr (.inl ⟨rfl, by rw [← HXE.out]; exact HS.out⟩), HC7.out.1⟩, by simp [intOf]⟩
          · rw [hFv, if_neg hg]
            have HS := Lib.hid (HN.out (cz, cR) (by
              have hgx : goodX x = false := by unfold goodX; rw [Bool.eq_false_iff.2 hg]; simp
              unfold stepC; rw [hgx]; rfl))
            clear hFv hg
            go_upto_region 7 with fail
            refine wp_gen (fun W => CntAt w w.heap.size b (cz, cR) W) (HC.out.below ((up_below wr xx).trans (HS8.out.1.mono (up_size wr xx)))) ?_
            rintro W7 hc7
            have HC7 := Lib.hid hc7
            clear hst8 hc7 hll8 HS8
            go_wp2_with fail
            exact ⟨⟨1, (cz, cR), (by first | rfl | go_num), rfl, .inr (.inl ⟨rfl, by rw [← HXE.out]; exact HS.out⟩), HC7.out⟩, by simp [intOf]⟩
        · have h165' : ((y0 : Int) != 165) = true := by simp; omega
          have hsame := HN.out (cz, cR) (by
            have hg : goodX x = false := by
              unfold goodX
              rw [← HY.out]
              simp [h165]
            unfold stepC; rw [hg]; rfl)
          have HS := Lib.hid hsame
          clear hsame
          go_wp2_with fail
          exact ⟨⟨1, (cz, cR), (by first | rfl | go_num), rfl, .inr (.inl ⟨rfl, by rw [← HXE.out]; exact HS.out⟩), HC.out⟩, by simp [intOf]⟩
    · have HR := Lib.hid (show RecOK c.2 ∧ (c.1 = -1 ∨ c.1 = 0) from by
        rw [hc]
        refine ⟨stepC_ok zeroR_ok HB.out.1.1, ?_⟩
        rcases stepC_at (c := (-1, zeroR)) (k := 0) (x := x0) with h | h
        · exact .inr h
        · exact .inl h)
      have HN := Lib.hid (fun (c' : Int × List Nat) (h : c' = stepC c 1 x1) => (show c' = cntS x0 x1 by rw [h, hc]; rfl))
      clear hc
      obtain ⟨cz, cR⟩ := c
      dsimp only at HR ⊢
      rw [show ((1 : Nat) : Int) = 1 from rfl]
      have hix := run_ix2b wr a0 n0 c0 a1 n1 c1
      obtain ⟨x, hx⟩ : ∃ x, x = x1 := ⟨_, rfl⟩
      have HX := Lib.hid (show Bts w (.slice a1 n1 c1) x ∧ x.length ≤ 1000000 by rw [hx]; exact ⟨HB.out.2, HL.out.2⟩)
      rw [← hx] at HN
      have HXE := Lib.hid hx
      clear hx
      by_cases hn : n1 = 0
      · subst hn
        have hsame := HN.out (cz, cR) (by
          have := HX.out.1.len
          have hg : goodX x = false := by unfold goodX; rw [← this]; rfl
          unfold stepC; rw [hg]; rfl)
        have HS := Lib.hid hsame
        clear hsame
        go_wp2_with fail
        exact ⟨⟨2, (cz, cR), (by first | rfl | go_num), rfl, .inr (.inr ⟨rfl, by rw [← HXE.out]; exact HS.out⟩), HC.out⟩, by simp [intOf]⟩
      · have hxl := HX.out.1.len
        have hxp : 0 < x.length := by omega
        obtain ⟨g, off, cap, hsl, hlc, hc63, hgb, hcell⟩ := HX.out.1.some hxp
        obtain ⟨rfl, rfl, rfl⟩ : a1 = some ⟨g, off, none⟩ ∧ n1 = x.length ∧ c1 = cap := by simpa using hsl
        have z0 : wr.cell? ⟨g, off, none⟩ = some (.int .u8 ((x.getD 0 0 : Nat) : Int)) := by
          rw [HC.out.bel.cell (p := ⟨g, off, none⟩) hgb]; exact hcell 0 hxp
        haveI hlg : LtSize g wr := ⟨Nat.lt_of_lt_of_le hgb HC.out.bel.size⟩
        have HXL := Lib.hid (And.intro hxp (And.intro hlc hcell))
        generalize hm : x.length = m at *
        have HM := Lib.hid hm
        clear hxp hlc hcell hsl hm
        have hn' : ¬ (m : Int) = 0 := by omega
        have hn0 : (0 : Int) < (m : Int) := by omega
        obtain ⟨y0, hy0⟩ : ∃ y, y = x.getD 0 0 := ⟨_, rfl⟩
        rw [← hy0] at z0
        have HY := Lib.hid hy0
        clear hy0
        by_cases h165 : y0 = 165
        · subst h165
          have hm1 : 1 ≤ m := by omega
          have hlc' : m ≤ c1 := HXL.out.2.1
          have HBK := Lib.hid (bts_skip (show Bts wr (.slice (some ⟨g, off, none⟩) m c1) x from HX.out.1.below HC.out.bel) 1 hm1 hlc')
          have hxl1 := HX.out.2
          go_wp2_with (refine wpList_skip rfl _ _ rfl 1 g off m c1 rfl rfl hm1 hlc' ?_)
          refine (bRead_any _ (x.drop 1) wr HBK.out (by rw [List.length_drop, HM.out]; omega)).mono ?_
          rintro e2 w2 ⟨rfl, xx, rfl⟩
          obtain ⟨L8, hL8⟩ : ∃ L, L = recL (bnkR (x.drop 1)) := ⟨_, rfl⟩
          have hok8 : RecOK (bnkR (x.drop 1)) := bnkR_ok (fun y hy => HX.out.1.1 y (List.mem_of_mem_drop hy))
          have hll8 : L8.length = 50 := by rw [hL8]; exact recL_length hok8.1
          have hone8 : L8.toArray.all (·.oneCell') = true := by rw [hL8]; exact recL_one hok8.1
          have hs8 := store_newR (up wr xx) 50 L8 hll8 hone8
          have hst8 := hs8.1
          have HS8 := Lib.hid hs8.2
          have HL8 := Lib.hid (And.intro hll8 (And.intro hone8 (And.intro hL8 hok8)))
          rw [← hL8]
          clear hs8 hone8 hL8 hok8 hxl1
          have hFv : bnkF (x.drop 1) = if bnkG (x.drop 1) then 0 else 300 := rfl
          by_cases hg : bnkG (x.drop 1) = true
          · rw [hFv, if_pos hg]
            have HGX := Lib.hid (show goodX x = true by unfold goodX; rw [← HY.out, hg, HM.out]; simp; omega)
            clear hFv hg
            go_upto_region 7 with fail
            refine wp_gen (fun W => CntAt w w.heap.size b (cz, cR) W ∧ W.rangeAt (up wr xx).heap.size 0 L8 ∧ (up wr xx).heap.size < W.heap.size) ⟨HC.out.below ((up_below wr xx).trans (HS8.out.1.mono (up_size wr xx))), HS8.out.2.1, HS8.out.2.2.2⟩ ?_
            rintro W7 ⟨hc7, hr7, hl7⟩
            have HC7 := Lib.hid (And.intro hc7 (And.intro hr7 hl7))
            clear hst8 hc7 hr7 hll8 HS8
            generalize (up wr xx).heap.size = q8 at *
            haveI hlq : LtSize q8 W7 := ⟨hl7⟩
            haveI hlb : LtSize b W7 := ⟨HC7.out.1.ord.2.2⟩
            have z8 : W7.cell? ⟨q8, 0, none⟩ = some (.int .u32 (((bnkR (x.drop 1)).getD 0 0 : Nat) : Int)) := by
              have := HC7.out.2.1 0 _ (by rw [HL8.out.2.2.1]; exact recL_get HL8.out.2.2.2.1 0 (by omega))
              rwa [Nat.zero_add] at this
            have zb : W7.cell? ⟨b, 0, none⟩ = some (.int .u32 ((cR.getD 0 0 : Nat) : Int)) := by
              have := HC7.out.1.best 0 _ (recL_get HR.out.1.1 0 (by omega))
              rwa [Nat.zero_add] at this
            have HR2 := HR.out.2
            rcases HR2 with hz | hz
            · skip
              subst hz
              have HW := Lib.hid True.intro
              have HS := Lib.hid (HN.out (1, bnkR (x.drop 1)) (by unfold stepC; rw [HGX.out]; simp))
              go_upto_region 8 with fail
              refine wp_region_slim [3] [(0, 3), (1, 0), (2, 3), (3, 2)] (fun X => X.rangeAt q8 0 L8) (by kernel_rfl) (by kernel_rfl) (fun d v c a w h => by cases d <;> exact h) HC7.out.2.1 ?_
              simp only [List.map_cons, List.map_nil, slim]
              refine wpSched_pure ?sv5 rfl (by rfl) (fun W => ?sh5) ?sr5; (case sh5 => (go_simp; try (with_reducible rfl))); simp only [Act.put, List.getElem_toArray, List.getElem_cons_zero, List.getElem_cons_succ, List.setIfInBounds_toArray, List.set_cons_zero, List.set_cons_succ]
              refine wpSched_load 50 (.tmp 8) q8 0 L8 _ rfl rfl (by rfl) (by rfl) (fun X hX => hX) Try.underlying50 (by rfl) (by rw [HL8.out.1]; kernel_rfl) ?_
              simp only [Act.put, List.getElem_toArray, List.getElem_cons_zero, List.getElem_cons_succ, List.setIfInBounds_toArray, List.set_cons_zero, List.set_cons_succ]
              refine wpSched_pure ?sv6 rfl (by rfl) (fun W => ?sh6) ?sr6; (case sh6 => (go_simp; try (with_reducible rfl))); simp only [Act.put, List.getElem_toArray, List.getElem_cons_zero, List.getElem_cons_succ, List.setIfInBounds_toArray, List.set_cons_zero, List.set_cons_succ]
              refine wpSched_storeT rfl (by rfl) (exec_store 50 (.tmp 5) (.tmp 48) b 0 L8 rfl (by rfl) (by rfl) (by rw [HL8.out.1]; exact HC7.out.1.oth) (by rw [HL8.out.1]; kernel_rfl) HL8.out.2.1) ?_
              simp only [Act.put, List.getElem_toArray, List.getElem_cons_zero, List.getElem_cons_succ, List.setIfInBounds_toArray, List.set_cons_zero, List.set_cons_succ]
              refine wpSched_nil ?_
              have HT := Lib.hid (show CntAt w w.heap.size b (1, bnkR (x.drop 1)) (W7.drew.setCells b 0 L8) from by
                rw [HL8.out.2.2.1]; exact (HC7.out.1.below (Below.drew (Below.refl _ _))).take (1, bnkR (x.drop 1)) HL8.out.2.2.2)
              go_wp2_with fail
              exact ⟨⟨2, (1, bnkR (x.drop 1)), (by first | rfl | go_num), rfl, .inr (.inr ⟨rfl, by rw [← HXE.out]; exact HS.out⟩), HT.out⟩, by simp [intOf]⟩
            · skip
              subst hz
              obtain ⟨s8, hs8⟩ : ∃ s, s = (bnkR (x.drop 1)).getD 0 0 := ⟨_, rfl⟩
              obtain ⟨sb, hsb⟩ : ∃ s, s = cR.getD 0 0 := ⟨_, rfl⟩
              rw [← hs8] at z8
              rw [← hsb] at zb
              by_cases hlt : sb < s8
              · have HW := Lib.hid (show decide (cR.getD 0 0 < (bnkR (x.drop 1)).getD 0 0) = true by rw [← hs8, ← hsb]; simp [hlt])
                have hlt' : (sb : Int) < (s8 : Int) := by omega
                clear hs8 hsb
                have HS := Lib.hid (HN.out (1, bnkR (x.drop 1)) (by unfold stepC; rw [HGX.out]; dsimp only; rw [HW.out]; simp))
                go_upto_region 8 with fail
                refine wp_region_slim [3] [(0, 3), (1, 0), (2, 3), (3, 2)] (fun X => X.rangeAt q8 0 L8) (by kernel_rfl) (by kernel_rfl) (fun d v c a w h => by cases d <;> exact h) HC7.out.2.1 ?_
                simp only [List.map_cons, List.map_nil, slim]
                refine wpSched_pure ?sv7 rfl (by rfl) (fun W => ?sh7) ?sr7; (case sh7 => (go_simp; try (with_reducible rfl))); simp only [Act.put, List.getElem_toArray, List.getElem_cons_zero, List.getElem_cons_succ, List.setIfInBounds_toArray, List.set_cons_zero, List.set_cons_succ]
                refine wpSched_load 50 (.tmp 8) q8 0 L8 _ rfl rfl (by rfl) (by rfl) (fun X hX => hX) Try.underlying50 (by rfl) (by rw [HL8.out.1]; kernel_rfl) ?_
                simp only [Act.put, List.getElem_toArray, List.getElem_cons_zero, List.getElem_cons_succ, List.setIfInBounds_toArray, List.set_cons_zero, List.set_cons_succ]
                refine wpSched_pure ?sv8 rfl (by rfl) (fun W => ?sh8) ?sr8; (case sh8 => (go_simp; try (with_reducible rfl))); simp only [Act.put, List.getElem_toArray, List.getElem_cons_zero, List.getElem_cons_succ, List.setIfInBounds_toArray, List.set_cons_zero, List.set_cons_succ]
                refine wpSched_storeT rfl (by rfl) (exec_store 50 (.tmp 5) (.tmp 48) b 0 L8 rfl (by rfl) (by rfl) (by rw [HL8.out.1]; exact HC7.out.1.oth) (by rw [HL8.out.1]; kernel_rfl) HL8.out.2.1) ?_
                simp only [Act.put, List.getElem_toArray, List.getElem_cons_zero, List.getElem_cons_succ, List.setIfInBounds_toArray, List.set_cons_zero, List.set_cons_succ]
                refine wpSched_nil ?_
                have HT := Lib.hid (show CntAt w w.heap.size b (1, bnkR (x.drop 1)) (W7.drew.setCells b 0 L8) from by
                  rw [HL8.out.2.2.1]; exact (HC7.out.1.below (Below.drew (Below.refl _ _))).take (1, bnkR (x.drop 1)) HL8.out.2.2.2)
                go_wp2_with fail
                exact ⟨⟨2, (1, bnkR (x.drop 1)), (by first | rfl | go_num), rfl, .inr (.inr ⟨rfl, by rw [← HXE.out]; exact HS.out⟩), HT.out⟩, by simp [intOf]⟩
              · have HS := Lib.hid (HN.out (0, cR) (by
                  have : decide (cR.getD 0 0 < (bnkR (x.drop 1)).getD 0 0) = false := by rw [← hs8, ← hsb]; simp; omega
                  unfold stepC; rw [HGX.out, this]; rfl))
                have hlt' : ¬ (sb : Int) < (s8 : Int) := by omega
                have hlt2 : (s8 : Int) ≤ (sb : Int) := by omega
                clear hs8 hsb
                go_wp2_with fail
                exact ⟨⟨2, (0, cR), (by first | rfl | go_num), rfl, .inr (.inr ⟨rfl, by rw [← HXE.out]; exact HS.out⟩), HC7.out.1⟩, by simp [intOf]⟩
          · rw [hFv, if_neg hg]
            have HS := Lib.hid (HN.out (cz, cR) (by
              have hgx : goodX x = false := by unfold goodX; rw [Bool.eq_false_iff.2 hg]; simp
              unfold stepC; rw [hgx]; rfl))
            clear hFv hg
            go_upto_region 7 with fail
            refine wp_gen (fun W => CntAt w w.heap.size b (cz, cR) W) (HC.out.below ((up_below wr xx).trans (HS8.out.1.mono (up_size wr xx)))) ?_
            rintro W7 hc7
            have HC7 := Lib.hid hc7
            clear hst8 hc7 hll8 HS8
            go_wp2_with fail
            exact ⟨⟨2, (cz, cR), (by first | rfl | go_num), rfl, .inr (.inr ⟨rfl, by rw [← HXE.out]; exact HS.out⟩), HC7.out⟩, by simp [intOf]⟩
        · have h165' : ((y0 : Int) != 165) = true := by simp; omega
          have hsame := HN.out (cz, cR) (by
            have hg : goodX x = false := by
              unfold goodX
              rw [← HY.out]
              simp [h165]
            unfold stepC; rw [hg]; rfl)
          have HS := Lib.hid hsame
          clear hsame
          go_wp2_with fail
          exact ⟨⟨2, (cz, cR), (by first | rfl | go_num), rfl, .inr (.inr ⟨rfl, by rw [← HXE.out]; exact HS.out⟩), HC.out⟩, by simp [intOf]⟩
    · skip
      have hcr : RecOK c.2 := by rw [hc]; exact stepC_ok (stepC_ok zeroR_ok HB.out.1.1) HB.out.2.1
      have HCE := Lib.hid hc
      clear hc
      obtain ⟨cz, cR⟩ := c
      dsimp only at hcr ⊢
      obtain ⟨L, hL⟩ : ∃ L, L = recL cR := ⟨_, rfl⟩
      have hll : L.length = 50 := by rw [hL]; exact recL_length hcr.1
      have hone : L.toArray.all (·.oneCell') = true := by rw [hL]; exact recL_one hcr.1
      have HLR := Lib.hid (show wr.rangeAt b 0 L by rw [hL]; exact HC.out.best)
      have HLE := Lib.hid (And.intro hL (And.intro hll hone))
      clear hL hll hone
      go_upto_region 10 with fail
      refine wp_region_slim [3] [(0, 3), (1, 0), (2, 3), (3, 2)] (fun X => X.rangeAt b 0 L) (by kernel_rfl) (by kernel_rfl) (fun d v c a w h => by cases d <;> exact h) HLR.out ?_
      simp only [List.map_cons, List.map_nil, slim]
      refine wpSched_pure ?sv9 rfl (by rfl) (fun W => ?sh9) ?sr9; (case sh9 => (go_simp; try (with_reducible rfl))); simp only [Act.put, List.getElem_toArray, List.getElem_cons_zero, List.getElem_cons_succ, List.setIfInBounds_toArray, List.set_cons_zero, List.set_cons_succ]
      refine wpSched_load 50 (.tmp 5) b 0 L _ rfl rfl (by rfl) (by rfl) (fun X hX => hX) Try.underlying50 (by rfl) (by rw [HLE.out.2.1]; kernel_rfl) ?_
      simp only [Act.put, List.getElem_toArray, List.getElem_cons_zero, List.getElem_cons_succ, List.setIfInBounds_toArray, List.set_cons_zero, List.set_cons_succ]
      refine wpSched_pure ?sv10 rfl (by rfl) (fun W => ?sh10) ?sr10; (case sh10 => (go_simp; try (with_reducible rfl))); simp only [Act.put, List.getElem_toArray, List.getElem_cons_zero, List.getElem_cons_succ, List.setIfInBounds_toArray, List.set_cons_zero, List.set_cons_succ]
      refine wpSched_storeT rfl (by rfl) (exec_store 50 (.tmp 3) (.tmp 51) w.heap.size 0 L rfl (by rfl) (by rfl) (by rw [HLE.out.2.1]; exact HC.out.res) (by rw [HLE.out.2.1]; kernel_rfl) HLE.out.2.2) ?_
      simp only [Act.put, List.getElem_toArray, List.getElem_cons_zero, List.getElem_cons_succ, List.setIfInBounds_toArray, List.set_cons_zero, List.set_cons_succ]
      refine wpSched_nil ?_
      have hrs := World.rangeAt_setCells_same wr.drew w.heap.size 0 L (by rw [HLE.out.2.1]; exact HC.out.res)
      have HRES := Lib.hid (run_loadVar_mid (P := Try.prog) (wr.drew.setCells w.heap.size 0 L) w.heap.size 0 50 L _ hrs Try.underlying50 (by rfl) (by rw [HLE.out.2.1]; kernel_rfl))
      clear hrs
      go_wp2_with fail
      refine bodyPost_ret (v := .tuple #[.int .i64 cz, .agg L.toArray]) ?_ rfl (Gives.mk (by rw [← HCE.out, HLE.out.1]) ((Below.drew HC.out.bel).trans (below_setCells _ _ _ _ _ (Nat.le_refl _))))
      simp only [results, show Try.func77.results = #[ResultVar.tmp 2, ResultVar.cell 3 50] from rfl]
      simp [asAddr, HRES.out]
end Go.Proofs.Ytjkgodhoonkinaa
