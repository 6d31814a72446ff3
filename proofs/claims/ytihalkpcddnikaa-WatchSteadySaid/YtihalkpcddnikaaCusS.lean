/-
  The monitor of drifts: its sums at a place, and whether a pair drifts.
-/
import Derived.Test.YtihalkpcddnikaaCusW
import Derived.Lib.MinMax
namespace Go.Proofs.Ytihalkpcddnikaa
open Go.RowKit Go.Maps
set_option linter.unusedVariables false
set_option linter.unusedSimpArgs false

theorem range2 {w : World} {b : Nat} {u v : Value} (h1 : w.cell? ⟨b, 0, none⟩ = some u) (h2 : w.cell? ⟨b, 1, none⟩ = some v) : w.rangeAt b 0 [u, v] := by
  intro j x hj
  match j, hj with
  | 0, hj => simp at hj; subst hj; exact h1
  | 1, hj => simp at hj; subst hj; exact h2
  | (n+2), hj => simp at hj
theorem rangeB {B : Nat} {w w' : World} {b o : Nat} {cs : List Value} (hb : Below B w w') (hg : b < B) (h : w.rangeAt b o cs) : w'.rangeAt b o cs := fun j v hj => cell_belowI hb hg (h j v hj)
theorem cdrift_any (u d : Int) {w : World} {c b n : Nat} {slack most : Int} {g : Int → Int → Pr} (h : CuAt w c b n slack most g) :
    Calls Try.prog 76 #[.pointer (some ⟨c, 0, none⟩), .agg #[.int .i64 u, .int .i64 d]] w (Gives w (.bool (decide (most < u ∨ most < d)))) := by
  have hc := h.c1
  have hlt := h.lt
  have hne : ¬ c = w.heap.size := by omega
  clear h
  generalize hB : decide (most < u ∨ most < d) = B
  have HB := Lib.hid hB
  clear hB
  go_enter Try.func76, Try.ntmps76
  haveI : LtSize c w := ⟨hlt⟩
  go_wp2
  (refine wp_region_up (by kernel_rfl) (by kernel_rfl) ?_; (repeat (go_big_quiet_step (fail))); refine wpQuiet_nil ?_; intro _ hw'; obtain ⟨xq, hw''⟩ := hw'; subst hw'')
  go_wp2
  go_ret
  have hb := HB.out
  subst hb
  refine Gives.mk ?_ (below_up (by (repeat (first | (with_reducible exact Below.refl _ _) | (with_reducible assumption) | (with_reducible refine Below.alloc ?_ (by (repeat (first | (with_reducible exact Nat.le_refl _) | (with_reducible assumption) | (with_reducible refine le_up ?_) | (with_reducible refine le_alloc ?_) | (with_reducible refine le_setCell ?_) | (with_reducible refine le_drew ?_) | (with_reducible refine le_drewN ?_) | omega))) _) | (with_reducible refine Below.drew ?_) | (with_reducible refine Below.drewN ?_ _) | (with_reducible refine Below.setCell ?_ (by (repeat (first | (with_reducible exact Nat.le_refl _) | (with_reducible assumption) | (with_reducible refine le_up ?_) | (with_reducible refine le_alloc ?_) | (with_reducible refine le_setCell ?_) | (with_reducible refine le_drew ?_) | (with_reducible refine le_drewN ?_) | omega))) _) | (with_reducible refine Below.up ?_ (by (repeat (first | (with_reducible exact Nat.le_refl _) | (with_reducible assumption) | (with_reducible refine le_up ?_) | (with_reducible refine le_alloc ?_) | (with_reducible refine le_setCell ?_) | (with_reducible refine le_drew ?_) | (with_reducible refine le_drewN ?_) | omega))))))) (by simp) _)
  refine congrArg Ending.returned ?_
  show Value.bool (decide (most < max u d)) = _
  refine congrArg Value.bool ?_
  rw [decide_eq_decide]
  omega
def Place (s k : Int) : Prop := I64 s ∧ I64 k
set_option maxRecDepth 100000 in
theorem cSums_made {s k : Int} (hs : I64 s) (hk : I64 k) {w : World} {c b n : Nat} {slack most : Int} {g : Int → Int → Pr} (h : CuAt w c b n slack most g) :
    Calls Try.prog 47 #[.pointer (some ⟨c, 0, none⟩), .agg #[.int .i64 s, .int .i64 k]] w (Gives w (.tuple #[.int .i64 (g s k).up, .int .i64 (g s k).dn])) := by
  obtain ⟨⟨u, d⟩, hv⟩ : ∃ m, g s k = m := ⟨_, rfl⟩
  rw [hv]
  have HV := Lib.hid hv
  clear hv
  have HA := Lib.hid h
  have hlt := h.lt
  have HC := Lib.hid (fun W (hW : CuAt W c b n slack most g) => cis_t hW)
  clear h
  dsimp only
  go_enter Try.func47, Try.ntmps47
  go_upto_region 3 with (go_at_call 68; refine (HC.out _ (HA.out.below (by (repeat (first | (with_reducible exact Below.refl _ _) | (with_reducible assumption) | (with_reducible refine Below.alloc ?_ (by (repeat (first | (with_reducible exact Nat.le_refl _) | (with_reducible assumption) | (with_reducible refine le_up ?_) | (with_reducible refine le_alloc ?_) | (with_reducible refine le_setCell ?_) | (with_reducible refine le_drew ?_) | (with_reducible refine le_drewN ?_) | omega))) _) | (with_reducible refine Below.drew ?_) | (with_reducible refine Below.drewN ?_ _) | (with_reducible refine Below.setCell ?_ (by (repeat (first | (with_reducible exact Nat.le_refl _) | (with_reducible assumption) | (with_reducible refine le_up ?_) | (with_reducible refine le_alloc ?_) | (with_reducible refine le_setCell ?_) | (with_reducible refine le_drew ?_) | (with_reducible refine le_drewN ?_) | omega))) _) | (with_reducible refine Below.up ?_ (by (repeat (first | (with_reducible exact Nat.le_refl _) | (with_reducible assumption) | (with_reducible refine le_up ?_) | (with_reducible refine le_alloc ?_) | (with_reducible refine le_setCell ?_) | (with_reducible refine le_drew ?_) | (with_reducible refine le_drewN ?_) | omega))))))))).mono ?_; rintro e w1 ⟨rfl, rfl⟩)
  refine wp_gen (fun W => Below w.heap.size w W ∧ w.heap.size < W.heap.size ∧ W.cell? ⟨w.heap.size, 0, none⟩ = some (.int .i64 s) ∧ W.cell? ⟨w.heap.size, 1, none⟩ = some (.int .i64 k)) ⟨by (repeat (first | (with_reducible exact Below.refl _ _) | (with_reducible assumption) | (with_reducible refine Below.alloc ?_ (by (repeat (first | (with_reducible exact Nat.le_refl _) | (with_reducible assumption) | (with_reducible refine le_up ?_) | (with_reducible refine le_alloc ?_) | (with_reducible refine le_setCell ?_) | (with_reducible refine le_drew ?_) | (with_reducible refine le_drewN ?_) | omega))) _) | (with_reducible refine Below.drew ?_) | (with_reducible refine Below.drewN ?_ _) | (with_reducible refine Below.setCell ?_ (by (repeat (first | (with_reducible exact Nat.le_refl _) | (with_reducible assumption) | (with_reducible refine le_up ?_) | (with_reducible refine le_alloc ?_) | (with_reducible refine le_setCell ?_) | (with_reducible refine le_drew ?_) | (with_reducible refine le_drewN ?_) | omega))) _) | (with_reducible refine Below.up ?_ (by (repeat (first | (with_reducible exact Nat.le_refl _) | (with_reducible assumption) | (with_reducible refine le_up ?_) | (with_reducible refine le_alloc ?_) | (with_reducible refine le_setCell ?_) | (with_reducible refine le_drew ?_) | (with_reducible refine le_drewN ?_) | omega)))))), by simp, by simp, by simp⟩ ?_
  rintro W1 ⟨hb1, hl1, hc0, hc1⟩
  have HB1 := Lib.hid hb1
  have H1 := Lib.hid (show Below w.heap.size w W1.drew ∧ w.heap.size < W1.drew.heap.size ∧ W1.drew.cell? ⟨w.heap.size, 0, none⟩ = some (.int .i64 s) ∧ W1.drew.cell? ⟨w.heap.size, 1, none⟩ = some (.int .i64 k) from ⟨Below.drew hb1, hl1, hc0, hc1⟩)
  clear hb1 hl1 hc0 hc1
  have H2 := Lib.hid (HA.out.below H1.out.1)
  refine wp_region_slim [7] [(0, 3), (1, 3), (2, 3), (3, 0), (4, 0), (5, 0), (6, 1), (7, 2)] (fun X => X.cell? ⟨c, 2, none⟩ = some (.map (some b)) ∧ X.rangeAt w.heap.size 0 [.int .i64 s, .int .i64 k] ∧ TabC X b n g) (by kernel_rfl) (by kernel_rfl) (fun d v c a w h => by cases d <;> exact h) ⟨H2.out.c2, ?hR, H2.out.tab⟩ ?_
  case hR => exact range2 H1.out.2.2.1 H1.out.2.2.2
  simp only [List.map_cons, List.map_nil, slim]
  refine wpSched_pure ?sv1 rfl (by rfl) (fun W => ?sh1) ?sr1; (case sh1 => (go_simp; try (with_reducible rfl))); simp only [Act.put, List.getElem_toArray, List.getElem_cons_zero, List.getElem_cons_succ, List.setIfInBounds_toArray, List.set_cons_zero, List.set_cons_succ]
  refine wpSched_pure ?sv2 rfl (by rfl) (fun W => ?sh2) ?sr2; (case sh2 => (go_simp; try (with_reducible rfl))); simp only [Act.put, List.getElem_toArray, List.getElem_cons_zero, List.getElem_cons_succ, List.setIfInBounds_toArray, List.set_cons_zero, List.set_cons_succ]
  refine wpSched_pure ?sv3 rfl (by rfl) (fun W => ?sh3) ?sr3; (case sh3 => (go_simp; try (with_reducible rfl))); simp only [Act.put, List.getElem_toArray, List.getElem_cons_zero, List.getElem_cons_succ, List.setIfInBounds_toArray, List.set_cons_zero, List.set_cons_succ]
  refine wpSched_still ?sv4 rfl (by rfl) (fun W hW => ?sh4) ?sr4; (case sh4 => (obtain ⟨h1, h2, h3⟩ := hW; go_simp; try (with_reducible rfl))); simp only [Act.put, List.getElem_toArray, List.getElem_cons_zero, List.getElem_cons_succ, List.setIfInBounds_toArray, List.set_cons_zero, List.set_cons_succ]
  refine wpSched_load 112 (.tmp 3) w.heap.size 0 [.int .i64 s, .int .i64 k] _ rfl rfl (by rfl) (by rfl) (fun W hW => hW.2.1) Try.underlying112 (by rfl) (by kernel_rfl) ?_
  simp only [Act.put, List.getElem_toArray, List.getElem_cons_zero, List.getElem_cons_succ, List.setIfInBounds_toArray, List.set_cons_zero, List.set_cons_succ]
  refine wpSched_still (.agg #[.int .i64 u, .int .i64 d]) rfl (by rfl) (fun W hW => (exec_lookC (.tmp 13) (.tmp 14) rfl hs hk (by rfl) (by rfl) hW.2.2).trans (by rw [HV.out]; rfl)) ?_
  simp only [Act.put, List.getElem_toArray, List.getElem_cons_zero, List.getElem_cons_succ, List.setIfInBounds_toArray, List.set_cons_zero, List.set_cons_succ]
  refine wpSched_eff rfl (by rfl) (fun K hK => ?_); go_simp
  refine hK _ _ ⟨?hS1, ?hS2, ?hS3⟩ ?_
  case hS1 => exact cell_belowI ((Below.refl _ _).alloc (Nat.le_refl _) _) (Nat.lt_of_lt_of_le hlt H1.out.1.size) H2.out.c2
  case hS2 => exact rangeB ((Below.refl _ _).alloc (Nat.le_refl _) _) H1.out.2.1 (range2 H1.out.2.2.1 H1.out.2.2.2)
  case hS3 => exact H2.out.tab.below ((Below.refl _ _).alloc (Nat.le_refl _) _)
  clear hK K
  refine wpSched_tail rfl (by rfl) (fun K hK => ?_); go_simp
  refine hK _ _ ?_
  clear hK K
  refine wpSched_nil ?_
  go_wp2_with fail
  (refine wp_region_up (by kernel_rfl) (by kernel_rfl) ?_; (repeat (go_big_quiet_step (fail))); refine wpQuiet_nil ?_; intro _ hw'; obtain ⟨xq, hw''⟩ := hw'; subst hw'')
  go_wp2
  go_ret2
  exact Gives.mk rfl (below_up ((HB1.out.alloc HB1.out.size _).drew) (Nat.le_trans HB1.out.size (by simp)) _)
theorem cSums_nil (s k : Int) (w : World) :
    Calls Try.prog 47 #[.pointer none, .agg #[.int .i64 s, .int .i64 k]] w (Gives w (.tuple #[.int .i64 0, .int .i64 0])) := by
  have HC := Lib.hid (fun W => cis_nil W)
  go_enter Try.func47, Try.ntmps47
  go_wp2_with (go_at_call 68; refine (HC.out _).mono ?_; rintro e w1 ⟨rfl, rfl⟩)
  go_ret2
  exact Gives.mk rfl (by (repeat (first | (with_reducible exact Below.refl _ _) | (with_reducible assumption) | (with_reducible refine Below.alloc ?_ (by (repeat (first | (with_reducible exact Nat.le_refl _) | (with_reducible assumption) | (with_reducible refine le_up ?_) | (with_reducible refine le_alloc ?_) | (with_reducible refine le_setCell ?_) | (with_reducible refine le_drew ?_) | (with_reducible refine le_drewN ?_) | omega))) _) | (with_reducible refine Below.drew ?_) | (with_reducible refine Below.drewN ?_ _) | (with_reducible refine Below.setCell ?_ (by (repeat (first | (with_reducible exact Nat.le_refl _) | (with_reducible assumption) | (with_reducible refine le_up ?_) | (with_reducible refine le_alloc ?_) | (with_reducible refine le_setCell ?_) | (with_reducible refine le_drew ?_) | (with_reducible refine le_drewN ?_) | omega))) _) | (with_reducible refine Below.up ?_ (by (repeat (first | (with_reducible exact Nat.le_refl _) | (with_reducible assumption) | (with_reducible refine le_up ?_) | (with_reducible refine le_alloc ?_) | (with_reducible refine le_setCell ?_) | (with_reducible refine le_drew ?_) | (with_reducible refine le_drewN ?_) | omega)))))))
end Go.Proofs.Ytihalkpcddnikaa
