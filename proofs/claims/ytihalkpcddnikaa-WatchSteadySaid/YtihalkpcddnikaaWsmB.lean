/-
  The program's numbers of 128 bits, clipped; fix's of, clip and Sum.
-/
import Derived.Test.YtihalkpcddnikaaWsmA
import Derived.Laws.StructEq
namespace Go.Proofs.Ytihalkpcddnikaa
open Go.RowKit
set_option linter.unusedVariables false
set_option linter.unusedSimpArgs false

theorem wide_fields : ((Try.prog.fieldsOf 98).toList.map fun f => (f.type, f.offset, f.name == "_")) = [(2, 0, false), (89, 1, false)] := by kernel_rfl
theorem eqW (W : World) (a b c d : Int) : (Op.equalIn 10000 98 (.agg #[.int .i64 a, .int .u64 b]) (.agg #[.int .i64 c, .int .u64 d])).run Try.prog W = .ok (a == c && b == d) W := by
  rw [run_equalIn_agg W 9999 98 _ _ (by kernel_rfl) (by kernel_rfl)]
  have hu := Try.underlying2
  have hv := Try.underlying89
  have hf := wide_fields
  generalize (Try.prog.fieldsOf 98).toList = fs at *
  rcases fs with _ | ⟨f1, _ | ⟨f2, _ | ⟨f3, fs⟩⟩⟩
  · simp at hf
  · simp at hf
  · simp only [List.map_cons, List.map_nil, List.cons.injEq, Prod.mk.injEq, and_true] at hf
    obtain ⟨⟨t1, o1, n1⟩, t2, o2, n2⟩ := hf
    have n1' : ¬ f1.name = "_" := by simpa using n1
    have n2' : ¬ f2.name = "_" := by simpa using n2
    simp [Op.eqFields, t1, t2, o1, o2, n1', n2', part, isAgg, run_underlying hu, run_underlying hv, run_equalIn_int W _ 2 .i64 .i64 _ _ hu, run_equalIn_int W _ 89 .u64 .u64 _ _ hv]
    by_cases h1 : a = c <;> by_cases h2 : b = d <;> simp [h1, h2]
  · simp at hf
/-- Two numbers of 128 bits are the same, if both halves are. -/
theorem toI_eq {n m : Nat} (hn : n < 340282366920938463463374607431768211456) (hm : m < 340282366920938463463374607431768211456) (h1 : hiV n = hiV m) (h2 : loV n = loV m) : n = m := by
  have e1 := toI_hi n hn
  have e2 := toI_hi m hm
  have : toI n = toI m := by rw [e1, e2, h1, h2]
  have := congrArg ofI this
  rwa [ofI_toI n hn, ofI_toI m hm] at this
theorem clip_in (n : Nat) (hn : n < 340282366920938463463374607431768211456) (h : -9223372036854775808 ≤ toI n ∧ toI n ≤ 9223372036854775807) :
    clipV (toI n) = wrap64 (loV n) ∧ clipO (toI n) = false ∧ ofI (wrap64 (loV n)) = n := by
  have hl := lo_clip n hn h.1 h.2
  have he := ofI_toI n hn
  rw [hl]
  refine ⟨?_, ?_, he⟩
  · unfold clipV; omega
  · unfold clipO; exact decide_eq_false (by omega)
theorem clip_out (n : Nat) (hn : n < 340282366920938463463374607431768211456) (h : ¬ (-9223372036854775808 ≤ toI n ∧ toI n ≤ 9223372036854775807)) :
    hiV (ofI (wrap64 (loV n))) ≠ hiV n ∧ loV (ofI (wrap64 (loV n))) = loV n ∧ clipO (toI n) = true ∧ clipV (toI n) = (if hiV n < 0 then -9223372036854775808 else 9223372036854775807) := by
  have hb := wrap64_bd (loV n)
  have hlo : loV (ofI (wrap64 (loV n))) = loV n := by unfold loV ofI wrap64; omega
  have hhi := toI_hi n hn
  have hl1 : 0 ≤ loV n ∧ loV n < 18446744073709551616 := by unfold loV; omega
  refine ⟨fun e => ?_, hlo, ?_, ?_⟩
  · have h1 := toI_eq (ofI_lt (wrap64 (loV n))) hn e hlo
    have h2 : toI (ofI (wrap64 (loV n))) = wrap64 (loV n) := toI_ofI (by omega) (by omega)
    rw [h1] at h2
    exact h (by omega)
  · unfold clipO; exact decide_eq_true (by omega)
  · unfold clipV
    split <;> omega
theorem exec_eqW {o : Oper} {a : Act} (x y : Operand) (ho : o.op = .binOp .eql 98 x y 98) (xs ys : Array Value) (hx : a.eval x = .agg xs) (hy : a.eval y = .agg ys) (B : Bool) (heq : ∀ W, (Op.equalIn 10000 98 (.agg xs) (.agg ys)).run Try.prog W = .ok B W) (W : World) :
    (execOp a.eval o).run Try.prog W = .ok (.value (.bool B)) W := by
  have hg := run_eqGuard_agg (P := Try.prog) (w := W) .eql 98 x y xs ys (by kernel_rfl)
  have he := heq W
  unfold execOp
  simp only [ho, hx, hy, Sem.run_bind, hg, Result.andThen_ok, run_eql_struct, he, Sem.run_pure]
set_option maxRecDepth 100000 in
theorem wClip_any (n : Nat) (w : World) (hn : n < 340282366920938463463374607431768211456) :
    Calls Try.prog 82 #[wideV n] w (Gives w (.tuple #[.int .i64 (clipV (toI n)), .bool (clipO (toI n))])) := by
  have hlb := wrap64_bd (loV n)
  have HOF := Lib.hid (fun W => wOf_any (wrap64 (loV n)) W hlb.1 hlb.2)
  by_cases hin : -9223372036854775808 ≤ toI n ∧ toI n ≤ 9223372036854775807
  · obtain ⟨k1, k2, k3⟩ := clip_in n hn hin
    rw [k1, k2]
    rw [k3] at HOF
    unfold wideV at HOF ⊢
    clear k1 k2 k3 hin hlb hn
    generalize hiV n = h1 at *
    generalize loV n = l1 at *
    have heq : ∀ W, (Op.equalIn 10000 98 (.agg #[.int .i64 h1, .int .u64 l1]) (.agg #[.int .i64 h1, .int .u64 l1])).run Try.prog W = .ok true W := fun W => by rw [eqW W h1 l1 h1 l1]; simp
    obtain ⟨BV, hBV⟩ : ∃ b, b = true := ⟨_, rfl⟩
    rw [← hBV] at heq
    have HBV := Lib.hid hBV
    clear hBV
    go_enter Try.func82, Try.ntmps82
    go_upto_region 2 with fail
    refine wp_gen (fun W => Below w.heap.size w W ∧ w.heap.size < W.heap.size ∧ W.cell? ⟨w.heap.size, 0, none⟩ = some (.int .i64 h1) ∧ W.cell? ⟨w.heap.size, 1, none⟩ = some (.int .u64 l1)) ⟨by (repeat (first | (with_reducible exact Below.refl _ _) | (with_reducible assumption) | (with_reducible refine Below.alloc ?_ (by (repeat (first | (with_reducible exact Nat.le_refl _) | (with_reducible assumption) | (with_reducible refine le_up ?_) | (with_reducible refine le_alloc ?_) | (with_reducible refine le_setCell ?_) | (with_reducible refine le_drew ?_) | (with_reducible refine le_drewN ?_) | omega))) _) | (with_reducible refine Below.drew ?_) | (with_reducible refine Below.drewN ?_ _) | (with_reducible refine Below.setCell ?_ (by (repeat (first | (with_reducible exact Nat.le_refl _) | (with_reducible assumption) | (with_reducible refine le_up ?_) | (with_reducible refine le_alloc ?_) | (with_reducible refine le_setCell ?_) | (with_reducible refine le_drew ?_) | (with_reducible refine le_drewN ?_) | omega))) _) | (with_reducible refine Below.up ?_ (by (repeat (first | (with_reducible exact Nat.le_refl _) | (with_reducible assumption) | (with_reducible refine le_up ?_) | (with_reducible refine le_alloc ?_) | (with_reducible refine le_setCell ?_) | (with_reducible refine le_drew ?_) | (with_reducible refine le_drewN ?_) | omega)))))), by simp, by simp, by simp⟩ ?_
    rintro W1 ⟨hb1, hl1, hc0, hc1⟩
    have H1 := Lib.hid (show Below w.heap.size w W1.drew ∧ w.heap.size < W1.drew.heap.size ∧ W1.drew.cell? ⟨w.heap.size, 0, none⟩ = some (.int .i64 h1) ∧ W1.drew.cell? ⟨w.heap.size, 1, none⟩ = some (.int .u64 l1) from ⟨Below.drew hb1, hl1, hc0, hc1⟩)
    clear hb1 hl1 hc0 hc1
    have HOW := Lib.hid (HOF.out W1.drew)
    refine wp_region_slim [] [(0, 3), (2, 0), (1, 1), (3, 3), (4, 3)] (fun X => X.cell? ⟨w.heap.size, 0, none⟩ = some (.int .i64 h1) ∧ X.cell? ⟨w.heap.size, 1, none⟩ = some (.int .u64 l1)) (by kernel_rfl) (by kernel_rfl) (fun d v c a w h => by cases d <;> exact h) H1.out.2.2 ?_
    simp only [List.map_cons, List.map_nil, slim]
    refine wpSched_pure ?sv1 rfl (by rfl) (fun W => ?sh1) ?sr1; (case sh1 => (go_simp; try (with_reducible rfl))); simp only [Act.put, List.getElem_toArray, List.getElem_cons_zero, List.getElem_cons_succ, List.setIfInBounds_toArray, List.set_cons_zero, List.set_cons_succ]
    refine wpSched_still ?sv2 rfl (by rfl) (fun W hW => ?sh2) ?sr2; (case sh2 => (obtain ⟨h1, h2⟩ := hW; go_simp; try (with_reducible rfl))); simp only [Act.put, List.getElem_toArray, List.getElem_cons_zero, List.getElem_cons_succ, List.setIfInBounds_toArray, List.set_cons_zero, List.set_cons_succ]
    refine wpSched_eff rfl (by rfl) (fun K hK => ?_); go_simp
    refine HOW.out.mono ?_
    rintro e1 w1 ⟨rfl, y1, rfl⟩
    have H2 := Lib.hid (show Below w.heap.size w (up W1.drew y1) ∧ w.heap.size < (up W1.drew y1).heap.size ∧ (up W1.drew y1).cell? ⟨w.heap.size, 0, none⟩ = some (.int .i64 h1) ∧ (up W1.drew y1).cell? ⟨w.heap.size, 1, none⟩ = some (.int .u64 l1) from
      ⟨Below.up H1.out.1 H1.out.1.size, Nat.lt_of_lt_of_le H1.out.2.1 (up_size _ _), cell_belowI (up_below _ _) H1.out.2.1 H1.out.2.2.1, cell_belowI (up_below _ _) H1.out.2.1 H1.out.2.2.2⟩)
    refine hK _ _ H2.out.2.2 ?_
    clear hK K HOW H1
    refine wpSched_pure (.bool BV) rfl (by rfl) (exec_eqW (.tmp 10) (.tmp 11) rfl _ _ (by rfl) (by rfl) BV heq) ?_
    simp only [Act.put, List.getElem_toArray, List.getElem_cons_zero, List.getElem_cons_succ, List.setIfInBounds_toArray, List.set_cons_zero, List.set_cons_succ]
    clear heq
    refine wpSched_pure (.bool BV) rfl (by rfl) (fun W => by go_simp) ?_
    simp only [Act.put, List.getElem_toArray, List.getElem_cons_zero, List.getElem_cons_succ, List.setIfInBounds_toArray, List.set_cons_zero, List.set_cons_succ]
    refine wpSched_nil ?_
    have hbv := HBV.out
    subst hbv
    have hc0 := H2.out.2.2.1
    haveI : LtSize w.heap.size (up W1.drew y1) := ⟨H2.out.2.1⟩
    go_wp2_with fail
    go_ret2
    exact Gives.mk rfl H2.out.1
  · obtain ⟨k1, k2, k3, k4⟩ := clip_out n hn hin
    rw [k3, k4]
    unfold wideV at HOF ⊢
    rw [k2] at HOF
    clear k2 k3 k4 hin hlb hn
    generalize hiV (ofI (wrap64 (loV n))) = h2 at *
    generalize hiV n = h1 at *
    generalize loV n = l1 at *
    have heq : ∀ W, (Op.equalIn 10000 98 (.agg #[.int .i64 h2, .int .u64 l1]) (.agg #[.int .i64 h1, .int .u64 l1])).run Try.prog W = .ok false W := fun W => by rw [eqW W h2 l1 h1 l1]; simp [k1]
    obtain ⟨BV, hBV⟩ : ∃ b, b = false := ⟨_, rfl⟩
    rw [← hBV] at heq
    have HBV := Lib.hid hBV
    clear hBV
    clear k1
    by_cases hneg : h1 < 0
    · rw [if_pos hneg]
      go_enter Try.func82, Try.ntmps82
      go_upto_region 2 with fail
      refine wp_gen (fun W => Below w.heap.size w W ∧ w.heap.size < W.heap.size ∧ W.cell? ⟨w.heap.size, 0, none⟩ = some (.int .i64 h1) ∧ W.cell? ⟨w.heap.size, 1, none⟩ = some (.int .u64 l1)) ⟨by (repeat (first | (with_reducible exact Below.refl _ _) | (with_reducible assumption) | (with_reducible refine Below.alloc ?_ (by (repeat (first | (with_reducible exact Nat.le_refl _) | (with_reducible assumption) | (with_reducible refine le_up ?_) | (with_reducible refine le_alloc ?_) | (with_reducible refine le_setCell ?_) | (with_reducible refine le_drew ?_) | (with_reducible refine le_drewN ?_) | omega))) _) | (with_reducible refine Below.drew ?_) | (with_reducible refine Below.drewN ?_ _) | (with_reducible refine Below.setCell ?_ (by (repeat (first | (with_reducible exact Nat.le_refl _) | (with_reducible assumption) | (with_reducible refine le_up ?_) | (with_reducible refine le_alloc ?_) | (with_reducible refine le_setCell ?_) | (with_reducible refine le_drew ?_) | (with_reducible refine le_drewN ?_) | omega))) _) | (with_reducible refine Below.up ?_ (by (repeat (first | (with_reducible exact Nat.le_refl _) | (with_reducible assumption) | (with_reducible refine le_up ?_) | (with_reducible refine le_alloc ?_) | (with_reducible refine le_setCell ?_) | (with_reducible refine le_drew ?_) | (with_reducible refine le_drewN ?_) | omega)))))), by simp, by simp, by simp⟩ ?_
      rintro W1 ⟨hb1, hl1, hc0, hc1⟩
      have H1 := Lib.hid (show Below w.heap.size w W1.drew ∧ w.heap.size < W1.drew.heap.size ∧ W1.drew.cell? ⟨w.heap.size, 0, none⟩ = some (.int .i64 h1) ∧ W1.drew.cell? ⟨w.heap.size, 1, none⟩ = some (.int .u64 l1) from ⟨Below.drew hb1, hl1, hc0, hc1⟩)
      clear hb1 hl1 hc0 hc1
      have HOW := Lib.hid (HOF.out W1.drew)
      refine wp_region_slim [] [(0, 3), (2, 0), (1, 1), (3, 3), (4, 3)] (fun X => X.cell? ⟨w.heap.size, 0, none⟩ = some (.int .i64 h1) ∧ X.cell? ⟨w.heap.size, 1, none⟩ = some (.int .u64 l1)) (by kernel_rfl) (by kernel_rfl) (fun d v c a w h => by cases d <;> exact h) H1.out.2.2 ?_
      simp only [List.map_cons, List.map_nil, slim]
      refine wpSched_pure ?sv3 rfl (by rfl) (fun W => ?sh3) ?sr3; (case sh3 => (go_simp; try (with_reducible rfl))); simp only [Act.put, List.getElem_toArray, List.getElem_cons_zero, List.getElem_cons_succ, List.setIfInBounds_toArray, List.set_cons_zero, List.set_cons_succ]
      refine wpSched_still ?sv4 rfl (by rfl) (fun W hW => ?sh4) ?sr4; (case sh4 => (obtain ⟨h1, h2⟩ := hW; go_simp; try (with_reducible rfl))); simp only [Act.put, List.getElem_toArray, List.getElem_cons_zero, List.getElem_cons_succ, List.setIfInBounds_toArray, List.set_cons_zero, List.set_cons_succ]
      refine wpSched_eff rfl (by rfl) (fun K hK => ?_); go_simp
      refine HOW.out.mono ?_
      rintro e1 w1 ⟨rfl, y1, rfl⟩
      have H2 := Lib.hid (show Below w.heap.size w (up W1.drew y1) ∧ w.heap.size < (up W1.drew y1).heap.size ∧ (up W1.drew y1).cell? ⟨w.heap.size, 0, none⟩ = some (.int .i64 h1) ∧ (up W1.drew y1).cell? ⟨w.heap.size, 1, none⟩ = some (.int .u64 l1) from
        ⟨Below.up H1.out.1 H1.out.1.size, Nat.lt_of_lt_of_le H1.out.2.1 (up_size _ _), cell_belowI (up_below _ _) H1.out.2.1 H1.out.2.2.1, cell_belowI (up_below _ _) H1.out.2.1 H1.out.2.2.2⟩)
      refine hK _ _ H2.out.2.2 ?_
      clear hK K HOW H1
      refine wpSched_pure (.bool BV) rfl (by rfl) (exec_eqW (.tmp 10) (.tmp 11) rfl _ _ (by rfl) (by rfl) BV heq) ?_
      simp only [Act.put, List.getElem_toArray, List.getElem_cons_zero, List.getElem_cons_succ, List.setIfInBounds_toArray, List.set_cons_zero, List.set_cons_succ]
      clear heq
      refine wpSched_pure (.bool BV) rfl (by rfl) (fun W => by go_simp) ?_
      simp only [Act.put, List.getElem_toArray, List.getElem_cons_zero, List.getElem_cons_succ, List.setIfInBounds_toArray, List.set_cons_zero, List.set_cons_succ]
      refine wpSched_nil ?_
      have hbv := HBV.out
      subst hbv
      have hc0 := H2.out.2.2.1
      haveI : LtSize w.heap.size (up W1.drew y1) := ⟨H2.out.2.1⟩
      go_wp2_with fail
      go_ret2
      exact Gives.mk rfl H2.out.1
    · rw [if_neg hneg]
      go_enter Try.func82, Try.ntmps82
      go_upto_region 2 with fail
      refine wp_gen (fun W => Below w.heap.size w W ∧ w.heap.size < W.heap.size ∧ W.cell? ⟨w.heap.size, 0, none⟩ = some (.int .i64 h1) ∧ W.cell? ⟨w.heap.size, 1, none⟩ = some (.int .u64 l1)) ⟨by (repeat (first | (with_reducible exact Below.refl _ _) | (with_reducible assumption) | (with_reducible refine Below.alloc ?_ (by (repeat (first | (with_reducible exact Nat.le_refl _) | (with_reducible assumption) | (with_reducible refine le_up ?_) | (with_reducible refine le_alloc ?_) | (with_reducible refine le_setCell ?_) | (with_reducible refine le_drew ?_) | (with_reducible refine le_drewN ?_) | omega))) _) | (with_reducible refine Below.drew ?_) | (with_reducible refine Below.drewN ?_ _) | (with_reducible refine Below.setCell ?_ (by (repeat (first | (with_reducible exact Nat.le_refl _) | (with_reducible assumption) | (with_reducible refine le_up ?_) | (with_reducible refine le_alloc ?_) | (with_reducible refine le_setCell ?_) | (with_reducible refine le_drew ?_) | (with_reducible refine le_drewN ?_) | omega))) _) | (with_reducible refine Below.up ?_ (by (repeat (first | (with_reducible exact Nat.le_refl _) | (with_reducible assumption) | (with_reducible refine le_up ?_) | (with_reducible refine le_alloc ?_) | (with_reducible refine le_setCell ?_) | (with_reducible refine le_drew ?_) | (with_reducible refine le_drewN ?_) | omega)))))), by simp, by simp, by simp⟩ ?_
      rintro W1 ⟨hb1, hl1, hc0, hc1⟩
      have H1 := Lib.hid (show Below w.heap.size w W1.drew ∧ w.heap.size < W1.drew.heap.size ∧ W1.drew.cell? ⟨w.heap.size, 0, none⟩ = some (.int .i64 h1) ∧ W1.drew.cell? ⟨w.heap.size, 1, none⟩ = some (.int .u64 l1) from ⟨Below.drew hb1, hl1, hc0, hc1⟩)
      clear hb1 hl1 hc0 hc1
      have HOW := Lib.hid (HOF.out W1.drew)
      refine wp_region_slim [] [(0, 3), (2, 0), (1, 1), (3, 3), (4, 3)] (fun X => X.cell? ⟨w.heap.size, 0, none⟩ = some (.int .i64 h1) ∧ X.cell? ⟨w.heap.size, 1, none⟩ = some (.int .u64 l1)) (by kernel_rfl) (by kernel_rfl) (fun d v c a w h => by cases d <;> exact h) H1.out.2.2 ?_
      simp only [List.map_cons, List.map_nil, slim]
      refine wpSched_pure ?sv5 rfl (by rfl) (fun W => ?sh5) ?sr5; (case sh5 => (go_simp; try (with_reducible rfl))); simp only [Act.put, List.getElem_toArray, List.getElem_cons_zero, List.getElem_cons_succ, List.setIfInBounds_toArray, List.set_cons_zero, List.set_cons_succ]
      refine wpSched_still ?sv6 rfl (by rfl) (fun W hW => ?sh6) ?sr6; (case sh6 => (obtain ⟨h1, h2⟩ := hW; go_simp; try (with_reducible rfl))); simp only [Act.put, List.getElem_toArray, List.getElem_cons_zero, List.getElem_cons_succ, List.setIfInBounds_toArray, List.set_cons_zero, List.set_cons_succ]
      refine wpSched_eff rfl (by rfl) (fun K hK => ?_); go_simp
      refine HOW.out.mono ?_
      rintro e1 w1 ⟨rfl, y1, rfl⟩
      have H2 := Lib.hid (show Below w.heap.size w (up W1.drew y1) ∧ w.heap.size < (up W1.drew y1).heap.size ∧ (up W1.drew y1).cell? ⟨w.heap.size, 0, none⟩ = some (.int .i64 h1) ∧ (up W1.drew y1).cell? ⟨w.heap.size, 1, none⟩ = some (.int .u64 l1) from
        ⟨Below.up H1.out.1 H1.out.1.size, Nat.lt_of_lt_of_le H1.out.2.1 (up_size _ _), cell_belowI (up_below _ _) H1.out.2.1 H1.out.2.2.1, cell_belowI (up_below _ _) H1.out.2.1 H1.out.2.2.2⟩)
      refine hK _ _ H2.out.2.2 ?_
      clear hK K HOW H1
      refine wpSched_pure (.bool BV) rfl (by rfl) (exec_eqW (.tmp 10) (.tmp 11) rfl _ _ (by rfl) (by rfl) BV heq) ?_
      simp only [Act.put, List.getElem_toArray, List.getElem_cons_zero, List.getElem_cons_succ, List.setIfInBounds_toArray, List.set_cons_zero, List.set_cons_succ]
      clear heq
      refine wpSched_pure (.bool BV) rfl (by rfl) (fun W => by go_simp) ?_
      simp only [Act.put, List.getElem_toArray, List.getElem_cons_zero, List.getElem_cons_succ, List.setIfInBounds_toArray, List.set_cons_zero, List.set_cons_succ]
      refine wpSched_nil ?_
      have hbv := HBV.out
      subst hbv
      have hc0 := H2.out.2.2.1
      haveI : LtSize w.heap.size (up W1.drew y1) := ⟨H2.out.2.1⟩
      go_wp2_with fail
      go_ret2
      exact Gives.mk rfl H2.out.1
end Go.Proofs.Ytihalkpcddnikaa
