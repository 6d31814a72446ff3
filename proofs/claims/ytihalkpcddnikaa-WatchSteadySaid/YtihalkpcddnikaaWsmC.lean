/-
  fix.of, fix.clip, fix.Sum.
-/
import Derived.Test.YtihalkpcddnikaaWsmB
namespace Go.Proofs.Ytihalkpcddnikaa
open Go.RowKit
set_option linter.unusedVariables false
set_option linter.unusedSimpArgs false

set_option maxRecDepth 100000 in
theorem fof_any (x : Int) (w : World) (h1 : -9223372036854775808 ≤ x) (h2 : x ≤ 9223372036854775807) :
    Calls Try.prog 79 #[.int .i64 x] w (Gives w (wideV (ofI x))) := by
  have HO := Lib.hid (fun W => wOf_any x W h1 h2)
  unfold wideV at HO ⊢
  generalize hiV (ofI x) = h at *
  generalize loV (ofI x) = l at *
  go_enter Try.func79, Try.ntmps79
  go_wp2_with (go_at_call 81; (first | with_reducible refine Calls.fold (HO.out _) ?_ | with_reducible refine Calls.fresh (HO.out _) ?_); intro x1)
  refine bodyPost_ret (v := .agg #[.int .i64 h, .int .u64 l]) ?_ rfl (Gives.mk rfl (by (repeat (first | (with_reducible exact Below.refl _ _) | (with_reducible assumption) | (with_reducible refine Below.alloc ?_ (by (repeat (first | (with_reducible exact Nat.le_refl _) | (with_reducible assumption) | (with_reducible refine le_up ?_) | (with_reducible refine le_alloc ?_) | (with_reducible refine le_setCell ?_) | (with_reducible refine le_drew ?_) | (with_reducible refine le_drewN ?_) | omega))) _) | (with_reducible refine Below.drew ?_) | (with_reducible refine Below.drewN ?_ _) | (with_reducible refine Below.setCell ?_ (by (repeat (first | (with_reducible exact Nat.le_refl _) | (with_reducible assumption) | (with_reducible refine le_up ?_) | (with_reducible refine le_alloc ?_) | (with_reducible refine le_setCell ?_) | (with_reducible refine le_drew ?_) | (with_reducible refine le_drewN ?_) | omega))) _) | (with_reducible refine Below.up ?_ (by (repeat (first | (with_reducible exact Nat.le_refl _) | (with_reducible assumption) | (with_reducible refine le_up ?_) | (with_reducible refine le_alloc ?_) | (with_reducible refine le_setCell ?_) | (with_reducible refine le_drew ?_) | (with_reducible refine le_drewN ?_) | omega))))))))
  simp only [results, show Try.f79.results = #[ResultVar.cell 2 98] from rfl]
  go_simp
set_option maxRecDepth 100000 in
theorem fclip_any (n : Nat) (w : World) (hn : n < 340282366920938463463374607431768211456) :
    Calls Try.prog 80 #[wideV n] w (Gives w (.tuple #[.int .i64 (clipV (toI n)), .bool (clipO (toI n))])) := by
  have HC := Lib.hid (fun W => wClip_any n W hn)
  unfold wideV at HC ⊢
  clear hn
  generalize clipV (toI n) = v at *
  generalize clipO (toI n) = o at *
  go_enter Try.func80, Try.ntmps80
  go_wp2_with (go_at_call 82; (first | with_reducible refine Calls.fold (HC.out _) ?_ | with_reducible refine Calls.fresh (HC.out _) ?_); intro x1)
  go_ret2
  exact Gives.mk rfl (by (repeat (first | (with_reducible exact Below.refl _ _) | (with_reducible assumption) | (with_reducible refine Below.alloc ?_ (by (repeat (first | (with_reducible exact Nat.le_refl _) | (with_reducible assumption) | (with_reducible refine le_up ?_) | (with_reducible refine le_alloc ?_) | (with_reducible refine le_setCell ?_) | (with_reducible refine le_drew ?_) | (with_reducible refine le_drewN ?_) | omega))) _) | (with_reducible refine Below.drew ?_) | (with_reducible refine Below.drewN ?_ _) | (with_reducible refine Below.setCell ?_ (by (repeat (first | (with_reducible exact Nat.le_refl _) | (with_reducible assumption) | (with_reducible refine le_up ?_) | (with_reducible refine le_alloc ?_) | (with_reducible refine le_setCell ?_) | (with_reducible refine le_drew ?_) | (with_reducible refine le_drewN ?_) | omega))) _) | (with_reducible refine Below.up ?_ (by (repeat (first | (with_reducible exact Nat.le_refl _) | (with_reducible assumption) | (with_reducible refine le_up ?_) | (with_reducible refine le_alloc ?_) | (with_reducible refine le_setCell ?_) | (with_reducible refine le_drew ?_) | (with_reducible refine le_drewN ?_) | omega)))))))
/-- The sum of ints, exact. -/
def sumI : List Int → Int
  | [] => 0
  | x :: xs => x + sumI xs
theorem sumI_end : ∀ (xs : List Int) (x : Int), sumI (xs ++ [x]) = sumI xs + x
  | [], x => by simp [sumI]
  | y :: xs, x => by rw [List.cons_append, sumI, sumI_end xs x, sumI]; omega
theorem sumI_take (xs : List Int) (k : Nat) (h : k < xs.length) : sumI (xs.take (k + 1)) = sumI (xs.take k) + xs.getD k 0 := by
  rw [List.take_succ_eq_append_getElem h, sumI_end, List.getD_eq_getElem?_getD, List.getElem?_eq_getElem h]; rfl
theorem sumI_bd : ∀ (xs : List Int), (∀ x ∈ xs, -9223372036854775808 ≤ x ∧ x ≤ 9223372036854775807) → -9223372036854775808 * (xs.length : Int) ≤ sumI xs ∧ sumI xs ≤ 9223372036854775807 * (xs.length : Int)
  | [], _ => by simp [sumI]
  | x :: xs, h => by
    have h1 := sumI_bd xs (fun y hy => h y (List.mem_cons_of_mem _ hy))
    have h2 := h x (List.mem_cons_self ..)
    rw [sumI, List.length_cons]
    omega
theorem getD_bd {xs : List Int} (h : ∀ x ∈ xs, -9223372036854775808 ≤ x ∧ x ≤ 9223372036854775807) (k : Nat) : -9223372036854775808 ≤ xs.getD k 0 ∧ xs.getD k 0 ≤ 9223372036854775807 := by
  rw [List.getD_eq_getElem?_getD]
  rcases Nat.lt_or_ge k xs.length with hk | hk
  · rw [List.getElem?_eq_getElem hk]; exact h _ (List.getElem_mem hk)
  · rw [List.getElem?_eq_none hk]; simp
set_option maxRecDepth 100000 in
set_option maxHeartbeats 3200000 in
theorem fSum_any (b cap : Nat) (xs : List Int) (w : World) (hb : b < w.heap.size) (hc : ∀ k, k < xs.length → w.cell? ⟨b, k, none⟩ = some (.int .i64 (xs.getD k 0))) (hbd : ∀ x ∈ xs, -9223372036854775808 ≤ x ∧ x ≤ 9223372036854775807) (hl : xs.length ≤ 1000) :
    Calls Try.prog 75 #[.slice (some ⟨b, 0, none⟩) xs.length cap] w (Gives w (.tuple #[.int .i64 (clipV (sumI xs)), .bool (clipO (sumI xs))])) := by
  have HB := Lib.hid hbd
  have hsb := sumI_bd xs hbd
  have HCL := Lib.hid (show ∀ W, Calls Try.prog 80 #[wideV (ofI (sumI xs))] W (Gives W (.tuple #[.int .i64 (clipV (sumI xs)), .bool (clipO (sumI xs))])) from fun W => by
    have := fclip_any (ofI (sumI xs)) W (ofI_lt _)
    rwa [toI_ofI (by omega) (by omega)] at this)
  have HC := Lib.hid hc
  have HAD := Lib.hid (fun (n m : Nat) (W : World) hn hm => wAdd_any n m W hn hm)
  have HOF := Lib.hid (fun (x : Int) (W : World) h1 h2 => fof_any x W h1 h2)
  clear hbd hsb hc
  unfold wideV at HCL HAD HOF
  generalize clipV (sumI xs) = cv at *
  generalize clipO (sumI xs) = co at *
  go_enter Try.func75, Try.ntmps75
  go_wp2_with fail
  go_loopw [9] (fun v9 wr => ∃ k : Nat, k ≤ xs.length ∧ v9 = .int .i64 (k : Int) ∧ Below w.heap.size w wr ∧ w.heap.size < wr.heap.size ∧ wr.cell? ⟨w.heap.size, 0, none⟩ = some (.int .i64 (hiV (ofI (sumI (xs.take k))))) ∧ wr.cell? ⟨w.heap.size, 1, none⟩ = some (.int .u64 (loV (ofI (sumI (xs.take k))))) ∧ (∀ i, wr.frozen? ⟨w.heap.size, i, none⟩ = false)) (fun v9 _ => xs.length - (intOf v9).toNat)
  case atStart =>
    refine ⟨0, by omega, rfl, by (repeat (first | (with_reducible exact Below.refl _ _) | (with_reducible assumption) | (with_reducible refine Below.alloc ?_ (by (repeat (first | (with_reducible exact Nat.le_refl _) | (with_reducible assumption) | (with_reducible refine le_up ?_) | (with_reducible refine le_alloc ?_) | (with_reducible refine le_setCell ?_) | (with_reducible refine le_drew ?_) | (with_reducible refine le_drewN ?_) | omega))) _) | (with_reducible refine Below.drew ?_) | (with_reducible refine Below.drewN ?_ _) | (with_reducible refine Below.setCell ?_ (by (repeat (first | (with_reducible exact Nat.le_refl _) | (with_reducible assumption) | (with_reducible refine le_up ?_) | (with_reducible refine le_alloc ?_) | (with_reducible refine le_setCell ?_) | (with_reducible refine le_drew ?_) | (with_reducible refine le_drewN ?_) | omega))) _) | (with_reducible refine Below.up ?_ (by (repeat (first | (with_reducible exact Nat.le_refl _) | (with_reducible assumption) | (with_reducible refine le_up ?_) | (with_reducible refine le_alloc ?_) | (with_reducible refine le_setCell ?_) | (with_reducible refine le_drew ?_) | (with_reducible refine le_drewN ?_) | omega)))))), by simp, ?_, ?_, fun i => World.frozen?_alloc_new _ _ _ _⟩
    · simp [sumI, ofI, hiV, wrap64]
    · simp [sumI, ofI, loV]
  case round =>
    obtain ⟨k, hk, rfl, hbl, hlt, s0, s1, fz⟩ := hrel
    by_cases hkl : k < xs.length
    · have ha := getD_bd HB.out k
      have hta := sumI_take xs k hkl
      have HA2 := Lib.hid (show ∀ W, Calls Try.prog 78 #[.agg #[.int .i64 (hiV (ofI (sumI (xs.take k)))), .int .u64 (loV (ofI (sumI (xs.take k))))], .agg #[.int .i64 (hiV (ofI (xs.getD k 0))), .int .u64 (loV (ofI (xs.getD k 0)))]] W (Gives W (.agg #[.int .i64 (hiV (ofI (sumI (xs.take (k + 1))))), .int .u64 (loV (ofI (sumI (xs.take (k + 1)))))])) from fun W => by
        have := HAD.out (ofI (sumI (xs.take k))) (ofI (xs.getD k 0)) W (ofI_lt _) (ofI_lt _)
        rwa [ofI_add, ← hta] at this)
      have HO2 := Lib.hid (fun W => HOF.out (xs.getD k 0) W ha.1 ha.2)
      have c0 : wr.cell? ⟨b, k, none⟩ = some (.int .i64 (xs.getD k 0)) := by rw [hbl.cell (p := ⟨b, k, none⟩) hb]; exact HC.out k hkl
      haveI : LtSize b wr := ⟨by have := hbl.size; omega⟩
      have hkI : (k : Int) < (xs.length : Int) := by omega
      have HM := Lib.hid (And.intro hk (And.intro hkl hkI))
      have HSS := Lib.hid (And.intro s0 s1)
      have HBL := Lib.hid (And.intro hbl (And.intro hlt fz))
      clear hta ha
      generalize xs.getD k 0 = x at *
      generalize hh3 : hiV (ofI (sumI (xs.take (k + 1)))) = h3 at *
      generalize hl3 : loV (ofI (sumI (xs.take (k + 1)))) = l3 at *
      have HE3 := Lib.hid (And.intro hh3 hl3)
      clear hh3 hl3
      generalize hiV (ofI (sumI (xs.take k))) = h1 at *
      generalize loV (ofI (sumI (xs.take k))) = l1 at *
      generalize hiV (ofI x) = h2 at *
      generalize loV (ofI x) = l2 at *
      generalize xs.length = len at *
      go_upto_region 5 with fail
      have HOW := Lib.hid (HO2.out wr.drew)
      have HS1 := Lib.hid (show wr.drew.cell? ⟨w.heap.size, 0, none⟩ = some (.int .i64 h1) ∧ wr.drew.cell? ⟨w.heap.size, 1, none⟩ = some (.int .u64 l1) from HSS.out)
      clear s0 s1 c0 hbl hlt fz
      refine wp_region_slim [3, 4] [(0, 0), (1, 3), (2, 1), (3, 2), (4, 2)] (fun X => X.cell? ⟨w.heap.size, 0, none⟩ = some (.int .i64 h1) ∧ X.cell? ⟨w.heap.size, 1, none⟩ = some (.int .u64 l1)) (by kernel_rfl) (by kernel_rfl) (fun d v c a w h => by cases d <;> exact h) HS1.out ?_
      simp only [List.map_cons, List.map_nil, slim]
      refine wpSched_still ?sv1 rfl (by rfl) (fun W hW => ?sh1) ?sr1; (case sh1 => (obtain ⟨h1, h2⟩ := hW; go_simp; try (with_reducible rfl))); simp only [Act.put, List.getElem_toArray, List.getElem_cons_zero, List.getElem_cons_succ, List.setIfInBounds_toArray, List.set_cons_zero, List.set_cons_succ]
      refine wpSched_pure ?sv2 rfl (by rfl) (fun W => ?sh2) ?sr2; (case sh2 => (go_simp; try (with_reducible rfl))); simp only [Act.put, List.getElem_toArray, List.getElem_cons_zero, List.getElem_cons_succ, List.setIfInBounds_toArray, List.set_cons_zero, List.set_cons_succ]
      refine wpSched_eff rfl (by rfl) (fun K hK => ?_); go_simp
      refine HOW.out.mono ?_
      rintro e1 w1 ⟨rfl, y1, rfl⟩
      have hb1 : Below wr.heap.size wr (up wr.drew y1) := (Below.drew (Below.refl _ _)).trans (up_below wr.drew y1)
      have HS2 := Lib.hid (And.intro (cell_belowI hb1 HBL.out.2.1 HSS.out.1) (cell_belowI hb1 HBL.out.2.1 HSS.out.2))
      have HB1 := Lib.hid hb1
      refine hK _ _ HS2.out ?_
      clear hK K HOW hb1
      have HAW := Lib.hid (HA2.out (up wr.drew y1))
      refine wpSched_tail rfl (by rfl) (fun K hK => ?_); go_simp
      refine HAW.out.mono ?_
      rintro e2 w2 ⟨rfl, y2, rfl⟩
      refine hK _ _ ?_
      clear hK K HAW
      have hb2 : Below wr.heap.size wr (up (up wr.drew y1) y2) := HB1.out.trans ((up_below _ y2).mono HB1.out.size)
      have s0 := cell_belowI hb2 HBL.out.2.1 HSS.out.1
      have s1 := cell_belowI hb2 HBL.out.2.1 HSS.out.2
      have f0 : ∀ i, (up (up wr.drew y1) y2).frozen? ⟨w.heap.size, i, none⟩ = false := fun i => by rw [hb2.frozen (p := ⟨w.heap.size, i, none⟩) HBL.out.2.1]; exact HBL.out.2.2 i
      have HB2 := Lib.hid (And.intro hb2 f0)
      have hl2 := Nat.lt_of_lt_of_le HBL.out.2.1 hb2.size
      clear hb2
      generalize up (up wr.drew y1) y2 = W5 at *
      have f00 := f0 0
      have f01 := f0 1
      clear f0
      have HEND := Lib.hid (show Below w.heap.size w ((W5.setCell ⟨w.heap.size, 0, none⟩ (.int .i64 h3)).setCell ⟨w.heap.size, 1, none⟩ (.int .u64 l3)) ∧ w.heap.size < ((W5.setCell ⟨w.heap.size, 0, none⟩ (.int .i64 h3)).setCell ⟨w.heap.size, 1, none⟩ (.int .u64 l3)).heap.size ∧ ((W5.setCell ⟨w.heap.size, 0, none⟩ (.int .i64 h3)).setCell ⟨w.heap.size, 1, none⟩ (.int .u64 l3)).cell? ⟨w.heap.size, 0, none⟩ = some (.int .i64 h3) ∧ ((W5.setCell ⟨w.heap.size, 0, none⟩ (.int .i64 h3)).setCell ⟨w.heap.size, 1, none⟩ (.int .u64 l3)).cell? ⟨w.heap.size, 1, none⟩ = some (.int .u64 l3) ∧ (∀ i, ((W5.setCell ⟨w.heap.size, 0, none⟩ (.int .i64 h3)).setCell ⟨w.heap.size, 1, none⟩ (.int .u64 l3)).frozen? ⟨w.heap.size, i, none⟩ = false) from by
        have h2' := cell_set2 (u := .int .i64 h3) (v := .int .u64 l3) s0 s1
        exact ⟨((HBL.out.1.trans (HB2.out.1.mono HBL.out.1.size)).setCell (Nat.le_refl _) _).setCell (Nat.le_refl _) _, by rw [World.size_setCell, World.size_setCell]; exact hl2, h2'.1, h2'.2, fun i => by rw [World.frozen?_setCell, World.frozen?_setCell]; exact HB2.out.2 i⟩)
      refine wpSched_tail rfl (by rfl) (fun K hK => ?_); go_simp
      refine hK _ _ ?_
      clear hK K
      refine wpSched_nil ?_
      go_wp2_with fail
      exact ⟨⟨k + 1, by have := HM.out; omega, (by first | rfl | go_num), by rw [HE3.out.1, HE3.out.2]; exact HEND.out⟩, by have := HM.out; simp [intOf]; omega⟩
    · have hke : k = xs.length := by omega
      rw [hke, List.take_of_length_le (Nat.le_refl _)] at s0 s1
      have HCW := Lib.hid (HCL.out wr)
      have HBL := Lib.hid hbl
      subst hke
      haveI : LtSize w.heap.size wr := ⟨hlt⟩
      clear fz
      generalize hiV (ofI (sumI xs)) = h1 at *
      generalize loV (ofI (sumI xs)) = l1 at *
      generalize xs.length = len at *
      go_wp2_with (go_at_call 80; (first | with_reducible refine Calls.fold (HCW.out) ?_ | with_reducible refine Calls.fresh (HCW.out) ?_); intro x1)
      go_ret2
      exact Gives.mk rfl (below_up HBL.out HBL.out.size _)
end Go.Proofs.Ytihalkpcddnikaa
