/-
  A record whose numbers are stored one by one; a record's bytes, by the reference; the next number.
-/
import Derived.Test.YtjkgodhoonkinaaBnkR
namespace Go.Proofs.Ytjkgodhoonkinaa
open Go.RowKit
set_option linter.unusedVariables false
set_option linter.unusedSimpArgs false

/-- The numbers of R at the places p, and 0 elsewhere. -/
def fillR (R : List Nat) (p : Nat → Bool) : List Nat := (List.range 50).map fun j => if p j then R.getD j 0 else 0
def fillL (R : List Nat) (p : Nat → Bool) : List Value := recL (fillR R p)
theorem fillR_length (R : List Nat) (p : Nat → Bool) : (fillR R p).length = 50 := by simp [fillR]
theorem fillR_get (R : List Nat) (p : Nat → Bool) (j : Nat) (hj : j < 50) : (fillR R p).getD j 0 = if p j then R.getD j 0 else 0 := by
  unfold fillR
  rw [List.getD_eq_getElem?_getD, List.getElem?_map, List.getElem?_range hj]
  rfl
theorem fillL_length (R : List Nat) (p : Nat → Bool) : (fillL R p).length = 50 := recL_length (fillR_length R p)
theorem fillL_get (R : List Nat) (p : Nat → Bool) (j : Nat) (hj : j < 50) : (fillL R p)[j]? = some (.int (kinds.getD j .u8) (((if p j then R.getD j 0 else 0 : Nat)) : Int)) := by
  unfold fillL
  rw [recL_get (fillR_length R p) j hj, fillR_get R p j hj]
theorem fillL_one (R : List Nat) (p : Nat → Bool) : (fillL R p).toArray.all (·.oneCell') = true := recL_one (fillR_length R p)
theorem fillL_eq {R S : List Nat} {p q : Nat → Bool} (h : ∀ j, j < 50 → (if p j then R.getD j 0 else 0) = (if q j then S.getD j 0 else 0)) : fillL R p = fillL S q := by
  unfold fillL fillR
  congr 1
  refine List.map_congr_left (fun j hj => ?_)
  exact h j (List.mem_range.1 hj)
theorem fillR_all {R : List Nat} (h : R.length = 50) : fillR R (fun _ => true) = R := by
  refine List.ext_getElem? (fun j => ?_)
  by_cases hj : j < 50
  · have h1 := fillR_get R (fun _ => true) j hj
    rw [if_pos rfl] at h1
    rw [List.getD_eq_getElem?_getD, List.getD_eq_getElem?_getD, List.getElem?_eq_getElem (by rw [fillR_length]; exact hj), List.getElem?_eq_getElem (by rw [h]; exact hj)] at h1
    rw [List.getElem?_eq_getElem (by rw [fillR_length]; exact hj), List.getElem?_eq_getElem (by rw [h]; exact hj)]
    simpa using h1
  · rw [List.getElem?_eq_none (by rw [fillR_length]; omega), List.getElem?_eq_none (by omega)]
theorem fillL_all {R : List Nat} (h : R.length = 50) {p : Nat → Bool} (hp : ∀ j, j < 50 → p j = true) : fillL R p = recL R := by
  rw [show recL R = fillL R (fun _ => true) by unfold fillL; rw [fillR_all h]]
  exact fillL_eq (fun j hj => by rw [hp j hj])
theorem fillL_none (R : List Nat) {p : Nat → Bool} (hp : ∀ j, j < 50 → p j = false) : fillL R p = recL zeroR := by
  rw [show recL zeroR = fillL zeroR (fun _ => true) by unfold fillL; rw [fillR_all rfl]]
  refine fillL_eq (fun j hj => ?_)
  rw [hp j hj]
  have : zeroR.getD j 0 = 0 := by
    unfold zeroR
    rw [List.getD_eq_getElem?_getD, List.getElem?_replicate]
    split <;> rfl
  rw [this]
  simp
theorem fill_set (R : List Nat) (p : Nat → Bool) (i : Nat) (hi : i < 50) : (fillL R p).set i (.int (kinds.getD i .u8) ((R.getD i 0 : Nat) : Int)) = fillL R (fun j => p j || j == i) := by
  refine List.ext_getElem? (fun j => ?_)
  by_cases hj : j < 50
  · rw [fillL_get R _ j hj, List.getElem?_set]
    by_cases hij : i = j
    · subst hij
      rw [if_pos rfl, if_pos (by rw [fillL_length]; exact hi)]
      simp
    · rw [if_neg hij, fillL_get R p j hj]
      have : (j == i) = false := by simp; omega
      rw [this, Bool.or_false]
  · rw [List.getElem?_eq_none (by rw [List.length_set, fillL_length]; omega), List.getElem?_eq_none (by rw [fillL_length]; omega)]
/-- A store of some numbers that follow one another. -/
theorem fill_setCells (R : List Nat) (hR : R.length = 50) (b : Nat) : ∀ (n i : Nat) (p : Nat → Bool) (w : World), i + n ≤ 50 → w.rangeAt b 0 (fillL R p) →
    (w.setCells b i (((recL R).drop i).take n)).rangeAt b 0 (fillL R (fun j => p j || (decide (i ≤ j) && decide (j < i + n)))) := by
  intro n
  induction n with
  | zero =>
    intro i p w _ h
    rw [List.take_zero]
    rw [fillL_eq (R := R) (S := R) (p := fun j => p j || (decide (i ≤ j) && decide (j < i + 0))) (q := p) (fun j hj => by
      have : (decide (i ≤ j) && decide (j < i + 0)) = false := by simp
      rw [this, Bool.or_false])]
    exact h
  | succ n ih =>
    intro i p w hi h
    have hx := recL_get hR i (by omega)
    have hd : ((recL R).drop i).take (n + 1) = .int (kinds.getD i .u8) ((R.getD i 0 : Nat) : Int) :: ((recL R).drop (i + 1)).take n := by
      rw [List.drop_eq_getElem_cons (by rw [recL_length hR]; omega), List.take_succ_cons]
      congr 1
      rw [List.getElem?_eq_getElem (by rw [recL_length hR]; omega)] at hx
      exact Option.some.inj hx
    rw [hd]
    have h1 := rangeAt_set h i (.int (kinds.getD i .u8) ((R.getD i 0 : Nat) : Int))
    rw [fill_set R p i (by omega), Nat.zero_add] at h1
    have h2 := ih (i + 1) _ _ (by omega) h1
    rw [fillL_eq (R := R) (S := R) (p := fun j => p j || (decide (i ≤ j) && decide (j < i + (n + 1)))) (q := fun j => (p j || j == i) || (decide (i + 1 ≤ j) && decide (j < i + 1 + n))) (fun j hj => by
      have : (p j || (decide (i ≤ j) && decide (j < i + (n + 1)))) = ((p j || j == i) || (decide (i + 1 ≤ j) && decide (j < i + 1 + n))) := by
        rw [Bool.or_assoc]
        congr 1
        rw [Bool.eq_iff_iff]
        simp
        omega
      rw [this])]
    exact h2
def nextN (R : List Nat) : Nat := if R.getD 0 0 = 4294967295 then 4294967295 else R.getD 0 0 + 1
set_option maxRecDepth 100000 in
theorem bNext_any (R : List Nat) (w : World) (hR : RecOK R) : Calls Try.prog 42 #[.agg (recL R).toArray] w (Gives w (.int .u32 ((nextN R : Nat) : Int))) := by
  obtain ⟨r0, hr0⟩ : ∃ r0, r0 = R.getD 0 0 := ⟨_, rfl⟩
  have z0 : (w.alloc (.cells (recL R).toArray 50)).cell? ⟨w.heap.size, 0, none⟩ = some (.int .u32 (r0 : Int)) := by
    have h := rangeAt_boxed (w := w) (g := w.heap.size) (recL R) 50 0 _ (recL_get hR.1 0 (by omega))
    rw [hr0]; exact h
  have b0 : r0 < 4294967296 := by rw [hr0]; exact hR.2 0 (by omega)
  have HN := Lib.hid (show nextN R = if r0 = 4294967295 then 4294967295 else r0 + 1 by rw [hr0]; rfl)
  obtain ⟨L, hL⟩ : ∃ L, L = recL R := ⟨_, rfl⟩
  rw [← hL] at z0 ⊢
  clear hL hr0 hR
  go_enter Try.func42, Try.ntmps42
  by_cases h1 : r0 = 4294967295
  · subst h1
    go_wp2_with fail
    go_ret
    exact Gives.mk (by rw [HN.out]; rfl) (by (repeat (first | (with_reducible exact Below.refl _ _) | (with_reducible assumption) | (with_reducible refine Below.alloc ?_ (by (repeat (first | (with_reducible exact Nat.le_refl _) | (with_reducible assumption) | (with_reducible refine le_up ?_) | (with_reducible refine le_alloc ?_) | (with_reducible refine le_setCell ?_) | (with_reducible refine le_drew ?_) | (with_reducible refine le_drewN ?_) | omega))) _) | (with_reducible refine Below.drew ?_) | (with_reducible refine Below.drewN ?_ _) | (with_reducible refine Below.setCell ?_ (by (repeat (first | (with_reducible exact Nat.le_refl _) | (with_reducible assumption) | (with_reducible refine le_up ?_) | (with_reducible refine le_alloc ?_) | (with_reducible refine le_setCell ?_) | (with_reducible refine le_drew ?_) | (with_reducible refine le_drewN ?_) | omega))) _) | (with_reducible refine Below.up ?_ (by (repeat (first | (with_reducible exact Nat.le_refl _) | (with_reducible assumption) | (with_reducible refine le_up ?_) | (with_reducible refine le_alloc ?_) | (with_reducible refine le_setCell ?_) | (with_reducible refine le_drew ?_) | (with_reducible refine le_drewN ?_) | omega)))))))
  · have h1' : ¬ (r0 : Int) = 4294967295 := by omega
    have h2 : IntKind.u32.wrap ((r0 : Int) + 1) = (r0 : Int) + 1 := by simp [IntKind.wrap, IntKind.bits, IntKind.signed]; omega
    go_wp2_with fail
    go_ret
    refine Gives.mk ?_ (by (repeat (first | (with_reducible exact Below.refl _ _) | (with_reducible assumption) | (with_reducible refine Below.alloc ?_ (by (repeat (first | (with_reducible exact Nat.le_refl _) | (with_reducible assumption) | (with_reducible refine le_up ?_) | (with_reducible refine le_alloc ?_) | (with_reducible refine le_setCell ?_) | (with_reducible refine le_drew ?_) | (with_reducible refine le_drewN ?_) | omega))) _) | (with_reducible refine Below.drew ?_) | (with_reducible refine Below.drewN ?_ _) | (with_reducible refine Below.setCell ?_ (by (repeat (first | (with_reducible exact Nat.le_refl _) | (with_reducible assumption) | (with_reducible refine le_up ?_) | (with_reducible refine le_alloc ?_) | (with_reducible refine le_setCell ?_) | (with_reducible refine le_drew ?_) | (with_reducible refine le_drewN ?_) | omega))) _) | (with_reducible refine Below.up ?_ (by (repeat (first | (with_reducible exact Nat.le_refl _) | (with_reducible assumption) | (with_reducible refine le_up ?_) | (with_reducible refine le_alloc ?_) | (with_reducible refine le_setCell ?_) | (with_reducible refine le_drew ?_) | (with_reducible refine le_drewN ?_) | omega)))))))
    rw [HN.out, if_neg h1]
    go_num
set_option maxRecDepth 100000 in
theorem rNext_any (R : List Nat) (w : World) (hR : RecOK R) : Calls Try.prog 43 #[.agg (recL R).toArray] w (Gives w (.int .u32 ((nextN R : Nat) : Int))) := by
  obtain ⟨r0, hr0⟩ : ∃ r0, r0 = R.getD 0 0 := ⟨_, rfl⟩
  have z0 : (w.alloc (.cells (recL R).toArray 69)).cell? ⟨w.heap.size, 0, none⟩ = some (.int .u32 (r0 : Int)) := by
    have h := rangeAt_boxed (w := w) (g := w.heap.size) (recL R) 69 0 _ (recL_get hR.1 0 (by omega))
    rw [hr0]; exact h
  have b0 : r0 < 4294967296 := by rw [hr0]; exact hR.2 0 (by omega)
  have HN := Lib.hid (show nextN R = if r0 = 4294967295 then 4294967295 else r0 + 1 by rw [hr0]; rfl)
  obtain ⟨L, hL⟩ : ∃ L, L = recL R := ⟨_, rfl⟩
  rw [← hL] at z0 ⊢
  clear hL hr0 hR
  go_enter Try.func43, Try.ntmps43
  by_cases h1 : r0 = 4294967295
  · subst h1
    go_wp2_with fail
    go_ret
    exact Gives.mk (by rw [HN.out]; rfl) (by (repeat (first | (with_reducible exact Below.refl _ _) | (with_reducible assumption) | (with_reducible refine Below.alloc ?_ (by (repeat (first | (with_reducible exact Nat.le_refl _) | (with_reducible assumption) | (with_reducible refine le_up ?_) | (with_reducible refine le_alloc ?_) | (with_reducible refine le_setCell ?_) | (with_reducible refine le_drew ?_) | (with_reducible refine le_drewN ?_) | omega))) _) | (with_reducible refine Below.drew ?_) | (with_reducible refine Below.drewN ?_ _) | (with_reducible refine Below.setCell ?_ (by (repeat (first | (with_reducible exact Nat.le_refl _) | (with_reducible assumption) | (with_reducible refine le_up ?_) | (with_reducible refine le_alloc ?_) | (with_reducible refine le_setCell ?_) | (with_reducible refine le_drew ?_) | (with_reducible refine le_drewN ?_) | omega))) _) | (with_reducible refine Below.up ?_ (by (repeat (first | (with_reducible exact Nat.le_refl _) | (with_reducible assumption) | (with_reducible refine le_up ?_) | (with_reducible refine le_alloc ?_) | (with_reducible refine le_setCell ?_) | (with_reducible refine le_drew ?_) | (with_reducible refine le_drewN ?_) | omega)))))))
  · have h1' : ¬ (r0 : Int) = 4294967295 := by omega
    have h2 : IntKind.u32.wrap ((r0 : Int) + 1) = (r0 : Int) + 1 := by simp [IntKind.wrap, IntKind.bits, IntKind.signed]; omega
    go_wp2_with fail
    go_ret
    refine Gives.mk ?_ (by (repeat (first | (with_reducible exact Below.refl _ _) | (with_reducible assumption) | (with_reducible refine Below.alloc ?_ (by (repeat (first | (with_reducible exact Nat.le_refl _) | (with_reducible assumption) | (with_reducible refine le_up ?_) | (with_reducible refine le_alloc ?_) | (with_reducible refine le_setCell ?_) | (with_reducible refine le_drew ?_) | (with_reducible refine le_drewN ?_) | omega))) _) | (with_reducible refine Below.drew ?_) | (with_reducible refine Below.drewN ?_ _) | (with_reducible refine Below.setCell ?_ (by (repeat (first | (with_reducible exact Nat.le_refl _) | (with_reducible assumption) | (with_reducible refine le_up ?_) | (with_reducible refine le_alloc ?_) | (with_reducible refine le_setCell ?_) | (with_reducible refine le_drew ?_) | (with_reducible refine le_drewN ?_) | omega))) _) | (with_reducible refine Below.up ?_ (by (repeat (first | (with_reducible exact Nat.le_refl _) | (with_reducible assumption) | (with_reducible refine le_up ?_) | (with_reducible refine le_alloc ?_) | (with_reducible refine le_setCell ?_) | (with_reducible refine le_drew ?_) | (with_reducible refine le_drewN ?_) | omega)))))))
    rw [HN.out, if_neg h1]
    go_num
end Go.Proofs.Ytjkgodhoonkinaa
