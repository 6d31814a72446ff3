/-
  Plain laws on a bank's record: its 50 numbers, and its bytes.
-/
import Derived.Test.YtjkgodhoonkinaaFrmP
import Derived.Test.YtjkgodhoonkinaaAddsP
namespace Go.Proofs.Ytjkgodhoonkinaa
open Go.RowKit
set_option linter.unusedVariables false

/-- The bytes cut at these widths. -/
def cutAll : List Nat → List Nat → List (List Nat)
  | [], _ => []
  | w :: ws, bs => bs.take w :: cutAll ws (bs.drop w)
theorem cutAll_length : ∀ (ws bs : List Nat), (cutAll ws bs).length = ws.length
  | [], _ => rfl
  | w :: ws, bs => by simp [cutAll, cutAll_length ws]
theorem cutAll_flatten : ∀ (ws : List Nat) (ps : List (List Nat)) (t : List Nat), ps.map List.length = ws → cutAll ws (ps.flatten ++ t) = ps
  | [], ps, t, h => by
    cases ps with
    | nil => rfl
    | cons p ps => simp at h
  | w :: ws, ps, t, h => by
    cases ps with
    | nil => simp at h
    | cons p ps =>
      simp only [List.map_cons, List.cons.injEq] at h
      obtain ⟨rfl, h⟩ := h
      rw [List.flatten_cons, List.append_assoc]
      show List.take p.length (p ++ (ps.flatten ++ t)) :: cutAll ws (List.drop p.length (p ++ (ps.flatten ++ t))) = p :: ps
      rw [List.take_left, List.drop_left, cutAll_flatten ws ps t h]
theorem flatten_cutAll : ∀ (ws bs : List Nat), ws.sum ≤ bs.length → (cutAll ws bs).flatten = bs.take ws.sum
  | [], bs, _ => by simp [cutAll]
  | w :: ws, bs, h => by
    rw [List.sum_cons] at h
    show (bs.take w :: cutAll ws (bs.drop w)).flatten = _
    rw [List.flatten_cons, flatten_cutAll ws (bs.drop w) (by rw [List.length_drop]; omega), List.sum_cons, List.take_add]
theorem cutAll_get : ∀ (ws bs : List Nat) (j : Nat), j < ws.length → (cutAll ws bs)[j]? = some ((bs.drop (ws.take j).sum).take (ws.getD j 0))
  | [], _, j, h => by simp at h
  | w :: ws, bs, 0, _ => by simp [cutAll]
  | w :: ws, bs, j + 1, h => by
    show (bs.take w :: cutAll ws (bs.drop w))[j + 1]? = _
    rw [List.getElem?_cons_succ, cutAll_get ws (bs.drop w) j (by simpa using h), List.drop_drop, List.take_succ_cons, List.sum_cons]
    simp
theorem cutAll_lens : ∀ (ws bs : List Nat), ws.sum ≤ bs.length → (cutAll ws bs).map List.length = ws
  | [], bs, _ => rfl
  | w :: ws, bs, h => by
    rw [List.sum_cons] at h
    show ((bs.take w).length :: (cutAll ws (bs.drop w)).map List.length) = _
    rw [cutAll_lens ws (bs.drop w) (by rw [List.length_drop]; omega), List.length_take, Nat.min_eq_left (by omega)]
theorem cutAll_mem : ∀ (ws bs : List Nat), ∀ p ∈ cutAll ws bs, ∀ x ∈ p, x ∈ bs
  | [], _, p, h, _, _ => by simp [cutAll] at h
  | w :: ws, bs, p, h, x, hx => by
    rcases List.mem_cons.1 h with rfl | h
    · exact List.mem_of_mem_take hx
    · exact List.mem_of_mem_drop (cutAll_mem ws (bs.drop w) p h x hx)
/-- How many bytes each of a record's numbers has. -/
def widths : List Nat := [4, 4, 8, 4, 8, 4, 8, 4, 8, 4, 8, 4, 8, 4, 8, 4, 8, 4] ++ List.replicate 32 1
theorem widths_length : widths.length = 50 := rfl
theorem widths_sum : widths.sum = 136 := rfl
def RecOK (R : List Nat) : Prop := R.length = 50 ∧ ∀ j, j < 50 → R.getD j 0 < 256 ^ widths.getD j 0
def recB (R : List Nat) : List Nat := (List.zipWith beB widths R).flatten
def recP (bs : List Nat) : List Nat := (cutAll widths bs).map beN
def zeroR : List Nat := List.replicate 50 0
theorem zipWith_lens : ∀ (ws R : List Nat), R.length = ws.length → (List.zipWith beB ws R).map List.length = ws
  | [], R, h => by simp
  | w :: ws, [], h => by simp at h
  | w :: ws, r :: R, h => by
    rw [List.zipWith_cons_cons, List.map_cons, beB_length, zipWith_lens ws R (by simpa using h)]
theorem map_beN : ∀ (ws R : List Nat), R.length = ws.length → (∀ j, j < ws.length → R.getD j 0 < 256 ^ ws.getD j 0) → (List.zipWith beB ws R).map beN = R
  | [], [], _, _ => rfl
  | [], r :: R, h, _ => by simp at h
  | w :: ws, [], h, _ => by simp at h
  | w :: ws, r :: R, h, hb => by
    have h0 := hb 0 (by simp)
    simp only [List.getD_cons_zero] at h0
    rw [List.zipWith_cons_cons, List.map_cons, beN_beB, Nat.mod_eq_of_lt h0, map_beN ws R (by simpa using h) (fun j hj => by
      have := hb (j + 1) (by simpa using hj)
      simpa using this)]
theorem recB_length {R : List Nat} (h : R.length = 50) : (recB R).length = 136 := by
  have h1 := zipWith_lens widths R (by rw [h, widths_length])
  unfold recB
  rw [List.length_flatten, h1, widths_sum]
theorem recP_recB {R : List Nat} (h : RecOK R) (t : List Nat) : recP (recB R ++ t) = R := by
  unfold recP recB
  rw [cutAll_flatten widths _ t (zipWith_lens widths R (by rw [h.1, widths_length])), map_beN widths R (by rw [h.1, widths_length]) (by rw [widths_length]; exact h.2)]
theorem zip_beN : ∀ (ws : List Nat) (ps : List (List Nat)), ps.map List.length = ws → (∀ p ∈ ps, ∀ x ∈ p, x < 256) → List.zipWith beB ws (ps.map beN) = ps
  | [], ps, h, _ => by
    cases ps with
    | nil => rfl
    | cons p ps => simp at h
  | w :: ws, ps, h, hb => by
    cases ps with
    | nil => simp at h
    | cons p ps =>
      simp only [List.map_cons, List.cons.injEq] at h
      obtain ⟨rfl, h⟩ := h
      rw [List.map_cons, List.zipWith_cons_cons, beB_beN p (hb p (by simp)), zip_beN ws ps h (fun q hq => hb q (by simp [hq]))]
theorem recB_recP {bs : List Nat} (hl : 136 ≤ bs.length) (hb : ∀ x ∈ bs, x < 256) : recB (recP bs) = bs.take 136 := by
  unfold recB recP
  rw [zip_beN widths _ (cutAll_lens widths bs (by rw [widths_sum]; exact hl)) (fun p hp x hx => hb x (cutAll_mem widths bs p hp x hx)), flatten_cutAll widths bs (by rw [widths_sum]; exact hl), widths_sum]
theorem recP_length (bs : List Nat) : (recP bs).length = 50 := by unfold recP; rw [List.length_map, cutAll_length, widths_length]
theorem recP_get (bs : List Nat) (j : Nat) (hj : j < 50) : (recP bs).getD j 0 = beN ((bs.drop (widths.take j).sum).take (widths.getD j 0)) := by
  unfold recP
  rw [List.getD_eq_getElem?_getD, List.getElem?_map, cutAll_get widths bs j (by rw [widths_length]; exact hj)]
  rfl
theorem recP_ok {bs : List Nat} (hb : ∀ x ∈ bs, x < 256) : RecOK (recP bs) := by
  refine ⟨recP_length bs, fun j hj => ?_⟩
  rw [recP_get bs j hj]
  refine Nat.lt_of_lt_of_le (beN_lt _ (fun y hy => hb y (List.mem_of_mem_drop (List.mem_of_mem_take hy)))) (Nat.pow_le_pow_right (by omega) ?_)
  rw [List.length_take]; omega
/-- The bytes of the first j numbers. -/
def headB (R : List Nat) (j : Nat) : List Nat := ((List.zipWith beB widths R).take j).flatten
theorem headB_zero (R : List Nat) : headB R 0 = [] := rfl
theorem headB_succ {R : List Nat} (h : R.length = 50) (j : Nat) (hj : j < 50) : headB R (j + 1) = headB R j ++ beB (widths.getD j 0) (R.getD j 0) := by
  have hl : j < (List.zipWith beB widths R).length := by rw [List.length_zipWith, widths_length, h]; omega
  have hw : widths[j]? = some (widths.getD j 0) := by rw [List.getD_eq_getElem?_getD, List.getElem?_eq_getElem (by rw [widths_length]; exact hj)]; rfl
  have hr : R[j]? = some (R.getD j 0) := by rw [List.getD_eq_getElem?_getD, List.getElem?_eq_getElem (by omega)]; rfl
  unfold headB
  rw [List.take_add_one, List.flatten_append]
  congr 1
  rw [List.getElem?_zipWith, hw, hr]
  simp
theorem beB_one {x : Nat} (h : x < 256) : beB 1 x = [x] := by
  rw [beB_front]
  simp [beB]
  omega
theorem zip_ones : ∀ (R : List Nat), (∀ x ∈ R, x < 256) → (List.zipWith beB (List.replicate R.length 1) R).flatten = R
  | [], _ => rfl
  | r :: R, h => by
    rw [List.length_cons, List.replicate_succ, List.zipWith_cons_cons, List.flatten_cons, beB_one (h r (by simp)), zip_ones R (fun x hx => h x (by simp [hx]))]
    rfl
theorem drop18_lt {R : List Nat} (h : RecOK R) : ∀ x ∈ R.drop 18, x < 256 := by
  intro x hx
  obtain ⟨i, hi⟩ := List.getElem?_of_mem hx
  rw [List.getElem?_drop] at hi
  have hil : 18 + i < R.length := by
    rcases Nat.lt_or_ge (18 + i) R.length with h | h
    · exact h
    · rw [List.getElem?_eq_none h] at hi; cases hi
  have h1 := h.2 (18 + i) (by rw [← h.1]; exact hil)
  rw [List.getD_eq_getElem?_getD, hi, Option.getD_some] at h1
  have h2 : widths.getD (18 + i) 0 = 1 := by
    have h50 := h.1
    rw [List.getD_eq_getElem?_getD, show widths = [4, 4, 8, 4, 8, 4, 8, 4, 8, 4, 8, 4, 8, 4, 8, 4, 8, 4] ++ List.replicate 32 1 from rfl, List.getElem?_append_right (by simp)]
    simp only [List.length_cons, List.length_nil]
    rw [List.getElem?_replicate, if_pos (by omega)]
    rfl
  rw [h2] at h1
  simpa using h1
theorem recB_eq {R : List Nat} (h : RecOK R) : recB R = headB R 18 ++ R.drop 18 := by
  have hw : widths = widths.take 18 ++ List.replicate (R.drop 18).length 1 := by rw [List.length_drop, h.1]; rfl
  have hz := zip_ones (R.drop 18) (drop18_lt h)
  have e : List.zipWith beB widths R = (List.zipWith beB widths R).take 18 ++ List.zipWith beB (List.replicate (R.drop 18).length 1) (R.drop 18) := by
    conv => lhs; rw [← List.take_append_drop 18 (List.zipWith beB widths R)]
    rw [List.drop_zipWith]
    congr 2
    rw [List.length_drop, h.1]
    rfl
  unfold recB headB
  rw [e, List.flatten_append, hz]
  congr 2
  rw [List.take_append_of_le_length (by rw [List.length_take, List.length_zipWith, widths_length, h.1]; omega), List.take_take, Nat.min_self]
theorem recB_lt (R : List Nat) : ∀ x ∈ recB R, x < 256 := by
  intro x hx
  unfold recB at hx
  obtain ⟨p, hp, hx⟩ := List.mem_flatten.1 hx
  obtain ⟨i, hi⟩ := List.getElem?_of_mem hp
  rw [List.getElem?_zipWith] at hi
  cases h1 : widths[i]? <;> cases h2 : R[i]? <;> rw [h1, h2] at hi <;> simp at hi
  subst hi
  exact beB_lt _ _ x hx
/-- What a record's bytes are; what bytes are read as. -/
def bnkE (R : List Nat) : Int := if R.getD 0 0 = 0 then 2 else 0
def bnkB (R : List Nat) : List Nat := if R.getD 0 0 = 0 then [] else putB (recB R)
def bnkG (bs : List Nat) : Bool := decide (bs.length = 140) && (rightB bs && decide ((recP bs).getD 0 0 ≠ 0))
def bnkR (bs : List Nat) : List Nat := if bnkG bs then recP bs else zeroR
def bnkF (bs : List Nat) : Int := if bnkG bs then 0 else 300
theorem zeroR_ok : RecOK zeroR := by
  refine ⟨rfl, fun j hj => ?_⟩
  have : zeroR.getD j 0 = 0 := by
    unfold zeroR
    rw [List.getD_eq_getElem?_getD, List.getElem?_replicate]
    split <;> rfl
  rw [this]
  exact Nat.pow_pos (by omega)
theorem bnkR_ok {bs : List Nat} (hb : ∀ x ∈ bs, x < 256) : RecOK (bnkR bs) := by
  unfold bnkR
  split
  · exact recP_ok hb
  · exact zeroR_ok
theorem bnk_back {R : List Nat} (h : RecOK R) (h0 : R.getD 0 0 ≠ 0) : (putB (recB R)).length = 140 ∧ bnkG (putB (recB R)) = true ∧ bnkR (putB (recB R)) = R := by
  have hl : (putB (recB R)).length = 140 := by rw [putB_length, recB_length h.1]
  have hp : recP (putB (recB R)) = R := by unfold putB; exact recP_recB h _
  have hg : bnkG (putB (recB R)) = true := by
    unfold bnkG
    rw [hl, rightB_put, hp]
    simp only [decide_true, Bool.true_and, decide_eq_true_eq]
    exact h0
  refine ⟨hl, hg, ?_⟩
  unfold bnkR
  rw [if_pos hg, hp]
theorem bnk_forth {bs : List Nat} (hb : ∀ x ∈ bs, x < 256) (hg : bnkG bs = true) : bnkB (bnkR bs) = bs ∧ bnkE (bnkR bs) = 0 := by
  have hr : bnkR bs = recP bs := by unfold bnkR; rw [if_pos hg]
  unfold bnkG at hg
  simp only [Bool.and_eq_true, decide_eq_true_eq] at hg
  obtain ⟨hl, hrt, h0⟩ := hg
  rw [hr]
  refine ⟨?_, by unfold bnkE; rw [if_neg h0]⟩
  unfold bnkB
  rw [if_neg h0, recB_recP (by omega) hb]
  rw [rightB_long (m := 136) (by omega)] at hrt
  unfold sameB at hrt
  exact of_decide_eq_true hrt
end Go.Proofs.Ytjkgodhoonkinaa
