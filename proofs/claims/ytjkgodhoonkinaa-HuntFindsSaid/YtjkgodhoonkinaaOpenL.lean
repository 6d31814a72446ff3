/-
  A slice of slices of bytes that came in, opened as a list of lists.
-/
import Derived.Test.YtjkgodhoonkinaaOpen
namespace Go.Proofs.Ytjkgodhoonkinaa
open Go.RowKit Go.ChangeShapes

theorem list_of {α : Type} (z : α) (p : Nat → α → Prop) : ∀ (n : Nat), (∀ i, i < n → ∃ x, p i x) → ∃ l : List α, l.length = n ∧ ∀ i, i < n → p i (l.getD i z)
  | 0, _ => ⟨[], rfl, fun i hi => by omega⟩
  | n + 1, h => by
    obtain ⟨l, h1, h2⟩ := list_of z p n (fun i hi => h i (by omega))
    obtain ⟨x, hx⟩ := h n (by omega)
    refine ⟨l ++ [x], by simp [h1], fun i hi => ?_⟩
    rcases Nat.lt_or_ge i n with hj | hj
    · rw [List.getD_eq_getElem?_getD, List.getElem?_append_left (by omega), ← List.getD_eq_getElem?_getD]; exact h2 i hj
    · obtain rfl : i = n := by omega
      rw [List.getD_eq_getElem?_getD, List.getElem?_append_right (by omega), h1, Nat.sub_self]; exact hx

section
variable {H : Type} {enc : TypeId × Value → H} {P : Program} {W : World}
theorem btsL_of {t e e2 : TypeId} {a : Option Addr} {len cap : Nat} {d : DataW H} {p : List MemPlace} (ht : P.underlying t = some (.slice e)) (he : P.underlying e = some (.slice e2)) (he2 : P.underlying e2 = some (.int .u8)) (hc : P.cellsOf e = 1) (hc2 : P.cellsOf e2 = 1)
    (h : DataW.Trod enc P W 0 (fun _ => true) true t (.slice a len cap) d p) : ∃ ls, BtsL W (.slice a len cap) ls := by
  obtain ⟨fuel, hf⟩ := h
  rcases DataW.trod_slice ht hf with ⟨hx, _⟩ | ⟨ad, len', cap', elems, rest, n, _, hx, _, _, hl, hm, hlen, hel, _⟩
  · simp only [Value.cells, List.cons.injEq, and_true] at hx
    exact ⟨[], .inl ⟨hx, rfl⟩⟩
  · simp only [Value.cells, List.cons.injEq, and_true, Value.slice.injEq] at hx
    obtain ⟨rfl, rfl, rfl⟩ := hx
    by_cases h0 : len = 0
    · subst h0; exact ⟨[], .inr (.inl ⟨ad, cap, rfl, rfl⟩)⟩
    · have each : ∀ i, i < len → ∃ bs, ∃ u, W.cell? (ad.add i) = some u ∧ Bts W u bs := fun i hi => by
        have h1 := hel i hi
        rw [List.getElem?_eq_getElem (by omega), Option.bind_eq_some_iff] at h1
        obtain ⟨cs, h2, h3⟩ := h1
        rw [hc, Nat.mul_one] at h2
        obtain ⟨_, h5, h6⟩ := World.cells?_some h2
        obtain ⟨c, rfl⟩ := List.length_eq_one_iff.1 h5
        have h7 := cell_of_cells?_one h2
        have hs : ∃ a' l' c', c = .slice a' l' c' := by
          rcases DataW.trod_slice he h3 with ⟨hx, _⟩ | ⟨_, _, _, _, _, _, _, hx, _⟩
          · simp only [List.cons.injEq, and_true] at hx; exact ⟨_, _, _, hx⟩
          · simp only [List.cons.injEq, and_true] at hx; exact ⟨_, _, _, hx⟩
        obtain ⟨a', l', c', rfl⟩ := hs
        obtain ⟨bs, hbs⟩ := bts_of (enc := enc) (W := W) (a := a') (len := l') (cap := c') he he2 hc2 ⟨n, h3⟩
        exact ⟨bs, _, h7, hbs⟩
      obtain ⟨_, u, hu, _⟩ := each 0 (by omega)
      have h5 := addr_of_cell hu
      obtain ⟨b, off, sp⟩ := ad
      simp only [Addr.add, if_true] at h5
      obtain ⟨rfl, hb⟩ := h5
      obtain ⟨ls, h8, h9⟩ := list_of ([] : List Nat) (fun i bs => ∃ u, W.cell? ((⟨b, off, none⟩ : Addr).add i) = some u ∧ Bts W u bs) len each
      refine ⟨ls, .inr (.inr ⟨b, off, cap, by rw [h8], by omega, by simpa [maxLen] using hm, hb, fun i hi => ?_⟩)⟩
      obtain ⟨u, k1, k2⟩ := h9 i (by omega)
      rw [Addr.add_lit] at k1
      exact ⟨u, k1, k2⟩
end
end Go.Proofs.Ytjkgodhoonkinaa
