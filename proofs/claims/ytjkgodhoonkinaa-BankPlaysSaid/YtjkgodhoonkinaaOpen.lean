/-
  Slices that came in, opened as lists.
-/
import Derived.Test.YtjkgodhoonkinaaMem
import Derived.Test.YtjkgodhoonkinaaFlat
namespace Go.Proofs.Ytjkgodhoonkinaa
open Go.RowKit

theorem addr_of_cell {w : World} {a : Addr} {v : Value} (h : w.cell? a = some v) : a.spot = none ∧ a.block < w.heap.size := by
  unfold World.cell? at h
  split at h
  · rename_i c _ _ hb
    refine ⟨?_, heap_lt hb⟩
    cases e : a.spot with
    | none => rfl
    | some x => simp [e] at h
  · cases h

section
variable {H : Type} {enc : TypeId × Value → H} {P : Program} {W : World}

theorem bts_of {t e : TypeId} {a : Option Addr} {len cap : Nat} {d : DataW H} {p : List MemPlace} (ht : P.underlying t = some (.slice e)) (he : P.underlying e = some (.int .u8)) (hc : P.cellsOf e = 1)
    (h : DataW.Trod enc P W 0 (fun _ => true) true t (.slice a len cap) d p) : ∃ bs, Bts W (.slice a len cap) bs := by
  obtain ⟨fuel, hf⟩ := h
  rcases ChangeShapes.open_ints ht he hc hf with ⟨hx, _⟩ | ⟨ad, len', cap', zs, hx, _, hl, hm, hz, _, hcell, hwz⟩
  · simp only [Value.cells, List.cons.injEq, and_true] at hx
    exact ⟨[], by simp, .inl ⟨hx, rfl⟩⟩
  · simp only [Value.cells, List.cons.injEq, and_true] at hx
    simp only [if_true] at hz
    by_cases h0 : len' = 0
    · subst h0
      exact ⟨[], by simp, .inr (.inl ⟨ad, cap', hx, rfl⟩)⟩
    · obtain ⟨b, off, sp⟩ := ad
      have h1 := hcell 0 (by omega)
      have h2 := addr_of_cell h1
      simp only [Addr.add, if_true] at h2
      obtain ⟨rfl, hb⟩ := h2
      refine ⟨(zs.take len').map Int.toNat, fun x hx => ?_, .inr (.inr ⟨b, off, cap', ?_, ?_, by simpa [maxLen] using hm, hb, fun i hi => ?_⟩)⟩
      · obtain ⟨z, hz1, rfl⟩ := List.mem_map.1 hx
        have := bounds_u8 (hwz z (List.mem_of_mem_take hz1))
        omega
      · rw [hx, List.length_map, List.length_take, Nat.min_eq_left (by omega)]
      · rw [List.length_map, List.length_take]; omega
      · rw [List.length_map, List.length_take] at hi
        have h3 := hcell i (by omega)
        rw [Addr.add_lit] at h3
        rw [h3]
        have hlt : i < zs.length := by omega
        have h4 := bounds_u8 (hwz (zs.getD i 0) (by rw [List.getD_eq_getElem?_getD, List.getElem?_eq_getElem hlt]; exact List.getElem_mem hlt))
        have h5 : ((zs.take len').map Int.toNat).getD i 0 = (zs.getD i 0).toNat := by
          rw [List.getD_eq_getElem?_getD, List.getD_eq_getElem?_getD, List.getElem?_map, List.getElem?_take_of_lt (by omega), List.getElem?_eq_getElem hlt]; rfl
        rw [h5, Int.toNat_of_nonneg h4.1]
end
end Go.Proofs.Ytjkgodhoonkinaa
