/-
  A slice of a flat type that came in, element by element.
-/
import Derived.Test.YtihalkpcddnikaaFlat
import Derived.Test.YtihalkpcddnikaaLib
import Derived.Test.YtihalkpcddnikaaProg
namespace Go.Proofs.Ytihalkpcddnikaa
open Go.RowKit Go.ChangeShapes

theorem addr_of_cell {w : World} {a : Addr} {v : Value} (h : w.cell? a = some v) : a.spot = none ∧ a.block < w.heap.size := by
  unfold World.cell? at h
  split at h
  · rename_i c _ _ hb
    refine ⟨?_, (Array.getElem?_eq_some_iff.mp hb).1⟩
    cases e : a.spot with
    | none => rfl
    | some x => simp [e] at h
  · cases h

/-- The elements of such a slice: nothing to know where there are none. -/
def Elems (w : World) (ks : List (Option IntKind)) (a : Option Addr) (len : Nat) : Prop :=
  len ≤ 9223372036854775807 ∧ (len = 0 ∨ ∃ b off : Nat, a = some ⟨b, off, none⟩ ∧ b < w.heap.size ∧
    ∀ i, i < len → ∃ cs, IntCells ks cs ∧ ∀ j, j < ks.length → w.cell? ⟨b, off + i * ks.length + j, none⟩ = cs[j]?)
theorem Elems.below {w w' : World} {ks : List (Option IntKind)} {a : Option Addr} {len : Nat} (h : Elems w ks a len) (hb : Below w.heap.size w w') : Elems w' ks a len := by
  refine ⟨h.1, h.2.imp id ?_⟩
  rintro ⟨b, off, ha, hlt, hc⟩
  refine ⟨b, off, ha, Nat.lt_of_lt_of_le hlt hb.size, fun i hi => ?_⟩
  obtain ⟨cs, h1, h2⟩ := hc i hi
  exact ⟨cs, h1, fun j hj => by rw [hb.cell (p := ⟨b, _, none⟩) hlt]; exact h2 j hj⟩

section
variable {H : Type} {enc : TypeId × Value → H} {P : Program} {W : World}
theorem flatRow {t e : TypeId} {ks : List (Option IntKind)} {a : Option Addr} {len cap : Nat} {d : DataW H} {p : List MemPlace} (ht : P.underlying t = some (.slice e)) (hk : flat P 9 e = some ks) (hc : P.cellsOf e = ks.length) (hne : 0 < ks.length)
    (h : DataW.Trod enc P W 0 (fun _ => true) true t (.slice a len cap) d p) : Elems W ks a len := by
  obtain ⟨fuel, hf⟩ := h
  rcases DataW.trod_slice ht hf with ⟨hx, _⟩ | ⟨ad, len', cap', elems, rest, n, _, hx, _, _, hl, hm, hlen, hel, _⟩
  · simp only [Value.cells, List.cons.injEq, and_true, Value.slice.injEq] at hx
    exact ⟨by omega, .inl hx.2.1⟩
  · simp only [Value.cells, List.cons.injEq, and_true, Value.slice.injEq] at hx
    obtain ⟨rfl, rfl, rfl⟩ := hx
    refine ⟨by unfold maxLen at hm; omega, ?_⟩
    by_cases h0 : len = 0
    · exact .inl h0
    · have each : ∀ i, i < len → ∃ cs, IntCells ks cs ∧ ∀ j, j < ks.length → W.cell? ((ad.add (i * ks.length)).add j) = cs[j]? := fun i hi => by
        have h1 := hel i hi
        rw [List.getElem?_eq_getElem (by omega), Option.bind_eq_some_iff] at h1
        obtain ⟨cs, h2, h3⟩ := h1
        have h4 := flat_cells 9 e ks hk _ _ _ h3
        obtain ⟨_, h5, h6⟩ := World.cells?_some h2
        refine ⟨cs, h4, fun j hj => ?_⟩
        rw [← h6 j (by omega), hc]
      obtain ⟨cs, h1, h2⟩ := each 0 (by omega)
      have h3 := h2 0 hne
      have h4 : cs[0]? = some (cs[0]'(by have := h1.length; omega)) := List.getElem?_eq_getElem _
      rw [h4] at h3
      have h5 := addr_of_cell h3
      obtain ⟨b, off, sp⟩ := ad
      simp only [Nat.zero_mul, Addr.add, if_true] at h5
      obtain ⟨rfl, hb⟩ := h5
      refine .inr ⟨b, off, rfl, hb, fun i hi => ?_⟩
      obtain ⟨cs, k1, k2⟩ := each i hi
      refine ⟨cs, k1, fun j hj => ?_⟩
      rw [← k2 j hj, Addr.add_lit, Addr.add_lit]
end
end Go.Proofs.Ytihalkpcddnikaa
