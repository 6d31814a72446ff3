/-
  A frame that came in by value.
-/
import Derived.Test.YtjkgodhoonkinaaOpen
import Derived.Test.YtjkgodhoonkinaaFrmV
namespace Go.Proofs.Ytjkgodhoonkinaa
open Go.RowKit
set_option linter.unusedVariables false

theorem bytes_cells : ∀ (n : Nat) (l : List Value), IntCells (List.replicate n (some .u8)) l → ∃ bs : List Nat, l = byteVs bs ∧ bs.length = n ∧ ∀ x ∈ bs, x < 256
  | 0, l, h => ⟨[], by rw [IntCells.nil h]; rfl, rfl, (fun _ h => by cases h)⟩
  | n + 1, l, h => by
    obtain ⟨z, l', rfl, hw, hr⟩ := IntCells.cons h
    obtain ⟨bs, rfl, hl, hb⟩ := bytes_cells n l' hr
    have hz := bounds_u8 hw
    refine ⟨z.toNat :: bs, ?_, by simp [hl], fun x hx => ?_⟩
    · simp only [byteVs, List.map_cons]; rw [Int.toNat_of_nonneg hz.1]
    · rcases List.mem_cons.1 hx with rfl | hx
      · omega
      · exact hb x hx
section
variable {H : Type} {enc : TypeId × Value → H} {P : Program} {W : World}
theorem bts_cells {t e : TypeId} {cs : List Value} {fuel : Nat} {x : DataW H × List MemPlace} (ht : P.underlying t = some (.slice e)) (he : P.underlying e = some (.int .u8)) (hc : P.cellsOf e = 1)
    (hf : DataW.trod enc P W 0 (fun _ => true) true fuel t cs = some x) : ∃ v bs, cs = [v] ∧ Bts W v bs := by
  have hx : ∃ v, cs = [v] ∧ ∃ a n c, v = .slice a n c := by
    rcases ChangeShapes.open_ints ht he hc hf with ⟨hx, _⟩ | ⟨ad, len', cap', zs, hx, _⟩
    · exact ⟨_, hx, _, _, _, rfl⟩
    · exact ⟨_, hx, _, _, _, rfl⟩
  obtain ⟨v, rfl, a, n, c, rfl⟩ := hx
  obtain ⟨bs, hb⟩ := bts_of (P := P) (W := W) (enc := enc) (a := a) (len := n) (cap := c) (d := x.1) (p := x.2) ht he hc ⟨fuel, hf⟩
  exact ⟨_, bs, rfl, hb⟩
end
theorem frame_of {H : Type} {enc : TypeId × Value → H} {W : World} {v : Value} {d : DataW H} {p : List MemPlace} (hk : ∃ cs, v = .agg cs) (h : DataW.Trod enc Try.prog W 0 (fun _ => true) true 28 v d p) : ∃ f, FrA W f v := by
  obtain ⟨C, rfl⟩ := hk
  obtain ⟨fuel, hf⟩ := h
  simp only [Value.cells] at hf
  obtain ⟨xs, m, _, _, hlen, hxs, hfs⟩ := DataW.trod_struct Try.underlying28 hf
  have h0 : DataW.trod enc Try.prog W 0 (fun _ => true) true m 3 ((C.toList.drop 0).take (Try.prog.cellsOf 3)) = xs[0]? := hfs 0 _ rfl
  have h1 : DataW.trod enc Try.prog W 0 (fun _ => true) true m 3 ((C.toList.drop 1).take (Try.prog.cellsOf 3)) = xs[1]? := hfs 1 _ rfl
  have h2 : DataW.trod enc Try.prog W 0 (fun _ => true) true m 23 ((C.toList.drop 2).take (Try.prog.cellsOf 23)) = xs[2]? := hfs 2 _ rfl
  have h3 : DataW.trod enc Try.prog W 0 (fun _ => true) true m 24 ((C.toList.drop 3).take (Try.prog.cellsOf 24)) = xs[3]? := hfs 3 _ rfl
  have h4 : DataW.trod enc Try.prog W 0 (fun _ => true) true m 22 ((C.toList.drop 4).take (Try.prog.cellsOf 22)) = xs[4]? := hfs 4 _ rfl
  have h5 : DataW.trod enc Try.prog W 0 (fun _ => true) true m 26 ((C.toList.drop 5).take (Try.prog.cellsOf 26)) = xs[5]? := hfs 5 _ rfl
  have hx : xs.length = 6 := hxs
  rw [List.getElem?_eq_getElem (by omega)] at h0 h1 h2 h3 h4 h5
  have hl21 : C.toList.length = 21 := hlen.trans (show Try.prog.cellsOf 28 = 21 by kernel_rfl)
  have hc3 : Try.prog.cellsOf 3 = 1 := by kernel_rfl
  have hc32 : Try.prog.cellsOf 23 = 1 := by kernel_rfl
  have hc64 : Try.prog.cellsOf 24 = 1 := by kernel_rfl
  have hcs : Try.prog.cellsOf 22 = 1 := by kernel_rfl
  have hct : Try.prog.cellsOf 26 = 16 := by kernel_rfl
  rw [hc3] at h0 h1
  rw [hc32] at h2
  rw [hc64] at h3
  rw [hcs] at h4
  rw [hct] at h5
  obtain ⟨n0, e0, _, w0⟩ := DataW.trod_int Try.underlying3 h0
  obtain ⟨n1, e1, _, w1⟩ := DataW.trod_int Try.underlying3 h1
  obtain ⟨n2, e2, _, w2⟩ := DataW.trod_int Try.underlying23 h2
  obtain ⟨n3, e3, _, w3⟩ := DataW.trod_int Try.underlying24 h3
  obtain ⟨bv, bs, e4, hb⟩ := bts_cells Try.underlying22 Try.underlying5 (by kernel_rfl) h4
  have i5 := flat_cells 3 26 (List.replicate 16 (some .u8)) (by kernel_rfl) _ _ _ h5
  obtain ⟨tag, e5, ht, htl⟩ := bytes_cells 16 _ i5
  have b2 := bounds_u32 w2
  have b3 := bounds_u64 w3
  refine ⟨⟨n0, n1, n2.toNat, n3.toNat, bs, tag⟩, bv, ?_, hb, by show n2.toNat < _; omega, by show n3.toNat < _; omega, ht, htl⟩
  have hC : C = C.toList.toArray := by simp
  rw [hC]
  refine congrArg (fun l : List Value => Value.agg l.toArray) ?_
  generalize C.toList = L at *
  have hr : (L.drop 5).length = 16 := by rw [List.length_drop, hl21]
  rw [List.take_of_length_le (by rw [hr]; exact Nat.le_refl _)] at e5
  clear hlen hf hfs h0 h1 h2 h3 h4 h5 i5
  rcases L with _ | ⟨c0, _ | ⟨c1, _ | ⟨c2, _ | ⟨c3, _ | ⟨c4, r⟩⟩⟩⟩⟩
  · simp at e0
  · simp at e1
  · simp at e2
  · simp at e3
  · simp at e4
  · simp at e0 e1 e2 e3 e4 e5
    unfold frL
    rw [e0, e1, e2, e3, e4, e5]
    simp [Int.toNat_of_nonneg b2.1, Int.toNat_of_nonneg b3.1]
end Go.Proofs.Ytjkgodhoonkinaa
