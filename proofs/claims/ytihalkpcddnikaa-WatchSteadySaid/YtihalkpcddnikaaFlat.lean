/-
  What a value of a flat type (integers, bools, structs and arrays of these) holds, cell by cell, once it reads as data.
-/
import Derived.ProofKit
import Derived.OpenShut
namespace Go.Proofs.Ytihalkpcddnikaa
open Go.RowKit

/-- The cells hold just this: an integer of its kind, or a bool (none). -/
def IntCells : List (Option IntKind) → List Value → Prop
  | [], [] => True
  | some k :: ks, c :: cs => (∃ n, c = .int k n ∧ (Lit.int k n).wf = true) ∧ IntCells ks cs
  | none :: ks, c :: cs => (∃ b, c = .bool b) ∧ IntCells ks cs
  | _, _ => False
theorem IntCells.nil {l : List Value} (h : IntCells [] l) : l = [] := by cases l <;> simp_all [IntCells]
theorem IntCells.cons {k : IntKind} {ks : List (Option IntKind)} {l : List Value} (h : IntCells (some k :: ks) l) : ∃ n l', l = .int k n :: l' ∧ (Lit.int k n).wf = true ∧ IntCells ks l' := by
  cases l with
  | nil => simp [IntCells] at h
  | cons c cs => obtain ⟨⟨n, rfl, w⟩, r⟩ := h; exact ⟨n, cs, rfl, w, r⟩
theorem IntCells.consB {ks : List (Option IntKind)} {l : List Value} (h : IntCells (none :: ks) l) : ∃ b l', l = .bool b :: l' ∧ IntCells ks l' := by
  cases l with
  | nil => simp [IntCells] at h
  | cons c cs => obtain ⟨⟨n, rfl⟩, r⟩ := h; exact ⟨n, cs, rfl, r⟩
theorem IntCells.append {ks ks' : List (Option IntKind)} {l l' : List Value} (h : IntCells ks l) (h' : IntCells ks' l') : IntCells (ks ++ ks') (l ++ l') := by
  induction ks generalizing l with
  | nil => rw [IntCells.nil h]; exact h'
  | cons k ks ih =>
    cases k with
    | none => obtain ⟨b, l1, rfl, r⟩ := IntCells.consB h; exact ⟨⟨b, rfl⟩, ih r⟩
    | some k => obtain ⟨n, l1, rfl, w, r⟩ := IntCells.cons h; exact ⟨⟨n, rfl, w⟩, ih r⟩
theorem IntCells.length {ks : List (Option IntKind)} {l : List Value} (h : IntCells ks l) : l.length = ks.length := by
  induction ks generalizing l with
  | nil => rw [IntCells.nil h]; rfl
  | cons k ks ih =>
    cases k with
    | none => obtain ⟨b, l1, rfl, r⟩ := IntCells.consB h; simp [ih r]
    | some k => obtain ⟨n, l1, rfl, w, r⟩ := IntCells.cons h; simp [ih r]

def flatF (P : Program) (F : TypeId → Option (List (Option IntKind))) : List Field → Nat → Option (List (Option IntKind))
  | [], _ => some []
  | f :: fs, pos => if f.offset = pos then
      match F f.type with
      | some k => if k.length = P.cellsOf f.type then (match flatF P F fs (pos + k.length) with | some r => some (k ++ r) | none => none) else none
      | none => none
    else none
/-- The cells of a flat type. -/
def flat (P : Program) : Nat → TypeId → Option (List (Option IntKind))
  | 0, _ => none
  | n + 1, t => match P.underlying t with
    | some (.int k) => some [some k]
    | some .bool => some [none]
    | some (.struct fs) => match flatF P (flat P n) fs.toList 0 with
      | some ks => if ks.length = P.cellsOf t then some ks else none
      | none => none
    | some (.array m e) => match flat P n e with
      | some k => if k.length = P.cellsOf e ∧ m * k.length = P.cellsOf t then some (List.replicate m k).flatten else none
      | none => none
    | _ => none

section
variable {H : Type} {enc : TypeId × Value → H} {P : Program} {w : World} {base : Nat} {spare : Nat → Bool} {held : Bool}

theorem flatF_cells {F : TypeId → Option (List (Option IntKind))} {fuel : Nat} {cs : List Value}
    (hF : ∀ t ks, F t = some ks → ∀ cs x, DataW.trod enc P w base spare held fuel t cs = some x → IntCells ks cs) :
    ∀ (fs : List Field) (pos : Nat) (ks : List (Option IntKind)), flatF P F fs pos = some ks →
      (∀ f ∈ fs, ∃ x, DataW.trod enc P w base spare held fuel f.type ((cs.drop f.offset).take (P.cellsOf f.type)) = some x) → IntCells ks ((cs.drop pos).take ks.length)
  | [], pos, ks, h, _ => by simp [flatF] at h; subst h; simp [IntCells]
  | f :: fs, pos, ks, h, hx => by
    unfold flatF at h
    split at h
    · rename_i hp
      split at h
      · rename_i k hk
        split at h
        · rename_i hl
          split at h
          · rename_i r hr
            simp only [Option.some.injEq] at h
            subst h
            obtain ⟨x, hx0⟩ := hx f (by simp)
            have h1 := hF _ _ hk _ _ hx0
            have h2 := flatF_cells hF fs _ r hr (fun g hg => hx g (by simp [hg]))
            rw [List.length_append, List.take_add, List.drop_drop]
            rw [hp, ← hl] at h1
            exact h1.append h2
          · cases h
        · cases h
      · cases h
    · cases h

theorem flatA_cells {k : List (Option IntKind)} {c : Nat} {cs : List Value} (hc : k.length = c) : ∀ (m : Nat), (∀ i, i < m → IntCells k ((cs.drop (i * c)).take c)) → IntCells (List.replicate m k).flatten (cs.take (m * c))
  | 0, _ => by simp [IntCells]
  | m + 1, h => by
    have h1 := flatA_cells hc m (fun i hi => h i (by omega))
    have h2 := h m (by omega)
    rw [List.replicate_succ', List.flatten_append, Nat.succ_mul, List.take_add]
    simpa using h1.append h2

theorem flat_cells : ∀ (n : Nat) (t : TypeId) (ks : List (Option IntKind)), flat P n t = some ks → ∀ (fuel : Nat) (cs : List Value) (x : DataW H × List MemPlace),
    DataW.trod enc P w base spare held fuel t cs = some x → IntCells ks cs
  | 0, _, _, h => by simp [flat] at h
  | n + 1, t, ks, h => by
    intro fuel cs x hx
    unfold flat at h
    split at h
    · rename_i k hu
      simp only [Option.some.injEq] at h; subst h
      obtain ⟨m, rfl, _, hw⟩ := DataW.trod_int hu hx
      exact ⟨⟨m, rfl, hw⟩, trivial⟩
    · rename_i hu
      simp only [Option.some.injEq] at h; subst h
      obtain ⟨b, rfl, _⟩ := DataW.trod_bool hu hx
      exact ⟨⟨b, rfl⟩, trivial⟩
    · rename_i fs hu
      split at h
      · rename_i ks' hk
        split at h
        · rename_i hl
          simp only [Option.some.injEq] at h; subst h
          obtain ⟨xs, m, hm, _, hlen, hxs, hf⟩ := DataW.trod_struct hu hx
          have := flatF_cells (w := w) (enc := enc) (base := base) (spare := spare) (held := held) (fuel := m) (cs := cs) (fun t ks ht cs x hx => flat_cells n t ks ht m cs x hx) fs.toList 0 ks' hk (fun f hfm => by
            obtain ⟨i, hi, rfl⟩ := List.getElem_of_mem hfm
            have hi' : i < fs.size := by simpa using hi
            have := hf i fs[i] (by simp [hi'])
            rw [show fs.toList[i] = fs[i] from by simp]
            rw [this]
            exact ⟨xs[i], by rw [List.getElem?_eq_getElem (by omega)]⟩)
          simpa [hl, ← hlen] using this
        · cases h
      · cases h
    · rename_i m e hu
      split at h
      · rename_i k hk
        split at h
        · rename_i hl
          simp only [Option.some.injEq] at h; subst h
          obtain ⟨hl1, hl2⟩ := hl
          obtain ⟨xs, m', hm', _, hlen, hxs, hf⟩ := DataW.trod_array hu hx
          have := flatA_cells (cs := cs) hl1 m (fun i hi => by
            have := hf i hi
            rw [List.getElem?_eq_getElem (by omega)] at this
            exact flat_cells n e k hk m' _ _ this)
          rw [← hl1, hl2, ← hlen, List.take_length] at this
          exact this
        · cases h
      · cases h
    · cases h
end

/-- A slice of a flat type that came in: nil, or its cells, element by element. -/
def FlatRow (w : World) (ks : List (Option IntKind)) (a : Option Addr) (len cap : Nat) : Prop :=
  (a = none ∧ len = 0 ∧ cap = 0) ∨ ∃ b off : Nat, a = some ⟨b, off, none⟩ ∧ len ≤ cap ∧ cap ≤ 9223372036854775807 ∧ (len ≠ 0 → b < w.heap.size) ∧
    ∀ i, i < len → ∃ cs, IntCells ks cs ∧ ∀ j, j < ks.length → w.cell? ⟨b, off + i * ks.length + j, none⟩ = cs[j]?
end Go.Proofs.Ytihalkpcddnikaa
