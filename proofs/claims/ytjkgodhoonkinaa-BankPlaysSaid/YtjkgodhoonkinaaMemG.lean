/-
  Facts on cells, ranges and variables: what stays as it was.
-/
import Derived.Test.YtjkgodhoonkinaaSlim
import Derived.Test.YtjkgodhoonkinaaGen
import Derived.Test.YtjkgodhoonkinaaMem
namespace Go.Proofs.Ytjkgodhoonkinaa
open Go.RowKit
set_option linter.unusedVariables false
set_option linter.unusedSimpArgs false

theorem cell_below {B : Nat} {w w' : World} {b o : Nat} {v : Value} (hb : Below B w w') (hB : b < B) (h : w.cell? ⟨b, o, none⟩ = some v) : w'.cell? ⟨b, o, none⟩ = some v := by rw [hb.cell (p := ⟨b, o, none⟩) hB]; exact h
theorem Bts.drew {w : World} {v : Value} {bs : List Nat} (h : Bts w v bs) : Bts w.drew v bs := h.below (Below.drew (Below.refl _ _))
theorem wpList_gen {P : Program} {ops : Array Oper} {l : List Oper} {Q : Exit → Act → World → Prop} {a : Act} {w : World} (F : World → Prop) (hF : F w) (h : ∀ w', F w' → wpList P ops Q l a w') : wpList P ops Q l a w := h w hF
theorem there_new (w : World) (C : Array Value) (t : TypeId) (n : Nat) (hn : C.size = n) : (w.alloc (.cells C t)).there w.heap.size 0 n := fun j hj => by
  rw [Nat.zero_add]
  exact ⟨by rw [cell_new]; simp; omega, World.frozen?_alloc_new w C t j⟩
theorem there_below {B : Nat} {w w' : World} {g n : Nat} (hb : Below B w w') (hg : g < B) (h : w.there g 0 n) : w'.there g 0 n := fun j hj => by
  rw [hb.cell (p := ⟨g, 0 + j, none⟩) hg, hb.frozen (p := ⟨g, 0 + j, none⟩) hg]
  exact h j hj
theorem below_setCells (B : Nat) : ∀ (vs : List Value) (w : World) (b o : Nat), B ≤ b → Below B w (w.setCells b o vs)
  | [], w, b, o, _ => Below.refl _ _
  | v :: vs, w, b, o, h => by
    unfold World.setCells
    exact Below.trans (Below.setCell (p := ⟨b, o, none⟩) (Below.refl _ _) h v) (below_setCells B vs _ b _ h)
theorem there_at {g : Nat} (w : World) [hg : AtSize g w] (C : Array Value) (t : TypeId) (n : Nat) (hn : C.size = n) : (w.alloc (.cells C t)).there g 0 n := by
  have := there_new w C t n hn
  rwa [hg.at_] at this
theorem there_set {w : World} {g n b o : Nat} (h : w.there g 0 n) (v : Value) : (w.setCell ⟨b, o, none⟩ v).there g 0 n := World.there_setCells h b o [v]
theorem rangeAt_set {w : World} {b o : Nat} {cs : List Value} (h : w.rangeAt b o cs) (i : Nat) (v : Value) : (w.setCell ⟨b, o + i, none⟩ v).rangeAt b o (cs.set i v) := fun j u hj => by
  by_cases hij : i = j
  · subst hij
    rw [List.getElem?_set] at hj
    simp only [if_true] at hj
    split at hj
    · rename_i hlt
      cases hj
      exact World.cell?_setCell_same _ _ _ (h i cs[i] (List.getElem?_eq_getElem hlt))
    · cases hj
  · rw [List.getElem?_set_ne hij] at hj
    rw [World.cell?_setCell_other _ _ _ _ (by intro e; injection e; omega)]
    exact h j u hj
theorem rangeAt_below {B : Nat} {w w' : World} {b o : Nat} {cs : List Value} (hb : Below B w w') (hg : b < B) (h : w.rangeAt b o cs) : w'.rangeAt b o cs := fun j v hj => cell_below hb hg (h j v hj)
theorem kept_cell' {w w' : World} {x o : Nat} {v : Value} {row : Option Nat} (hc : w.cell? ⟨x, o, none⟩ = some v) (hg : w.grownBy w' row) (hne : row ≠ some x) : w'.cell? ⟨x, o, none⟩ = some v := by
  have hlt : x < w.heap.size := World.block_lt_of_cell? w ⟨x, o, none⟩ hc
  rw [World.cell?_of_block (a := ⟨x, o, none⟩) (hg.block x hlt (fun e => hne e.symm))]; exact hc
theorem size_setCells : ∀ (vs : List Value) (w : World) (b o : Nat), (w.setCells b o vs).heap.size = w.heap.size
  | [], w, b, o => rfl
  | v :: vs, w, b, o => by unfold World.setCells; rw [size_setCells vs, World.size_setCell]
theorem rangeAt_kept {w w' : World} {row : Option Nat} {b o : Nat} {cs : List Value} (h : w.rangeAt b o cs) (hb : b < w.heap.size) (hg : w.grownBy w' row) (hne : some b ≠ row) : w'.rangeAt b o cs := fun j v hj => by
  rw [World.cell?_of_block (a := ⟨b, o + j, none⟩) (hg.block b hb hne)]; exact h j v hj
theorem there_kept {w w' : World} {row : Option Nat} {b n : Nat} (h : w.there b 0 n) (hb : b < w.heap.size) (hg : w.grownBy w' row) (hne : some b ≠ row) : w'.there b 0 n := fun j hj => by
  obtain ⟨h1, h2⟩ := h j hj
  have hbl := hg.block b hb hne
  refine ⟨by rw [World.cell?_of_block (a := ⟨b, 0 + j, none⟩) hbl]; exact h1, ?_⟩
  unfold World.frozen? at *
  simp only at h2 ⊢
  rw [hbl]; exact h2
theorem rangeAt_boxed {w : World} {g : Nat} [hg : AtSize g w] (cs : List Value) (ty : TypeId) : (w.alloc (.cells cs.toArray ty)).rangeAt g 0 cs := fun j v hj => by
  obtain rfl := hg.at_
  rw [Nat.zero_add, World.cell?_alloc_new]
  simpa using hj
/-- A part of a range. -/
theorem rangeAt_sub {w : World} {b o : Nat} {cs : List Value} (h : w.rangeAt b o cs) (i n : Nat) : w.rangeAt b (o + i) ((cs.drop i).take n) := fun j v hj => by
  rw [List.getElem?_take] at hj
  split at hj
  · rw [List.getElem?_drop] at hj
    rw [Nat.add_assoc]; exact h _ _ hj
  · cases hj
end Go.Proofs.Ytjkgodhoonkinaa
