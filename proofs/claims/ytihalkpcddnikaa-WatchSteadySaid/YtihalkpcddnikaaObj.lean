/-
  A block told cell by cell: what it holds, kept while other blocks turn, and behind a store of its own.
-/
import Derived.Test.YtihalkpcddnikaaLib
import Derived.Test.YtihalkpcddnikaaProg
namespace Go.Proofs.Ytihalkpcddnikaa
open Go.RowKit

/-- Block c holds vs 0, .., vs (n - 1), and may be stored into. -/
structure Cells (w : World) (c n : Nat) (vs : Nat → Value) : Prop where
  lt : c < w.heap.size
  at_ : ∀ i : Nat, i < n → w.cell? ⟨c, i, none⟩ = some (vs i)
  free : ∀ i : Nat, w.frozen? ⟨c, i, none⟩ = false
theorem Cells.below {w w' : World} {c n B : Nat} {vs : Nat → Value} (h : Cells w c n vs) (hb : Below B w w') (hc : c < B) : Cells w' c n vs :=
  ⟨Nat.lt_of_lt_of_le h.lt hb.size, fun i hi => by rw [hb.cell (p := ⟨c, _, none⟩) hc]; exact h.at_ i hi, fun i => by rw [hb.frozen (p := ⟨c, _, none⟩) hc]; exact h.free i⟩
theorem Cells.kept {w w' : World} {c n : Nat} {row : Option Nat} {vs : Nat → Value} (h : Cells w c n vs) (hg : w.grownBy w' row) (hne : some c ≠ row) : Cells w' c n vs :=
  ⟨Nat.lt_of_lt_of_le h.lt hg.size, fun i hi => by rw [World.cell?_of_block (a := ⟨c, _, none⟩) (hg.block c h.lt hne)]; exact h.at_ i hi, fun i => by rw [World.frozen?_of_block (a := ⟨c, _, none⟩) (hg.block c h.lt hne)]; exact h.free i⟩
theorem Cells.up {w x : World} {c n : Nat} {vs : Nat → Value} (h : Cells w c n vs) : Cells (up w x) c n vs := h.below (up_below w x) h.lt
theorem Cells.alloc {w : World} {o : Obj} {c n : Nat} {vs : Nat → Value} (h : Cells w c n vs) : Cells (w.alloc o) c n vs := h.below (B := w.heap.size) ((Below.refl _ w).alloc (Nat.le_refl _) o) h.lt
theorem Cells.drew {w : World} {c n : Nat} {vs : Nat → Value} (h : Cells w c n vs) : Cells w.drew c n vs := h.below (Below.drew (Below.refl w.heap.size w)) h.lt
theorem Cells.drewN {w : World} {k c n : Nat} {vs : Nat → Value} (h : Cells w c n vs) : Cells (w.drewN k) c n vs := h.below (Below.drewN (Below.refl w.heap.size w) k) h.lt
theorem Cells.same {w : World} {c n : Nat} {vs vs' : Nat → Value} (h : Cells w c n vs) (e : ∀ i, i < n → vs i = vs' i) : Cells w c n vs' :=
  ⟨h.lt, fun i hi => by rw [← e i hi]; exact h.at_ i hi, h.free⟩
theorem Cells.set {w : World} {c n : Nat} {vs : Nat → Value} (h : Cells w c n vs) (i : Nat) (hi : i < n) (v : Value) : Cells (w.setCell ⟨c, i, none⟩ v) c n (fun k => if k = i then v else vs k) := by
  refine ⟨by simpa using h.lt, fun k hk => ?_, fun k => by rw [World.frozen?_setCell]; exact h.free k⟩
  by_cases hki : k = i
  · subst hki
    rw [World.cell?_setCell_same _ _ _ (h.at_ k hk), if_pos rfl]
  · rw [World.cell?_setCell_other _ _ _ _ (by intro e; injection e; omega), if_neg hki]; exact h.at_ k hk
theorem Cells.setOther {w : World} {c n : Nat} {vs : Nat → Value} (h : Cells w c n vs) {b : Nat} (hb : b ≠ c) (i : Nat) (v : Value) : Cells (w.setCell ⟨b, i, none⟩ v) c n vs :=
  ⟨by simpa using h.lt, fun k hk => by rw [World.cell?_setCell_other _ _ _ _ (by intro e; injection e; omega)]; exact h.at_ k hk, fun k => by rw [World.frozen?_setCell]; exact h.free k⟩
theorem gr_set (w : World) (b i : Nat) (v : Value) : w.grownBy (w.setCell ⟨b, i, none⟩ v) (some b) :=
  ⟨rfl, rfl, rfl, by simp [World.setCell], fun k _ hk => Below.heap_setCell _ _ _ _ (fun e => hk (by simp [e]))⟩
theorem gr_refl (w : World) (row : Option Nat) : w.grownBy w row := ⟨rfl, rfl, rfl, Nat.le_refl _, fun _ _ _ => rfl⟩
theorem gr_below {w x : World} (row : Option Nat) (h : Below w.heap.size w x) : w.grownBy x row := ⟨h.os, h.tape, h.output, h.size, fun k hk _ => h.block k hk⟩
theorem gr_trans {a b c : World} {row : Option Nat} (h : a.grownBy b row) (k : b.grownBy c row) : a.grownBy c row :=
  ⟨k.os.trans h.os, k.tape.trans h.tape, k.output.trans h.output, Nat.le_trans h.size k.size, fun i hi hne => (k.block i (Nat.lt_of_lt_of_le hi h.size) hne).trans (h.block i hi hne)⟩
theorem gr_drew {w w' : World} {row : Option Nat} (h : w.drew.grownBy w' row) : w.grownBy w' row := ⟨h.os, h.tape, h.output, h.size, h.block⟩
theorem kept_cell {w w' : World} {x o r : Nat} {v : Value} (hc : w.cell? ⟨x, o, none⟩ = some v) (hg : w.grownBy w' (some r)) (hne : x ≠ r) : w'.cell? ⟨x, o, none⟩ = some v := by
  have hlt : x < w.heap.size := World.block_lt_of_cell? w ⟨x, o, none⟩ hc
  rw [World.cell?_of_block (a := ⟨x, o, none⟩) (hg.block x hlt (fun e => hne (by simpa using e)))]; exact hc
theorem below_gr {B : Nat} {a w w' : World} {r : Nat} (h : Below B a w) (hg : w.grownBy w' (some r)) (hB : B ≤ w.heap.size) (hr : B ≤ r) : Below B a w' := h.grown hg hB (fun k hk => by cases hk; exact hr)
theorem below_up {B : Nat} {a w : World} (h : Below B a w) (hB : B ≤ w.heap.size) (x : World) : Below B a (Go.Proofs.Ytihalkpcddnikaa.up w x) := h.trans ((up_below w x).mono hB)
end Go.Proofs.Ytihalkpcddnikaa
