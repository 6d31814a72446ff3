/-
  Small lemmas of my own that the walks of this seat share: endings, and worlds that only grow ('up w x': some world in which all of w's blocks are as they were).
-/
import Derived.WalkKit
import Derived.WalkSpells
import Derived.WalkLawsBesides
import Derived.BigGuardPart
import Derived.Handy
import Derived.Deep.QuietTactic
import Derived.BigQuiet
import Derived.Deep.RegionHeld3
import Derived.Lib.Hide
import Derived.StillTailTactics
namespace Go.Proofs.Ytihalkpcddnikaa
open Go.RowKit

theorem ret_int {k : IntKind} {a b : Int} (h : a = b) : Ending.returned (.int k a) = .returned (.int k b) := by rw [h]
theorem ret_bool {a b : Bool} (h : a = b) : Ending.returned (.bool a) = .returned (.bool b) := by rw [h]
theorem ret_ii {k k' : IntKind} {a b a' b' : Int} (h : a = b) (h' : a' = b') : Ending.returned (.tuple #[.int k a, .int k' a']) = .returned (.tuple #[.int k b, .int k' b']) := by rw [h, h']
theorem ret_ib {k : IntKind} {a b : Int} {x y : Bool} (h : a = b) (h' : x = y) : Ending.returned (.tuple #[.int k a, .bool x]) = .returned (.tuple #[.int k b, .bool y]) := by rw [h, h']
theorem ret_bi {k' : IntKind} {a b : Bool} {a' b' : Int} (h : a = b) (h' : a' = b') : Ending.returned (.tuple #[.bool a, .int k' a']) = .returned (.tuple #[.bool b, .int k' b']) := by rw [h, h']

/-! ### Block numbers: found by instances, however deep the world is -/
/-- n blocks lie in w. -/
class AtSize (n : Nat) (w : World) : Prop where
  at_ : w.heap.size = n
/-- Block b lies in w. -/
class LtSize (b : Nat) (w : World) : Prop where
  lt : b < w.heap.size
instance (priority := low) atSize_self (w : World) : AtSize w.heap.size w := ⟨rfl⟩
instance atSize_alloc (n : Nat) (w : World) (o : Obj) [h : AtSize n w] : AtSize (n + 1) (w.alloc o) := ⟨by rw [World.size_alloc, h.at_]⟩
instance atSize_setCell (n : Nat) (w : World) (a : Addr) (v : Value) [h : AtSize n w] : AtSize n (w.setCell a v) := ⟨by rw [World.size_setCell, h.at_]⟩
instance atSize_drew (n : Nat) (w : World) [h : AtSize n w] : AtSize n w.drew := ⟨h.at_⟩
instance atSize_drewN (n k : Nat) (w : World) [h : AtSize n w] : AtSize n (w.drewN k) := ⟨h.at_⟩
instance ltSize_new (n : Nat) (w : World) (o : Obj) [h : AtSize n w] : LtSize n (w.alloc o) := ⟨by rw [World.size_alloc, h.at_]; omega⟩
instance ltSize_alloc (b : Nat) (w : World) (o : Obj) [h : LtSize b w] : LtSize b (w.alloc o) := ⟨by rw [World.size_alloc]; have := h.lt; omega⟩
instance ltSize_setCell (b : Nat) (w : World) (a : Addr) (v : Value) [h : LtSize b w] : LtSize b (w.setCell a v) := ⟨by rw [World.size_setCell]; exact h.lt⟩
instance ltSize_drew (b : Nat) (w : World) [h : LtSize b w] : LtSize b w.drew := ⟨h.lt⟩
instance ltSize_drewN (b k : Nat) (w : World) [h : LtSize b w] : LtSize b (w.drewN k) := ⟨h.lt⟩

@[simp, go_sem] theorem alloc_cell_lt (w : World) (ob : Obj) (b o : Nat) [h : LtSize b w] : (w.alloc ob).cell? ⟨b, o, none⟩ = w.cell? ⟨b, o, none⟩ := World.cell?_of_block (a := ⟨b, o, none⟩) (Below.heap_alloc w ob b h.lt)
@[simp, go_sem] theorem alloc_frozen_lt (w : World) (ob : Obj) (b o : Nat) [h : LtSize b w] : (w.alloc ob).frozen? ⟨b, o, none⟩ = w.frozen? ⟨b, o, none⟩ := World.frozen?_of_block (a := ⟨b, o, none⟩) (Below.heap_alloc w ob b h.lt)

open Classical in
/-- x, if all of w's blocks are in x as they were, else w. -/
noncomputable def up (w x : World) : World := if Below w.heap.size w x then x else w
theorem up_of {w x : World} (h : Below w.heap.size w x) : up w x = x := by unfold up; rw [if_pos h]
theorem up_below (w x : World) : Below w.heap.size w (up w x) := by
  unfold up; split
  · assumption
  · exact Below.refl _ _
theorem ex_up {w x : World} (h : Below w.heap.size w x) : ∃ y, x = up w y := ⟨x, (up_of h).symm⟩
theorem up_size (w x : World) : w.heap.size ≤ (up w x).heap.size := (up_below w x).size
instance ltSize_up (b : Nat) (w x : World) [h : LtSize b w] : LtSize b (up w x) := ⟨Nat.lt_of_lt_of_le h.lt (up_size w x)⟩
@[simp, go_sem] theorem up_cell (w x : World) (b o : Nat) [h : LtSize b w] : (up w x).cell? ⟨b, o, none⟩ = w.cell? ⟨b, o, none⟩ := (up_below w x).cell (p := ⟨b, o, none⟩) h.lt
@[simp, go_sem] theorem up_frozen (w x : World) (b o : Nat) [h : LtSize b w] : (up w x).frozen? ⟨b, o, none⟩ = w.frozen? ⟨b, o, none⟩ := (up_below w x).frozen (p := ⟨b, o, none⟩) h.lt
@[simp, go_sem] theorem up_heap (w x : World) (b : Nat) [h : LtSize b w] : (up w x).heap[b]? = w.heap[b]? := (up_below w x).block b h.lt
theorem up_up (w x y : World) : ∃ z, up (up w x) y = up w z := ex_up ((up_below w x).trans ((up_below _ y).mono (up_size w x)))
theorem Below.up {B : Nat} {a w x : World} (h : Below B a w) (hB : B ≤ w.heap.size) : Below B a (up w x) := h.trans ((up_below w x).mono hB)
/-- A number of blocks that a world has at least: for the closing of 'Below'. -/
theorem le_up {B : Nat} {w x : World} (h : B ≤ w.heap.size) : B ≤ (up w x).heap.size := Nat.le_trans h (up_size w x)
theorem le_alloc {B : Nat} {w : World} {o : Obj} (h : B ≤ w.heap.size) : B ≤ (w.alloc o).heap.size := by rw [World.size_alloc]; omega
theorem le_setCell {B : Nat} {w : World} {a : Addr} {v : Value} (h : B ≤ w.heap.size) : B ≤ (w.setCell a v).heap.size := by rw [World.size_setCell]; exact h
theorem le_drew {B : Nat} {w : World} (h : B ≤ w.heap.size) : B ≤ w.drew.heap.size := h
theorem le_drewN {B k : Nat} {w : World} (h : B ≤ w.heap.size) : B ≤ (w.drewN k).heap.size := h
theorem Below.drewN {B : Nat} {a w : World} (h : Below B a w) (k : Nat) : Below B a (w.drewN k) := ⟨h.os, h.tape, h.output, h.size, h.block⟩

/-- The call answers v, and nothing that was there has changed. -/
def Gives (w : World) (v : Value) (e : Ending) (w' : World) : Prop := e = .returned v ∧ ∃ x, w' = up w x
theorem Gives.mk {w : World} {v v' : Value} {w' : World} (h : Ending.returned v' = .returned v) (hb : Below w.heap.size w w') : Gives w v (.returned v') w' := ⟨h, ex_up hb⟩
/-- The call answers v, and the world is as it was. -/
def Tells (w : World) (v : Value) (e : Ending) (w' : World) : Prop := e = .returned v ∧ w = w'
theorem Tells.mk {w : World} {v v' : Value} (h : Ending.returned v' = .returned v) : Tells w v (.returned v') w := ⟨h, rfl⟩
theorem Tells.gives {w : World} {v : Value} (e : Ending) (w' : World) (h : Tells w v e w') : Gives w v e w' := ⟨h.1, h.2 ▸ ex_up (Below.refl _ _)⟩

/-- A call by such a contract, in straight code: the worlds do not pile up. -/
theorem Calls.fold {P : Program} {f : FuncId} {args : Array Value} {w x : World} {v : Value} {K : Ending → World → Prop} (h : Calls P f args (up w x) (Gives (up w x) v))
    (k : ∀ y, K (.returned v) (up w y)) : Calls P f args (up w x) K :=
  h.mono fun _ _ ⟨he, y, hy⟩ => by obtain ⟨z, hz⟩ := up_up w x y; rw [he, hy, hz]; exact k z
theorem Calls.fresh {P : Program} {f : FuncId} {args : Array Value} {w : World} {v : Value} {K : Ending → World → Prop} (h : Calls P f args w (Gives w v))
    (k : ∀ y, K (.returned v) (up w y)) : Calls P f args w K :=
  h.mono fun _ _ ⟨he, y, hy⟩ => by rw [he, hy]; exact k y

/-- A region that draws its order, whose operations only read and whose callees only make memory: one walk in the text's order. -/
theorem wp_region_up {P : Program} {id : Nat} {Q : Exit → Act → World → Prop} {a : Act} {w : World} {l : List Oper} (hm : P.follows .mixedOrders = true) (hB : Region.lexB .any l.toArray = true)
    (h : wpQuiet P l.toArray (fun w' => ∃ x, w' = up w x) (fun a' => ∀ w', (∃ x, w' = up w x) → Q .normal a' w') l a) : (Code.region id l.toArray true).wp P Q a w :=
  wp_region_quiet (C := fun w' => ∃ x, w' = up w x) hm hB (ex_up ((Below.refl _ w).drew)) (by simpa using h)
theorem Calls.up_gives {P : Program} {f : FuncId} {args : Array Value} {w x : World} {v : Value} (h : Calls P f args (up w x) (Gives (up w x) v)) :
    Calls P f args (up w x) fun e w'' => e = .returned v ∧ ∃ y, w'' = up w y :=
  h.mono fun _ _ ⟨he, y, hy⟩ => ⟨he, by rw [hy]; exact up_up w x y⟩
theorem Calls.up_tells {P : Program} {f : FuncId} {args : Array Value} {w x : World} {v : Value} (h : Calls P f args (up w x) (Tells (up w x) v)) :
    Calls P f args (up w x) fun e w'' => e = .returned v ∧ ∃ y, w'' = up w y :=
  h.mono fun _ _ ⟨he, hy⟩ => ⟨he, x, hy.symm⟩

/-- A drawn region whose first n operations only read, and whose last ones stand in one order: its head in the text's order, then its tail. -/
theorem wp_region_tail {P : Program} {id : Nat} {Q : Exit → Act → World → Prop} {a : Act} {w : World} {l : List Oper} (n : Nat) (hm : P.follows .mixedOrders = true) (hB : Region.lexTailB .any l.toArray n = true)
    (h : wpStill P l.toArray w.drew (fun a' => wpList P l.toArray Q (l.drop n) a' w.drew) (l.take n) a) : (Code.region id l.toArray true).wp P Q a w := wp_region_still_tail n hm hB h
instance ltSize_drewS (b : Nat) (w : World) [h : LtSize b w] : LtSize b { w with drawn := w.drawn + 1 } := ⟨h.lt⟩

end Go.Proofs.Ytihalkpcddnikaa
