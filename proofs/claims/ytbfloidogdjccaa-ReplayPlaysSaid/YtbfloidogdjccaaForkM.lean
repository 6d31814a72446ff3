/-
  Steps at a fork of orders: a call that makes memory, a variable made, a store of two cells.
-/
import Derived.Test.YtbfloidogdjccaaTree
import Derived.Test.YtbfloidogdjccaaRefX
namespace Go.Proofs.Ytbfloidogdjccaa
open Go.RowKit
set_option linter.unusedVariables false

section
variable {P : Program} {ops : Array Oper} {Q : Exit → Act → World → Prop} {S : World → Prop} {md : Region.Mode}
theorem fork_gives {n i : Nat} {listed : Array Bool} {a : Act} {w : World} {o : Oper} (f : FuncId) (args : Array Value) (v : Value) (ho : ops[i]? = some o) (hw : Region.wanted o (yielded ops a.tmps) = true)
    (hr : (execOp a.eval o).run P w = .ok (.enter f args) w) (hC : Calls P f args w (Gives w v)) (h : ∀ w', Below w.heap.size w w' → S w' ∧ wpAnyG P md ops Q S [] n (listed.setIfInBounds i true) (a.put o.dst v) w') : Fork P md ops Q S n listed i a w :=
  fork_step ho hw fun K hK => by
    unfold Oper.wp
    rw [hr]
    exact hC.mono fun e w' hg => by
      obtain ⟨rfl, x, rfl⟩ := hg
      obtain ⟨h1, h2⟩ := h _ (up_below w x)
      exact hK _ _ h1 h2
theorem there_newC (w : World) (C : Array Value) (t : TypeId) : (w.alloc (.cells C t)).there w.heap.size 0 C.size := fun j hj => by
  rw [Nat.zero_add]
  exact ⟨by rw [World.cell?_alloc_new]; simp [hj], World.frozen?_alloc_new _ _ _ _⟩
theorem fork_new {n i : Nat} {listed : Array Bool} {a : Act} {w : World} {o : Oper} (ty : TypeId) (C : Array Value) (ho : ops[i]? = some o) (hw : Region.wanted o (yielded ops a.tmps) = true) (hop : o.op = .alloc ty)
    (hr : ∀ w, (Instr.alloc ty true (.tuple #[])).run P w = .ok (.pointer (some ⟨w.heap.size, 0, none⟩)) (w.alloc (.cells C ty))) (h : ∀ w' r, Below w.heap.size w w' → w.heap.size ≤ r → r < w'.heap.size → w'.there r 0 C.size → S w' ∧ wpAnyG P md ops Q S [] n (listed.setIfInBounds i true) (a.put o.dst (.pointer (some ⟨r, 0, none⟩))) w') : Fork P md ops Q S n listed i a w :=
  fork_step ho hw fun K hK => by
    unfold Oper.wp execOp
    simp only [hop, Sem.run_bind, hr, Result.andThen_ok, Sem.run_pure]
    obtain ⟨h1, h2⟩ := h (w.alloc (.cells C ty)) w.heap.size ((Below.refl _ _).alloc (Nat.le_refl _) _) (Nat.le_refl _) (by simp) (there_newC w C ty)
    exact hK _ _ h1 h2
theorem fork_store {n i : Nat} {listed : Array Bool} {a : Act} {w w' : World} {o : Oper} (ho : ops[i]? = some o) (hw : Region.wanted o (yielded ops a.tmps) = true)
    (hr : (execOp a.eval o).run P w = .ok .skip w') (hS : S w') (h : wpAnyG P md ops Q S [] n (listed.setIfInBounds i true) (a.put o.dst undef) w') : Fork P md ops Q S n listed i a w :=
  fork_step ho hw fun K hK => by unfold Oper.wp; rw [hr]; exact hK _ _ hS h
end
structure Two (w4 W : World) (r : Nat) : Prop where
  le : w4.heap.size ≤ r
  lt : r < W.heap.size
  th : W.there r 0 2
theorem there_belowT {B : Nat} {w w' : World} {g n : Nat} (hb : Below B w w') (hg : g < B) (h : w.there g 0 n) : w'.there g 0 n := fun j hj => by
  obtain ⟨h1, h2⟩ := h j hj
  have hbl := hb.block g hg
  refine ⟨?_, ?_⟩
  · rw [hb.cell (p := ⟨g, 0 + j, none⟩) hg]; exact h1
  · unfold World.frozen? at *
    simp only at h2 ⊢
    rw [hbl]; exact h2
theorem Two.below {w4 W W' : World} {r : Nat} (h : Two w4 W r) (hb : Below W.heap.size W W') : Two w4 W' r := ⟨h.le, Nat.lt_of_lt_of_le h.lt hb.size, there_belowT hb h.lt h.th⟩
theorem below_setC {w4 W : World} {r : Nat} (cs : List Value) (hb : Below w4.heap.size w4 W) (hr : w4.heap.size ≤ r) : Below w4.heap.size w4 (W.setCells r 0 cs) := by
  suffices h : ∀ (cs : List Value) (o : Nat) (W : World), Below w4.heap.size w4 W → Below w4.heap.size w4 (W.setCells r o cs) from h cs 0 W hb
  intro cs
  induction cs with
  | nil => intro o W h; exact h
  | cons c cs ih => intro o W h; exact ih (o + 1) _ (h.setCell (p := ⟨r, o, none⟩) hr _)
theorem size_setC {r : Nat} : ∀ (cs : List Value) (o : Nat) (W : World), (W.setCells r o cs).heap.size = W.heap.size := by
  intro cs
  induction cs with
  | nil => intro o W; rfl
  | cons c cs ih => intro o W; exact (ih (o + 1) _).trans (World.size_setCell _ _ _)
end Go.Proofs.Ytbfloidogdjccaa
