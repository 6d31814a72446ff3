/-
  The walk by a schedule, over operations that bear neither their place nor their edges: for great regions.
-/
import Derived.Test.YtihalkpcddnikaaSched
namespace Go.Proofs.Ytihalkpcddnikaa
open Go.RowKit

/-- An operation without its place and its edges: what it does is the same. -/
def slim (o : Oper) : Oper := { dst := o.dst, op := o.op, type := o.type, pos := "", after := #[], guard := o.guard }
section
variable {P : Program} {ops : Array Oper} {Q : Exit → Act → World → Prop} {S : World → Prop}
theorem yielded_slim (tmps : Array Value) : yielded (ops.map slim) tmps = yielded ops tmps := by
  funext j
  unfold yielded
  rw [Array.getElem?_map]
  cases ops[j]? <;> rfl
theorem wpOp_slim {i : Nat} {K : Act → World → Prop} {a : Act} {w : World} (h : wpOp P (ops.map slim) Q i K a w) : wpOp P ops Q i K a w := by
  unfold wpOp at *
  rw [Array.getElem?_map, yielded_slim] at h
  cases ho : ops[i]? with
  | none => rw [ho] at h; exact h
  | some o => rw [ho] at h; exact h
theorem stills_slim {o : Oper} {v : Value} {a : Act} (h : Stills P (ops.map slim) S (slim o) v a) : Stills P ops S o v a := by
  unfold Stills at *
  rw [yielded_slim] at h
  exact h
theorem yields_slim {o : Oper} {v : Value} {a : Act} (h : Yields P (ops.map slim) (slim o) v a) : Yields P ops o v a := by
  unfold Yields at *
  rw [yielded_slim] at h
  exact h
theorem get_slim {i : Nat} {o' : Oper} (h : (ops.map slim)[i]? = some o') : ∃ o, ops[i]? = some o ∧ o' = slim o := by
  rw [Array.getElem?_map] at h
  cases ho : ops[i]? with
  | none => rw [ho] at h; cases h
  | some o => rw [ho] at h; exact ⟨o, rfl, by simpa using h.symm⟩
theorem wpSched_slim : ∀ (l : List (Nat × Nat)) (a : Act) (w : World), wpSched P (ops.map slim) Q S l a w → wpSched P ops Q S l a w
  | [], _, _, h => h
  | (i, 0) :: l, a, w, h => by
    obtain ⟨o', v, ho, hy, h⟩ := h
    obtain ⟨o, ho2, rfl⟩ := get_slim ho
    exact ⟨o, v, ho2, stills_slim hy, wpSched_slim l _ _ h⟩
  | (i, 1) :: l, a, w, h => by
    unfold wpSched at h ⊢
    exact wpOp_mono (fun a' w' ⟨h1, h2⟩ => ⟨h1, wpSched_slim l a' w' h2⟩) (wpOp_slim h)
  | (i, 2) :: l, a, w, h => by
    unfold wpSched at h ⊢
    exact wpOp_mono (fun a' w' h2 => wpSched_slim l a' w' h2) (wpOp_slim h)
  | (i, n + 3) :: l, a, w, h => by
    obtain ⟨o', v, ho, hy, h⟩ := h
    obtain ⟨o, ho2, rfl⟩ := get_slim ho
    exact ⟨o, v, ho2, yields_slim hy, wpSched_slim l _ _ h⟩
theorem wp_region_slim {id : Nat} {a : Act} {w : World} {l : List Oper} (T : List Nat) (sch : List (Nat × Nat)) (S : World → Prop) (hm : P.follows .mixedOrders = true)
    (hB : (schedB .any l.toArray T sch (Array.replicate l.toArray.size false) && (sch.length == l.toArray.size && Region.noSelect l.toArray)) = true)
    (hQ : ∀ d v c a w, Q (.panic c) (Act.put a d v) w → Q (.panic c) a w) (hS : S w.drew) (h : wpSched P (l.map slim).toArray Q S sch a w.drew) : (Code.region id l.toArray true).wp P Q a w :=
  wp_region_sched T sch S hm hB hQ hS (wpSched_slim sch a _ (by rw [List.map_toArray]; exact h))
end
end Go.Proofs.Ytihalkpcddnikaa
