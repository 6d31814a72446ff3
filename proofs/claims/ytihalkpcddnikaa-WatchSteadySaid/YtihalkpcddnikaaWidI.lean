/-
  Slices of ints of a call's own.
-/
import Derived.Test.YtihalkpcddnikaaLib
import Derived.Test.YtihalkpcddnikaaObj
import Derived.Test.YtihalkpcddnikaaProg
import Derived.Maps.AppendAt
import Derived.Laws.AppendOwnNone
namespace Go.Proofs.Ytihalkpcddnikaa
open Go.RowKit
set_option linter.unusedVariables false

theorem info_int : (Try.prog.info? 3).map (fun i => (i.zero, i.size, i.bytes)) = some (some (.int .i64 0), 1, 8) := by kernel_rfl
theorem info_partsI {i? : Option TypeInfo} {z : Value} {s b : Nat} (h : i?.map (fun i => (i.zero, i.size, i.bytes)) = some (some z, s, b)) : ∃ i, i? = some i ∧ i.zero = some z ∧ i.size = s ∧ i.bytes = b := by
  cases i? with
  | none => cases h
  | some i => simp only [Option.map_some, Option.some.injEq, Prod.mk.injEq] at h; exact ⟨i, rfl, h⟩
def natVs (ds : List Nat) : List Value := ds.map fun x => .int .i64 ((x : Nat) : Int)
theorem natVs_length (ds : List Nat) : (natVs ds).length = ds.length := by simp [natVs]
theorem natVs_append (a b : List Nat) : natVs (a ++ b) = natVs a ++ natVs b := by simp [natVs]
theorem natVs_get (ds : List Nat) (i : Nat) (h : i < ds.length) : (natVs ds)[i]? = some (.int .i64 ((ds.getD i 0 : Nat) : Int)) := by
  simp [natVs, List.getD_eq_getElem?_getD, List.getElem?_eq_getElem h]
theorem natVs_set (ds : List Nat) (k z : Nat) : natVs (ds.set k z) = (natVs ds).set k (.int .i64 ((z : Nat) : Int)) := by simp [natVs]
/-- v is a slice of ints that the call made: it lies in a block from base on, or is nil. -/
def OwnD (w : World) (base : Nat) (v : Value) (ds : List Nat) : Prop := w.ownsRow base 3 1 v ds.length (natVs ds)
theorem heap_ltI {w : World} {g : Nat} {o : Obj} (h : w.heap[g]? = some o) : g < w.heap.size := by
  rcases Nat.lt_or_ge g w.heap.size with h1 | h1
  · exact h1
  · rw [Array.getElem?_eq_none h1] at h; cases h
theorem OwnD.below {w w' : World} {base B : Nat} {v : Value} {ds : List Nat} (h : OwnD w base v ds) (hb : Below B w w') (hB : w.heap.size ≤ B) : OwnD w' base v ds := by
  obtain ⟨h2, h3⟩ := h
  refine ⟨h2, h3.imp id ?_⟩
  rintro ⟨g, cap, cur, hv, hg, hh, r⟩
  exact ⟨g, cap, cur, hv, hg, by rw [hb.block g (by have := heap_ltI hh; omega)]; exact hh, r⟩
theorem OwnD.up {w x : World} {base : Nat} {v : Value} {ds : List Nat} (h : OwnD w base v ds) : OwnD (up w x) base v ds := h.below (up_below w x) (Nat.le_refl _)
theorem OwnD.kept {w w' : World} {base : Nat} {v : Value} {ds : List Nat} {row : Option Nat} (h : OwnD w base v ds) (hg : w.grownBy w' row) (hne : v.ownBlock = none ∨ v.ownBlock ≠ row) : OwnD w' base v ds := World.ownsRow.kept h hg hne
theorem OwnD.mono {w : World} {base base' : Nat} {v : Value} {ds : List Nat} (h : OwnD w base v ds) (hz : base' ≤ base) : OwnD w base' v ds :=
  ⟨h.1, h.2.imp id (fun ⟨g, cap, cur, k1, k2, k3⟩ => ⟨g, cap, cur, k1, Nat.le_trans hz k2, k3⟩)⟩
theorem OwnD.own {w : World} {base : Nat} {v : Value} {ds : List Nat} (h : OwnD w base v ds) : ∀ k, v.ownBlock = some k → base ≤ k ∧ k < w.heap.size := fun k hk => World.ownsRow.lt h k hk
theorem OwnD.shape {w : World} {base : Nat} {v : Value} {ds : List Nat} (h : OwnD w base v ds) (hn : v ≠ .slice none 0 0) : ∃ g cap, v = .slice (some ⟨g, 0, none⟩) ds.length cap ∧ base ≤ g ∧ g < w.heap.size := by
  obtain ⟨_, ⟨h1, _⟩ | ⟨g, cap, cur, h1, h2, h3, _⟩⟩ := h
  · exact absurd h1 hn
  · exact ⟨g, cap, h1, h2, heap_ltI h3⟩
theorem OwnD.cell {w : World} {base g cap n : Nat} {ds : List Nat} (h : OwnD w base (.slice (some ⟨g, 0, none⟩) n cap) ds) (k : Nat) (hk : k < ds.length) : w.cell? ⟨g, k, none⟩ = some (.int .i64 ((ds.getD k 0 : Nat) : Int)) := by
  have hn : n = ds.length := by
    obtain ⟨_, ⟨h1, _⟩ | ⟨g, cap, cur, h1, _⟩⟩ := h
    · cases h1
    · cases h1; rfl
  subst hn
  rw [World.ownsRow.cellAt h k (by omega)]; exact natVs_get ds k hk
theorem OwnD.free {w : World} {base g cap n : Nat} {ds : List Nat} (h : OwnD w base (.slice (some ⟨g, 0, none⟩) n cap) ds) (k : Nat) : w.frozen? ⟨g, k, none⟩ = false := by
  have hn : n = ds.length := by
    obtain ⟨_, ⟨h1, _⟩ | ⟨g, cap, cur, h1, _⟩⟩ := h
    · cases h1
    · cases h1; rfl
  subst hn
  exact World.ownsRow.frozenAt h k
theorem OwnD.len {w : World} {base n cap : Nat} {a : Option Addr} {ds : List Nat} (h : OwnD w base (.slice a n cap) ds) : n = ds.length := by
  obtain ⟨_, ⟨h1, h2⟩ | ⟨g, cap, cur, h1, _⟩⟩ := h
  · cases h1; omega
  · cases h1; rfl
theorem OwnD.store {w : World} {base g cap n : Nat} {ds : List Nat} (h : OwnD w base (.slice (some ⟨g, 0, none⟩) n cap) ds) (k z : Nat) : OwnD (w.setCell ⟨g, k, none⟩ (.int .i64 ((z : Nat) : Int))) base (.slice (some ⟨g, 0, none⟩) n cap) (ds.set k z) := by
  have hn := OwnD.len h
  subst hn
  unfold OwnD
  rw [natVs_set, List.length_set]; exact (World.ownsRow.stored h k _).1
theorem OwnD.empty (w : World) : OwnD (w.alloc (.cells #[] 3)) w.heap.size (.slice (some ⟨w.heap.size, 0, none⟩) 0 0) [] :=
  World.ownsRow_lit (base := w.heap.size) (e := 3) (size := 1) w #[] 0 (Nat.le_refl _) (by decide) rfl
/-- append(v, x): one int, out of a block of one cell. -/
theorem wpList_append_int {ops : Array Oper} {rest : List Oper} {o : Oper} {a : Act} {Q0 : Exit → Act → World → Prop} {w : World} (hgd : o.guard = none) (s x : Operand)
    (ho : o.op = .call { callee := .builtin .append, args := #[s, x], argTypes := #[115, 115] })
    (base : Nat) (v : Value) (ds : List Nat) (d b c : Nat) (hs : a.eval s = v) (hv : OwnD w base v ds) (hx : a.eval x = .slice (some ⟨b, 0, none⟩) 1 c) (hc : w.cell? ⟨b, 0, none⟩ = some (.int .i64 ((d : Nat) : Int))) (hlen : ds.length ≤ 1000000) (hbase : base ≤ w.heap.size)
    (h : ∀ v' w', OwnD w' base v' (ds ++ [d]) → w.grownBy w' v.ownBlock → v' ≠ .slice none 0 0 → wpList Try.prog ops Q0 rest (a.put o.dst v') w') : wpList Try.prog ops Q0 (o :: rest) a w := by
  obtain ⟨i0, hi, hz0, hz1, hz2⟩ := info_partsI info_int
  refine wpList_append_own w hgd s x 115 ho base 3 i0 (.int .i64 0) 1 8 Try.underlying115 hi hz0 hz1 hz2 rfl (by decide) v ds.length (natVs ds) hs hv ⟨b, 0, none⟩ 1 c (natVs [d]) hx
    rfl (fun j u hj => ?_) (fun u hu => ?_) (by unfold maxLen; omega) (by omega) hbase (fun v' w' h2 h3 h4 => ?_)
  · cases j with
    | zero => simp only [natVs, List.map_cons, List.map_nil, List.getElem?_cons_zero, Option.some.injEq] at hj; rw [← hj]; exact hc
    | succ j => simp [natVs] at hj
  · obtain ⟨n, _, rfl⟩ := List.mem_map.1 hu; rfl
  · refine h v' w' ?_ h3 (fun he => absurd (h4.1 he).2 (by decide))
    unfold OwnD
    rw [natVs_append, List.length_append]; exact h2
end Go.Proofs.Ytihalkpcddnikaa
