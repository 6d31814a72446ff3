/-
  The map of a replay table, told by the mark that it holds for each source.
-/
import Derived.Test.YtbfloidogdjccaaLib
import Derived.Test.YtbfloidogdjccaaProg
import Derived.Maps.Own
import Derived.Maps.OwnOps
import Derived.Maps.OwnSet
import Derived.Maps.Views
namespace Go.Proofs.Ytbfloidogdjccaa
open Go.RowKit Go.Maps

/-- A mark: an epoch and a counter. -/
abbrev MarkT := Int × Int
def mkV (m : MarkT) : Value := .agg #[.int .u32 m.1, .int .u64 m.2]
def mkD (m : MarkT) : DataW Unit := .agg [.lit (.int .u32 m.1), .lit (.int .u64 m.2)]
def markR (v : Value) : Option (DataW Unit × List MemPlace) :=
  match v with
  | .agg cs => match cs.toList with
    | [.int .u32 a, .int .u64 b] => some (mkD (a, b), [])
    | _ => none
  | _ => none
theorem markR_mk (m : MarkT) : markR (mkV m) = some (mkD m, []) := rfl
theorem markR_inv {v : Value} {z : DataW Unit × List MemPlace} (h : markR v = some z) : ∃ m, v = mkV m ∧ z = (mkD m, []) := by
  unfold markR at h
  split at h
  · rename_i cs
    split at h
    · rename_i a b hc
      simp only [Option.some.injEq] at h
      exact ⟨(a, b), by unfold mkV; congr 1; apply Array.ext'; exact hc, h.symm⟩
    · cases h
  · cases h
theorem mkD_inj {m m' : MarkT} (h : mkD m = mkD m') : m = m' := by
  unfold mkD at h
  simp at h
  exact Prod.ext h.1 h.2

theorem keyK : Keyed Try.prog 3 := int_keyed Try.underlying3
theorem keyI (i : Int) (h : (Lit.int .i64 i).wf = true) : keyOf Try.prog 3 (.int .i64 i) = some (.int .i64 i) := keyOf_int_mk Try.underlying3 h
theorem wfI {i : Int} (h : -9223372036854775808 ≤ i) (h' : i ≤ 9223372036854775807) : (Lit.int .i64 i).wf = true := WalkArith.wf_i64 ⟨h, h'⟩
theorem zeroM (w : World) : (zeroValue 56).run Try.prog w = .ok (mkV (0, 0)) w := by kernel_rfl

/-- Block b is a map of at most n entries that holds the marks f. -/
def TabAt (w : World) (b n : Nat) (f : Int → Option MarkT) : Prop :=
  ∃ D : DataW Unit, w.ownsMap Try.prog 3 markR b n D ∧ (∀ i, has D (.int .i64 i) = (f i).isSome) ∧ ∀ i m, f i = some m → ∀ zd, D.atKey (.int .i64 i) zd = mkD m
theorem TabAt.new (w : World) : TabAt (w.alloc (.map #[] 0)) w.heap.size 0 (fun _ => none) :=
  ⟨.map [], World.ownsMap_made w _ _ _, fun _ => rfl, fun _ _ h => by cases h⟩
theorem TabAt.lt {w : World} {b n : Nat} {f : Int → Option MarkT} (h : TabAt w b n f) : b < w.heap.size := by obtain ⟨D, h1, _⟩ := h; exact h1.lt
theorem TabAt.kept {w w' : World} {b n : Nat} {f : Int → Option MarkT} {row : Option Nat} (h : TabAt w b n f) (hg : w.grownBy w' row) (hne : some b ≠ row) : TabAt w' b n f := by
  obtain ⟨D, h1, h2⟩ := h; exact ⟨D, h1.kept hg hne, h2⟩
theorem TabAt.same {w w' : World} {b n : Nat} {f : Int → Option MarkT} (h : TabAt w b n f) (hb : w'.heap[b]? = w.heap[b]?) : TabAt w' b n f := by
  obtain ⟨D, ⟨es, clock, h1, h2⟩, h3⟩ := h
  exact ⟨D, ⟨es, clock, by rw [hb]; exact h1, h2⟩, h3⟩
theorem TabAt.below {w w' : World} {b n B : Nat} {f : Int → Option MarkT} (h : TabAt w b n f) (hb : Below B w w') (hB : b < B) : TabAt w' b n f := h.same (hb.block b hB)
theorem TabAt.up {w x : World} {b n : Nat} {f : Int → Option MarkT} (h : TabAt w b n f) : TabAt (up w x) b n f := h.below (up_below w x) h.lt
theorem TabAt.alloc {w : World} {b n : Nat} {f : Int → Option MarkT} (h : TabAt w b n f) (o : Obj) : TabAt (w.alloc o) b n f := h.same (Below.heap_alloc w o b h.lt)
theorem TabAt.drew {w : World} {b n : Nat} {f : Int → Option MarkT} (h : TabAt w b n f) : TabAt w.drew b n f := h
theorem TabAt.setCell {w : World} {b n : Nat} {f : Int → Option MarkT} (h : TabAt w b n f) {a : Addr} (ha : b ≠ a.block) (u : Value) : TabAt (w.setCell a u) b n f := h.same (Below.heap_setCell w a u b ha)

def updT (f : Int → Option MarkT) (i : Int) (m : MarkT) : Int → Option MarkT := fun j => if j = i then some m else f j
theorem updT_same (f : Int → Option MarkT) (i : Int) (m : MarkT) : updT f i m i = some m := if_pos rfl
theorem updT_other (f : Int → Option MarkT) {i j : Int} (m : MarkT) (h : j ≠ i) : updT f i m j = f j := if_neg h

section
variable {w : World} {ops : Array Oper} {rest : List Oper} {o : Oper} {a : Act} {Q : Exit → Act → World → Prop}
theorem wpList_lookup_tab (hg : o.guard = none) (m x : Operand) (hop : o.op = Op.lookup 77 m x true) (b n : Nat) (f : Int → Option MarkT) (hm : a.eval m = .map (some b)) (hT : TabAt w b n f) (i : Int) (hx : a.eval x = .int .i64 i)
    (h1 : -9223372036854775808 ≤ i) (h2 : i ≤ 9223372036854775807)
    (hK : wpList Try.prog ops Q rest (a.put o.dst (.tuple #[mkV ((f i).getD (0, 0)), .bool (f i).isSome])) w) : wpList Try.prog ops Q (o :: rest) a w := by
  obtain ⟨D, hD, hh, hv⟩ := hT
  refine wpList_lookup_own_ok w hg m x 77 hop 3 56 keyK Try.underlying77 markR (zeroM w) (mkD (0, 0)) [] (markR_mk _) b n D hm hD (.int .i64 i) (.int .i64 i) hx (keyI i (wfI h1 h2)) (fun v ps hR => ?_)
  obtain ⟨m, rfl, hz⟩ := markR_inv hR
  rw [hh i]
  cases hf : f i with
  | none =>
    have e := atKey_of_not_has (k := .int .i64 i) (by rw [hh i, hf]; rfl) (mkD (0, 0))
    simp only [Prod.mk.injEq] at hz
    rw [e] at hz
    rw [← mkD_inj hz.1]
    rw [hf] at hK; exact hK
  | some m' =>
    simp only [Prod.mk.injEq] at hz
    rw [hv i m' hf] at hz
    rw [← mkD_inj hz.1]
    rw [hf] at hK; exact hK
theorem wpList_store_tab (hg : o.guard = none) (m x v : Operand) (hop : o.op = Op.mapUpdate 77 m x v) (b n : Nat) (f : Int → Option MarkT) (hm : a.eval m = .map (some b)) (hT : TabAt w b n f) (i : Int) (hx : a.eval x = .int .i64 i)
    (h1 : -9223372036854775808 ≤ i) (h2 : i ≤ 9223372036854775807) (mk : MarkT) (hv : a.eval v = mkV mk) (hn : n < 9223372036854775807)
    (hK : ∀ w', TabAt w' b (n + 1) (updT f i mk) → w.grownBy w' (some b) → wpList Try.prog ops Q rest (a.put o.dst undef) w') : wpList Try.prog ops Q (o :: rest) a w := by
  obtain ⟨D, hD, hh, hvv⟩ := hT
  refine wpList_mapUpdate_own w hg m x v 77 hop 3 56 keyK Try.underlying77 markR b n D hm hD (by unfold maxLen; omega) (.int .i64 i) (mkV mk) (.int .i64 i) hx hv (keyI i (wfI h1 h2)) (mkD mk) [] (markR_mk _) (fun w' h3 h4 => ?_)
  refine hK w' ⟨D.put (.int .i64 i) (mkD mk), h3, fun j => ?_, fun j m' hj zd => ?_⟩ h4
  · by_cases hji : j = i
    · subst hji
      rw [updT_same, has_put_same hD.isMap (keyK.key (keyI j (wfI h1 h2)))]; rfl
    · rw [updT_other f mk hji, has_put_other (by intro e; simp at e; exact hji e)]; exact hh j
  · by_cases hji : j = i
    · subst hji
      rw [updT_same] at hj
      cases hj
      rw [atKey_put_same hD.isMap (keyK.key (keyI j (wfI h1 h2)))]
    · rw [updT_other f mk hji] at hj
      rw [atKey_put_other (by intro e; simp at e; exact hji e)]; exact hvv j m' hj zd
end
end Go.Proofs.Ytbfloidogdjccaa
