/-
  The watcher of readings: its map, told by the last reading that it holds of each source; the plain laws of its limit and flags.
-/
import Derived.Test.YtihalkpcddnikaaFixW
import Derived.Test.YtihalkpcddnikaaLib2
import Derived.Test.YtihalkpcddnikaaObj
import Derived.Maps.Own
import Derived.Maps.OwnOps
import Derived.Maps.OwnSet
import Derived.Maps.Views
namespace Go.Proofs.Ytihalkpcddnikaa
open Go.RowKit Go.Maps

/-- A last reading: three axes, its tick, how many in a row. -/
structure StO where
  a : Int
  b : Int
  c : Int
  tk : Int
  row : Int
deriving DecidableEq
def StO.zero : StO := ⟨0, 0, 0, 0, 0⟩
def stV (m : StO) : Value := .agg #[.int .i64 m.a, .int .i64 m.b, .int .i64 m.c, .int .i64 m.tk, .int .i64 m.row]
def stD (m : StO) : DataW Unit := .agg [.lit (.int .i64 m.a), .lit (.int .i64 m.b), .lit (.int .i64 m.c), .lit (.int .i64 m.tk), .lit (.int .i64 m.row)]
def stR (v : Value) : Option (DataW Unit × List MemPlace) :=
  match v with
  | .agg cs => match cs.toList with
    | [.int .i64 a, .int .i64 b, .int .i64 c, .int .i64 d, .int .i64 e] => some (stD ⟨a, b, c, d, e⟩, [])
    | _ => none
  | _ => none
theorem stR_mk (m : StO) : stR (stV m) = some (stD m, []) := rfl
theorem stR_inv {v : Value} {z : DataW Unit × List MemPlace} (h : stR v = some z) : ∃ m, v = stV m ∧ z = (stD m, []) := by
  unfold stR at h
  split at h
  · rename_i cs
    split at h
    · rename_i a b c d e hc
      simp only [Option.some.injEq] at h
      exact ⟨⟨a, b, c, d, e⟩, by unfold stV; congr 1; apply Array.ext'; exact hc, h.symm⟩
    · cases h
  · cases h
theorem stD_inj {m m' : StO} (h : stD m = stD m') : m = m' := by
  unfold stD at h
  simp at h
  obtain ⟨a, b, c, d, e⟩ := m
  obtain ⟨a', b', c', d', e'⟩ := m'
  simp at h
  obtain ⟨rfl, rfl, rfl, rfl, rfl⟩ := h
  rfl

theorem keyK : Keyed Try.prog 3 := int_keyed Try.underlying3
theorem keyI (i : Int) (h : (Lit.int .i64 i).wf = true) : keyOf Try.prog 3 (.int .i64 i) = some (.int .i64 i) := keyOf_int_mk Try.underlying3 h
theorem wfI {i : Int} (h : -9223372036854775808 ≤ i) (h' : i ≤ 9223372036854775807) : (Lit.int .i64 i).wf = true := WalkArith.wf_i64 ⟨h, h'⟩
theorem zeroSt (w : World) : (zeroValue 91).run Try.prog w = .ok (stV StO.zero) w := by kernel_rfl

/-- Block b is a map of at most n entries that holds the readings f. -/
def TabS (w : World) (b n : Nat) (f : Int → Option StO) : Prop :=
  ∃ D : DataW Unit, w.ownsMap Try.prog 3 stR b n D ∧ (∀ i, has D (.int .i64 i) = (f i).isSome) ∧ ∀ i m, f i = some m → ∀ zd, D.atKey (.int .i64 i) zd = stD m
theorem TabS.new (w : World) : TabS (w.alloc (.map #[] 0)) w.heap.size 0 (fun _ => none) :=
  ⟨.map [], World.ownsMap_made w _ _ _, fun _ => rfl, fun _ _ h => by cases h⟩
theorem TabS.lt {w : World} {b n : Nat} {f : Int → Option StO} (h : TabS w b n f) : b < w.heap.size := by obtain ⟨D, h1, _⟩ := h; exact h1.lt
theorem TabS.kept {w w' : World} {b n : Nat} {f : Int → Option StO} {row : Option Nat} (h : TabS w b n f) (hg : w.grownBy w' row) (hne : some b ≠ row) : TabS w' b n f := by
  obtain ⟨D, h1, h2⟩ := h; exact ⟨D, h1.kept hg hne, h2⟩
theorem TabS.same {w w' : World} {b n : Nat} {f : Int → Option StO} (h : TabS w b n f) (hb : w'.heap[b]? = w.heap[b]?) : TabS w' b n f := by
  obtain ⟨D, ⟨es, clock, h1, h2⟩, h3⟩ := h
  exact ⟨D, ⟨es, clock, by rw [hb]; exact h1, h2⟩, h3⟩
theorem TabS.below {w w' : World} {b n B : Nat} {f : Int → Option StO} (h : TabS w b n f) (hb : Below B w w') (hB : b < B) : TabS w' b n f := h.same (hb.block b hB)
theorem TabS.up {w x : World} {b n : Nat} {f : Int → Option StO} (h : TabS w b n f) : TabS (up w x) b n f := h.below (up_below w x) h.lt
theorem TabS.alloc {w : World} {b n : Nat} {f : Int → Option StO} (h : TabS w b n f) (o : Obj) : TabS (w.alloc o) b n f := h.same (Below.heap_alloc w o b h.lt)
theorem TabS.drew {w : World} {b n : Nat} {f : Int → Option StO} (h : TabS w b n f) : TabS w.drew b n f := h
theorem TabS.setCell {w : World} {b n : Nat} {f : Int → Option StO} (h : TabS w b n f) {a : Addr} (ha : b ≠ a.block) (u : Value) : TabS (w.setCell a u) b n f := h.same (Below.heap_setCell w a u b ha)
def updS (f : Int → Option StO) (i : Int) (m : StO) : Int → Option StO := fun j => if j = i then some m else f j
def delS (f : Int → Option StO) (i : Int) : Int → Option StO := fun j => if j = i then none else f j
theorem updS_same (f : Int → Option StO) (i : Int) (m : StO) : updS f i m i = some m := if_pos rfl
theorem updS_other (f : Int → Option StO) {i j : Int} (m : StO) (h : j ≠ i) : updS f i m j = f j := if_neg h

section
variable {w : World} {ops : Array Oper} {rest : List Oper} {o : Oper} {a : Act} {Q : Exit → Act → World → Prop}
theorem wpList_lookup_st (hg : o.guard = none) (m x : Operand) (hop : o.op = Op.lookup 55 m x true) (b n : Nat) (f : Int → Option StO) (hm : a.eval m = .map (some b)) (hT : TabS w b n f) (i : Int) (hx : a.eval x = .int .i64 i)
    (h1 : -9223372036854775808 ≤ i) (h2 : i ≤ 9223372036854775807)
    (hK : wpList Try.prog ops Q rest (a.put o.dst (.tuple #[stV ((f i).getD StO.zero), .bool (f i).isSome])) w) : wpList Try.prog ops Q (o :: rest) a w := by
  obtain ⟨D, hD, hh, hv⟩ := hT
  refine wpList_lookup_own_ok w hg m x 55 hop 3 91 keyK Try.underlying55 stR (zeroSt w) (stD StO.zero) [] (stR_mk _) b n D hm hD (.int .i64 i) (.int .i64 i) hx (keyI i (wfI h1 h2)) (fun v ps hR => ?_)
  obtain ⟨m, rfl, hz⟩ := stR_inv hR
  rw [hh i]
  cases hf : f i with
  | none =>
    have e := atKey_of_not_has (k := .int .i64 i) (by rw [hh i, hf]; rfl) (stD StO.zero)
    simp only [Prod.mk.injEq] at hz
    rw [e] at hz
    rw [← stD_inj hz.1]
    rw [hf] at hK; exact hK
  | some m' =>
    simp only [Prod.mk.injEq] at hz
    rw [hv i m' hf] at hz
    rw [← stD_inj hz.1]
    rw [hf] at hK; exact hK
theorem wpList_store_st (hg : o.guard = none) (m x v : Operand) (hop : o.op = Op.mapUpdate 55 m x v) (b n : Nat) (f : Int → Option StO) (hm : a.eval m = .map (some b)) (hT : TabS w b n f) (i : Int) (hx : a.eval x = .int .i64 i)
    (h1 : -9223372036854775808 ≤ i) (h2 : i ≤ 9223372036854775807) (mk : StO) (hv : a.eval v = stV mk) (hn : n < 9223372036854775807)
    (hK : ∀ w', TabS w' b (n + 1) (updS f i mk) → w.grownBy w' (some b) → wpList Try.prog ops Q rest (a.put o.dst undef) w') : wpList Try.prog ops Q (o :: rest) a w := by
  obtain ⟨D, hD, hh, hvv⟩ := hT
  refine wpList_mapUpdate_own w hg m x v 55 hop 3 91 keyK Try.underlying55 stR b n D hm hD (by unfold maxLen; omega) (.int .i64 i) (stV mk) (.int .i64 i) hx hv (keyI i (wfI h1 h2)) (stD mk) [] (stR_mk _) (fun w' h3 h4 => ?_)
  refine hK w' ⟨D.put (.int .i64 i) (stD mk), h3, fun j => ?_, fun j m' hj zd => ?_⟩ h4
  · by_cases hji : j = i
    · subst hji
      rw [updS_same, has_put_same hD.isMap (keyK.key (keyI j (wfI h1 h2)))]; rfl
    · rw [updS_other f mk hji, has_put_other (by intro e; simp at e; exact hji e)]; exact hh j
  · by_cases hji : j = i
    · subst hji
      rw [updS_same] at hj
      cases hj
      rw [atKey_put_same hD.isMap (keyK.key (keyI j (wfI h1 h2)))]
    · rw [updS_other f mk hji] at hj
      rw [atKey_put_other (by intro e; simp at e; exact hji e)]; exact hvv j m' hj zd
theorem wpList_delete_st (hg : o.guard = none) (m x : Operand) (hop : o.op = Op.call { callee := Callee.builtin Builtin.delete, args := #[m, x], argTypes := #[55, 3] }) (b n : Nat) (f : Int → Option StO) (hm : a.eval m = .map (some b)) (hT : TabS w b n f) (i : Int) (hx : a.eval x = .int .i64 i)
    (h1 : -9223372036854775808 ≤ i) (h2 : i ≤ 9223372036854775807)
    (hK : ∀ w', TabS w' b n (delS f i) → w.grownBy w' (some b) → wpList Try.prog ops Q rest (a.put o.dst (.tuple #[])) w') : wpList Try.prog ops Q (o :: rest) a w := by
  obtain ⟨D, hD, hh, hvv⟩ := hT
  refine wpList_delete_own w hg m x 55 3 hop 91 keyK Try.underlying55 stR b n D hm hD (.int .i64 i) (.int .i64 i) hx (keyI i (wfI h1 h2)) (fun w' h3 h4 => ?_)
  refine hK w' ⟨D.del (.int .i64 i), h3, fun j => ?_, fun j m' hj zd => ?_⟩ h4.grown
  · by_cases hji : j = i
    · subst hji
      rw [show delS f j j = none from if_pos rfl, has_del_same]; rfl
    · rw [show delS f i j = f j from if_neg hji, has_del_other (by intro e; simp at e; exact hji e)]; exact hh j
  · by_cases hji : j = i
    · subst hji
      rw [show delS f j j = none from if_pos rfl] at hj
      cases hj
    · rw [show delS f i j = f j from if_neg hji] at hj
      rw [atKey_del_other (by intro e; simp at e; exact hji e)]; exact hvv j m' hj zd
end

/-! ### the plain laws -/
def limV (rate t : Int) : Int := if 9223372036854775807 / (min (max t 1) 65535) < rate then 9223372036854775807 else rate * (min (max t 1) 65535)
theorem lim_bd {rate t : Int} (h : 0 ≤ rate) : 0 ≤ limV rate t ∧ limV rate t ≤ 9223372036854775807 := by
  unfold limV
  have hn : 1 ≤ min (max t 1) 65535 := by omega
  generalize min (max t 1) 65535 = n at *
  split
  · omega
  · rename_i hc
    refine ⟨Int.mul_nonneg h (by omega), ?_⟩
    have h1 : rate ≤ 9223372036854775807 / n := by omega
    have h2 := Int.mul_le_mul_of_nonneg_right h1 (show 0 ≤ n by omega)
    have h3 := Int.ediv_mul_le 9223372036854775807 (show n ≠ 0 by omega)
    omega
def farB (x y most : Int) : Bool := decide (most < absV (subV x y))
def fastB (m l : StO) (most : Int) : Bool := farB m.a l.a most || (farB m.b l.b most || farB m.c l.c most)
end Go.Proofs.Ytihalkpcddnikaa
