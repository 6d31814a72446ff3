/-
  The monitor of drifts: its map, told by the sums that it holds at each place.
-/
import Derived.Test.YtihalkpcddnikaaWsmC
import Derived.Test.YtihalkpcddnikaaFlatK
import Derived.Test.YtihalkpcddnikaaStuX
import Derived.DeepKeys5
import Derived.Maps.RangeWalk
namespace Go.Proofs.Ytihalkpcddnikaa
open Go.RowKit Go.Maps
set_option linter.unusedVariables false
set_option linter.unusedSimpArgs false

/-! ### a place as a key -/
abbrev placeV (s k : Int) : Value := .agg #[.int .i64 s, .int .i64 k]
theorem keyC : Keyed Try.prog 112 := Keyed.of_law (deep_law_gate (by kernel_rfl) (of_decide_eq_true (by kernel_rfl)) (of_decide_eq_true (by kernel_rfl)) (by kernel_rfl) (by kernel_rfl))
theorem place_key (s k : Int) (hs : I64 s) (hk : I64 k) : ∃ l, keyOf Try.prog 112 (placeV s k) = some l := by
  have hI : IntCells [some .i64, some .i64] [.int .i64 s, .int .i64 k] := ⟨⟨s, rfl, wfI hs.1 hs.2⟩, ⟨k, rfl, wfI hk.1 hk.2⟩, trivial⟩
  obtain ⟨L, hL⟩ := flat_keys (P := Try.prog) (Try.prog.types.size + 1) 112 [some .i64, some .i64] (by kernel_rfl) (by kernel_rfl) _ hI
  have hu := Try.underlying112
  unfold keyOf
  have hf : (placeV s k).formed Try.prog 112 = true := by unfold Value.formed; rw [hu]; kernel_rfl
  have hkt : Try.prog.keyType 112 = true := by kernel_rfl
  rw [hu]
  simp only [hkt, hf, Bool.and_self, if_true]
  rw [show (placeV s k).cells.toList = [.int .i64 s, .int .i64 k] from rfl, hL]
  exact ⟨_, rfl⟩
open Classical in
noncomputable def plK (s k : Int) : Lit := if h : ∃ l, keyOf Try.prog 112 (placeV s k) = some l then Classical.choose h else .nil
theorem plK_key {s k : Int} (hs : I64 s) (hk : I64 k) : keyOf Try.prog 112 (placeV s k) = some (plK s k) := by
  have h := place_key s k hs hk
  unfold plK
  rw [dif_pos h]
  exact Classical.choose_spec h
theorem plK_inj {s k s' k' : Int} (hs : I64 s) (hk : I64 k) (hs' : I64 s') (hk' : I64 k') (h : plK s k = plK s' k') : s = s' ∧ k = k' := by
  have h1 := plK_key hs hk
  have h2 := plK_key hs' hk'
  rw [h] at h1
  have := keyC.inj h1 h2
  simpa using this
/-! ### a pair of sums -/
structure Pr where
  up : Int
  dn : Int
deriving DecidableEq
def Pr.zero : Pr := ⟨0, 0⟩
def prV (m : Pr) : Value := .agg #[.int .i64 m.up, .int .i64 m.dn]
def prD (m : Pr) : DataW Unit := .agg [.lit (.int .i64 m.up), .lit (.int .i64 m.dn)]
def prR (v : Value) : Option (DataW Unit × List MemPlace) :=
  match v with
  | .agg cs => match cs.toList with
    | [.int .i64 a, .int .i64 b] => some (prD ⟨a, b⟩, [])
    | _ => none
  | _ => none
theorem prR_mk (m : Pr) : prR (prV m) = some (prD m, []) := rfl
theorem prR_inv {v : Value} {z : DataW Unit × List MemPlace} (h : prR v = some z) : ∃ m, v = prV m ∧ z = (prD m, []) := by
  unfold prR at h
  split at h
  · rename_i cs
    split at h
    · rename_i a b hc
      simp only [Option.some.injEq] at h
      exact ⟨⟨a, b⟩, by unfold prV; congr 1; apply Array.ext'; exact hc, h.symm⟩
    · cases h
  · cases h
theorem prD_inj {m m' : Pr} (h : prD m = prD m') : m = m' := by
  unfold prD at h
  simp at h
  obtain ⟨a, b⟩ := m
  obtain ⟨a', b'⟩ := m'
  simp at h
  obtain ⟨rfl, rfl⟩ := h
  rfl
theorem zeroPr (w : World) : (zeroValue 135).run Try.prog w = .ok (prV Pr.zero) w := by kernel_rfl
/-- Block b is a map of at most n entries that holds the sums g (0 where it holds none). -/
def TabC (w : World) (b n : Nat) (g : Int → Int → Pr) : Prop :=
  ∃ D : DataW Unit, w.ownsMap Try.prog 112 prR b n D ∧ ∀ s k, I64 s → I64 k → D.atKey (plK s k) (prD Pr.zero) = prD (g s k)
theorem TabC.lt {w : World} {b n : Nat} {g : Int → Int → Pr} (h : TabC w b n g) : b < w.heap.size := by obtain ⟨D, h1, _⟩ := h; exact h1.lt
theorem TabC.kept {w w' : World} {b n : Nat} {g : Int → Int → Pr} {row : Option Nat} (h : TabC w b n g) (hg : w.grownBy w' row) (hne : some b ≠ row) : TabC w' b n g := by
  obtain ⟨D, h1, h2⟩ := h; exact ⟨D, h1.kept hg hne, h2⟩
theorem TabC.below {w w' : World} {b n : Nat} {g : Int → Int → Pr} (h : TabC w b n g) (hb : Below w.heap.size w w') : TabC w' b n g := h.kept (gr_below none hb) (by simp)
def updC (g : Int → Int → Pr) (s k : Int) (m : Pr) : Int → Int → Pr := fun i j => if i = s ∧ j = k then m else g i j
theorem TabC.lookup {w : World} {b n : Nat} {g : Int → Int → Pr} (h : TabC w b n g) {s k : Int} (hs : I64 s) (hk : I64 k) : (Instr.lookup 120 (.map (some b)) (placeV s k) false).run Try.prog w = .ok (prV (g s k)) w := by
  obtain ⟨D, h1, h2⟩ := h
  obtain ⟨v, ps, hr, hv⟩ := h1.lookup keyC Try.underlying120 (zeroPr w) (prR_mk _) (plK_key hs hk)
  rw [h2 s k hs hk] at hv
  obtain ⟨m, rfl, hz⟩ := prR_inv hv
  simp only [Prod.mk.injEq] at hz
  rw [hr, ← prD_inj hz.1]
theorem TabC.update {w : World} {b n : Nat} {g : Int → Int → Pr} (h : TabC w b n g) (hn : n < 1000000) {s k : Int} (hs : I64 s) (hk : I64 k) (m : Pr) :
    ∃ w', (Instr.mapUpdate 120 (.map (some b)) (placeV s k) (prV m)).run Try.prog w = .ok () w' ∧ TabC w' b (n + 1) (updC g s k m) ∧ w.grownBy w' (some b) := by
  obtain ⟨D, h1, h2⟩ := h
  obtain ⟨w', hr, h3, hg⟩ := h1.update keyC Try.underlying120 (by unfold maxLen; omega) (plK_key hs hk) (prR_mk m)
  refine ⟨w', hr, ⟨_, h3, fun i j hi hj => ?_⟩, hg⟩
  unfold updC
  by_cases hij : i = s ∧ j = k
  · obtain ⟨rfl, rfl⟩ := hij
    rw [if_pos ⟨rfl, rfl⟩, atKey_put_same h1.isMap (keyC.key (plK_key hs hk))]
  · rw [if_neg hij, atKey_put_other (by intro e; exact hij (plK_inj hi hj hs hk (by first | exact e | exact e.symm)))]
    exact h2 i j hi hj
theorem TabC.drop {w : World} {b n : Nat} {g : Int → Int → Pr} (h : TabC w b n g) {s k : Int} (hs : I64 s) (hk : I64 k) (ty : TypeId) :
    ∃ w', (Builtin.delete_ #[120, 112] ty #[.map (some b), placeV s k]).run Try.prog w = .ok (.tuple #[]) w' ∧ TabC w' b n (updC g s k Pr.zero) ∧ w.grownBy w' (some b) := by
  obtain ⟨D, h1, h2⟩ := h
  obtain ⟨w', hr, h3, hg⟩ := h1.drop keyC Try.underlying120 (plK_key hs hk) ty
  refine ⟨w', hr, ⟨_, h3, fun i j hi hj => ?_⟩, hg.grown⟩
  unfold updC
  by_cases hij : i = s ∧ j = k
  · obtain ⟨rfl, rfl⟩ := hij
    rw [if_pos ⟨rfl, rfl⟩, atKey_of_not_has has_del_same]
  · rw [if_neg hij, atKey_del_other (by intro e; exact hij (plK_inj hi hj hs hk (by first | exact e | exact e.symm)))]
    exact h2 i j hi hj
end Go.Proofs.Ytihalkpcddnikaa
