/-
  The law peloruslaw17.ReplayPlays, proved for every input: the call answers true and changes nothing that was there.
-/
import Derived.Test.YtbfloidogdjccaaRows
import Derived.Test.YtbfloidogdjccaaPlayW
import Derived.Test.YtbfloidogdjccaaFlat
import Derived.Test.YtbfloidogdjccaaOpen
import Derived.Test.YtbfloidogdjccaaElem
import Derived.ProofKit
import Derived.OpenShut
namespace Go.Proofs.Ytbfloidogdjccaa.replayPlays
open Go.ChangeShapes Go.WideShapes Go.ChangeAt Go.RowKit
set_option linter.unusedVariables false

theorem own : ownKnob Try.prog.godebug = none := by kernel_rfl
theorem laidOut : laidOutB Try.prog = true := by kernel_rfl

set_option maxRecDepth 100000 in
theorem lifted (os : Os) (started : os.Started) (H : Type) (enc : TypeId × Value → H) :
    ReturnsInHanded {} Try.checked os 12 .any (Rows.replayPlaysSpec.pre6 enc Try.prog Try.f12 Rows.replayPlaysRow.domain false) (Rows.replayPlaysSpec.post enc Try.prog Try.f12 false true false false) := by
  refine returnsInHanded_of_change (C := Try.checked) own started (by kernel_rfl) Try.func12
    (ChangeSpec.witness6 (enc := enc) (C := Try.checked) false ⟨#[], #[.slice none 0 0, .agg #[.int .u32 0, .int .u64 0], .agg #[.int .u32 0, .int .u64 0], .int .u64 0], []⟩ 8 (by kernel_rfl) (by kernel_rfl) (by kernel_rfl) (by kernel_rfl)) ?_
  intro W base args ds gs before hval0 hW hcnd hsz
  have hval : ∀ (j : Nat) t v, Try.f12.params[j]? = some t → args[j]? = some v → Value.okWide Try.prog W .any base t v := hval0
  have hW' := hW
  obtain ⟨p, q, hA0, hV, rfl, hfz, hnd⟩ := hW
  have hA : DataW.TrodAll enc Try.prog W 0 (fun _ => true) true Try.f12.params.toList args.toList ds p := hA0
  rw [Try.params12] at hA hval
  obtain ⟨v0, vs0, d0, ds0, p0, q0, hargs, rfl, rfl, h0, r0⟩ := trodAll_cons hA
  obtain ⟨v1, vs1, d1, ds1, p1, q1, rfl, rfl, rfl, h1, r1⟩ := trodAll_cons r0
  obtain ⟨v2, vs2, d2, ds2, p2, q2, rfl, rfl, rfl, h2, r2⟩ := trodAll_cons r1
  obtain ⟨v3, vs3, d3, ds3, p3, q3, rfl, rfl, rfl, h3, r3⟩ := trodAll_cons r2
  obtain ⟨rfl, rfl, rfl⟩ := trodAll_nil r3
  obtain rfl : args = #[v0, v1, v2, v3] := by cases args; simp_all
  obtain ⟨rfl, rfl⟩ := trodVars_none hV
  have k0 := h0
  have lt0 : ∀ x ∈ p0, x.block < W.heap.size := by obtain ⟨m, hm⟩ := k0; exact DataW.trod_lt m _ _ _ hm
  have k1 := h1
  have lt1 : ∀ x ∈ p1, x.block < W.heap.size := by obtain ⟨m, hm⟩ := k1; exact DataW.trod_lt m _ _ _ hm
  have k2 := h2
  have lt2 : ∀ x ∈ p2, x.block < W.heap.size := by obtain ⟨m, hm⟩ := k2; exact DataW.trod_lt m _ _ _ hm
  have k3 := h3
  have lt3 : ∀ x ∈ p3, x.block < W.heap.size := by obtain ⟨m, hm⟩ := k3; exact DataW.trod_lt m _ _ _ hm
  obtain ⟨a0, len0, cap0, rfl⟩ := okWide_slice Try.underlying53 (hval 0 53 v0 rfl rfl)
  have row0 := flatRow (P := Try.prog) (t := 53) (e := 60) (ks := [some .i64, some .i64, some .u32, some .u64]) Try.underlying53 (by kernel_rfl) (by kernel_rfl) (by decide) h0
  obtain ⟨cs1, rfl, cz1⟩ := okWide_struct Try.underlying56 (hval 1 56 v1 rfl rfl)
  obtain ⟨fu1, hf1⟩ := h1
  have ic1 := flat_cells 9 56 [some .u32, some .u64] (by kernel_rfl) _ _ _ hf1
  obtain ⟨ll1, hl1⟩ : ∃ l, l = (Value.agg cs1).cells.toList := ⟨_, rfl⟩
  rw [← hl1] at ic1
  obtain ⟨a1_0, m1_0, rfl, w1_0, i1_0⟩ := IntCells.cons ic1
  obtain ⟨l1_0, u1_0⟩ := bounds_u32 w1_0
  obtain ⟨a1_1, m1_1, rfl, w1_1, i1_1⟩ := IntCells.cons i1_0
  obtain ⟨l1_1, u1_1⟩ := bounds_u64 w1_1
  obtain rfl := IntCells.nil i1_1
  obtain rfl : cs1 = #[.int .u32 a1_0, .int .u64 a1_1] := by cases cs1; simpa [Value.cells] using hl1.symm
  obtain ⟨cs2, rfl, cz2⟩ := okWide_struct Try.underlying56 (hval 2 56 v2 rfl rfl)
  obtain ⟨fu2, hf2⟩ := h2
  have ic2 := flat_cells 9 56 [some .u32, some .u64] (by kernel_rfl) _ _ _ hf2
  obtain ⟨ll2, hl2⟩ : ∃ l, l = (Value.agg cs2).cells.toList := ⟨_, rfl⟩
  rw [← hl2] at ic2
  obtain ⟨a2_0, m2_0, rfl, w2_0, i2_0⟩ := IntCells.cons ic2
  obtain ⟨l2_0, u2_0⟩ := bounds_u32 w2_0
  obtain ⟨a2_1, m2_1, rfl, w2_1, i2_1⟩ := IntCells.cons i2_0
  obtain ⟨l2_1, u2_1⟩ := bounds_u64 w2_1
  obtain rfl := IntCells.nil i2_1
  obtain rfl : cs2 = #[.int .u32 a2_0, .int .u64 a2_1] := by cases cs2; simpa [Value.cells] using hl2.symm
  obtain ⟨a3, rfl, rfl, rfl, w3⟩ := open_int Try.underlying54 (hval 3 54 v3 rfl rfl) h3
  obtain ⟨l3, u3⟩ := bounds_u64 w3
  clear hA0 hval0
  refine (ReplayPlays_any a0 len0 cap0 a1_0 a1_1 a2_0 a2_1 a3 W row0 l1_1 (by unfold topU; exact u1_1) l2_1 (by unfold topU; exact u2_1) l3 (by unfold topU; exact u3)).mono fun e W' ⟨he, x, hx⟩ => ?_
  have bel : Below W.heap.size W W' := hx ▸ up_below W x
  subst he
  exact ⟨_, rfl, _, _, _, [], _, [], hW', trodAll_mk1 (shut_bool Try.underlying4 _), (trodAll_cons_mk (Below.trod laidOut (by kernel_rfl) (of_decide_eq_true (by kernel_rfl)) k0 bel lt0) (trodAll_cons_mk (Below.trod laidOut (by kernel_rfl) (of_decide_eq_true (by kernel_rfl)) k1 bel lt1) (trodAll_cons_mk (Below.trod laidOut (by kernel_rfl) (of_decide_eq_true (by kernel_rfl)) k2 bel lt2) (trodAll_cons_mk (Below.trod laidOut (by kernel_rfl) (of_decide_eq_true (by kernel_rfl)) k3 bel lt3) trodAll_mk0)))), rfl, bel.frame _, fun h => by cases h⟩

theorem proved : Rows.ReplayPlaysSaid :=
  OpenClaim.holds_of_wide 12 Try.f12 rfl rfl rfl rfl rfl rfl rfl ⟨rfl, rfl, rfl, rfl, rfl⟩ rfl rfl rfl rfl rfl (by kernel_rfl) Try.func12 (by kernel_rfl)
    (of_decide_eq_true (by kernel_rfl)) (by unfold Func.isWrapper; first | (rw [if_pos (by decide +kernel)]; kernel_rfl) | (rw [if_neg (by decide +kernel)]; exact ⟨rfl, rfl⟩))
    (fun os started H enc _ => lifted os started H enc)
#print axioms proved
end Go.Proofs.Ytbfloidogdjccaa.replayPlays
