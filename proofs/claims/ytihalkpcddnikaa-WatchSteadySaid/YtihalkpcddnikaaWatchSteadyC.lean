/-
  The law peloruslaw26.WatchSteady, proved for every input: the call answers true and changes nothing that was there.
-/
import Derived.Test.YtihalkpcddnikaaRows
import Derived.Test.YtihalkpcddnikaaWatM
import Derived.Test.YtihalkpcddnikaaFlat
import Derived.Test.YtihalkpcddnikaaElemB
import Derived.ProofKit
import Derived.OpenShut
namespace Go.Proofs.Ytihalkpcddnikaa.watchSteady
open Go.ChangeShapes Go.WideShapes Go.ChangeAt Go.RowKit
set_option linter.unusedVariables false

theorem own : ownKnob Try.prog.godebug = none := by kernel_rfl
theorem laidOut : laidOutB Try.prog = true := by kernel_rfl

set_option maxRecDepth 100000 in
theorem lifted (os : Os) (started : os.Started) (H : Type) (enc : TypeId × Value → H) :
    ReturnsInHanded {} Try.checked os 6 .any (Rows.watchSteadySpec.pre6 enc Try.prog Try.f6 Rows.watchSteadyRow.domain false) (Rows.watchSteadySpec.post enc Try.prog Try.f6 false true false false) := by
  refine returnsInHanded_of_change (C := Try.checked) own started (by kernel_rfl) Try.func6
    (ChangeSpec.witness6 (enc := enc) (C := Try.checked) false ⟨#[], #[.agg #[.int .i64 0, .int .i64 0, .int .i64 0, .int .i64 0, .int .i64 0, .int .i64 0, .int .i64 0, .int .i64 0, .int .i64 0, .int .i64 0], .int .i64 0, .slice none 0 0, .slice none 0 0], []⟩ 8 (by kernel_rfl) (by kernel_rfl) (by kernel_rfl) (by kernel_rfl)) ?_
  intro W base args ds gs before hval0 hW hcnd hsz
  have hval : ∀ (j : Nat) t v, Try.f6.params[j]? = some t → args[j]? = some v → Value.okWide Try.prog W .any base t v := hval0
  have hW' := hW
  obtain ⟨p, q, hA0, hV, rfl, hfz, hnd⟩ := hW
  have hA : DataW.TrodAll enc Try.prog W 0 (fun _ => true) true Try.f6.params.toList args.toList ds p := hA0
  rw [Try.params6] at hA hval
  obtain ⟨v0, vs0, d0, ds0, p0, q0, hargs, rfl, rfl, h0, r0⟩ := trodAll_cons hA
  obtain ⟨v1, vs1, d1, ds1, p1, q1, rfl, rfl, rfl, h1, r1⟩ := trodAll_cons r0
  obtain ⟨v2, vs2, d2, ds2, p2, q2, rfl, rfl, rfl, h2, r2⟩ := trodAll_cons r1
  obtain ⟨v3, vs3, d3, ds3, p3, q3, rfl, rfl, rfl, h3, r3⟩ := trodAll_cons r2
  obtain ⟨rfl, rfl, rfl⟩ := trodAll_nil r3
  obtain rfl : args = #[v0, v1, v2, v3] := by cases args; simp_all
  obtain ⟨rfl, rfl⟩ := trodVars_none hV
  have k0 := h0
  have lt0 : ∀ x ∈ p0, x.block < W.heap.size := by obtain ⟨m, hm⟩ := k0; exact DataW.trod_lt m _ _ _ hm
  have k1 := h1
  have lt1 : ∀ x ∈ p1, x.block < W.heap.size := by obtain ⟨m, hm⟩ := k1; exact DataW.trod_lt m _ _ _ hm
  have k2 := h2
  have lt2 : ∀ x ∈ p2, x.block < W.heap.size := by obtain ⟨m, hm⟩ := k2; exact DataW.trod_lt m _ _ _ hm
  have k3 := h3
  have lt3 : ∀ x ∈ p3, x.block < W.heap.size := by obtain ⟨m, hm⟩ := k3; exact DataW.trod_lt m _ _ _ hm
  obtain ⟨cs0, rfl, cz0⟩ := okWide_struct Try.underlying62 (hval 0 62 v0 rfl rfl)
  obtain ⟨fu0, hf0⟩ := h0
  have ic0 := flat_cells 9 62 [some .i64, some .i64, some .i64, some .i64, some .i64, some .i64, some .i64, some .i64, some .i64, some .i64] (by kernel_rfl) _ _ _ hf0
  obtain ⟨ll0, hl0⟩ : ∃ l, l = (Value.agg cs0).cells.toList := ⟨_, rfl⟩
  rw [← hl0] at ic0
  obtain ⟨a0_0, m0_0, rfl, w0_0, i0_0⟩ := IntCells.cons ic0
  obtain ⟨l0_0, u0_0⟩ := bounds_i64 w0_0
  obtain ⟨a0_1, m0_1, rfl, w0_1, i0_1⟩ := IntCells.cons i0_0
  obtain ⟨l0_1, u0_1⟩ := bounds_i64 w0_1
  obtain ⟨a0_2, m0_2, rfl, w0_2, i0_2⟩ := IntCells.cons i0_1
  obtain ⟨l0_2, u0_2⟩ := bounds_i64 w0_2
  obtain ⟨a0_3, m0_3, rfl, w0_3, i0_3⟩ := IntCells.cons i0_2
  obtain ⟨l0_3, u0_3⟩ := bounds_i64 w0_3
  obtain ⟨a0_4, m0_4, rfl, w0_4, i0_4⟩ := IntCells.cons i0_3
  obtain ⟨l0_4, u0_4⟩ := bounds_i64 w0_4
  obtain ⟨a0_5, m0_5, rfl, w0_5, i0_5⟩ := IntCells.cons i0_4
  obtain ⟨l0_5, u0_5⟩ := bounds_i64 w0_5
  obtain ⟨a0_6, m0_6, rfl, w0_6, i0_6⟩ := IntCells.cons i0_5
  obtain ⟨l0_6, u0_6⟩ := bounds_i64 w0_6
  obtain ⟨a0_7, m0_7, rfl, w0_7, i0_7⟩ := IntCells.cons i0_6
  obtain ⟨l0_7, u0_7⟩ := bounds_i64 w0_7
  obtain ⟨a0_8, m0_8, rfl, w0_8, i0_8⟩ := IntCells.cons i0_7
  obtain ⟨l0_8, u0_8⟩ := bounds_i64 w0_8
  obtain ⟨a0_9, m0_9, rfl, w0_9, i0_9⟩ := IntCells.cons i0_8
  obtain ⟨l0_9, u0_9⟩ := bounds_i64 w0_9
  obtain rfl := IntCells.nil i0_9
  obtain rfl : cs0 = #[.int .i64 a0_0, .int .i64 a0_1, .int .i64 a0_2, .int .i64 a0_3, .int .i64 a0_4, .int .i64 a0_5, .int .i64 a0_6, .int .i64 a0_7, .int .i64 a0_8, .int .i64 a0_9] := by cases cs0; simpa [Value.cells] using hl0.symm
  obtain ⟨a1, rfl, rfl, rfl, w1⟩ := open_int Try.underlying3 (hval 1 3 v1 rfl rfl) h1
  obtain ⟨l1, u1⟩ := bounds_i64 w1
  obtain ⟨a2, len2, cap2, rfl⟩ := okWide_slice Try.underlying63 (hval 2 63 v2 rfl rfl)
  have row2 := flatRow (P := Try.prog) (t := 63) (e := 68) (ks := [some .u16]) Try.underlying63 (by kernel_rfl) (by kernel_rfl) (by decide) h2
  obtain ⟨a3, len3, cap3, rfl⟩ := okWide_slice Try.underlying64 (hval 3 64 v3 rfl rfl)
  have row3 := flatRow (P := Try.prog) (t := 64) (e := 25) (ks := [some .i64, some .i64, some .i64]) Try.underlying64 (by kernel_rfl) (by kernel_rfl) (by decide) h3
  clear hA0 hval0
  refine (WatchSteady_any a0_0 a0_1 a0_2 a0_3 a0_4 a0_5 a0_6 a0_7 a0_8 a0_9 ⟨l0_2, u0_2⟩ ⟨l0_3, u0_3⟩ ⟨l0_4, u0_4⟩ ⟨l0_6, u0_6⟩ a1 a2 len2 cap2 a3 len3 cap3 W row2 row3).mono fun e W' ⟨he, x, hx⟩ => ?_
  have bel : Below W.heap.size W W' := hx ▸ up_below W x
  subst he
  exact ⟨_, rfl, _, _, _, [], _, [], hW', trodAll_mk1 (shut_bool Try.underlying4 _), (trodAll_cons_mk (Below.trod laidOut (by kernel_rfl) (of_decide_eq_true (by kernel_rfl)) k0 bel lt0) (trodAll_cons_mk (Below.trod laidOut (by kernel_rfl) (of_decide_eq_true (by kernel_rfl)) k1 bel lt1) (trodAll_cons_mk (Below.trod laidOut (by kernel_rfl) (of_decide_eq_true (by kernel_rfl)) k2 bel lt2) (trodAll_cons_mk (Below.trod laidOut (by kernel_rfl) (of_decide_eq_true (by kernel_rfl)) k3 bel lt3) trodAll_mk0)))), rfl, bel.frame _, fun h => by cases h⟩

theorem proved : Rows.WatchSteadySaid :=
  OpenClaim.holds_of_wide 6 Try.f6 rfl rfl rfl rfl rfl rfl rfl ⟨rfl, rfl, rfl, rfl, rfl⟩ rfl rfl rfl rfl rfl (by kernel_rfl) Try.func6 (by kernel_rfl)
    (of_decide_eq_true (by kernel_rfl)) (by unfold Func.isWrapper; first | (rw [if_pos (by decide +kernel)]; kernel_rfl) | (rw [if_neg (by decide +kernel)]; exact ⟨rfl, rfl⟩))
    (fun os started H enc _ => lifted os started H enc)
#print axioms proved
end Go.Proofs.Ytihalkpcddnikaa.watchSteady
