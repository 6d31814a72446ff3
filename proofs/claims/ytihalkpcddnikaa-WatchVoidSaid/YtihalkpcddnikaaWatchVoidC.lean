/-
  The law peloruslaw26.WatchVoid, proved for every input: the call answers true and changes nothing that was there.
-/
import Derived.Test.YtihalkpcddnikaaRows
import Derived.Test.YtihalkpcddnikaaWatG
import Derived.Test.YtihalkpcddnikaaFlat
import Derived.ProofKit
import Derived.OpenShut
namespace Go.Proofs.Ytihalkpcddnikaa.watchVoid
open Go.ChangeShapes Go.WideShapes Go.ChangeAt Go.RowKit
set_option linter.unusedVariables false

theorem own : ownKnob Try.prog.godebug = none := by kernel_rfl
theorem laidOut : laidOutB Try.prog = true := by kernel_rfl

set_option maxRecDepth 100000 in
theorem lifted (os : Os) (started : os.Started) (H : Type) (enc : TypeId × Value → H) :
    ReturnsInHanded {} Try.checked os 9 .any (Rows.watchVoidSpec.pre6 enc Try.prog Try.f9 Rows.watchVoidRow.domain false) (Rows.watchVoidSpec.post enc Try.prog Try.f9 false true false false) := by
  refine returnsInHanded_of_change (C := Try.checked) own started (by kernel_rfl) Try.func9
    (ChangeSpec.witness6 (enc := enc) (C := Try.checked) false ⟨#[], #[.agg #[.int .i64 0, .int .i64 0, .int .i64 0, .int .i64 0, .int .i64 0, .int .i64 0, .int .i64 0, .int .i64 0, .int .i64 0, .int .i64 0, .bool false]], []⟩ 8 (by kernel_rfl) (by kernel_rfl) (by kernel_rfl) (by kernel_rfl)) ?_
  intro W base args ds gs before hval0 hW hcnd hsz
  have hval : ∀ (j : Nat) t v, Try.f9.params[j]? = some t → args[j]? = some v → Value.okWide Try.prog W .any base t v := hval0
  have hW' := hW
  obtain ⟨p, q, hA0, hV, rfl, hfz, hnd⟩ := hW
  have hA : DataW.TrodAll enc Try.prog W 0 (fun _ => true) true Try.f9.params.toList args.toList ds p := hA0
  rw [Try.params9] at hA hval
  obtain ⟨v0, vs0, d0, ds0, p0, q0, hargs, rfl, rfl, h0, r0⟩ := trodAll_cons hA
  obtain ⟨rfl, rfl, rfl⟩ := trodAll_nil r0
  obtain rfl : args = #[v0] := by cases args; simp_all
  obtain ⟨rfl, rfl⟩ := trodVars_none hV
  have k0 := h0
  have lt0 : ∀ x ∈ p0, x.block < W.heap.size := by obtain ⟨m, hm⟩ := k0; exact DataW.trod_lt m _ _ _ hm
  obtain ⟨cs0, rfl, cz0⟩ := okWide_struct Try.underlying76 (hval 0 76 v0 rfl rfl)
  obtain ⟨fu0, hf0⟩ := h0
  have ic0 := flat_cells 9 76 [some .i64, some .i64, some .i64, some .i64, some .i64, some .i64, some .i64, some .i64, some .i64, some .i64, none] (by kernel_rfl) _ _ _ hf0
  obtain ⟨ll0, hl0⟩ : ∃ l, l = (Value.agg cs0).cells.toList := ⟨_, rfl⟩
  rw [← hl0] at ic0
  obtain ⟨a0_0, m0_0, rfl, w0_0, i0_0⟩ := IntCells.cons ic0
  obtain ⟨l0_0, u0_0⟩ := bounds_i64 w0_0
  obtain ⟨a0_1, m0_1, rfl, w0_1, i0_1⟩ := IntCells.cons i0_0
  obtain ⟨l0_1, u0_1⟩ := bounds_i64 w0_1
  obtain ⟨a0_2, m0_2, rfl, w0_2, i0_2⟩ := IntCells.cons i0_1
  obtain ⟨l0_2, u0_2⟩ := bounds_i64 w0_2
  obtain ⟨a0_3, m0_3, rfl, w0_3, i0_3⟩ := IntCells.cons i0_2
  obtain ⟨l0_3, u0_3⟩ := bounds_i64 w0_3
  obtain ⟨a0_4, m0_4, rfl, w0_4, i0_4⟩ := IntCells.cons i0_3
  obtain ⟨l0_4, u0_4⟩ := bounds_i64 w0_4
  obtain ⟨a0_5, m0_5, rfl, w0_5, i0_5⟩ := IntCells.cons i0_4
  obtain ⟨l0_5, u0_5⟩ := bounds_i64 w0_5
  obtain ⟨a0_6, m0_6, rfl, w0_6, i0_6⟩ := IntCells.cons i0_5
  obtain ⟨l0_6, u0_6⟩ := bounds_i64 w0_6
  obtain ⟨a0_7, m0_7, rfl, w0_7, i0_7⟩ := IntCells.cons i0_6
  obtain ⟨l0_7, u0_7⟩ := bounds_i64 w0_7
  obtain ⟨a0_8, m0_8, rfl, w0_8, i0_8⟩ := IntCells.cons i0_7
  obtain ⟨l0_8, u0_8⟩ := bounds_i64 w0_8
  obtain ⟨a0_9, m0_9, rfl, w0_9, i0_9⟩ := IntCells.cons i0_8
  obtain ⟨l0_9, u0_9⟩ := bounds_i64 w0_9
  obtain ⟨a0_10, m0_10, rfl, i0_10⟩ := IntCells.consB i0_9
  obtain rfl := IntCells.nil i0_10
  obtain rfl : cs0 = #[.int .i64 a0_0, .int .i64 a0_1, .int .i64 a0_2, .int .i64 a0_3, .int .i64 a0_4, .int .i64 a0_5, .int .i64 a0_6, .int .i64 a0_7, .int .i64 a0_8, .int .i64 a0_9, .bool a0_10] := by cases cs0; simpa [Value.cells] using hl0.symm
  clear hA0 hval0
  refine (WatchVoid_any ⟨a0_0, ⟨a0_1, a0_2, a0_3, a0_4, a0_5, a0_6, a0_7, a0_8, a0_9⟩, a0_10⟩ W).mono fun e W' ⟨he, x, hx⟩ => ?_
  have bel : Below W.heap.size W W' := hx ▸ up_below W x
  subst he
  exact ⟨_, rfl, _, _, _, [], _, [], hW', trodAll_mk1 (shut_bool Try.underlying4 _), (trodAll_cons_mk (Below.trod laidOut (by kernel_rfl) (of_decide_eq_true (by kernel_rfl)) k0 bel lt0) trodAll_mk0), rfl, bel.frame _, fun h => by cases h⟩

theorem proved : Rows.WatchVoidSaid :=
  OpenClaim.holds_of_wide 9 Try.f9 rfl rfl rfl rfl rfl rfl rfl ⟨rfl, rfl, rfl, rfl, rfl⟩ rfl rfl rfl rfl rfl (by kernel_rfl) Try.func9 (by kernel_rfl)
    (of_decide_eq_true (by kernel_rfl)) (by unfold Func.isWrapper; first | (rw [if_pos (by decide +kernel)]; kernel_rfl) | (rw [if_neg (by decide +kernel)]; exact ⟨rfl, rfl⟩))
    (fun os started H enc _ => lifted os started H enc)
#print axioms proved
end Go.Proofs.Ytihalkpcddnikaa.watchVoid
