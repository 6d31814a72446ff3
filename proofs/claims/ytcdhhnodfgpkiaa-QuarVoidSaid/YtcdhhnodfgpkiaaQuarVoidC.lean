/-
  The law peloruslaw25.QuarVoid, proved for every input: the call answers true and changes nothing that was there.
-/
import Derived.Test.YtcdhhnodfgpkiaaRows
import Derived.Test.YtcdhhnodfgpkiaaQuarU
import Derived.Test.YtcdhhnodfgpkiaaFlat
import Derived.ProofKit
import Derived.OpenShut
namespace Go.Proofs.Ytcdhhnodfgpkiaa.quarVoid
open Go.ChangeShapes Go.WideShapes Go.ChangeAt Go.RowKit
set_option linter.unusedVariables false

theorem own : ownKnob Try.prog.godebug = none := by kernel_rfl
theorem laidOut : laidOutB Try.prog = true := by kernel_rfl

set_option maxRecDepth 100000 in
theorem lifted (os : Os) (started : os.Started) (H : Type) (enc : TypeId × Value → H) :
    ReturnsInHanded {} Try.checked os 12 .any (Rows.quarVoidSpec.pre6 enc Try.prog Try.f12 Rows.quarVoidRow.domain false) (Rows.quarVoidSpec.post enc Try.prog Try.f12 false true false false) := by
  refine returnsInHanded_of_change (C := Try.checked) own started (by kernel_rfl) Try.func12
    (ChangeSpec.witness6 (enc := enc) (C := Try.checked) false ⟨#[], #[.agg #[.int .i64 0, .int .i64 0, .int .i64 0]], []⟩ 8 (by kernel_rfl) (by kernel_rfl) (by kernel_rfl) (by kernel_rfl)) ?_
  intro W base args ds gs before hval0 hW hcnd hsz
  have hval : ∀ (j : Nat) t v, Try.f12.params[j]? = some t → args[j]? = some v → Value.okWide Try.prog W .any base t v := hval0
  have hW' := hW
  obtain ⟨p, q, hA0, hV, rfl, hfz, hnd⟩ := hW
  have hA : DataW.TrodAll enc Try.prog W 0 (fun _ => true) true Try.f12.params.toList args.toList ds p := hA0
  rw [Try.params12] at hA hval
  obtain ⟨v0, vs0, d0, ds0, p0, q0, hargs, rfl, rfl, h0, r0⟩ := trodAll_cons hA
  obtain ⟨rfl, rfl, rfl⟩ := trodAll_nil r0
  obtain rfl : args = #[v0] := by cases args; simp_all
  obtain ⟨rfl, rfl⟩ := trodVars_none hV
  have k0 := h0
  have lt0 : ∀ x ∈ p0, x.block < W.heap.size := by obtain ⟨m, hm⟩ := k0; exact DataW.trod_lt m _ _ _ hm
  obtain ⟨cs0, rfl, cz0⟩ := okWide_struct Try.underlying68 (hval 0 68 v0 rfl rfl)
  obtain ⟨fu0, hf0⟩ := h0
  have ic0 := flat_cells 9 68 [some .i64, some .i64, some .i64] (by kernel_rfl) _ _ _ hf0
  obtain ⟨ll0, hl0⟩ : ∃ l, l = (Value.agg cs0).cells.toList := ⟨_, rfl⟩
  rw [← hl0] at ic0
  obtain ⟨a0_0, m0_0, rfl, w0_0, i0_0⟩ := IntCells.cons ic0
  obtain ⟨l0_0, u0_0⟩ := bounds_i64 w0_0
  obtain ⟨a0_1, m0_1, rfl, w0_1, i0_1⟩ := IntCells.cons i0_0
  obtain ⟨l0_1, u0_1⟩ := bounds_i64 w0_1
  obtain ⟨a0_2, m0_2, rfl, w0_2, i0_2⟩ := IntCells.cons i0_1
  obtain ⟨l0_2, u0_2⟩ := bounds_i64 w0_2
  obtain rfl := IntCells.nil i0_2
  obtain rfl : cs0 = #[.int .i64 a0_0, .int .i64 a0_1, .int .i64 a0_2] := by cases cs0; simpa [Value.cells] using hl0.symm
  clear hA0 hval0
  refine (QuarVoid_any a0_0 a0_1 a0_2 W).mono fun e W' ⟨he, x, hx⟩ => ?_
  have bel : Below W.heap.size W W' := hx ▸ up_below W x
  subst he
  exact ⟨_, rfl, _, _, _, [], _, [], hW', trodAll_mk1 (shut_bool Try.underlying4 _), (trodAll_cons_mk (Below.trod laidOut (by kernel_rfl) (of_decide_eq_true (by kernel_rfl)) k0 bel lt0) trodAll_mk0), rfl, bel.frame _, fun h => by cases h⟩

theorem proved : Rows.QuarVoidSaid :=
  OpenClaim.holds_of_wide 12 Try.f12 rfl rfl rfl rfl rfl rfl rfl ⟨rfl, rfl, rfl, rfl, rfl⟩ rfl rfl rfl rfl rfl (by kernel_rfl) Try.func12 (by kernel_rfl)
    (of_decide_eq_true (by kernel_rfl)) (by unfold Func.isWrapper; first | (rw [if_pos (by decide +kernel)]; kernel_rfl) | (rw [if_neg (by decide +kernel)]; exact ⟨rfl, rfl⟩))
    (fun os started H enc _ => lifted os started H enc)
#print axioms proved
end Go.Proofs.Ytcdhhnodfgpkiaa.quarVoid
