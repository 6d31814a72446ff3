/-
  The law peloruslaw17.ReplayVoid, proved for every input: the call answers true and changes nothing that was there.
-/
import Derived.Test.YtbfloidogdjccaaRows
import Derived.Test.YtbfloidogdjccaaRepL
import Derived.Test.YtbfloidogdjccaaFlat
import Derived.ProofKit
import Derived.OpenShut
namespace Go.Proofs.Ytbfloidogdjccaa.replayVoid
open Go.ChangeShapes Go.WideShapes Go.ChangeAt Go.RowKit
set_option linter.unusedVariables false

theorem own : ownKnob Try.prog.godebug = none := by kernel_rfl
theorem laidOut : laidOutB Try.prog = true := by kernel_rfl

set_option maxRecDepth 100000 in
theorem lifted (os : Os) (started : os.Started) (H : Type) (enc : TypeId × Value → H) :
    ReturnsInHanded {} Try.checked os 11 .any (Rows.replayVoidSpec.pre6 enc Try.prog Try.f11 Rows.replayVoidRow.domain false) (Rows.replayVoidSpec.post enc Try.prog Try.f11 false true false false) := by
  refine returnsInHanded_of_change (C := Try.checked) own started (by kernel_rfl) Try.func11
    (ChangeSpec.witness6 (enc := enc) (C := Try.checked) false ⟨#[], #[.int .i64 0, .agg #[.int .u32 0, .int .u64 0]], []⟩ 8 (by kernel_rfl) (by kernel_rfl) (by kernel_rfl) (by kernel_rfl)) ?_
  intro W base args ds gs before hval0 hW hcnd hsz
  have hval : ∀ (j : Nat) t v, Try.f11.params[j]? = some t → args[j]? = some v → Value.okWide Try.prog W .any base t v := hval0
  have hW' := hW
  obtain ⟨p, q, hA0, hV, rfl, hfz, hnd⟩ := hW
  have hA : DataW.TrodAll enc Try.prog W 0 (fun _ => true) true Try.f11.params.toList args.toList ds p := hA0
  rw [Try.params11] at hA hval
  obtain ⟨v0, vs0, d0, ds0, p0, q0, hargs, rfl, rfl, h0, r0⟩ := trodAll_cons hA
  obtain ⟨v1, vs1, d1, ds1, p1, q1, rfl, rfl, rfl, h1, r1⟩ := trodAll_cons r0
  obtain ⟨rfl, rfl, rfl⟩ := trodAll_nil r1
  obtain rfl : args = #[v0, v1] := by cases args; simp_all
  obtain ⟨rfl, rfl⟩ := trodVars_none hV
  have k0 := h0
  have lt0 : ∀ x ∈ p0, x.block < W.heap.size := by obtain ⟨m, hm⟩ := k0; exact DataW.trod_lt m _ _ _ hm
  have k1 := h1
  have lt1 : ∀ x ∈ p1, x.block < W.heap.size := by obtain ⟨m, hm⟩ := k1; exact DataW.trod_lt m _ _ _ hm
  obtain ⟨a0, rfl, rfl, rfl, w0⟩ := open_int Try.underlying3 (hval 0 3 v0 rfl rfl) h0
  obtain ⟨l0, u0⟩ := bounds_i64 w0
  obtain ⟨cs1, rfl, cz1⟩ := okWide_struct Try.underlying56 (hval 1 56 v1 rfl rfl)
  obtain ⟨fu1, hf1⟩ := h1
  have ic1 := flat_cells 9 56 [some .u32, some .u64] (by kernel_rfl) _ _ _ hf1
  obtain ⟨ll1, hl1⟩ : ∃ l, l = (Value.agg cs1).cells.toList := ⟨_, rfl⟩
  rw [← hl1] at ic1
  obtain ⟨a1_0, m1_0, rfl, w1_0, i1_0⟩ := IntCells.cons ic1
  obtain ⟨l1_0, u1_0⟩ := bounds_u32 w1_0
  obtain ⟨a1_1, m1_1, rfl, w1_1, i1_1⟩ := IntCells.cons i1_0
  obtain ⟨l1_1, u1_1⟩ := bounds_u64 w1_1
  obtain rfl := IntCells.nil i1_1
  obtain rfl : cs1 = #[.int .u32 a1_0, .int .u64 a1_1] := by cases cs1; simpa [Value.cells] using hl1.symm
  clear hA0 hval0
  refine (ReplayVoid_any a0 a1_0 a1_1 W).mono fun e W' ⟨he, x, hx⟩ => ?_
  have bel : Below W.heap.size W W' := hx ▸ up_below W x
  subst he
  exact ⟨_, rfl, _, _, _, [], _, [], hW', trodAll_mk1 (shut_bool Try.underlying4 _), (trodAll_cons_mk (Below.trod laidOut (by kernel_rfl) (of_decide_eq_true (by kernel_rfl)) k0 bel lt0) (trodAll_cons_mk (Below.trod laidOut (by kernel_rfl) (of_decide_eq_true (by kernel_rfl)) k1 bel lt1) trodAll_mk0)), rfl, bel.frame _, fun h => by cases h⟩

theorem proved : Rows.ReplayVoidSaid :=
  OpenClaim.holds_of_wide 11 Try.f11 rfl rfl rfl rfl rfl rfl rfl ⟨rfl, rfl, rfl, rfl, rfl⟩ rfl rfl rfl rfl rfl (by kernel_rfl) Try.func11 (by kernel_rfl)
    (of_decide_eq_true (by kernel_rfl)) (by unfold Func.isWrapper; first | (rw [if_pos (by decide +kernel)]; kernel_rfl) | (rw [if_neg (by decide +kernel)]; exact ⟨rfl, rfl⟩))
    (fun os started H enc _ => lifted os started H enc)
#print axioms proved
end Go.Proofs.Ytbfloidogdjccaa.replayVoid
