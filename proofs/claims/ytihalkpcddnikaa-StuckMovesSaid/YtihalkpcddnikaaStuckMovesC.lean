/-
  The law peloruslaw24.StuckMoves, proved for every input: the call answers true and changes nothing that was there.
-/
import Derived.Test.YtihalkpcddnikaaRows
import Derived.Test.YtihalkpcddnikaaStuN
import Derived.Test.YtihalkpcddnikaaFlat
import Derived.Test.YtihalkpcddnikaaFlatA
import Derived.Test.YtihalkpcddnikaaElemB
import Derived.ProofKit
import Derived.OpenShut
namespace Go.Proofs.Ytihalkpcddnikaa.stuckMoves
open Go.ChangeShapes Go.WideShapes Go.ChangeAt Go.RowKit
set_option linter.unusedVariables false

theorem own : ownKnob Try.prog.godebug = none := by kernel_rfl
theorem laidOut : laidOutB Try.prog = true := by kernel_rfl

set_option maxRecDepth 100000 in
theorem lifted (os : Os) (started : os.Started) (H : Type) (enc : TypeId × Value → H) :
    ReturnsInHanded {} Try.checked os 3 .any (Rows.stuckMovesSpec.pre6 enc Try.prog Try.f3 Rows.stuckMovesRow.domain false) (Rows.stuckMovesSpec.post enc Try.prog Try.f3 false true false false) := by
  refine returnsInHanded_of_change (C := Try.checked) own started (by kernel_rfl) Try.func3
    (ChangeSpec.witness6 (enc := enc) (C := Try.checked) false ⟨#[], #[.int .i64 0, .int .i32 0, .slice none 0 0, .agg #[.int .i64 0, .int .i64 0, .int .i64 0]], []⟩ 8 (by kernel_rfl) (by kernel_rfl) (by kernel_rfl) (by kernel_rfl)) ?_
  intro W base args ds gs before hval0 hW hcnd hsz
  have hval : ∀ (j : Nat) t v, Try.f3.params[j]? = some t → args[j]? = some v → Value.okWide Try.prog W .any base t v := hval0
  have hW' := hW
  obtain ⟨p, q, hA0, hV, rfl, hfz, hnd⟩ := hW
  have hA : DataW.TrodAll enc Try.prog W 0 (fun _ => true) true Try.f3.params.toList args.toList ds p := hA0
  rw [Try.params3] at hA hval
  obtain ⟨v0, vs0, d0, ds0, p0, q0, hargs, rfl, rfl, h0, r0⟩ := trodAll_cons hA
  obtain ⟨v1, vs1, d1, ds1, p1, q1, rfl, rfl, rfl, h1, r1⟩ := trodAll_cons r0
  obtain ⟨v2, vs2, d2, ds2, p2, q2, rfl, rfl, rfl, h2, r2⟩ := trodAll_cons r1
  obtain ⟨v3, vs3, d3, ds3, p3, q3, rfl, rfl, rfl, h3, r3⟩ := trodAll_cons r2
  obtain ⟨rfl, rfl, rfl⟩ := trodAll_nil r3
  obtain rfl : args = #[v0, v1, v2, v3] := by cases args; simp_all
  obtain ⟨rfl, rfl⟩ := trodVars_none hV
  have k0 := h0
  have lt0 : ∀ x ∈ p0, x.block < W.heap.size := by obtain ⟨m, hm⟩ := k0; exact DataW.trod_lt m _ _ _ hm
  have k1 := h1
  have lt1 : ∀ x ∈ p1, x.block < W.heap.size := by obtain ⟨m, hm⟩ := k1; exact DataW.trod_lt m _ _ _ hm
  have k2 := h2
  have lt2 : ∀ x ∈ p2, x.block < W.heap.size := by obtain ⟨m, hm⟩ := k2; exact DataW.trod_lt m _ _ _ hm
  have k3 := h3
  have lt3 : ∀ x ∈ p3, x.block < W.heap.size := by obtain ⟨m, hm⟩ := k3; exact DataW.trod_lt m _ _ _ hm
  obtain ⟨a0, rfl, rfl, rfl, w0⟩ := open_int Try.underlying3 (hval 0 3 v0 rfl rfl) h0
  obtain ⟨l0, u0⟩ := bounds_i64 w0
  obtain ⟨a1, rfl, rfl, rfl, w1⟩ := open_int Try.underlying21 (hval 1 21 v1 rfl rfl) h1
  obtain ⟨l1, u1⟩ := bounds_i32 w1
  obtain ⟨a2, len2, cap2, rfl⟩ := okWide_slice Try.underlying22 (hval 2 22 v2 rfl rfl)
  have row2 := flatRow (P := Try.prog) (t := 22) (e := 21) (ks := [some .i32]) Try.underlying22 (by kernel_rfl) (by kernel_rfl) (by decide) h2
  obtain ⟨cs3, rfl, cz3⟩ := okWide_arr Try.underlying25 (hval 3 25 v3 rfl rfl)
  obtain ⟨fu3, hf3⟩ := h3
  have ic3 := flat_cells 9 25 [some .i64, some .i64, some .i64] (by kernel_rfl) _ _ _ hf3
  obtain ⟨ll3, hl3⟩ : ∃ l, l = (Value.agg cs3).cells.toList := ⟨_, rfl⟩
  rw [← hl3] at ic3
  obtain ⟨a3_0, m3_0, rfl, w3_0, i3_0⟩ := IntCells.cons ic3
  obtain ⟨l3_0, u3_0⟩ := bounds_i64 w3_0
  obtain ⟨a3_1, m3_1, rfl, w3_1, i3_1⟩ := IntCells.cons i3_0
  obtain ⟨l3_1, u3_1⟩ := bounds_i64 w3_1
  obtain ⟨a3_2, m3_2, rfl, w3_2, i3_2⟩ := IntCells.cons i3_1
  obtain ⟨l3_2, u3_2⟩ := bounds_i64 w3_2
  obtain rfl := IntCells.nil i3_2
  obtain rfl : cs3 = #[.int .i64 a3_0, .int .i64 a3_1, .int .i64 a3_2] := by cases cs3; simpa [Value.cells] using hl3.symm
  clear hA0 hval0
  refine (StuckMoves_any a0 a1 a2 len2 cap2 a3_0 a3_1 a3_2 W row2 ⟨l3_0, u3_0⟩ ⟨l3_1, u3_1⟩ ⟨l3_2, u3_2⟩ l1 u1).mono fun e W' ⟨he, x, hx⟩ => ?_
  have bel : Below W.heap.size W W' := hx ▸ up_below W x
  subst he
  exact ⟨_, rfl, _, _, _, [], _, [], hW', trodAll_mk1 (shut_bool Try.underlying4 _), (trodAll_cons_mk (Below.trod laidOut (by kernel_rfl) (of_decide_eq_true (by kernel_rfl)) k0 bel lt0) (trodAll_cons_mk (Below.trod laidOut (by kernel_rfl) (of_decide_eq_true (by kernel_rfl)) k1 bel lt1) (trodAll_cons_mk (Below.trod laidOut (by kernel_rfl) (of_decide_eq_true (by kernel_rfl)) k2 bel lt2) (trodAll_cons_mk (Below.trod laidOut (by kernel_rfl) (of_decide_eq_true (by kernel_rfl)) k3 bel lt3) trodAll_mk0)))), rfl, bel.frame _, fun h => by cases h⟩

theorem proved : Rows.StuckMovesSaid :=
  OpenClaim.holds_of_wide 3 Try.f3 rfl rfl rfl rfl rfl rfl rfl ⟨rfl, rfl, rfl, rfl, rfl⟩ rfl rfl rfl rfl rfl (by kernel_rfl) Try.func3 (by kernel_rfl)
    (of_decide_eq_true (by kernel_rfl)) (by unfold Func.isWrapper; first | (rw [if_pos (by decide +kernel)]; kernel_rfl) | (rw [if_neg (by decide +kernel)]; exact ⟨rfl, rfl⟩))
    (fun os started H enc _ => lifted os started H enc)
#print axioms proved
end Go.Proofs.Ytihalkpcddnikaa.stuckMoves
