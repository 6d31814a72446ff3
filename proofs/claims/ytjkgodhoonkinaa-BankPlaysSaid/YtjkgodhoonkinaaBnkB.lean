/-
  The example of the bank's chapter.
-/
import Derived.Test.YtjkgodhoonkinaaBnkA
namespace Go.Proofs.Ytjkgodhoonkinaa
open Go.RowKit
set_option linter.unusedVariables false
set_option linter.unusedSimpArgs false

def oneR (n : Nat) : List Nat := n :: List.replicate 49 0
theorem oneR_ok {n : Nat} (h : n < 4294967296) : RecOK (oneR n) := by
  refine ⟨rfl, fun j hj => ?_⟩
  cases j with
  | zero => exact h
  | succ j =>
    have : (oneR n).getD (j + 1) 0 = 0 := by
      unfold oneR
      rw [List.getD_cons_succ, List.getD_eq_getElem?_getD, List.getElem?_replicate]
      split <;> rfl
    rw [this]
    exact Nat.pow_pos (by omega)
theorem run_one1 (w : World) : (Instr.build 50 #[(0, .int .u32 1)]).run Try.prog w = .ok (.agg (recL (oneR 1)).toArray) w := by kernel_rfl
theorem run_one2 (w : World) : (Instr.build 50 #[(0, .int .u32 2)]).run Try.prog w = .ok (.agg (recL (oneR 2)).toArray) w := by kernel_rfl
theorem wpList_bld1 {ops : Array Oper} {rest : List Oper} {o : Oper} {a : Act} {Q : Exit → Act → World → Prop} {w : World} (hgd : o.guard = none) (T : TypeId) (x : Operand) (ho : o.op = .build T #[(0, x)]) (vx v : Value)
    (hx : a.eval x = vx) (hr : ∀ W, (Instr.build T #[(0, vx)]).run Try.prog W = .ok v W) (h : wpList Try.prog ops Q rest (a.put o.dst v) w) : wpList Try.prog ops Q (o :: rest) a w :=
  wpList_plain hgd fun K hK => by
    have hr' := hr w
    unfold Oper.wp execOp
    simp only [ho, Sem.run_bind, Sem.run_pure, Result.andThen_ok, List.map_toArray, List.map_cons, List.map_nil, hx, hr']
    exact hK _ _ h
theorem nil_bts0 (w : World) : Bts w (.slice none 0 0) [] := ⟨(fun _ h => by cases h), .inl ⟨rfl, rfl⟩⟩
theorem goodX_nil : goodX [] = false := rfl
theorem goodX_begun (t : List Nat) : goodX (0 :: t) = false := by unfold goodX; simp
theorem goodX_done {R : List Nat} (h : RecOK R) (h0 : R.getD 0 0 ≠ 0) : goodX (165 :: putB (recB R)) = true ∧ bnkR ((165 :: putB (recB R)).drop 1) = R := by
  obtain ⟨h1, h2, h3⟩ := bnk_back h h0
  unfold goodX
  rw [List.drop_one, List.tail_cons, h2, h3]
  exact ⟨by simp, rfl⟩
theorem cntS_nil : cntS [] [] = (-1, zeroR) := rfl
theorem stepC_no {c : Int × List Nat} {k : Int} {x : List Nat} (h : goodX x = false) : stepC c k x = c := by unfold stepC; rw [h]; rfl
theorem cntS_done {R : List Nat} (h : RecOK R) (h0 : R.getD 0 0 ≠ 0) {x : List Nat} (hx : goodX x = false) : cntS (165 :: putB (recB R)) x = (0, R) := by
  obtain ⟨h1, h2⟩ := goodX_done h h0
  unfold cntS
  rw [stepC_no (c := stepC _ _ _) hx]
  unfold stepC
  rw [h1, h2]
  rfl
theorem putB_small {R : List Nat} (h : R.length = 50) : (putB (recB R)).length = 140 := by rw [putB_length, recB_length h]
set_option maxRecDepth 100000 in
set_option maxHeartbeats 4000000 in
theorem works30 (w : World) : Calls Try.prog 29 #[] w (Gives w (.bool true)) := by
  obtain ⟨R1, hR1⟩ : ∃ R, R = oneR 1 := ⟨_, rfl⟩
  obtain ⟨R2, hR2⟩ : ∃ R, R = oneR 2 := ⟨_, rfl⟩
  have H1 := Lib.hid (show RecOK R1 ∧ R1.getD 0 0 ≠ 0 ∧ (recL R1)[0]? = some (.int .u32 1) by rw [hR1]; exact ⟨oneR_ok (by omega), by decide, rfl⟩)
  have H2 := Lib.hid (show RecOK R2 ∧ R2.getD 0 0 ≠ 0 by rw [hR2]; exact ⟨oneR_ok (by omega), by decide⟩)
  have HB1 := Lib.hid (fun W => run_one1 W)
  have HB2 := Lib.hid (fun W => run_one2 W)
  rw [← hR1] at HB1
  rw [← hR2] at HB2
  clear hR1 hR2
  go_enter Try.func29, Try.ntmps29
  go_wp2_with fail
  refine (bNew_any w).mono ?_
  rintro e1 w1 ⟨rfl, hb1, hs1, hl1⟩
  have HW1 := Lib.hid (And.intro hb1 (And.intro hs1 hl1))
  clear hb1 hs1 hl1
  obtain ⟨s, hs⟩ : ∃ s, s = w.heap.size := ⟨_, rfl⟩
  rw [← hs] at HW1 ⊢
  have HSE := Lib.hid hs
  clear hs
  go_wp2_with (refine wpList_bld1 rfl 50 _ rfl (.int .u32 1) (.agg (recL R1).toArray) rfl HB1.out ?_)
  refine (Begin_made s _ _ [] [] (-1) R1 w1 HW1.out.2.1 (nil_bts0 _) (nil_bts0 _) (by simp) (by simp) H1.out.1 H1.out.2.1).mono ?_
  rintro e2 w2 ⟨v, rfl, hs2, ho2, hg2⟩
  rw [show nextK [] [] = 0 from rfl] at hs2
  rw [if_pos rfl, if_pos rfl] at hs2
  obtain ⟨g, cap, rfl, hgw, hgl⟩ := ho2.shape (fun e => by rw [e] at ho2; have := ho2.bts.len; simp at this)
  have hlen : (0 :: putB (recB R1)).length = 141 := by rw [List.length_cons, putB_small H1.out.1.1]
  rw [hlen] at hs2 ho2
  have hsl : s < w1.heap.size := HW1.out.2.2
  have HW2 := Lib.hid (And.intro hs2 (And.intro ho2 (And.intro hg2 hgw)))
  clear hs2 ho2 hg2
  go_wp2_with fail
  refine (Finish_made w2 s 0 g 141 cap w1.heap.size _ _ _ HW2.out.1 (.inl ⟨rfl, rfl⟩) HW2.out.2.1 (by simp) (by omega)).mono ?_
  rintro e3 w3 ⟨rfl, hw3, hs3, ho3⟩
  rw [List.set_cons_zero] at ho3
  have hg3 : Below s w w3 := by
    rw [hw3]
    have hz := Nat.le_trans (Nat.le_of_eq HSE.out) HW1.out.1.size
    refine ((Below.drew (HW1.out.1.grown HW2.out.2.2.1 hz (fun b hb => by simp only [Option.some.injEq] at hb; omega))).setCell (p := ⟨g, 0, none⟩) (by show s ≤ g; omega) _).setCell (p := ⟨s, 2, none⟩) (Nat.le_refl s) _
  have HW3 := Lib.hid (And.intro hs3 (And.intro ho3 hg3))
  clear hs3 ho3 hg3 hw3
  go_wp2_with (refine wpList_bld1 rfl 50 _ rfl (.int .u32 2) (.agg (recL R2).toArray) rfl HB2.out ?_)
  refine (Begin_made s _ _ (165 :: putB (recB R1)) [] (-1) R2 w3 HW3.out.1 HW3.out.2.1.bts (nil_bts0 _) (by rw [List.length_cons, putB_small H1.out.1.1]; omega) (by simp) H2.out.1 H2.out.2).mono ?_
  rintro e4 w4 ⟨v4, rfl, hs4, ho4, hg4⟩
  rw [show nextK (165 :: putB (recB R1)) [] = 1 by unfold nextK; rw [cntS_done H1.out.1 H1.out.2.1 goodX_nil]; rfl] at hs4
  rw [if_neg (by decide), if_neg (by decide)] at hs4
  have hb4 := HW3.out.2.1.kept hg4 (.inr (by simp only [Value.ownBlock]; intro e; injection e with e; omega))
  have HW4 := Lib.hid (And.intro hs4 (And.intro ho4 (And.intro hb4 (HW3.out.2.2.grown hg4 (Nat.le_trans (Nat.le_of_eq HSE.out) HW3.out.2.2.size) (fun b hb => by simp only [Option.some.injEq] at hb; omega)))))
  clear hs4 ho4 hg4 hb4
  go_wp2_with fail
  refine (Lose_made w4 s _ _ _ HW4.out.1).mono ?_
  rintro e5 w5 ⟨⟨_, rfl⟩, hs5, hg5⟩
  have hne4 : v4.ownBlock = none ∨ v4.ownBlock ≠ some s := .inr (fun e => by have := HW4.out.2.1.own _ e; have := HW3.out.1.lt; omega)
  have HW5 := Lib.hid (And.intro hs5 (And.intro (HW4.out.2.1.kept hg5 hne4) (And.intro (HW4.out.2.2.1.kept hg5 (.inr (by simp only [Value.ownBlock]; intro e; injection e with e; omega))) (HW4.out.2.2.2.grown hg5 (Nat.le_trans (Nat.le_of_eq HSE.out) HW4.out.2.2.2.size) (fun b hb => by simp only [Option.some.injEq] at hb; omega)))))
  clear hs5 hg5 hne4
  go_wp2_with fail
  refine (Recover_made s _ _ (165 :: putB (recB R1)) (0 :: putB (recB R2)) (-1) w5 HW5.out.1 HW5.out.2.2.1.bts HW5.out.2.1.bts (by rw [List.length_cons, putB_small H1.out.1.1]; omega) (by rw [List.length_cons, putB_small H2.out.1.1]; omega)).mono ?_
  rintro e6 w6 ⟨rfl, xx, rfl⟩
  have hcs := cntS_done H1.out.1 H1.out.2.1 (goodX_begun (putB (recB R2)))
  rw [show rcvR (165 :: putB (recB R1)) (0 :: putB (recB R2)) = R1 by unfold rcvR; rw [hcs]; rfl, show rcvE (165 :: putB (recB R1)) (0 :: putB (recB R2)) = 0 by unfold rcvE; rw [hcs]; rfl]
  obtain ⟨M, hM⟩ : ∃ M, M = recL R1 := ⟨_, rfl⟩
  have hml : M.length = 50 := by rw [hM]; exact recL_length H1.out.1.1
  have hs := store_newR (up w5 xx) 50 M hml (by rw [hM]; exact recL_one H1.out.1.1)
  have hst := hs.1
  have z0 : (((up w5 xx).alloc (.cells #[.int .u32 0, .int .u32 0, .int .u64 0, .int .u32 0, .int .u64 0, .int .u32 0, .int .u64 0, .int .u32 0, .int .u64 0, .int .u32 0, .int .u64 0, .int .u32 0, .int .u64 0, .int .u32 0, .int .u64 0, .int .u32 0, .int .u64 0, .int .u32 0, .int .u8 0, .int .u8 0, .int .u8 0, .int .u8 0, .int .u8 0, .int .u8 0, .int .u8 0, .int .u8 0, .int .u8 0, .int .u8 0, .int .u8 0, .int .u8 0, .int .u8 0, .int .u8 0, .int .u8 0, .int .u8 0, .int .u8 0, .int .u8 0, .int .u8 0, .int .u8 0, .int .u8 0, .int .u8 0, .int .u8 0, .int .u8 0, .int .u8 0, .int .u8 0, .int .u8 0, .int .u8 0, .int .u8 0, .int .u8 0, .int .u8 0, .int .u8 0] 50)).setCells (up w5 xx).heap.size 0 M).cell? ⟨(up w5 xx).heap.size, 0, none⟩ = some (.int .u32 1) := by
    have := hs.2.2.1 0 (.int .u32 1) (by rw [hM]; exact H1.out.2.2)
    exact this
  have HS := Lib.hid hs.2.1
  rw [← hM]
  have HF := Lib.hid (Finish_none _ s _ _ ((StoAt.up (x := xx) HW5.out.1).below hs.2.1 (StoAt.up (x := xx) HW5.out.1).lt))
  clear hs hM
  go_wp2_with (go_at_call 49; with_reducible refine Calls.tells (HF.out) ?_)
  go_ret
  have hz5 := Nat.le_trans (Nat.le_of_eq HSE.out) HW5.out.2.2.2.size
  exact Gives.mk rfl (by rw [← HSE.out]; exact (below_up HW5.out.2.2.2 hz5 xx).trans (HS.out.mono (Nat.le_trans hz5 (up_size _ _))))
end Go.Proofs.Ytjkgodhoonkinaa
