/-
  A record turned into the reference's.
-/
import Derived.Test.YtjkgodhoonkinaaBnkT
namespace Go.Proofs.Ytjkgodhoonkinaa
open Go.RowKit
set_option linter.unusedVariables false
set_option linter.unusedSimpArgs false

theorem run_bld (w : World) (x y k0 k1 k2 k3 k4 k5 k6 k7 k8 k9 k10 k11 k12 k13 k14 k15 k16 k17 k18 k19 k20 k21 k22 k23 k24 k25 k26 k27 k28 k29 k30 k31 : Int) : (Instr.build 69 #[(0, .int .u32 x), (2, .int .u32 y), (3, .agg #[.int .u8 k0, .int .u8 k1, .int .u8 k2, .int .u8 k3, .int .u8 k4, .int .u8 k5, .int .u8 k6, .int .u8 k7, .int .u8 k8, .int .u8 k9, .int .u8 k10, .int .u8 k11, .int .u8 k12, .int .u8 k13, .int .u8 k14, .int .u8 k15, .int .u8 k16, .int .u8 k17, .int .u8 k18, .int .u8 k19, .int .u8 k20, .int .u8 k21, .int .u8 k22, .int .u8 k23, .int .u8 k24, .int .u8 k25, .int .u8 k26, .int .u8 k27, .int .u8 k28, .int .u8 k29, .int .u8 k30, .int .u8 k31])]).run Try.prog w = .ok (.agg #[.int .u32 x, .int .u32 0, .int .u64 0, .int .u32 0, .int .u64 0, .int .u32 0, .int .u64 0, .int .u32 0, .int .u64 0, .int .u32 0, .int .u64 0, .int .u32 0, .int .u64 0, .int .u32 0, .int .u64 0, .int .u32 0, .int .u64 0, .int .u32 y, .int .u8 k0, .int .u8 k1, .int .u8 k2, .int .u8 k3, .int .u8 k4, .int .u8 k5, .int .u8 k6, .int .u8 k7, .int .u8 k8, .int .u8 k9, .int .u8 k10, .int .u8 k11, .int .u8 k12, .int .u8 k13, .int .u8 k14, .int .u8 k15, .int .u8 k16, .int .u8 k17, .int .u8 k18, .int .u8 k19, .int .u8 k20, .int .u8 k21, .int .u8 k22, .int .u8 k23, .int .u8 k24, .int .u8 k25, .int .u8 k26, .int .u8 k27, .int .u8 k28, .int .u8 k29, .int .u8 k30, .int .u8 k31]) w := by kernel_rfl
def pStart (j : Nat) : Bool := j == 0 || decide (17 ≤ j)
theorem run_build_rec (w : World) (R : List Nat) (hR : R.length = 50) (K : List Value) (hK : K = ((recL R).drop 18).take 32) :
    (Instr.build 69 #[(0, .int .u32 ((R.getD 0 0 : Nat) : Int)), (2, .int .u32 ((R.getD 17 0 : Nat) : Int)), (3, .agg K.toArray)]).run Try.prog w = .ok (.agg (fillL R pStart).toArray) w := by
  rw [key_list hR] at hK
  have hl : (R.drop 18).length = 32 := by rw [List.length_drop, hR]
  have hg : ∀ j, j < 32 → K[j]? = (fillL R pStart)[18 + j]? := fun j hj => by
    rw [hK, ← key_list hR, List.getElem?_take, if_pos hj, List.getElem?_drop, recL_get hR (18 + j) (by omega), fillL_get R _ (18 + j) (by omega)]
    have : pStart (18 + j) = true := by unfold pStart; simp; omega
    rw [this]; rfl
  have hz : ∀ j, j < 18 → (fillL R pStart)[j]? = some (.int (kinds.getD j .u8) (((if pStart j then R.getD j 0 else 0 : Nat)) : Int)) := fun j hj => fillL_get R _ j (by omega)
  generalize R.drop 18 = N at *
  match N, hl with
  | [k0, k1, k2, k3, k4, k5, k6, k7, k8, k9, k10, k11, k12, k13, k14, k15, k16, k17, k18, k19, k20, k21, k22, k23, k24, k25, k26, k27, k28, k29, k30, k31], _ =>
    have e : fillL R pStart = [.int .u32 ((R.getD 0 0 : Nat) : Int), .int .u32 0, .int .u64 0, .int .u32 0, .int .u64 0, .int .u32 0, .int .u64 0, .int .u32 0, .int .u64 0, .int .u32 0, .int .u64 0, .int .u32 0, .int .u64 0, .int .u32 0, .int .u64 0, .int .u32 0, .int .u64 0, .int .u32 ((R.getD 17 0 : Nat) : Int), .int .u8 ((k0 : Nat) : Int), .int .u8 ((k1 : Nat) : Int), .int .u8 ((k2 : Nat) : Int), .int .u8 ((k3 : Nat) : Int), .int .u8 ((k4 : Nat) : Int), .int .u8 ((k5 : Nat) : Int), .int .u8 ((k6 : Nat) : Int), .int .u8 ((k7 : Nat) : Int), .int .u8 ((k8 : Nat) : Int), .int .u8 ((k9 : Nat) : Int), .int .u8 ((k10 : Nat) : Int), .int .u8 ((k11 : Nat) : Int), .int .u8 ((k12 : Nat) : Int), .int .u8 ((k13 : Nat) : Int), .int .u8 ((k14 : Nat) : Int), .int .u8 ((k15 : Nat) : Int), .int .u8 ((k16 : Nat) : Int), .int .u8 ((k17 : Nat) : Int), .int .u8 ((k18 : Nat) : Int), .int .u8 ((k19 : Nat) : Int), .int .u8 ((k20 : Nat) : Int), .int .u8 ((k21 : Nat) : Int), .int .u8 ((k22 : Nat) : Int), .int .u8 ((k23 : Nat) : Int), .int .u8 ((k24 : Nat) : Int), .int .u8 ((k25 : Nat) : Int), .int .u8 ((k26 : Nat) : Int), .int .u8 ((k27 : Nat) : Int), .int .u8 ((k28 : Nat) : Int), .int .u8 ((k29 : Nat) : Int), .int .u8 ((k30 : Nat) : Int), .int .u8 ((k31 : Nat) : Int)] := by
      refine List.ext_getElem? (fun j => ?_)
      by_cases h1 : j < 18
      · rw [hz j h1]
        have : j = 0 ∨ j = 1 ∨ j = 2 ∨ j = 3 ∨ j = 4 ∨ j = 5 ∨ j = 6 ∨ j = 7 ∨ j = 8 ∨ j = 9 ∨ j = 10 ∨ j = 11 ∨ j = 12 ∨ j = 13 ∨ j = 14 ∨ j = 15 ∨ j = 16 ∨ j = 17 := by omega
        rcases this with rfl | rfl | rfl | rfl | rfl | rfl | rfl | rfl | rfl | rfl | rfl | rfl | rfl | rfl | rfl | rfl | rfl | rfl <;> rfl
      · by_cases h2 : j < 50
        · obtain ⟨i, rfl⟩ : ∃ i, j = 18 + i := ⟨j - 18, by omega⟩
          rw [← hg i (by omega), hK, Nat.add_comm 18 i]
          rfl
        · rw [List.getElem?_eq_none (by rw [fillL_length]; omega), List.getElem?_eq_none (by simp only [List.length_cons, List.length_nil]; omega)]
    rw [e, hK]
    exact run_bld w _ _ _ _ _ _ _ _ _ _ _ _ _ _ _ _ _ _ _ _ _ _ _ _ _ _ _ _ _ _ _ _ _ _
theorem run_storeCells_mid (W : World) (b o : Nat) (cs : List Value) (ht : W.there b o cs.length) (h1 : cs.toArray.all (·.oneCell') = true) : (storeCells ⟨b, o, none⟩ cs).run Try.prog W = .ok () (W.setCells b o cs) := by
  have := run_storeCells_cells (P := Try.prog) b o cs 0 W (fun j hj => by simpa using (ht j hj).1) (fun j hj => by simpa using (ht j hj).2)
    (fun v hv => (Array.all_eq_true_iff_forall_mem.1 h1) v (by simpa using hv))
  simpa using this
theorem store_newR (w : World) (T : TypeId) (L : List Value) (hL : L.length = 50) (h1 : L.toArray.all (·.oneCell') = true) :
    (storeCells ⟨w.heap.size, 0, none⟩ L).run Try.prog (w.alloc (.cells #[.int .u32 0, .int .u32 0, .int .u64 0, .int .u32 0, .int .u64 0, .int .u32 0, .int .u64 0, .int .u32 0, .int .u64 0, .int .u32 0, .int .u64 0, .int .u32 0, .int .u64 0, .int .u32 0, .int .u64 0, .int .u32 0, .int .u64 0, .int .u32 0, .int .u8 0, .int .u8 0, .int .u8 0, .int .u8 0, .int .u8 0, .int .u8 0, .int .u8 0, .int .u8 0, .int .u8 0, .int .u8 0, .int .u8 0, .int .u8 0, .int .u8 0, .int .u8 0, .int .u8 0, .int .u8 0, .int .u8 0, .int .u8 0, .int .u8 0, .int .u8 0, .int .u8 0, .int .u8 0, .int .u8 0, .int .u8 0, .int .u8 0, .int .u8 0, .int .u8 0, .int .u8 0, .int .u8 0, .int .u8 0, .int .u8 0, .int .u8 0] T)) = .ok () ((w.alloc (.cells #[.int .u32 0, .int .u32 0, .int .u64 0, .int .u32 0, .int .u64 0, .int .u32 0, .int .u64 0, .int .u32 0, .int .u64 0, .int .u32 0, .int .u64 0, .int .u32 0, .int .u64 0, .int .u32 0, .int .u64 0, .int .u32 0, .int .u64 0, .int .u32 0, .int .u8 0, .int .u8 0, .int .u8 0, .int .u8 0, .int .u8 0, .int .u8 0, .int .u8 0, .int .u8 0, .int .u8 0, .int .u8 0, .int .u8 0, .int .u8 0, .int .u8 0, .int .u8 0, .int .u8 0, .int .u8 0, .int .u8 0, .int .u8 0, .int .u8 0, .int .u8 0, .int .u8 0, .int .u8 0, .int .u8 0, .int .u8 0, .int .u8 0, .int .u8 0, .int .u8 0, .int .u8 0, .int .u8 0, .int .u8 0, .int .u8 0, .int .u8 0] T)).setCells w.heap.size 0 L) ∧
    Below w.heap.size w ((w.alloc (.cells #[.int .u32 0, .int .u32 0, .int .u64 0, .int .u32 0, .int .u64 0, .int .u32 0, .int .u64 0, .int .u32 0, .int .u64 0, .int .u32 0, .int .u64 0, .int .u32 0, .int .u64 0, .int .u32 0, .int .u64 0, .int .u32 0, .int .u64 0, .int .u32 0, .int .u8 0, .int .u8 0, .int .u8 0, .int .u8 0, .int .u8 0, .int .u8 0, .int .u8 0, .int .u8 0, .int .u8 0, .int .u8 0, .int .u8 0, .int .u8 0, .int .u8 0, .int .u8 0, .int .u8 0, .int .u8 0, .int .u8 0, .int .u8 0, .int .u8 0, .int .u8 0, .int .u8 0, .int .u8 0, .int .u8 0, .int .u8 0, .int .u8 0, .int .u8 0, .int .u8 0, .int .u8 0, .int .u8 0, .int .u8 0, .int .u8 0, .int .u8 0] T)).setCells w.heap.size 0 L) ∧ ((w.alloc (.cells #[.int .u32 0, .int .u32 0, .int .u64 0, .int .u32 0, .int .u64 0, .int .u32 0, .int .u64 0, .int .u32 0, .int .u64 0, .int .u32 0, .int .u64 0, .int .u32 0, .int .u64 0, .int .u32 0, .int .u64 0, .int .u32 0, .int .u64 0, .int .u32 0, .int .u8 0, .int .u8 0, .int .u8 0, .int .u8 0, .int .u8 0, .int .u8 0, .int .u8 0, .int .u8 0, .int .u8 0, .int .u8 0, .int .u8 0, .int .u8 0, .int .u8 0, .int .u8 0, .int .u8 0, .int .u8 0, .int .u8 0, .int .u8 0, .int .u8 0, .int .u8 0, .int .u8 0, .int .u8 0, .int .u8 0, .int .u8 0, .int .u8 0, .int .u8 0, .int .u8 0, .int .u8 0, .int .u8 0, .int .u8 0, .int .u8 0, .int .u8 0] T)).setCells w.heap.size 0 L).rangeAt w.heap.size 0 L ∧
    ((w.alloc (.cells #[.int .u32 0, .int .u32 0, .int .u64 0, .int .u32 0, .int .u64 0, .int .u32 0, .int .u64 0, .int .u32 0, .int .u64 0, .int .u32 0, .int .u64 0, .int .u32 0, .int .u64 0, .int .u32 0, .int .u64 0, .int .u32 0, .int .u64 0, .int .u32 0, .int .u8 0, .int .u8 0, .int .u8 0, .int .u8 0, .int .u8 0, .int .u8 0, .int .u8 0, .int .u8 0, .int .u8 0, .int .u8 0, .int .u8 0, .int .u8 0, .int .u8 0, .int .u8 0, .int .u8 0, .int .u8 0, .int .u8 0, .int .u8 0, .int .u8 0, .int .u8 0, .int .u8 0, .int .u8 0, .int .u8 0, .int .u8 0, .int .u8 0, .int .u8 0, .int .u8 0, .int .u8 0, .int .u8 0, .int .u8 0, .int .u8 0, .int .u8 0] T)).setCells w.heap.size 0 L).there w.heap.size 0 50 ∧ w.heap.size < ((w.alloc (.cells #[.int .u32 0, .int .u32 0, .int .u64 0, .int .u32 0, .int .u64 0, .int .u32 0, .int .u64 0, .int .u32 0, .int .u64 0, .int .u32 0, .int .u64 0, .int .u32 0, .int .u64 0, .int .u32 0, .int .u64 0, .int .u32 0, .int .u64 0, .int .u32 0, .int .u8 0, .int .u8 0, .int .u8 0, .int .u8 0, .int .u8 0, .int .u8 0, .int .u8 0, .int .u8 0, .int .u8 0, .int .u8 0, .int .u8 0, .int .u8 0, .int .u8 0, .int .u8 0, .int .u8 0, .int .u8 0, .int .u8 0, .int .u8 0, .int .u8 0, .int .u8 0, .int .u8 0, .int .u8 0, .int .u8 0, .int .u8 0, .int .u8 0, .int .u8 0, .int .u8 0, .int .u8 0, .int .u8 0, .int .u8 0, .int .u8 0, .int .u8 0] T)).setCells w.heap.size 0 L).heap.size := by
  have hth := there_new w #[.int .u32 0, .int .u32 0, .int .u64 0, .int .u32 0, .int .u64 0, .int .u32 0, .int .u64 0, .int .u32 0, .int .u64 0, .int .u32 0, .int .u64 0, .int .u32 0, .int .u64 0, .int .u32 0, .int .u64 0, .int .u32 0, .int .u64 0, .int .u32 0, .int .u8 0, .int .u8 0, .int .u8 0, .int .u8 0, .int .u8 0, .int .u8 0, .int .u8 0, .int .u8 0, .int .u8 0, .int .u8 0, .int .u8 0, .int .u8 0, .int .u8 0, .int .u8 0, .int .u8 0, .int .u8 0, .int .u8 0, .int .u8 0, .int .u8 0, .int .u8 0, .int .u8 0, .int .u8 0, .int .u8 0, .int .u8 0, .int .u8 0, .int .u8 0, .int .u8 0, .int .u8 0, .int .u8 0, .int .u8 0, .int .u8 0, .int .u8 0] T 50 rfl
  refine ⟨run_storeCells_mid _ w.heap.size 0 L (by rw [hL]; exact hth) h1, ((Below.refl _ _).alloc (Nat.le_refl _) _).trans (below_setCells _ _ _ _ _ (Nat.le_refl _)), World.rangeAt_setCells_same _ _ _ _ (by rw [hL]; exact hth), World.there_setCells hth _ _ _, by rw [size_setCells]; simp⟩
theorem there_sub {w : World} {b n : Nat} (h : w.there b 0 n) (i m : Nat) (hm : i + m ≤ n) : w.there b i m := fun j hj => by
  have := h (i + j) (by omega)
  rwa [Nat.zero_add] at this
theorem wpList_bld {ops : Array Oper} {rest : List Oper} {o : Oper} {a : Act} {Q : Exit → Act → World → Prop} {w : World} (hgd : o.guard = none) (T : TypeId) (x y z : Operand) (ho : o.op = .build T #[(0, x), (2, y), (3, z)]) (vx vy vz v : Value)
    (hx : a.eval x = vx) (hy : a.eval y = vy) (hz : a.eval z = vz) (hr : ∀ W, (Instr.build T #[(0, vx), (2, vy), (3, vz)]).run Try.prog W = .ok v W) (h : wpList Try.prog ops Q rest (a.put o.dst v) w) : wpList Try.prog ops Q (o :: rest) a w :=
  wpList_plain hgd fun K hK => by
    have hr' := hr w
    unfold Oper.wp execOp
    simp only [ho, Sem.run_bind, Sem.run_pure, Result.andThen_ok, List.map_toArray, List.map_cons, List.map_nil, hx, hy, hz, hr']
    exact hK _ _ h
/-- The record that is being copied. -/
structure PlainAt (w : World) (R : List Nat) (wr : World) (k : Nat) : Prop where
  bel : Below w.heap.size w wr
  src : wr.rangeAt w.heap.size 0 (recL R)
  res : wr.there (w.heap.size + 1) 0 50
  out : wr.rangeAt (w.heap.size + 2) 0 (fillL R (fun j => pStart j || (decide (1 ≤ j) && decide (j < 1 + 2 * k))))
  oth : wr.there (w.heap.size + 2) 0 50
  sz : w.heap.size + 2 < wr.heap.size
theorem PlainAt.below {w : World} {R : List Nat} {wr w' : World} {k : Nat} (H : PlainAt w R wr k) (hb : Below wr.heap.size wr w') : PlainAt w R w' k :=
  ⟨H.bel.trans (hb.mono H.bel.size), rangeAt_below hb (by have := H.sz; omega) H.src, there_below hb (by have := H.sz; omega) H.res, rangeAt_below hb H.sz H.out, there_below hb H.sz H.oth, Nat.lt_of_lt_of_le H.sz hb.size⟩
theorem mark_cells {R : List Nat} (h : R.length = 50) {k : Nat} (hk : k < 8) : ((recL R).drop (1 + 2 * k)).take 2 = [.int .u32 ((R.getD (1 + 2 * k) 0 : Nat) : Int), .int .u64 ((R.getD (2 + 2 * k) 0 : Nat) : Int)] := by
  have h1 := recL_get h (1 + 2 * k) (by omega)
  have h2 := recL_get h (2 + 2 * k) (by omega)
  rw [(kinds_mark hk).1] at h1
  rw [(kinds_mark hk).2] at h2
  have hl := recL_length h
  rw [List.getElem?_eq_getElem (by omega)] at h1 h2
  rw [List.drop_eq_getElem_cons (by omega), List.take_succ_cons, List.drop_eq_getElem_cons (by omega), List.take_succ_cons, List.take_zero, Option.some.inj h1]
  have : (recL R)[1 + 2 * k + 1] = (recL R)[2 + 2 * k] := by congr 1; omega
  rw [this, Option.some.inj h2]
theorem PlainAt.step {w : World} {R : List Nat} {wr : World} {k : Nat} (H : PlainAt w R wr k) (hR : R.length = 50) (hk : k < 8) : PlainAt w R (wr.setCells (w.heap.size + 2) (1 + 2 * k) [.int .u32 ((R.getD (1 + 2 * k) 0 : Nat) : Int), .int .u64 ((R.getD (2 + 2 * k) 0 : Nat) : Int)]) (k + 1) := by
  have h1 := fill_setCells R hR (w.heap.size + 2) 2 (1 + 2 * k) _ wr (by omega) H.out
  rw [mark_cells hR hk] at h1
  refine ⟨H.bel.trans (below_setCells _ _ _ _ _ (by omega)), World.rangeAt_setCells_apart H.src _ _ _ (.inl (by omega)), World.there_setCells H.res _ _ _, ?_, World.there_setCells H.oth _ _ _, by rw [size_setCells]; exact H.sz⟩
  rw [fillL_eq (R := R) (S := R) (q := fun j => (pStart j || (decide (1 ≤ j) && decide (j < 1 + 2 * k))) || (decide (1 + 2 * k ≤ j) && decide (j < 1 + 2 * k + 2))) (fun j hj => by
    have : (pStart j || (decide (1 ≤ j) && decide (j < 1 + 2 * (k + 1)))) = ((pStart j || (decide (1 ≤ j) && decide (j < 1 + 2 * k))) || (decide (1 + 2 * k ≤ j) && decide (j < 1 + 2 * k + 2))) := by
      rw [Bool.or_assoc]
      congr 1
      rw [Bool.eq_iff_iff]
      simp
      omega
    rw [this])]
  exact h1
set_option maxRecDepth 100000 in
set_option maxHeartbeats 3200000 in
theorem plain_any (R : List Nat) (w : World) (hR : RecOK R) : Calls Try.prog 40 #[.agg (recL R).toArray] w (Gives w (.agg (recL R).toArray)) := by
  have HRR := Lib.hid hR
  have HL := Lib.hid (recL_length hR.1)
  have HA := Lib.hid (rangeAt_boxed (w := w) (g := w.heap.size) (recL R) 50)
  obtain ⟨K, hK⟩ : ∃ K, K = ((recL R).drop 18).take 32 := ⟨_, rfl⟩
  have hbld : ∀ W, (Instr.build 69 #[(0, .int .u32 ((R.getD 0 0 : Nat) : Int)), (2, .int .u32 ((R.getD 17 0 : Nat) : Int)), (3, .agg K.toArray)]).run Try.prog W = .ok (.agg (fillL R pStart).toArray) W := fun W => run_build_rec W R hR.1 K hK
  have HKL := Lib.hid (show K.length = 32 by rw [hK, List.length_take, List.length_drop, recL_length hR.1]; rfl)
  have HKE := Lib.hid hK
  obtain ⟨Z, hZ⟩ : ∃ Z, Z = fillL R pStart := ⟨_, rfl⟩
  rw [← hZ] at hbld
  have HZ := Lib.hid (And.intro hZ (show Z.length = 50 ∧ Z.toArray.all (·.oneCell') = true from hZ ▸ ⟨fillL_length _ _, fillL_one _ _⟩))
  obtain ⟨L, hL⟩ : ∃ L, L = recL R := ⟨_, rfl⟩
  rw [← hL] at HL HA ⊢
  have HLR := Lib.hid hL
  have HBLD := Lib.hid hbld
  clear hL hZ hK hR hbld
  go_enter Try.func40, Try.ntmps40
  go_upto_region 1 with fail
  refine wp_gen (fun W => Below w.heap.size w W ∧ W.rangeAt w.heap.size 0 L ∧ W.there (w.heap.size + 1) 0 50 ∧ W.heap.size = w.heap.size + 2) ⟨by (repeat (first | (with_reducible exact Below.refl _ _) | (with_reducible assumption) | (with_reducible refine Below.alloc ?_ (by (repeat (first | (with_reducible exact Nat.le_refl _) | (with_reducible assumption) | (with_reducible refine le_up ?_) | (with_reducible refine le_alloc ?_) | (with_reducible refine le_setCell ?_) | (with_reducible refine le_drew ?_) | (with_reducible refine le_drewN ?_) | omega))) _) | (with_reducible refine Below.drew ?_) | (with_reducible refine Below.drewN ?_ _) | (with_reducible refine Below.setCell ?_ (by (repeat (first | (with_reducible exact Nat.le_refl _) | (with_reducible assumption) | (with_reducible refine le_up ?_) | (with_reducible refine le_alloc ?_) | (with_reducible refine le_setCell ?_) | (with_reducible refine le_drew ?_) | (with_reducible refine le_drewN ?_) | omega))) _) | (with_reducible refine Below.up ?_ (by (repeat (first | (with_reducible exact Nat.le_refl _) | (with_reducible assumption) | (with_reducible refine le_up ?_) | (with_reducible refine le_alloc ?_) | (with_reducible refine le_setCell ?_) | (with_reducible refine le_drew ?_) | (with_reducible refine le_drewN ?_) | omega)))))), World.rangeAt_alloc HA.out _, there_at (g := w.heap.size + 1) _ _ _ 50 rfl, by simp⟩ ?_
  rintro W1 ⟨hb1, hr1, ht1, hs1⟩
  have z0 : W1.cell? ⟨w.heap.size, 0, none⟩ = some (.int .u32 ((R.getD 0 0 : Nat) : Int)) := by
    have := hr1 0 _ (by rw [HLR.out]; exact recL_get HRR.out.1 0 (by omega))
    rwa [Nat.zero_add] at this
  have z17 : W1.cell? ⟨w.heap.size, 17, none⟩ = some (.int .u32 ((R.getD 17 0 : Nat) : Int)) := by
    have := hr1 17 _ (by rw [HLR.out]; exact recL_get HRR.out.1 17 (by omega))
    rwa [Nat.zero_add] at this
  have HKR := Lib.hid (show W1.rangeAt w.heap.size 18 K by rw [HKE.out, ← HLR.out]; have := rangeAt_sub hr1 18 32; rwa [Nat.zero_add] at this)
  haveI hlt1 : LtSize w.heap.size W1 := ⟨by omega⟩
  have hs := store_newR W1 69 Z HZ.out.2.1 HZ.out.2.2
  have hst := hs.1
  have hzl := HZ.out.2.1
  have H1 := Lib.hid (And.intro hb1 (And.intro hr1 (And.intro ht1 hs.2)))
  have HS1 := Lib.hid hs1
  generalize R.getD 0 0 = r0 at *
  generalize R.getD 17 0 = r17 at *
  clear hb1 hr1 ht1 hs hs1
  go_upto_region 2 with (first | (refine wpList_load_mid rfl 48 (.tmp 9) (by rfl) w.heap.size 18 (by rfl) K _ HKR.out Try.underlying48 (by rfl) (by rw [HKL.out]; kernel_rfl) ?_) | (refine wpList_bld rfl 69 _ _ _ rfl (.int .u32 (r0 : Int)) (.int .u32 (r17 : Int)) (.agg K.toArray) (.agg Z.toArray) rfl rfl rfl HBLD.out ?_))
  rw [HS1.out]
  refine wp_gen (fun W => PlainAt w R W 0) ?_ ?_
  · obtain ⟨b1, r1, t1, b2, r2, t2, l2⟩ := H1.out
    rw [HS1.out] at r2 t2 l2
    have h12 : w.heap.size < W1.heap.size := by rw [HS1.out]; omega
    have h13 : w.heap.size + 1 < W1.heap.size := by rw [HS1.out]; omega
    have hb2 := b2
    rw [HS1.out] at b2
    refine ⟨b1.trans (b2.mono (by omega)), by rw [← HLR.out]; exact rangeAt_below b2 (by omega) r1, there_below b2 (by omega) t1, ?_, t2, l2⟩
    rw [fillL_eq (R := R) (S := R) (q := pStart) (fun j hj => by
      have : (pStart j || (decide (1 ≤ j) && decide (j < 1 + 2 * 0))) = pStart j := by
        have : (decide (1 ≤ j) && decide (j < 1 + 2 * 0)) = false := by simp; omega
        rw [this, Bool.or_false]
      rw [this]), ← HZ.out.1]
    exact r2
  clear hst hzl H1 HS1 HKR HKL HKE HBLD HZ z0 z17
  rintro W2 hP
  have HP := Lib.hid hP
  clear hP
  go_wp2_with fail
  go_loopw [4] (fun v4 wr => ∃ k : Nat, k ≤ 8 ∧ v4 = .int .i64 (k : Int) ∧ PlainAt w R wr k) (fun v4 _ => 8 - (intOf v4).toNat)
  case atStart => exact ⟨0, by omega, rfl, HP.out⟩
  case round =>
    obtain ⟨k, hk, rfl, hP⟩ := hrel
    have HQ := Lib.hid hP
    clear hP HP
    by_cases hk8 : k < 8
    · have hm1 := recL_get HRR.out.1 (1 + 2 * k) (by omega)
      have hm2 := recL_get HRR.out.1 (2 + 2 * k) (by omega)
      rw [(kinds_mark hk8).1] at hm1
      rw [(kinds_mark hk8).2] at hm2
      have i1 : (k : Int) < 8 := by omega
      have i2 : IntKind.i64.wrap ((k : Int) + 1) = ((k + 1 : Nat) : Int) := by rw [IntKind.wrap_i64]; omega
      have i3 : (0 : Int) ≤ (k : Int) := by omega
      have HX := Lib.hid (fun (X : World) (hX : X.rangeAt w.heap.size 0 (recL R)) => (show X.cell? ⟨w.heap.size, 1 + k * 2, none⟩ = some (.int .u32 ((R.getD (1 + 2 * k) 0 : Nat) : Int)) ∧ X.cell? ⟨w.heap.size, 1 + k * 2 + 1, none⟩ = some (.int .u64 ((R.getD (2 + 2 * k) 0 : Nat) : Int)) from by
        have e1 := hX _ _ hm1
        have e2 := hX _ _ hm2
        rw [Nat.zero_add] at e1 e2
        rw [show 1 + k * 2 = 1 + 2 * k by omega, show 1 + 2 * k + 1 = 2 + 2 * k by omega]
        exact ⟨e1, e2⟩))
      have HST := Lib.hid ((HQ.out.below (Below.drew (Below.refl _ _))).step HRR.out.1 hk8)
      have HTH := Lib.hid (there_sub (HQ.out.below (Below.drew (Below.refl _ _))).oth (1 + k * 2) 2 (by omega))
      generalize R.getD (1 + 2 * k) 0 = e at *
      generalize R.getD (2 + 2 * k) 0 = c at *
      clear hm1 hm2
      go_upto_region 5 with fail
      refine wp_region_slim [14] [(0, 3), (1, 3), (2, 3), (3, 3), (4, 3), (5, 0), (6, 3), (7, 3), (8, 3), (9, 3), (10, 0), (11, 3), (12, 3), (13, 3), (14, 2)] (fun X => X.rangeAt w.heap.size 0 (recL R)) (by kernel_rfl) (by kernel_rfl) (fun d v c a w h => by cases d <;> exact h) HQ.out.src ?_
      simp only [List.map_cons, List.map_nil, slim]
      refine wpSched_pure ?sv1 rfl (by rfl) (fun W => ?sh1) ?sr1; (case sh1 => (go_simp; try (with_reducible rfl))); simp only [Act.put, List.getElem_toArray, List.getElem_cons_zero, List.getElem_cons_succ, List.setIfInBounds_toArray, List.set_cons_zero, List.set_cons_succ]
      refine wpSched_pure ?sv2 rfl (by rfl) (fun W => ?sh2) ?sr2; (case sh2 => (go_simp; try (with_reducible rfl))); simp only [Act.put, List.getElem_toArray, List.getElem_cons_zero, List.getElem_cons_succ, List.setIfInBounds_toArray, List.set_cons_zero, List.set_cons_succ]
      refine wpSched_pure ?sv3 rfl (by rfl) (fun W => ?sh3) ?sr3; (case sh3 => (go_simp; try (with_reducible rfl))); simp only [Act.put, List.getElem_toArray, List.getElem_cons_zero, List.getElem_cons_succ, List.setIfInBounds_toArray, List.set_cons_zero, List.set_cons_succ]
      refine wpSched_pure ?sv4 rfl (by rfl) (fun W => ?sh4) ?sr4; (case sh4 => (go_simp; try (with_reducible rfl))); simp only [Act.put, List.getElem_toArray, List.getElem_cons_zero, List.getElem_cons_succ, List.setIfInBounds_toArray, List.set_cons_zero, List.set_cons_succ]
      refine wpSched_pure ?sv5 rfl (by rfl) (fun W => ?sh5) ?sr5; (case sh5 => (go_simp; try (with_reducible rfl))); simp only [Act.put, List.getElem_toArray, List.getElem_cons_zero, List.getElem_cons_succ, List.setIfInBounds_toArray, List.set_cons_zero, List.set_cons_succ]
      refine wpSched_still ?sv6 rfl (by rfl) (fun W hW => ?sh6) ?sr6; (case sh6 => (obtain ⟨h1, h2⟩ := HX.out _ hW; go_simp; try (with_reducible rfl))); simp only [Act.put, List.getElem_toArray, List.getElem_cons_zero, List.getElem_cons_succ, List.setIfInBounds_toArray, List.set_cons_zero, List.set_cons_succ]
      refine wpSched_pure ?sv7 rfl (by rfl) (fun W => ?sh7) ?sr7; (case sh7 => (go_simp; try (with_reducible rfl))); simp only [Act.put, List.getElem_toArray, List.getElem_cons_zero, List.getElem_cons_succ, List.setIfInBounds_toArray, List.set_cons_zero, List.set_cons_succ]
      refine wpSched_pure ?sv8 rfl (by rfl) (fun W => ?sh8) ?sr8; (case sh8 => (go_simp; try (with_reducible rfl))); simp only [Act.put, List.getElem_toArray, List.getElem_cons_zero, List.getElem_cons_succ, List.setIfInBounds_toArray, List.set_cons_zero, List.set_cons_succ]
      refine wpSched_pure ?sv9 rfl (by rfl) (fun W => ?sh9) ?sr9; (case sh9 => (go_simp; try (with_reducible rfl))); simp only [Act.put, List.getElem_toArray, List.getElem_cons_zero, List.getElem_cons_succ, List.setIfInBounds_toArray, List.set_cons_zero, List.set_cons_succ]
      refine wpSched_pure ?sv10 rfl (by rfl) (fun W => ?sh10) ?sr10; (case sh10 => (go_simp; try (with_reducible rfl))); simp only [Act.put, List.getElem_toArray, List.getElem_cons_zero, List.getElem_cons_succ, List.setIfInBounds_toArray, List.set_cons_zero, List.set_cons_succ]
      refine wpSched_still ?sv11 rfl (by rfl) (fun W hW => ?sh11) ?sr11; (case sh11 => (obtain ⟨h1, h2⟩ := HX.out _ hW; go_simp; try (with_reducible rfl))); simp only [Act.put, List.getElem_toArray, List.getElem_cons_zero, List.getElem_cons_succ, List.setIfInBounds_toArray, List.set_cons_zero, List.set_cons_succ]
      refine wpSched_pure ?sv12 rfl (by rfl) (fun W => ?sh12) ?sr12; (case sh12 => (go_simp; try (with_reducible rfl))); simp only [Act.put, List.getElem_toArray, List.getElem_cons_zero, List.getElem_cons_succ, List.setIfInBounds_toArray, List.set_cons_zero, List.set_cons_succ]
      refine wpSched_pure ?sv13 rfl (by rfl) (fun W => ?sh13) ?sr13; (case sh13 => (go_simp; try (with_reducible rfl))); simp only [Act.put, List.getElem_toArray, List.getElem_cons_zero, List.getElem_cons_succ, List.setIfInBounds_toArray, List.set_cons_zero, List.set_cons_succ]
      refine wpSched_pure ?sv14 rfl (by rfl) (fun W => ?sh14) ?sr14; (case sh14 => (go_simp; try (with_reducible rfl))); simp only [Act.put, List.getElem_toArray, List.getElem_cons_zero, List.getElem_cons_succ, List.setIfInBounds_toArray, List.set_cons_zero, List.set_cons_succ]
      refine wpSched_storeT rfl (by rfl) (exec_store 66 (.tmp 29) (.tmp 27) (w.heap.size + 2) (1 + k * 2) [.int .u32 (e : Int), .int .u64 (c : Int)] rfl (by rfl) (by rfl) HTH.out (by kernel_rfl) (all_oneCell_toArray (fun v hv => by
        simp only [List.mem_cons, List.not_mem_nil, or_false] at hv
        rcases hv with rfl | rfl <;> rfl))) ?_
      simp only [Act.put, List.getElem_toArray, List.getElem_cons_zero, List.getElem_cons_succ, List.setIfInBounds_toArray, List.set_cons_zero, List.set_cons_succ]
      refine wpSched_nil ?_
      rw [show 1 + k * 2 = 1 + 2 * k by omega]
      go_wp2_with fail
      exact ⟨⟨k + 1, by omega, (by first | rfl | go_num), HST.out⟩, by simp [intOf]; omega⟩
    · obtain rfl : k = 8 := by omega
      have hout := HQ.out.out
      rw [fillL_all HRR.out.1 (fun j hj => by unfold pStart; simp; omega), ← HLR.out] at hout
      have hone : L.toArray.all (·.oneCell') = true := by rw [HLR.out]; exact recL_one HRR.out.1
      have hst2 := run_storeCells_mid wr (w.heap.size + 1) 0 L (by rw [HL.out]; exact HQ.out.res) hone
      have hll := HL.out
      have hrs := World.rangeAt_setCells_same wr (w.heap.size + 1) 0 L (by rw [HL.out]; exact HQ.out.res)
      have HRES := Lib.hid (run_loadVar_mid (P := Try.prog) (wr.setCells (w.heap.size + 1) 0 L) (w.heap.size + 1) 0 69 L _ hrs Try.underlying69 (by rfl) (by rw [HL.out]; kernel_rfl))
      have HO := Lib.hid hout
      clear hout hone hrs
      go_wp2_with (refine wpList_load_mid rfl 69 (.tmp 3) (by rfl) (w.heap.size + 2) 0 (by rfl) L _ HO.out Try.underlying69 (by rfl) (by rw [HL.out]; kernel_rfl) ?_)
      refine bodyPost_ret (v := .agg L.toArray) ?_ rfl (Gives.mk rfl (HQ.out.bel.trans (below_setCells _ _ _ _ _ (by omega))))
      simp only [results, show Try.func40.results = #[ResultVar.cell 2 69] from rfl]
      simp [asAddr, HRES.out]
end Go.Proofs.Ytjkgodhoonkinaa
