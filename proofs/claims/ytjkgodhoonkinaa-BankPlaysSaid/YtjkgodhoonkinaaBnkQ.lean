/-
  The acts of a bank's law, opened; what the law BankKeeps holds at each round.
-/
import Derived.Test.YtjkgodhoonkinaaBnkO
import Derived.Test.YtjkgodhoonkinaaFlatK
import Derived.Test.YtjkgodhoonkinaaElem
import Derived.Test.YtjkgodhoonkinaaBaseB
namespace Go.Proofs.Ytjkgodhoonkinaa
open Go.RowKit
set_option linter.unusedVariables false
set_option linter.unusedSimpArgs false

abbrev actK : List (Option IntKind) := some .i64 :: (kinds.map some ++ [none, some .i64, some .i64, some .u8])
def actL (d : Int) (R : List Nat) (nx : Bool) (bk at_ : Int) (b : Nat) : List Value := .int .i64 d :: (recL R ++ [.bool nx, .int .i64 bk, .int .i64 at_, .int .u8 ((b : Nat) : Int)])
theorem act_of {l : List Value} (h : IntCells actK l) : ∃ d R nx bk at_ b, RecOK R ∧ b < 256 ∧ l = actL d R nx bk at_ b := by
  obtain ⟨d, l1, rfl, w0, h1⟩ := IntCells.cons h
  obtain ⟨h2, h3⟩ := IntCells.split _ _ _ h1
  obtain ⟨R, hR, hl⟩ := recs_of h2
  obtain ⟨nx, l2, e2, h4⟩ := IntCells.consB h3
  obtain ⟨bk, l3, rfl, w1, h5⟩ := IntCells.cons h4
  obtain ⟨at_, l4, rfl, w2, h6⟩ := IntCells.cons h5
  obtain ⟨b, l5, rfl, w3, h7⟩ := IntCells.cons h6
  obtain rfl := IntCells.nil h7
  obtain ⟨lo, up⟩ := bounds_u8 w3
  obtain ⟨bn, rfl⟩ := Int.eq_ofNat_of_zero_le lo
  refine ⟨d, R, nx, bk, at_, bn, hR, by omega, ?_⟩
  have := List.take_append_drop ((List.map some kinds).length) l1
  rw [← this, hl, e2]
  rfl
theorem actL_length {d : Int} {R : List Nat} {nx : Bool} {bk at_ : Int} {b : Nat} (h : R.length = 50) : (actL d R nx bk at_ b).length = 55 := by
  unfold actL; simp [recL_length h]
theorem actL_rec {d : Int} {R : List Nat} {nx : Bool} {bk at_ : Int} {b : Nat} (h : R.length = 50) : ((actL d R nx bk at_ b).drop 1).take 50 = recL R := by
  unfold actL
  rw [List.drop_one, List.tail_cons, List.take_append_of_le_length (by rw [recL_length h]; omega), List.take_of_length_le (by rw [recL_length h]; omega)]
theorem actL_tail {d : Int} {R : List Nat} {nx : Bool} {bk at_ : Int} {b : Nat} (h : R.length = 50) : (actL d R nx bk at_ b)[51]? = some (.bool nx) ∧ (actL d R nx bk at_ b)[52]? = some (.int .i64 bk) ∧ (actL d R nx bk at_ b)[53]? = some (.int .i64 at_) ∧ (actL d R nx bk at_ b)[54]? = some (.int .u8 ((b : Nat) : Int)) := by
  unfold actL
  simp only [List.getElem?_cons_succ]
  rw [List.getElem?_append_right (by rw [recL_length h]; omega), List.getElem?_append_right (by rw [recL_length h]; omega), List.getElem?_append_right (by rw [recL_length h]; omega), List.getElem?_append_right (by rw [recL_length h]; omega), recL_length h]
  exact ⟨rfl, rfl, rfl, rfl⟩
theorem actL_one {d : Int} {R : List Nat} {nx : Bool} {bk at_ : Int} {b : Nat} (h : R.length = 50) : (actL d R nx bk at_ b).toArray.all (·.oneCell') = true := by
  refine all_oneCell_toArray fun v hv => ?_
  unfold actL at hv
  rcases List.mem_cons.1 hv with rfl | hv
  · rfl
  · rcases List.mem_append.1 hv with hv | hv
    · have := recL_one h
      rw [Array.all_eq_true_iff_forall_mem] at this
      exact this v (by simpa using hv)
    · simp only [List.mem_cons, List.not_mem_nil, or_false] at hv
      rcases hv with rfl | rfl | rfl | rfl <;> rfl
theorem store_newA (w : World) (L : List Value) (hL : L.length = 55) (h1 : L.toArray.all (·.oneCell') = true) :
    (storeCells ⟨w.heap.size, 0, none⟩ L).run Try.prog (w.alloc (.cells #[.int .i64 0, .int .u32 0, .int .u32 0, .int .u64 0, .int .u32 0, .int .u64 0, .int .u32 0, .int .u64 0, .int .u32 0, .int .u64 0, .int .u32 0, .int .u64 0, .int .u32 0, .int .u64 0, .int .u32 0, .int .u64 0, .int .u32 0, .int .u64 0, .int .u32 0, .int .u8 0, .int .u8 0, .int .u8 0, .int .u8 0, .int .u8 0, .int .u8 0, .int .u8 0, .int .u8 0, .int .u8 0, .int .u8 0, .int .u8 0, .int .u8 0, .int .u8 0, .int .u8 0, .int .u8 0, .int .u8 0, .int .u8 0, .int .u8 0, .int .u8 0, .int .u8 0, .int .u8 0, .int .u8 0, .int .u8 0, .int .u8 0, .int .u8 0, .int .u8 0, .int .u8 0, .int .u8 0, .int .u8 0, .int .u8 0, .int .u8 0, .int .u8 0, .bool false, .int .i64 0, .int .i64 0, .int .u8 0] 86)) = .ok () ((w.alloc (.cells #[.int .i64 0, .int .u32 0, .int .u32 0, .int .u64 0, .int .u32 0, .int .u64 0, .int .u32 0, .int .u64 0, .int .u32 0, .int .u64 0, .int .u32 0, .int .u64 0, .int .u32 0, .int .u64 0, .int .u32 0, .int .u64 0, .int .u32 0, .int .u64 0, .int .u32 0, .int .u8 0, .int .u8 0, .int .u8 0, .int .u8 0, .int .u8 0, .int .u8 0, .int .u8 0, .int .u8 0, .int .u8 0, .int .u8 0, .int .u8 0, .int .u8 0, .int .u8 0, .int .u8 0, .int .u8 0, .int .u8 0, .int .u8 0, .int .u8 0, .int .u8 0, .int .u8 0, .int .u8 0, .int .u8 0, .int .u8 0, .int .u8 0, .int .u8 0, .int .u8 0, .int .u8 0, .int .u8 0, .int .u8 0, .int .u8 0, .int .u8 0, .int .u8 0, .bool false, .int .i64 0, .int .i64 0, .int .u8 0] 86)).setCells w.heap.size 0 L) ∧
    Below w.heap.size w ((w.alloc (.cells #[.int .i64 0, .int .u32 0, .int .u32 0, .int .u64 0, .int .u32 0, .int .u64 0, .int .u32 0, .int .u64 0, .int .u32 0, .int .u64 0, .int .u32 0, .int .u64 0, .int .u32 0, .int .u64 0, .int .u32 0, .int .u64 0, .int .u32 0, .int .u64 0, .int .u32 0, .int .u8 0, .int .u8 0, .int .u8 0, .int .u8 0, .int .u8 0, .int .u8 0, .int .u8 0, .int .u8 0, .int .u8 0, .int .u8 0, .int .u8 0, .int .u8 0, .int .u8 0, .int .u8 0, .int .u8 0, .int .u8 0, .int .u8 0, .int .u8 0, .int .u8 0, .int .u8 0, .int .u8 0, .int .u8 0, .int .u8 0, .int .u8 0, .int .u8 0, .int .u8 0, .int .u8 0, .int .u8 0, .int .u8 0, .int .u8 0, .int .u8 0, .int .u8 0, .bool false, .int .i64 0, .int .i64 0, .int .u8 0] 86)).setCells w.heap.size 0 L) ∧ ((w.alloc (.cells #[.int .i64 0, .int .u32 0, .int .u32 0, .int .u64 0, .int .u32 0, .int .u64 0, .int .u32 0, .int .u64 0, .int .u32 0, .int .u64 0, .int .u32 0, .int .u64 0, .int .u32 0, .int .u64 0, .int .u32 0, .int .u64 0, .int .u32 0, .int .u64 0, .int .u32 0, .int .u8 0, .int .u8 0, .int .u8 0, .int .u8 0, .int .u8 0, .int .u8 0, .int .u8 0, .int .u8 0, .int .u8 0, .int .u8 0, .int .u8 0, .int .u8 0, .int .u8 0, .int .u8 0, .int .u8 0, .int .u8 0, .int .u8 0, .int .u8 0, .int .u8 0, .int .u8 0, .int .u8 0, .int .u8 0, .int .u8 0, .int .u8 0, .int .u8 0, .int .u8 0, .int .u8 0, .int .u8 0, .int .u8 0, .int .u8 0, .int .u8 0, .int .u8 0, .bool false, .int .i64 0, .int .i64 0, .int .u8 0] 86)).setCells w.heap.size 0 L).rangeAt w.heap.size 0 L ∧
    ((w.alloc (.cells #[.int .i64 0, .int .u32 0, .int .u32 0, .int .u64 0, .int .u32 0, .int .u64 0, .int .u32 0, .int .u64 0, .int .u32 0, .int .u64 0, .int .u32 0, .int .u64 0, .int .u32 0, .int .u64 0, .int .u32 0, .int .u64 0, .int .u32 0, .int .u64 0, .int .u32 0, .int .u8 0, .int .u8 0, .int .u8 0, .int .u8 0, .int .u8 0, .int .u8 0, .int .u8 0, .int .u8 0, .int .u8 0, .int .u8 0, .int .u8 0, .int .u8 0, .int .u8 0, .int .u8 0, .int .u8 0, .int .u8 0, .int .u8 0, .int .u8 0, .int .u8 0, .int .u8 0, .int .u8 0, .int .u8 0, .int .u8 0, .int .u8 0, .int .u8 0, .int .u8 0, .int .u8 0, .int .u8 0, .int .u8 0, .int .u8 0, .int .u8 0, .int .u8 0, .bool false, .int .i64 0, .int .i64 0, .int .u8 0] 86)).setCells w.heap.size 0 L).there w.heap.size 0 55 ∧ w.heap.size < ((w.alloc (.cells #[.int .i64 0, .int .u32 0, .int .u32 0, .int .u64 0, .int .u32 0, .int .u64 0, .int .u32 0, .int .u64 0, .int .u32 0, .int .u64 0, .int .u32 0, .int .u64 0, .int .u32 0, .int .u64 0, .int .u32 0, .int .u64 0, .int .u32 0, .int .u64 0, .int .u32 0, .int .u8 0, .int .u8 0, .int .u8 0, .int .u8 0, .int .u8 0, .int .u8 0, .int .u8 0, .int .u8 0, .int .u8 0, .int .u8 0, .int .u8 0, .int .u8 0, .int .u8 0, .int .u8 0, .int .u8 0, .int .u8 0, .int .u8 0, .int .u8 0, .int .u8 0, .int .u8 0, .int .u8 0, .int .u8 0, .int .u8 0, .int .u8 0, .int .u8 0, .int .u8 0, .int .u8 0, .int .u8 0, .int .u8 0, .int .u8 0, .int .u8 0, .int .u8 0, .bool false, .int .i64 0, .int .i64 0, .int .u8 0] 86)).setCells w.heap.size 0 L).heap.size := by
  have hth := there_new w #[.int .i64 0, .int .u32 0, .int .u32 0, .int .u64 0, .int .u32 0, .int .u64 0, .int .u32 0, .int .u64 0, .int .u32 0, .int .u64 0, .int .u32 0, .int .u64 0, .int .u32 0, .int .u64 0, .int .u32 0, .int .u64 0, .int .u32 0, .int .u64 0, .int .u32 0, .int .u8 0, .int .u8 0, .int .u8 0, .int .u8 0, .int .u8 0, .int .u8 0, .int .u8 0, .int .u8 0, .int .u8 0, .int .u8 0, .int .u8 0, .int .u8 0, .int .u8 0, .int .u8 0, .int .u8 0, .int .u8 0, .int .u8 0, .int .u8 0, .int .u8 0, .int .u8 0, .int .u8 0, .int .u8 0, .int .u8 0, .int .u8 0, .int .u8 0, .int .u8 0, .int .u8 0, .int .u8 0, .int .u8 0, .int .u8 0, .int .u8 0, .int .u8 0, .bool false, .int .i64 0, .int .i64 0, .int .u8 0] 86 55 rfl
  refine ⟨run_storeCells_mid _ w.heap.size 0 L (by rw [hL]; exact hth) h1, ((Below.refl _ _).alloc (Nat.le_refl _) _).trans (below_setCells _ _ _ _ _ (Nat.le_refl _)), World.rangeAt_setCells_same _ _ _ _ (by rw [hL]; exact hth), World.there_setCells hth _ _ _, by rw [size_setCells]; simp⟩
theorem exec_bld0 {o : Oper} {a : Act} (T : TypeId) (ho : o.op = .build T #[]) (v : Value) (hr : ∀ W, (Instr.build T #[]).run Try.prog W = .ok v W) (W : World) : (execOp a.eval o).run Try.prog W = .ok (.value v) W := by
  have hr' := hr W
  unfold execOp
  simp only [ho, Sem.run_bind, Sem.run_pure, Result.andThen_ok, List.map_toArray, List.map_nil, hr']
theorem byte_xor {x y : Nat} (hx : x < 256) (hy : y < 256) : x ^^^ y < 256 := Nat.xor_lt_two_pow (n := 8) hx hy
theorem K_spoil0 {w : World} {s pl pa pb : Nat} {v0 v1 : Value} {x0 x1 : List Nat} {bg : Int} {L A B : List Nat} {W : World} (K : KMem w s pl pa pb v0 v1 x0 x1 bg L A B W) {b : Nat} (hb : b < 256) (i : Nat) (hp : i < x0.length) (iv bv : Int) (hiv : iv = (i : Int)) (hbv : bv = (b : Int)) :
    Calls Try.prog 53 #[.pointer (some ⟨s, 0, none⟩), .int .i64 0, .int .i64 iv, .int .u8 bv] W (fun e W' => e = .returned (.int .i64 0) ∧ KMem w s pl pa pb v0 v1 (x0.set i (x0.getD i 0 ^^^ b)) x1 bg L A B W') := by
  subst hiv
  subst hbv
  obtain ⟨g, cap, rfl, hg, hgl⟩ := own_slice K.o0 (Nat.lt_of_le_of_lt (Nat.zero_le _) hp)
  obtain ⟨p1, p2, p3, p4, p5⟩ := K.ord
  have hy : x0.getD i 0 < 256 := Bts.lt K.o0.bts i
  refine (Spoil_in W s 0 g _ cap i (x0.getD i 0) b _ _ bg K.sto (by omega) (K.sto.at_ 0 (by omega)) hp (K.o0.cell i hp) (K.o0.free i) hy hb).mono ?_
  rintro e W' ⟨rfl, rfl⟩
  have hgr := gr_set W g i (.int .u8 ((x0.getD i 0 ^^^ b : Nat) : Int))
  obtain ⟨q1, q2, q3, q4, q5, q6, q7, q8⟩ := K.rows hgr (fun b e => .inr (by simp at e; omega))
  have n1 : v1.ownBlock = none ∨ v1.ownBlock ≠ some g := .inr (fun e => K.dis g rfl e)
  have h1 := K.o1.kept hgr n1
  have h0 := K.o0.store i (x0.getD i 0 ^^^ b) (byte_xor hy hb)
  exact ⟨rfl, q1, ⟨p1, p2, p3, p4, q2⟩, K.sto.kept hgr (by simp; omega), h0, h1, K.dis, q3, q4, q5, q6, q7, q8⟩
theorem K_spoil1 {w : World} {s pl pa pb : Nat} {v0 v1 : Value} {x0 x1 : List Nat} {bg : Int} {L A B : List Nat} {W : World} (K : KMem w s pl pa pb v0 v1 x0 x1 bg L A B W) {b : Nat} (hb : b < 256) (i : Nat) (hp : i < x1.length) (iv bv : Int) (hiv : iv = (i : Int)) (hbv : bv = (b : Int)) :
    Calls Try.prog 53 #[.pointer (some ⟨s, 0, none⟩), .int .i64 1, .int .i64 iv, .int .u8 bv] W (fun e W' => e = .returned (.int .i64 0) ∧ KMem w s pl pa pb v0 v1 x0 (x1.set i (x1.getD i 0 ^^^ b)) bg L A B W') := by
  subst hiv
  subst hbv
  obtain ⟨g, cap, rfl, hg, hgl⟩ := own_slice K.o1 (Nat.lt_of_le_of_lt (Nat.zero_le _) hp)
  obtain ⟨p1, p2, p3, p4, p5⟩ := K.ord
  have hy : x1.getD i 0 < 256 := Bts.lt K.o1.bts i
  refine (Spoil_in W s 1 g _ cap i (x1.getD i 0) b _ _ bg K.sto (by omega) (K.sto.at_ 1 (by omega)) hp (K.o1.cell i hp) (K.o1.free i) hy hb).mono ?_
  rintro e W' ⟨rfl, rfl⟩
  have hgr := gr_set W g i (.int .u8 ((x1.getD i 0 ^^^ b : Nat) : Int))
  obtain ⟨q1, q2, q3, q4, q5, q6, q7, q8⟩ := K.rows hgr (fun b e => .inr (by simp at e; omega))
  have n1 : v0.ownBlock = none ∨ v0.ownBlock ≠ some g := .inr (fun e => K.dis g e rfl)
  have h1 := K.o0.kept hgr n1
  have h0 := K.o1.store i (x1.getD i 0 ^^^ b) (byte_xor hy hb)
  exact ⟨rfl, q1, ⟨p1, p2, p3, p4, q2⟩, K.sto.kept hgr (by simp; omega), h1, h0, K.dis, q3, q4, q5, q6, q7, q8⟩
/-- The k-th act of those that came in. -/
theorem acts_at {w : World} {a : Option Addr} {len k : Nat} (H : Elems w actK a len) (hk : k < len) :
    ∃ Bq off d R nx bk at_ b, a = some ⟨Bq, off, none⟩ ∧ Bq < w.heap.size ∧ RecOK R ∧ b < 256 ∧ w.rangeAt Bq (off + k * 55) (actL d R nx bk at_ b) := by
  obtain ⟨_, h0 | ⟨Bq, off, rfl, hBq, hcell⟩⟩ := H
  · omega
  · obtain ⟨cs, hic, hcs⟩ := hcell k hk
    obtain ⟨d, R, nx, bk, at_, b, hR, hb, rfl⟩ := act_of hic
    refine ⟨Bq, off, d, R, nx, bk, at_, b, rfl, hBq, hR, hb, fun j v hj => ?_⟩
    have hj55 : j < 55 := by
      have := (List.getElem?_eq_some_iff.1 hj).1
      rwa [actL_length hR.1] at this
    rw [← hj]
    exact hcs j hj55
theorem there_alloc {w : World} {g n : Nat} (h : w.there g 0 n) (hg : g < w.heap.size) (o : Obj) : (w.alloc o).there g 0 n := there_below ((Below.refl w.heap.size w).alloc (Nat.le_refl _) o) hg h
theorem store_three (w A : World) (q : Nat) (hb : Below w.heap.size w A) (hq : w.heap.size ≤ q) (hz : q + 2 < A.heap.size) (t0 : A.there q 0 50) (t1 : A.there (q + 1) 0 50) (t2 : A.there (q + 1 + 1) 0 50) (L : List Value) (hL : L.length = 50) (h1 : L.toArray.all (·.oneCell') = true) :
    (storeCells ⟨q, 0, none⟩ L).run Try.prog A = .ok () (A.setCells q 0 L) ∧
    (storeCells ⟨q + 1, 0, none⟩ L).run Try.prog (A.setCells q 0 L) = .ok () ((A.setCells q 0 L).setCells (q + 1) 0 L) ∧
    (storeCells ⟨q + 1 + 1, 0, none⟩ L).run Try.prog ((A.setCells q 0 L).setCells (q + 1) 0 L) = .ok () (((A.setCells q 0 L).setCells (q + 1) 0 L).setCells (q + 1 + 1) 0 L) ∧
    Below w.heap.size w (((A.setCells q 0 L).setCells (q + 1) 0 L).setCells (q + 1 + 1) 0 L) ∧ q + 2 < (((A.setCells q 0 L).setCells (q + 1) 0 L).setCells (q + 1 + 1) 0 L).heap.size ∧
    ((((A.setCells q 0 L).setCells (q + 1) 0 L).setCells (q + 1 + 1) 0 L).rangeAt q 0 L ∧ (((A.setCells q 0 L).setCells (q + 1) 0 L).setCells (q + 1 + 1) 0 L).rangeAt (q + 1) 0 L ∧ (((A.setCells q 0 L).setCells (q + 1) 0 L).setCells (q + 1 + 1) 0 L).rangeAt (q + 1 + 1) 0 L) ∧
    ((((A.setCells q 0 L).setCells (q + 1) 0 L).setCells (q + 1 + 1) 0 L).there q 0 50 ∧ (((A.setCells q 0 L).setCells (q + 1) 0 L).setCells (q + 1 + 1) 0 L).there (q + 1) 0 50 ∧ (((A.setCells q 0 L).setCells (q + 1) 0 L).setCells (q + 1 + 1) 0 L).there (q + 1 + 1) 0 50) := by
  have a1 := World.there_setCells t1 q 0 L
  have a2 := World.there_setCells t2 q 0 L
  have a3 := World.there_setCells a2 (q + 1) 0 L
  have r0 := World.rangeAt_setCells_same A q 0 L (by rw [hL]; exact t0)
  have r1 := World.rangeAt_setCells_same (A.setCells q 0 L) (q + 1) 0 L (by rw [hL]; exact a1)
  exact ⟨run_storeCells_mid _ _ _ _ (by rw [hL]; exact t0) h1, run_storeCells_mid _ _ _ _ (by rw [hL]; exact a1) h1, run_storeCells_mid _ _ _ _ (by rw [hL]; exact a3) h1,
    ((hb.trans (below_setCells _ _ _ _ _ hq)).trans (below_setCells _ _ _ _ _ (by omega))).trans (below_setCells _ _ _ _ _ (by omega)), by rw [size_setCells, size_setCells, size_setCells]; exact hz,
    ⟨World.rangeAt_setCells_apart (World.rangeAt_setCells_apart r0 _ _ _ (.inl (by omega))) _ _ _ (.inl (by omega)), World.rangeAt_setCells_apart r1 _ _ _ (.inl (by omega)), World.rangeAt_setCells_same _ _ _ _ (by rw [hL]; exact a3)⟩,
    World.there_setCells (World.there_setCells (World.there_setCells t0 _ _ _) _ _ _) _ _ _, World.there_setCells (World.there_setCells a1 _ _ _) _ _ _, World.there_setCells a3 _ _ _⟩
theorem recL_set {R : List Nat} (h : R.length = 50) (n : Nat) : recL (R.set 0 n) = (recL R).set 0 (.int .u32 ((n : Nat) : Int)) := by
  cases R with
  | nil => simp at h
  | cons r R => rfl
theorem set_ok {R : List Nat} (h : RecOK R) {n : Nat} (hn : n < 4294967296) : RecOK (R.set 0 n) ∧ seqOf (R.set 0 n) = n := by
  obtain ⟨hl, hb⟩ := h
  cases R with
  | nil => simp at hl
  | cons r R =>
    refine ⟨⟨by simpa using hl, fun j hj => ?_⟩, rfl⟩
    cases j with
    | zero => show n < 256 ^ 4; omega
    | succ j => exact hb (j + 1) hj
structure KeepAt (w : World) (s pl pa pb k : Nat) (v11 v12 : Value) (W : World) (sq : Nat) (v0 v1 : Value) (x0 x1 : List Nat) (bg : Int) (L A B : List Nat) : Prop where
  k40 : k ≤ 40
  e11 : v11 = .int .u32 ((sq : Nat) : Int)
  e12 : v12 = .int .i64 ((k : Nat) : Int)
  sqk : sq ≤ k
  law : Keep x0 x1 bg L A B sq
  mem : KMem w s pl pa pb v0 v1 x0 x1 bg L A B W
def KeepW (w : World) (s pl pa pb sq : Nat) (W : World) : Prop := ∃ v0 v1 x0 x1 bg L A B, Keep x0 x1 bg L A B sq ∧ KMem w s pl pa pb v0 v1 x0 x1 bg L A B W
def KeepRel (w : World) (s pl pa pb : Nat) (v11 v12 : Value) (W : World) : Prop := ∃ k sq v0 v1 x0 x1 bg L A B, KeepAt w s pl pa pb k v11 v12 W sq v0 v1 x0 x1 bg L A B
end Go.Proofs.Ytjkgodhoonkinaa
