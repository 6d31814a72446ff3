/-
  The walk over frame.Put.
-/
import Derived.Test.YtjkgodhoonkinaaFrmS
import Derived.Deep.CutRange
import Derived.Deep.MidRow
namespace Go.Proofs.Ytjkgodhoonkinaa
open Go.RowKit
set_option linter.unusedVariables false
set_option linter.unusedSimpArgs false

theorem btsTag {w : World} {g off : Nat} (hg : g < w.heap.size) (bs : List Nat) (hb : ∀ x ∈ bs, x < 256) (hl : bs.length = 16) (hc : ∀ i : Nat, i < 16 → w.cell? ⟨g, off + i, none⟩ = some (Value.int IntKind.u8 ((bs.getD i 0 : Nat) : Int))) :
    Bts w (.slice (some ⟨g, off, none⟩) 16 16) bs := ⟨hb, .inr (.inr ⟨g, off, 16, by rw [hl], by omega, by omega, hg, fun i hi => hc i (by omega)⟩)⟩
theorem lenB_lt (s : List Nat) (h : ∀ y ∈ s, y < 256) : ∀ y ∈ lenB s, y < 256 := by
  intro y hy
  unfold lenB at hy
  simp only [List.mem_append, List.mem_singleton] at hy
  rcases hy with rfl | hy
  · omega
  · exact h y hy
def FrAt (W : World) (g : Nat) (k s : Int) (e c : Nat) (bv : Value) (t0 t1 t2 t3 t4 t5 t6 t7 t8 t9 t10 t11 t12 t13 t14 t15 : Nat) : Prop := W.cell? ⟨g, 0, none⟩ = some (.int .i64 k) ∧ W.cell? ⟨g, 1, none⟩ = some (.int .i64 s) ∧ W.cell? ⟨g, 2, none⟩ = some (.int .u32 ((e : Nat) : Int)) ∧ W.cell? ⟨g, 3, none⟩ = some (.int .u64 ((c : Nat) : Int)) ∧ W.cell? ⟨g, 4, none⟩ = some bv ∧ W.cell? ⟨g, 5, none⟩ = some (.int .u8 ((t0 : Nat) : Int)) ∧ W.cell? ⟨g, 6, none⟩ = some (.int .u8 ((t1 : Nat) : Int)) ∧ W.cell? ⟨g, 7, none⟩ = some (.int .u8 ((t2 : Nat) : Int)) ∧ W.cell? ⟨g, 8, none⟩ = some (.int .u8 ((t3 : Nat) : Int)) ∧ W.cell? ⟨g, 9, none⟩ = some (.int .u8 ((t4 : Nat) : Int)) ∧ W.cell? ⟨g, 10, none⟩ = some (.int .u8 ((t5 : Nat) : Int)) ∧ W.cell? ⟨g, 11, none⟩ = some (.int .u8 ((t6 : Nat) : Int)) ∧ W.cell? ⟨g, 12, none⟩ = some (.int .u8 ((t7 : Nat) : Int)) ∧ W.cell? ⟨g, 13, none⟩ = some (.int .u8 ((t8 : Nat) : Int)) ∧ W.cell? ⟨g, 14, none⟩ = some (.int .u8 ((t9 : Nat) : Int)) ∧ W.cell? ⟨g, 15, none⟩ = some (.int .u8 ((t10 : Nat) : Int)) ∧ W.cell? ⟨g, 16, none⟩ = some (.int .u8 ((t11 : Nat) : Int)) ∧ W.cell? ⟨g, 17, none⟩ = some (.int .u8 ((t12 : Nat) : Int)) ∧ W.cell? ⟨g, 18, none⟩ = some (.int .u8 ((t13 : Nat) : Int)) ∧ W.cell? ⟨g, 19, none⟩ = some (.int .u8 ((t14 : Nat) : Int)) ∧ W.cell? ⟨g, 20, none⟩ = some (.int .u8 ((t15 : Nat) : Int))
theorem FrAt.below {B : Nat} {W W' : World} {g : Nat} {k s : Int} {e c : Nat} {bv : Value} {t0 t1 t2 t3 t4 t5 t6 t7 t8 t9 t10 t11 t12 t13 t14 t15 : Nat} (h : FrAt W g k s e c bv t0 t1 t2 t3 t4 t5 t6 t7 t8 t9 t10 t11 t12 t13 t14 t15) (hb : Below B W W') (hg : g < B) : FrAt W' g k s e c bv t0 t1 t2 t3 t4 t5 t6 t7 t8 t9 t10 t11 t12 t13 t14 t15 := by
  unfold FrAt at *
  obtain ⟨f0, f1, f2, f3, f4, f5, f6, f7, f8, f9, f10, f11, f12, f13, f14, f15, f16, f17, f18, f19, f20⟩ := h
  exact ⟨cell_below hb hg f0, cell_below hb hg f1, cell_below hb hg f2, cell_below hb hg f3, cell_below hb hg f4, cell_below hb hg f5, cell_below hb hg f6, cell_below hb hg f7, cell_below hb hg f8, cell_below hb hg f9, cell_below hb hg f10, cell_below hb hg f11, cell_below hb hg f12, cell_below hb hg f13, cell_below hb hg f14, cell_below hb hg f15, cell_below hb hg f16, cell_below hb hg f17, cell_below hb hg f18, cell_below hb hg f19, cell_below hb hg f20⟩
theorem FrAt.lt {W : World} {g : Nat} {k s : Int} {e c : Nat} {bv : Value} {t0 t1 t2 t3 t4 t5 t6 t7 t8 t9 t10 t11 t12 t13 t14 t15 : Nat} (h : FrAt W g k s e c bv t0 t1 t2 t3 t4 t5 t6 t7 t8 t9 t10 t11 t12 t13 t14 t15) : g < W.heap.size := World.block_lt_of_cell? W ⟨g, 0, none⟩ h.1
theorem FrAt.alloc {W : World} {o : Obj} {g : Nat} {k s : Int} {e c : Nat} {bv : Value} {t0 t1 t2 t3 t4 t5 t6 t7 t8 t9 t10 t11 t12 t13 t14 t15 : Nat} (h : FrAt W g k s e c bv t0 t1 t2 t3 t4 t5 t6 t7 t8 t9 t10 t11 t12 t13 t14 t15) : FrAt (W.alloc o) g k s e c bv t0 t1 t2 t3 t4 t5 t6 t7 t8 t9 t10 t11 t12 t13 t14 t15 := h.below ((Below.refl _ W).alloc (Nat.le_refl _) o) h.lt
theorem FrAt.drew {W : World} {g : Nat} {k s : Int} {e c : Nat} {bv : Value} {t0 t1 t2 t3 t4 t5 t6 t7 t8 t9 t10 t11 t12 t13 t14 t15 : Nat} (h : FrAt W g k s e c bv t0 t1 t2 t3 t4 t5 t6 t7 t8 t9 t10 t11 t12 t13 t14 t15) : FrAt W.drew g k s e c bv t0 t1 t2 t3 t4 t5 t6 t7 t8 t9 t10 t11 t12 t13 t14 t15 := h
theorem FrAt.range {W : World} {g : Nat} {k s : Int} {e c : Nat} {bv : Value} {t0 t1 t2 t3 t4 t5 t6 t7 t8 t9 t10 t11 t12 t13 t14 t15 : Nat} (h : FrAt W g k s e c bv t0 t1 t2 t3 t4 t5 t6 t7 t8 t9 t10 t11 t12 t13 t14 t15) : W.rangeAt g 0 [.int .i64 k, .int .i64 s, .int .u32 ((e : Nat) : Int), .int .u64 ((c : Nat) : Int), bv, .int .u8 ((t0 : Nat) : Int), .int .u8 ((t1 : Nat) : Int), .int .u8 ((t2 : Nat) : Int), .int .u8 ((t3 : Nat) : Int), .int .u8 ((t4 : Nat) : Int), .int .u8 ((t5 : Nat) : Int), .int .u8 ((t6 : Nat) : Int), .int .u8 ((t7 : Nat) : Int), .int .u8 ((t8 : Nat) : Int), .int .u8 ((t9 : Nat) : Int), .int .u8 ((t10 : Nat) : Int), .int .u8 ((t11 : Nat) : Int), .int .u8 ((t12 : Nat) : Int), .int .u8 ((t13 : Nat) : Int), .int .u8 ((t14 : Nat) : Int), .int .u8 ((t15 : Nat) : Int)] := by
  unfold FrAt at h
  obtain ⟨f0, f1, f2, f3, f4, f5, f6, f7, f8, f9, f10, f11, f12, f13, f14, f15, f16, f17, f18, f19, f20⟩ := h
  intro j v hj
  rcases j with _ | _ | _ | _ | _ | _ | _ | _ | _ | _ | _ | _ | _ | _ | _ | _ | _ | _ | _ | _ | _ | j
  · cases hj; exact f0
  · cases hj; exact f1
  · cases hj; exact f2
  · cases hj; exact f3
  · cases hj; exact f4
  · cases hj; exact f5
  · cases hj; exact f6
  · cases hj; exact f7
  · cases hj; exact f8
  · cases hj; exact f9
  · cases hj; exact f10
  · cases hj; exact f11
  · cases hj; exact f12
  · cases hj; exact f13
  · cases hj; exact f14
  · cases hj; exact f15
  · cases hj; exact f16
  · cases hj; exact f17
  · cases hj; exact f18
  · cases hj; exact f19
  · cases hj; exact f20
  · simp at hj
theorem run_frame {W : World} {g : Nat} {k s : Int} {e c : Nat} {bv : Value} {t0 t1 t2 t3 t4 t5 t6 t7 t8 t9 t10 t11 t12 t13 t14 t15 : Nat} (h : FrAt W g k s e c bv t0 t1 t2 t3 t4 t5 t6 t7 t8 t9 t10 t11 t12 t13 t14 t15) : (Instr.loadAt 28 (.pointer (some ⟨g, 0, none⟩))).run Try.prog W = .ok (.agg #[.int .i64 k, .int .i64 s, .int .u32 ((e : Nat) : Int), .int .u64 ((c : Nat) : Int), bv, .int .u8 ((t0 : Nat) : Int), .int .u8 ((t1 : Nat) : Int), .int .u8 ((t2 : Nat) : Int), .int .u8 ((t3 : Nat) : Int), .int .u8 ((t4 : Nat) : Int), .int .u8 ((t5 : Nat) : Int), .int .u8 ((t6 : Nat) : Int), .int .u8 ((t7 : Nat) : Int), .int .u8 ((t8 : Nat) : Int), .int .u8 ((t9 : Nat) : Int), .int .u8 ((t10 : Nat) : Int), .int .u8 ((t11 : Nat) : Int), .int .u8 ((t12 : Nat) : Int), .int .u8 ((t13 : Nat) : Int), .int .u8 ((t14 : Nat) : Int), .int .u8 ((t15 : Nat) : Int)]) W := by
  unfold FrAt at h
  obtain ⟨f0, f1, f2, f3, f4, f5, f6, f7, f8, f9, f10, f11, f12, f13, f14, f15, f16, f17, f18, f19, f20⟩ := h
  refine run_loadAt_mid W g 0 28 [.int .i64 k, .int .i64 s, .int .u32 ((e : Nat) : Int), .int .u64 ((c : Nat) : Int), bv, .int .u8 ((t0 : Nat) : Int), .int .u8 ((t1 : Nat) : Int), .int .u8 ((t2 : Nat) : Int), .int .u8 ((t3 : Nat) : Int), .int .u8 ((t4 : Nat) : Int), .int .u8 ((t5 : Nat) : Int), .int .u8 ((t6 : Nat) : Int), .int .u8 ((t7 : Nat) : Int), .int .u8 ((t8 : Nat) : Int), .int .u8 ((t9 : Nat) : Int), .int .u8 ((t10 : Nat) : Int), .int .u8 ((t11 : Nat) : Int), .int .u8 ((t12 : Nat) : Int), .int .u8 ((t13 : Nat) : Int), .int .u8 ((t14 : Nat) : Int), .int .u8 ((t15 : Nat) : Int)] _ (fun j v hj => ?_) Try.underlying28 (by rfl) (by kernel_rfl)
  rcases j with _ | _ | _ | _ | _ | _ | _ | _ | _ | _ | _ | _ | _ | _ | _ | _ | _ | _ | _ | _ | _ | j
  · cases hj; exact f0
  · cases hj; exact f1
  · cases hj; exact f2
  · cases hj; exact f3
  · cases hj; exact f4
  · cases hj; exact f5
  · cases hj; exact f6
  · cases hj; exact f7
  · cases hj; exact f8
  · cases hj; exact f9
  · cases hj; exact f10
  · cases hj; exact f11
  · cases hj; exact f12
  · cases hj; exact f13
  · cases hj; exact f14
  · cases hj; exact f15
  · cases hj; exact f16
  · cases hj; exact f17
  · cases hj; exact f18
  · cases hj; exact f19
  · cases hj; exact f20
  · simp at hj
theorem run_frame' {W : World} {g : Nat} {k s : Int} {e c : Nat} {bv : Value} {t0 t1 t2 t3 t4 t5 t6 t7 t8 t9 t10 t11 t12 t13 t14 t15 : Nat} (h : FrAt W g k s e c bv t0 t1 t2 t3 t4 t5 t6 t7 t8 t9 t10 t11 t12 t13 t14 t15) : (loadVar 28 ⟨g, 0, none⟩).run Try.prog W = .ok (.agg #[.int .i64 k, .int .i64 s, .int .u32 ((e : Nat) : Int), .int .u64 ((c : Nat) : Int), bv, .int .u8 ((t0 : Nat) : Int), .int .u8 ((t1 : Nat) : Int), .int .u8 ((t2 : Nat) : Int), .int .u8 ((t3 : Nat) : Int), .int .u8 ((t4 : Nat) : Int), .int .u8 ((t5 : Nat) : Int), .int .u8 ((t6 : Nat) : Int), .int .u8 ((t7 : Nat) : Int), .int .u8 ((t8 : Nat) : Int), .int .u8 ((t9 : Nat) : Int), .int .u8 ((t10 : Nat) : Int), .int .u8 ((t11 : Nat) : Int), .int .u8 ((t12 : Nat) : Int), .int .u8 ((t13 : Nat) : Int), .int .u8 ((t14 : Nat) : Int), .int .u8 ((t15 : Nat) : Int)]) W := by
  have := run_frame h
  simpa only [Instr.loadAt, Instr.sureAddr, Sem.run_bind, Sem.run_pure, Result.andThen_ok] using this
theorem FrAt.tag {W : World} {g : Nat} {k s : Int} {e c : Nat} {bv : Value} {t0 t1 t2 t3 t4 t5 t6 t7 t8 t9 t10 t11 t12 t13 t14 t15 : Nat} (h : FrAt W g k s e c bv t0 t1 t2 t3 t4 t5 t6 t7 t8 t9 t10 t11 t12 t13 t14 t15) (ht : ∀ x ∈ [t0, t1, t2, t3, t4, t5, t6, t7, t8, t9, t10, t11, t12, t13, t14, t15], x < 256) : Bts W (.slice (some ⟨g, 5, none⟩) 16 16) [t0, t1, t2, t3, t4, t5, t6, t7, t8, t9, t10, t11, t12, t13, t14, t15] := by
  refine btsTag h.lt [t0, t1, t2, t3, t4, t5, t6, t7, t8, t9, t10, t11, t12, t13, t14, t15] ht rfl (fun i hi => ?_)
  unfold FrAt at h
  obtain ⟨f0, f1, f2, f3, f4, f5, f6, f7, f8, f9, f10, f11, f12, f13, f14, f15, f16, f17, f18, f19, f20⟩ := h
  rcases i with _ | _ | _ | _ | _ | _ | _ | _ | _ | _ | _ | _ | _ | _ | _ | _ | i
  · exact f5
  · exact f6
  · exact f7
  · exact f8
  · exact f9
  · exact f10
  · exact f11
  · exact f12
  · exact f13
  · exact f14
  · exact f15
  · exact f16
  · exact f17
  · exact f18
  · exact f19
  · exact f20
  · omega
set_option maxRecDepth 100000 in
theorem fPut_bad (k s : Int) (e c : Nat) (bv : Value) (body : List Nat) (t0 t1 t2 t3 t4 t5 t6 t7 t8 t9 t10 t11 t12 t13 t14 t15 : Nat) (w : World) (hv : Bts w bv body) (he : (octB k && octB s) = false) :
    Calls Try.prog 22 #[.agg #[.int .i64 k, .int .i64 s, .int .u32 ((e : Nat) : Int), .int .u64 ((c : Nat) : Int), bv, .int .u8 ((t0 : Nat) : Int), .int .u8 ((t1 : Nat) : Int), .int .u8 ((t2 : Nat) : Int), .int .u8 ((t3 : Nat) : Int), .int .u8 ((t4 : Nat) : Int), .int .u8 ((t5 : Nat) : Int), .int .u8 ((t6 : Nat) : Int), .int .u8 ((t7 : Nat) : Int), .int .u8 ((t8 : Nat) : Int), .int .u8 ((t9 : Nat) : Int), .int .u8 ((t10 : Nat) : Int), .int .u8 ((t11 : Nat) : Int), .int .u8 ((t12 : Nat) : Int), .int .u8 ((t13 : Nat) : Int), .int .u8 ((t14 : Nat) : Int), .int .u8 ((t15 : Nat) : Int)]] w (Gives w (.tuple #[.slice none 0 0, .int .i64 2])) := by
  obtain ⟨va, vn, vc, rfl⟩ := hv.slice
  have hq := Lib.hid (fun (W : World) (g : Nat) h0 h1 => octets_any k s g W h0 h1)
  rw [he] at hq
  clear hv he
  go_enter Try.func22, Try.ntmps22
  go_wp2_with (go_at_call 64; with_reducible refine Calls.tells (hq.out _ _ (by simp) (by simp)) ?_)
  go_ret2
  exact Gives.mk rfl (by (repeat (first | (with_reducible exact Below.refl _ _) | (with_reducible assumption) | (with_reducible refine Below.alloc ?_ (by (repeat (first | (with_reducible exact Nat.le_refl _) | (with_reducible assumption) | (with_reducible refine le_up ?_) | (with_reducible refine le_alloc ?_) | (with_reducible refine le_setCell ?_) | (with_reducible refine le_drew ?_) | (with_reducible refine le_drewN ?_) | omega))) _) | (with_reducible refine Below.drew ?_) | (with_reducible refine Below.drewN ?_ _) | (with_reducible refine Below.setCell ?_ (by (repeat (first | (with_reducible exact Nat.le_refl _) | (with_reducible assumption) | (with_reducible refine le_up ?_) | (with_reducible refine le_alloc ?_) | (with_reducible refine le_setCell ?_) | (with_reducible refine le_drew ?_) | (with_reducible refine le_drewN ?_) | omega))) _) | (with_reducible refine Below.up ?_ (by (repeat (first | (with_reducible exact Nat.le_refl _) | (with_reducible assumption) | (with_reducible refine le_up ?_) | (with_reducible refine le_alloc ?_) | (with_reducible refine le_setCell ?_) | (with_reducible refine le_drew ?_) | (with_reducible refine le_drewN ?_) | omega)))))))
set_option maxRecDepth 100000 in
theorem fPut_long (k s : Int) (e c : Nat) (bv : Value) (body : List Nat) (t0 t1 t2 t3 t4 t5 t6 t7 t8 t9 t10 t11 t12 t13 t14 t15 : Nat) (w : World) (hv : Bts w bv body) (he : (octB k && octB s) = true) (hl : 48 < body.length) :
    Calls Try.prog 22 #[.agg #[.int .i64 k, .int .i64 s, .int .u32 ((e : Nat) : Int), .int .u64 ((c : Nat) : Int), bv, .int .u8 ((t0 : Nat) : Int), .int .u8 ((t1 : Nat) : Int), .int .u8 ((t2 : Nat) : Int), .int .u8 ((t3 : Nat) : Int), .int .u8 ((t4 : Nat) : Int), .int .u8 ((t5 : Nat) : Int), .int .u8 ((t6 : Nat) : Int), .int .u8 ((t7 : Nat) : Int), .int .u8 ((t8 : Nat) : Int), .int .u8 ((t9 : Nat) : Int), .int .u8 ((t10 : Nat) : Int), .int .u8 ((t11 : Nat) : Int), .int .u8 ((t12 : Nat) : Int), .int .u8 ((t13 : Nat) : Int), .int .u8 ((t14 : Nat) : Int), .int .u8 ((t15 : Nat) : Int)]] w (Gives w (.tuple #[.slice none 0 0, .int .i64 3])) := by
  obtain ⟨va, vn, vc, rfl⟩ := hv.slice
  obtain rfl := hv.len
  have hq := Lib.hid (fun (W : World) (g : Nat) h0 h1 => octets_any k s g W h0 h1)
  rw [he] at hq
  have hI : (48 : Int) < (body.length : Int) := by omega
  clear hv he
  go_enter Try.func22, Try.ntmps22
  go_wp2_with (go_at_call 64; with_reducible refine Calls.tells (hq.out _ _ (by simp) (by simp)) ?_)
  go_ret2
  exact Gives.mk rfl (by (repeat (first | (with_reducible exact Below.refl _ _) | (with_reducible assumption) | (with_reducible refine Below.alloc ?_ (by (repeat (first | (with_reducible exact Nat.le_refl _) | (with_reducible assumption) | (with_reducible refine le_up ?_) | (with_reducible refine le_alloc ?_) | (with_reducible refine le_setCell ?_) | (with_reducible refine le_drew ?_) | (with_reducible refine le_drewN ?_) | omega))) _) | (with_reducible refine Below.drew ?_) | (with_reducible refine Below.drewN ?_ _) | (with_reducible refine Below.setCell ?_ (by (repeat (first | (with_reducible exact Nat.le_refl _) | (with_reducible assumption) | (with_reducible refine le_up ?_) | (with_reducible refine le_alloc ?_) | (with_reducible refine le_setCell ?_) | (with_reducible refine le_drew ?_) | (with_reducible refine le_drewN ?_) | omega))) _) | (with_reducible refine Below.up ?_ (by (repeat (first | (with_reducible exact Nat.le_refl _) | (with_reducible assumption) | (with_reducible refine le_up ?_) | (with_reducible refine le_alloc ?_) | (with_reducible refine le_setCell ?_) | (with_reducible refine le_drew ?_) | (with_reducible refine le_drewN ?_) | omega)))))))
/-- Behind Put: the bytes, no error. -/
def GivesPut (w : World) (bs : List Nat) (e : Ending) (w' : World) : Prop := ∃ g cap, e = .returned (.tuple #[.slice (some ⟨g, 0, none⟩) bs.length cap, .int .i64 0]) ∧ w.heap.size ≤ g ∧ g < w'.heap.size ∧ OwnB w' w.heap.size (.slice (some ⟨g, 0, none⟩) bs.length cap) bs ∧ Below w.heap.size w w'
theorem length_putB' (bs : List Nat) : (putB bs).length = bs.length + 4 := putB_length bs
set_option maxRecDepth 100000 in
set_option maxHeartbeats 3200000 in
theorem fPut_good (k s : Int) (e c : Nat) (bv : Value) (body : List Nat) (t0 t1 t2 t3 t4 t5 t6 t7 t8 t9 t10 t11 t12 t13 t14 t15 : Nat) (w : World) (hv : Bts w bv body) (hoc : (octB k && octB s) = true) (hl : body.length ≤ 48) (he : e < 4294967296) (hc : c < 18446744073709551616) (ht : ∀ x ∈ [t0, t1, t2, t3, t4, t5, t6, t7, t8, t9, t10, t11, t12, t13, t14, t15], x < 256) :
    Calls Try.prog 22 #[.agg #[.int .i64 k, .int .i64 s, .int .u32 ((e : Nat) : Int), .int .u64 ((c : Nat) : Int), bv, .int .u8 ((t0 : Nat) : Int), .int .u8 ((t1 : Nat) : Int), .int .u8 ((t2 : Nat) : Int), .int .u8 ((t3 : Nat) : Int), .int .u8 ((t4 : Nat) : Int), .int .u8 ((t5 : Nat) : Int), .int .u8 ((t6 : Nat) : Int), .int .u8 ((t7 : Nat) : Int), .int .u8 ((t8 : Nat) : Int), .int .u8 ((t9 : Nat) : Int), .int .u8 ((t10 : Nat) : Int), .int .u8 ((t11 : Nat) : Int), .int .u8 ((t12 : Nat) : Int), .int .u8 ((t13 : Nat) : Int), .int .u8 ((t14 : Nat) : Int), .int .u8 ((t15 : Nat) : Int)]] w (GivesPut w (putF ⟨k, s, e, c, body, [t0, t1, t2, t3, t4, t5, t6, t7, t8, t9, t10, t11, t12, t13, t14, t15]⟩)) := by
  obtain ⟨va, vn, vc, rfl⟩ := hv.slice
  obtain rfl := hv.len
  have HBV := Lib.hid hv
  have hq := Lib.hid (fun (W : World) (g : Nat) h0 h1 => octets_any k s g W h0 h1)
  rw [hoc] at hq
  have hI : ¬ (48 : Int) < (body.length : Int) := by omega
  have HTT := Lib.hid ht
  obtain ⟨S, hS⟩ : ∃ S, S = signedB ⟨k, s, e, c, body, []⟩ ++ [t0, t1, t2, t3, t4, t5, t6, t7, t8, t9, t10, t11, t12, t13, t14, t15] := ⟨_, rfl⟩
  obtain ⟨R, hR⟩ : ∃ R, R = [165, 90] ++ putB (lenB S) := ⟨_, rfl⟩
  have hXn : S.length = 30 + body.length := by rw [hS, List.length_append, signedB_length]; simp; omega
  have hX := Lib.hid hXn
  have hw8 : IntKind.u8.wrap ((S.length : Nat) : Int) = ((S.length : Nat) : Int) := by rw [hXn]; simp [IntKind.wrap, IntKind.bits, IntKind.signed]; omega
  have hXl := Lib.hid (show (signedB ⟨k, s, e, c, body, []⟩).length + ([t0, t1, t2, t3, t4, t5, t6, t7, t8, t9, t10, t11, t12, t13, t14, t15] : List Nat).length ≤ 2000000 by rw [signedB_length]; simp; omega)
  have hpf : putF ⟨k, s, e, c, body, [t0, t1, t2, t3, t4, t5, t6, t7, t8, t9, t10, t11, t12, t13, t14, t15]⟩ = R := by rw [hR, hS]; rfl
  rw [hpf]
  have HS := Lib.hid hS
  have HR := Lib.hid hR
  clear hS hR hXn
  clear hpf hv ht hoc
  go_enter Try.func22, Try.ntmps22
  go_upto_region 5 with (go_at_call 64; with_reducible refine Calls.tells (hq.out _ _ (by simp) (by simp)) ?_)
  refine wp_gen (fun W => (Below w.heap.size w W ∧ w.heap.size < W.heap.size) ∧ FrAt W w.heap.size k s e c (.slice va body.length vc) t0 t1 t2 t3 t4 t5 t6 t7 t8 t9 t10 t11 t12 t13 t14 t15) ⟨⟨by (repeat (first | (with_reducible exact Below.refl _ _) | (with_reducible assumption) | (with_reducible refine Below.alloc ?_ (by (repeat (first | (with_reducible exact Nat.le_refl _) | (with_reducible assumption) | (with_reducible refine le_up ?_) | (with_reducible refine le_alloc ?_) | (with_reducible refine le_setCell ?_) | (with_reducible refine le_drew ?_) | (with_reducible refine le_drewN ?_) | omega))) _) | (with_reducible refine Below.drew ?_) | (with_reducible refine Below.drewN ?_ _) | (with_reducible refine Below.setCell ?_ (by (repeat (first | (with_reducible exact Nat.le_refl _) | (with_reducible assumption) | (with_reducible refine le_up ?_) | (with_reducible refine le_alloc ?_) | (with_reducible refine le_setCell ?_) | (with_reducible refine le_drew ?_) | (with_reducible refine le_drewN ?_) | omega))) _) | (with_reducible refine Below.up ?_ (by (repeat (first | (with_reducible exact Nat.le_refl _) | (with_reducible assumption) | (with_reducible refine le_up ?_) | (with_reducible refine le_alloc ?_) | (with_reducible refine le_setCell ?_) | (with_reducible refine le_drew ?_) | (with_reducible refine le_drewN ?_) | omega)))))), by simp; omega⟩, by simp, by simp, by simp, by simp, by simp, by simp, by simp, by simp, by simp, by simp, by simp, by simp, by simp, by simp, by simp, by simp, by simp, by simp, by simp, by simp, by simp⟩ ?_
  rintro w5 ⟨⟨hb5, hl5⟩, hfr⟩
  haveI : LtSize w.heap.size w5 := ⟨hl5⟩
  have HB5 := Lib.hid hb5
  have HC5 := Lib.hid hfr
  have HTAG := Lib.hid (hfr.tag HTT.out)
  have HBV5 := Lib.hid (HBV.out.below hb5)
  clear hb5 hfr
  refine wp_region_held_drew (S := fun W => FrAt W w.heap.size k s e c (.slice va body.length vc) t0 t1 t2 t3 t4 t5 t6 t7 t8 t9 t10 t11 t12 t13 t14 t15) (by kernel_rfl) HC5.out.drew (fun hHeld => ?_)
  refine wpAnyH_take (i := 0) (v := .agg (List.toArray [.int .i64 k, .int .i64 s, .int .u32 ((e : Nat) : Int), .int .u64 ((c : Nat) : Int), (.slice va body.length vc), .int .u8 ((t0 : Nat) : Int), .int .u8 ((t1 : Nat) : Int), .int .u8 ((t2 : Nat) : Int), .int .u8 ((t3 : Nat) : Int), .int .u8 ((t4 : Nat) : Int), .int .u8 ((t5 : Nat) : Int), .int .u8 ((t6 : Nat) : Int), .int .u8 ((t7 : Nat) : Int), .int .u8 ((t8 : Nat) : Int), .int .u8 ((t9 : Nat) : Int), .int .u8 ((t10 : Nat) : Int), .int .u8 ((t11 : Nat) : Int), .int .u8 ((t12 : Nat) : Int), .int .u8 ((t13 : Nat) : Int), .int .u8 ((t14 : Nat) : Int), .int .u8 ((t15 : Nat) : Int)])) rfl (by kernel_rfl) (by kernel_rfl) (by kernel_rfl) (fun _ _ _ h => h) (yieldsIf_load_mid (by rfl) _ _ rfl _ _ rfl _ _ (fun W hW => FrAt.range hW) Try.underlying28 (by rfl) (by kernel_rfl)) hHeld ?_
  simp only [Act.put, List.setIfInBounds_toArray, List.set_cons_zero, List.set_cons_succ]
  refine wpAnyH_take (i := 2) (v := ?v2) rfl (by kernel_rfl) (by kernel_rfl) (by kernel_rfl) (fun _ _ _ h => h) (Or.inl ⟨by rfl, ?h2⟩) hHeld ?r2
  case h2 =>
    intro W hW
    clear hW
    go_simp
    with_reducible rfl
  simp only [Act.put, List.setIfInBounds_toArray, List.set_cons_zero, List.set_cons_succ]
  refine wpAnyH_take (i := 3) (v := ?v3) rfl (by kernel_rfl) (by kernel_rfl) (by kernel_rfl) (fun _ _ _ h => h) (Or.inl ⟨by rfl, ?h3⟩) hHeld ?r3
  case h3 =>
    intro W hW
    clear hW
    go_simp
    with_reducible rfl
  simp only [Act.put, List.setIfInBounds_toArray, List.set_cons_zero, List.set_cons_succ]
  refine wpAnyH_ready (rs := [1]) (by kernel_rfl) (by simp) ?_
  refine AllReadyH.cons rfl (fun K hK => ?_) AllReadyH.nil
  go_simp
  go_at_call 26
  refine (Signed_any k s e c _ body t0 t1 t2 t3 t4 t5 t6 t7 t8 t9 t10 t11 t12 t13 t14 t15 _ HBV5.out.drew he hc (by omega)).mono ?_
  rintro e6 w6 hg6
  have hg6' := hg6.toB (by rw [signedB_length]; omega)
  obtain ⟨g6, c6, rfl, hge6, hlt6, ho6, hb6⟩ := hg6'
  have HC6 := Lib.hid (HC5.out.drew.below hb6 hl5)
  have T6 := Lib.hid ho6.bts
  have B6 := Lib.hid hb6
  have HT6 := Lib.hid ((HTAG.out.drew).below hb6)
  have b6 : Below w.heap.size w w6 := Below.trans HB5.out.drew (hb6.mono (by simpa using Nat.le_of_lt hl5))
  clear ho6 hb6 hg6
  go_simp
  refine hK.out _ _ HC6.out (fun hHeld6 => ?_)
  clear hK K hHeld
  refine wpAnyH_ready (rs := [4]) (by kernel_rfl) (by simp) ?_
  refine AllReadyH.cons rfl (fun K hK => ?_) AllReadyH.nil
  go_simp
  refine hK.out _ _ HC6.out.alloc (fun hHeld7 => ?_)
  clear hK K hHeld6
  refine wpAnyH_ready (rs := [5]) (by kernel_rfl) (by simp) ?_
  refine AllReadyH.cons rfl (fun K hK => ?_) AllReadyH.nil
  go_simp
  go_at_call 65
  refine (Concat_pair (b1 := signedB ⟨k, s, e, c, body, []⟩) (b2 := [t0, t1, t2, t3, t4, t5, t6, t7, t8, t9, t10, t11, t12, t13, t14, t15]) T6.out HT6.out hXl.out).mono ?_
  rintro e7 w7 hg7
  rw [← HS.out] at hg7
  have hg8 := hg7.toB (by rw [hX.out]; omega)
  obtain ⟨g7, c7, rfl, hge7, hlt7, ho7, hb7⟩ := hg8
  have HC7 := Lib.hid (HC6.out.alloc.below hb7 HC6.out.alloc.lt)
  have T7 := Lib.hid ho7.bts
  have b7 : Below w.heap.size w w7 := Below.trans (b6.alloc b6.size _) (hb7.mono (by have := b6.size; simp; omega))
  clear ho7 hb7 hg7
  go_simp
  refine hK.out _ _ HC7.out (fun hHeld8 => ?_)
  clear hK K hHeld7
  refine wpAnyH_take (i := 6) (v := ?v6) rfl (by kernel_rfl) (by kernel_rfl) (by kernel_rfl) (fun _ _ _ h => h) (Or.inl ⟨by rfl, ?h6⟩) hHeld8 ?r6
  case h6 =>
    intro W hW
    clear hW
    go_simp
    with_reducible rfl
  simp only [Act.put, List.setIfInBounds_toArray, List.set_cons_zero, List.set_cons_succ]
  refine wpAnyH_done (by kernel_rfl) ?_ _
  have H7 := Lib.hid (show Below w.heap.size w w7 ∧ w.heap.size < w7.heap.size ∧ Bts w7 (.slice (some ⟨g7, 0, none⟩) S.length c7) S from ⟨b7, Nat.lt_of_le_of_lt (by have := b6.size; simp at hge7; omega) hlt7, T7.out⟩)
  clear hHeld8 HC7 HC6 HC5 T7 T6 HT6 HTAG HBV5 B6 b6 b7 HBV
  go_upto_region 7 with (first | (go_at_call 65; refine (Concat_pair (b1 := [S.length % 256]) (b2 := S) (Bts.lit (by simp [byteVs]; have := hX.out; omega) (by simp; omega) (by simp) _ rfl) H7.out.2.2.alloc (by simp; have := hX.out; omega)).mono ?_; rintro e8 w8 hg8; have hg8' := (hg8.of_below (w := w) (by have := H7.out.1; have := H7.out.2.1; (repeat (first | (with_reducible exact Below.refl _ _) | (with_reducible assumption) | (with_reducible refine Below.alloc ?_ (by (repeat (first | (with_reducible exact Nat.le_refl _) | (with_reducible assumption) | (with_reducible refine le_up ?_) | (with_reducible refine le_alloc ?_) | (with_reducible refine le_setCell ?_) | (with_reducible refine le_drew ?_) | (with_reducible refine le_drewN ?_) | omega))) _) | (with_reducible refine Below.drew ?_) | (with_reducible refine Below.drewN ?_ _) | (with_reducible refine Below.setCell ?_ (by (repeat (first | (with_reducible exact Nat.le_refl _) | (with_reducible assumption) | (with_reducible refine le_up ?_) | (with_reducible refine le_alloc ?_) | (with_reducible refine le_setCell ?_) | (with_reducible refine le_drew ?_) | (with_reducible refine le_drewN ?_) | omega))) _) | (with_reducible refine Below.up ?_ (by (repeat (first | (with_reducible exact Nat.le_refl _) | (with_reducible assumption) | (with_reducible refine le_up ?_) | (with_reducible refine le_alloc ?_) | (with_reducible refine le_setCell ?_) | (with_reducible refine le_drew ?_) | (with_reducible refine le_drewN ?_) | omega)))))))).toB (by simp); obtain ⟨g8, c8, rfl, hge8, hlt8, ho8, hb8⟩ := hg8'; have T8 := Lib.hid (show Bts w8 (.slice (some ⟨g8, 0, none⟩) (S.length + 1) c8) (lenB S) from by have := ho8.bts; simpa [lenB] using this); have B8 := Lib.hid hb8; clear hg8 ho8 hb8))
  go_at_call 66
  refine (Put_any _ (lenB S) _ T8.out (by unfold lenB; simp; have := hX.out; omega)).mono ?_
  rintro e9 w9 hg9
  obtain ⟨g9, c9, rfl, hge9, hlt9, ho9, hb9⟩ := hg9
  have T9 := Lib.hid ho9.bts
  have B9 := Lib.hid (B8.out.trans (hb9.mono B8.out.size))
  clear ho9 hb9
  go_upto_region 7 with fail
  have hPl : (putB (lenB S)).length = 35 + body.length := by rw [putB_length]; unfold lenB; rw [List.length_append, hX.out]; simp; omega
  have hP := Lib.hid hPl
  clear hPl
  have B9' := Lib.hid B9.out
  refine wp_gen (fun W => Below w.heap.size w W ∧ Bts W (.slice (some ⟨g9, 0, none⟩) (putB (lenB S)).length c9) (putB (lenB S))) ⟨B9.out, T9.out⟩ ?_
  rintro w10 ⟨hb10, ht10⟩
  have H10 := Lib.hid (And.intro hb10 ht10)
  clear hb10 ht10
  obtain ⟨P, hPP⟩ : ∃ P, P = putB (lenB S) := ⟨_, rfl⟩
  rw [← hPP] at hP H10 HR ⊢
  clear hPP
  go_wp2_with (go_at_call 65; refine (Concat_pair (b1 := [165, 90]) (b2 := P) (Bts.lit (by simp [byteVs]) (by simp) (by simp) _ rfl) H10.out.2.alloc (by simp; have := hP.out; omega)).mono ?_; rintro e11 w11 hg11; rw [← HR.out] at hg11; have hg11' := (hg11.of_below (w := w) (by have h10 := H10.out.1; have h10s := h10.size; (repeat (first | (with_reducible exact Below.refl _ _) | (with_reducible assumption) | (with_reducible refine Below.alloc ?_ (by (repeat (first | (with_reducible exact Nat.le_refl _) | (with_reducible assumption) | (with_reducible refine le_up ?_) | (with_reducible refine le_alloc ?_) | (with_reducible refine le_setCell ?_) | (with_reducible refine le_drew ?_) | (with_reducible refine le_drewN ?_) | omega))) _) | (with_reducible refine Below.drew ?_) | (with_reducible refine Below.drewN ?_ _) | (with_reducible refine Below.setCell ?_ (by (repeat (first | (with_reducible exact Nat.le_refl _) | (with_reducible assumption) | (with_reducible refine le_up ?_) | (with_reducible refine le_alloc ?_) | (with_reducible refine le_setCell ?_) | (with_reducible refine le_drew ?_) | (with_reducible refine le_drewN ?_) | omega))) _) | (with_reducible refine Below.up ?_ (by (repeat (first | (with_reducible exact Nat.le_refl _) | (with_reducible assumption) | (with_reducible refine le_up ?_) | (with_reducible refine le_alloc ?_) | (with_reducible refine le_setCell ?_) | (with_reducible refine le_drew ?_) | (with_reducible refine le_drewN ?_) | omega)))))))).toB (by rw [HR.out]; simp); obtain ⟨g11, c11, rfl, hge11, hlt11, ho11, hb11⟩ := hg11'; have G11 := Lib.hid (And.intro ho11 hb11); clear hg11 ho11 hb11)
  go_ret2
  exact ⟨g11, c11, rfl, hge11, hlt11, G11.out.1, G11.out.2⟩
end Go.Proofs.Ytjkgodhoonkinaa
