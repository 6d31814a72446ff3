/-
  The walk over frame.Read, its good way.
-/
import Derived.Test.YtjkgodhoonkinaaFrmR
import Derived.Test.YtjkgodhoonkinaaFrmD
namespace Go.Proofs.Ytjkgodhoonkinaa
open Go.RowKit
set_option linter.unusedVariables false

theorem Tells.still {P : Program} {f : FuncId} {args : Array Value} {w : World} {v : Value} (h : Calls P f args w (Tells w v)) : Calls P f args w (fun e w' => e = .returned v ∧ w' = w) := h.mono fun _ _ ⟨h1, h2⟩ => ⟨h1, h2.symm⟩
theorem there_at {g : Nat} (w : World) [hg : AtSize g w] (C : Array Value) (t : TypeId) (n : Nat) (hn : C.size = n) : (w.alloc (.cells C t)).there g 0 n := by
  have := there_new w C t n hn
  rwa [hg.at_] at this
theorem there_set {w : World} {g n b o : Nat} (h : w.there g 0 n) (v : Value) : (w.setCell ⟨b, o, none⟩ v).there g 0 n := World.there_setCells h b o [v]
theorem FrAt.set0 {W : World} {g : Nat} {k s : Int} {e c : Nat} {bv : Value} {t0 t1 t2 t3 t4 t5 t6 t7 t8 t9 t10 t11 t12 t13 t14 t15 : Nat} (h : FrAt W g k s e c bv t0 t1 t2 t3 t4 t5 t6 t7 t8 t9 t10 t11 t12 t13 t14 t15) (x : Int) : FrAt (W.setCell ⟨g, 0, none⟩ (.int .i64 x)) g x s e c bv t0 t1 t2 t3 t4 t5 t6 t7 t8 t9 t10 t11 t12 t13 t14 t15 := by
  unfold FrAt at *
  obtain ⟨f0, f1, f2, f3, f4, f5, f6, f7, f8, f9, f10, f11, f12, f13, f14, f15, f16, f17, f18, f19, f20⟩ := h
  exact ⟨World.cell?_setCell_same _ _ _ f0, (World.cell?_setCell_other _ _ _ _ (by simp)).trans f1, (World.cell?_setCell_other _ _ _ _ (by simp)).trans f2, (World.cell?_setCell_other _ _ _ _ (by simp)).trans f3, (World.cell?_setCell_other _ _ _ _ (by simp)).trans f4, (World.cell?_setCell_other _ _ _ _ (by simp)).trans f5, (World.cell?_setCell_other _ _ _ _ (by simp)).trans f6, (World.cell?_setCell_other _ _ _ _ (by simp)).trans f7, (World.cell?_setCell_other _ _ _ _ (by simp)).trans f8, (World.cell?_setCell_other _ _ _ _ (by simp)).trans f9, (World.cell?_setCell_other _ _ _ _ (by simp)).trans f10, (World.cell?_setCell_other _ _ _ _ (by simp)).trans f11, (World.cell?_setCell_other _ _ _ _ (by simp)).trans f12, (World.cell?_setCell_other _ _ _ _ (by simp)).trans f13, (World.cell?_setCell_other _ _ _ _ (by simp)).trans f14, (World.cell?_setCell_other _ _ _ _ (by simp)).trans f15, (World.cell?_setCell_other _ _ _ _ (by simp)).trans f16, (World.cell?_setCell_other _ _ _ _ (by simp)).trans f17, (World.cell?_setCell_other _ _ _ _ (by simp)).trans f18, (World.cell?_setCell_other _ _ _ _ (by simp)).trans f19, (World.cell?_setCell_other _ _ _ _ (by simp)).trans f20⟩
theorem FrAt.set1 {W : World} {g : Nat} {k s : Int} {e c : Nat} {bv : Value} {t0 t1 t2 t3 t4 t5 t6 t7 t8 t9 t10 t11 t12 t13 t14 t15 : Nat} (h : FrAt W g k s e c bv t0 t1 t2 t3 t4 t5 t6 t7 t8 t9 t10 t11 t12 t13 t14 t15) (x : Int) : FrAt (W.setCell ⟨g, 1, none⟩ (.int .i64 x)) g k x e c bv t0 t1 t2 t3 t4 t5 t6 t7 t8 t9 t10 t11 t12 t13 t14 t15 := by
  unfold FrAt at *
  obtain ⟨f0, f1, f2, f3, f4, f5, f6, f7, f8, f9, f10, f11, f12, f13, f14, f15, f16, f17, f18, f19, f20⟩ := h
  exact ⟨(World.cell?_setCell_other _ _ _ _ (by simp)).trans f0, World.cell?_setCell_same _ _ _ f1, (World.cell?_setCell_other _ _ _ _ (by simp)).trans f2, (World.cell?_setCell_other _ _ _ _ (by simp)).trans f3, (World.cell?_setCell_other _ _ _ _ (by simp)).trans f4, (World.cell?_setCell_other _ _ _ _ (by simp)).trans f5, (World.cell?_setCell_other _ _ _ _ (by simp)).trans f6, (World.cell?_setCell_other _ _ _ _ (by simp)).trans f7, (World.cell?_setCell_other _ _ _ _ (by simp)).trans f8, (World.cell?_setCell_other _ _ _ _ (by simp)).trans f9, (World.cell?_setCell_other _ _ _ _ (by simp)).trans f10, (World.cell?_setCell_other _ _ _ _ (by simp)).trans f11, (World.cell?_setCell_other _ _ _ _ (by simp)).trans f12, (World.cell?_setCell_other _ _ _ _ (by simp)).trans f13, (World.cell?_setCell_other _ _ _ _ (by simp)).trans f14, (World.cell?_setCell_other _ _ _ _ (by simp)).trans f15, (World.cell?_setCell_other _ _ _ _ (by simp)).trans f16, (World.cell?_setCell_other _ _ _ _ (by simp)).trans f17, (World.cell?_setCell_other _ _ _ _ (by simp)).trans f18, (World.cell?_setCell_other _ _ _ _ (by simp)).trans f19, (World.cell?_setCell_other _ _ _ _ (by simp)).trans f20⟩
theorem FrAt.set2 {W : World} {g : Nat} {k s : Int} {e c : Nat} {bv : Value} {t0 t1 t2 t3 t4 t5 t6 t7 t8 t9 t10 t11 t12 t13 t14 t15 : Nat} (h : FrAt W g k s e c bv t0 t1 t2 t3 t4 t5 t6 t7 t8 t9 t10 t11 t12 t13 t14 t15) (x : Nat) : FrAt (W.setCell ⟨g, 2, none⟩ (.int .u32 ((x : Nat) : Int))) g k s x c bv t0 t1 t2 t3 t4 t5 t6 t7 t8 t9 t10 t11 t12 t13 t14 t15 := by
  unfold FrAt at *
  obtain ⟨f0, f1, f2, f3, f4, f5, f6, f7, f8, f9, f10, f11, f12, f13, f14, f15, f16, f17, f18, f19, f20⟩ := h
  exact ⟨(World.cell?_setCell_other _ _ _ _ (by simp)).trans f0, (World.cell?_setCell_other _ _ _ _ (by simp)).trans f1, World.cell?_setCell_same _ _ _ f2, (World.cell?_setCell_other _ _ _ _ (by simp)).trans f3, (World.cell?_setCell_other _ _ _ _ (by simp)).trans f4, (World.cell?_setCell_other _ _ _ _ (by simp)).trans f5, (World.cell?_setCell_other _ _ _ _ (by simp)).trans f6, (World.cell?_setCell_other _ _ _ _ (by simp)).trans f7, (World.cell?_setCell_other _ _ _ _ (by simp)).trans f8, (World.cell?_setCell_other _ _ _ _ (by simp)).trans f9, (World.cell?_setCell_other _ _ _ _ (by simp)).trans f10, (World.cell?_setCell_other _ _ _ _ (by simp)).trans f11, (World.cell?_setCell_other _ _ _ _ (by simp)).trans f12, (World.cell?_setCell_other _ _ _ _ (by simp)).trans f13, (World.cell?_setCell_other _ _ _ _ (by simp)).trans f14, (World.cell?_setCell_other _ _ _ _ (by simp)).trans f15, (World.cell?_setCell_other _ _ _ _ (by simp)).trans f16, (World.cell?_setCell_other _ _ _ _ (by simp)).trans f17, (World.cell?_setCell_other _ _ _ _ (by simp)).trans f18, (World.cell?_setCell_other _ _ _ _ (by simp)).trans f19, (World.cell?_setCell_other _ _ _ _ (by simp)).trans f20⟩
theorem FrAt.set3 {W : World} {g : Nat} {k s : Int} {e c : Nat} {bv : Value} {t0 t1 t2 t3 t4 t5 t6 t7 t8 t9 t10 t11 t12 t13 t14 t15 : Nat} (h : FrAt W g k s e c bv t0 t1 t2 t3 t4 t5 t6 t7 t8 t9 t10 t11 t12 t13 t14 t15) (x : Nat) : FrAt (W.setCell ⟨g, 3, none⟩ (.int .u64 ((x : Nat) : Int))) g k s e x bv t0 t1 t2 t3 t4 t5 t6 t7 t8 t9 t10 t11 t12 t13 t14 t15 := by
  unfold FrAt at *
  obtain ⟨f0, f1, f2, f3, f4, f5, f6, f7, f8, f9, f10, f11, f12, f13, f14, f15, f16, f17, f18, f19, f20⟩ := h
  exact ⟨(World.cell?_setCell_other _ _ _ _ (by simp)).trans f0, (World.cell?_setCell_other _ _ _ _ (by simp)).trans f1, (World.cell?_setCell_other _ _ _ _ (by simp)).trans f2, World.cell?_setCell_same _ _ _ f3, (World.cell?_setCell_other _ _ _ _ (by simp)).trans f4, (World.cell?_setCell_other _ _ _ _ (by simp)).trans f5, (World.cell?_setCell_other _ _ _ _ (by simp)).trans f6, (World.cell?_setCell_other _ _ _ _ (by simp)).trans f7, (World.cell?_setCell_other _ _ _ _ (by simp)).trans f8, (World.cell?_setCell_other _ _ _ _ (by simp)).trans f9, (World.cell?_setCell_other _ _ _ _ (by simp)).trans f10, (World.cell?_setCell_other _ _ _ _ (by simp)).trans f11, (World.cell?_setCell_other _ _ _ _ (by simp)).trans f12, (World.cell?_setCell_other _ _ _ _ (by simp)).trans f13, (World.cell?_setCell_other _ _ _ _ (by simp)).trans f14, (World.cell?_setCell_other _ _ _ _ (by simp)).trans f15, (World.cell?_setCell_other _ _ _ _ (by simp)).trans f16, (World.cell?_setCell_other _ _ _ _ (by simp)).trans f17, (World.cell?_setCell_other _ _ _ _ (by simp)).trans f18, (World.cell?_setCell_other _ _ _ _ (by simp)).trans f19, (World.cell?_setCell_other _ _ _ _ (by simp)).trans f20⟩
theorem FrAt.set4 {W : World} {g : Nat} {k s : Int} {e c : Nat} {bv : Value} {t0 t1 t2 t3 t4 t5 t6 t7 t8 t9 t10 t11 t12 t13 t14 t15 : Nat} (h : FrAt W g k s e c bv t0 t1 t2 t3 t4 t5 t6 t7 t8 t9 t10 t11 t12 t13 t14 t15) (x : Value) : FrAt (W.setCell ⟨g, 4, none⟩ x) g k s e c x t0 t1 t2 t3 t4 t5 t6 t7 t8 t9 t10 t11 t12 t13 t14 t15 := by
  unfold FrAt at *
  obtain ⟨f0, f1, f2, f3, f4, f5, f6, f7, f8, f9, f10, f11, f12, f13, f14, f15, f16, f17, f18, f19, f20⟩ := h
  exact ⟨(World.cell?_setCell_other _ _ _ _ (by simp)).trans f0, (World.cell?_setCell_other _ _ _ _ (by simp)).trans f1, (World.cell?_setCell_other _ _ _ _ (by simp)).trans f2, (World.cell?_setCell_other _ _ _ _ (by simp)).trans f3, World.cell?_setCell_same _ _ _ f4, (World.cell?_setCell_other _ _ _ _ (by simp)).trans f5, (World.cell?_setCell_other _ _ _ _ (by simp)).trans f6, (World.cell?_setCell_other _ _ _ _ (by simp)).trans f7, (World.cell?_setCell_other _ _ _ _ (by simp)).trans f8, (World.cell?_setCell_other _ _ _ _ (by simp)).trans f9, (World.cell?_setCell_other _ _ _ _ (by simp)).trans f10, (World.cell?_setCell_other _ _ _ _ (by simp)).trans f11, (World.cell?_setCell_other _ _ _ _ (by simp)).trans f12, (World.cell?_setCell_other _ _ _ _ (by simp)).trans f13, (World.cell?_setCell_other _ _ _ _ (by simp)).trans f14, (World.cell?_setCell_other _ _ _ _ (by simp)).trans f15, (World.cell?_setCell_other _ _ _ _ (by simp)).trans f16, (World.cell?_setCell_other _ _ _ _ (by simp)).trans f17, (World.cell?_setCell_other _ _ _ _ (by simp)).trans f18, (World.cell?_setCell_other _ _ _ _ (by simp)).trans f19, (World.cell?_setCell_other _ _ _ _ (by simp)).trans f20⟩
theorem rangeAt_take {w : World} {b o : Nat} {cs : List Value} (n : Nat) (h : w.rangeAt b o cs) : w.rangeAt b o (cs.take n) := fun j v hj => by
  rw [List.getElem?_take] at hj
  split at hj
  · exact h j v hj
  · cases hj
theorem rangeAt_append {w : World} {b o : Nat} {cs ds : List Value} (h : w.rangeAt b o cs) (h' : w.rangeAt b (o + cs.length) ds) : w.rangeAt b o (cs ++ ds) := fun j v hj => by
  rcases Nat.lt_or_ge j cs.length with hl | hl
  · rw [List.getElem?_append_left hl] at hj; exact h j v hj
  · rw [List.getElem?_append_right hl] at hj
    have := h' _ _ hj
    rwa [Nat.add_assoc, Nat.add_sub_cancel' hl] at this
theorem rangeAt_set {w : World} {b o : Nat} {cs : List Value} (h : w.rangeAt b o cs) (i : Nat) (v : Value) : (w.setCell ⟨b, o + i, none⟩ v).rangeAt b o (cs.set i v) := fun j u hj => by
  by_cases hij : i = j
  · subst hij
    rw [List.getElem?_set] at hj
    simp only [if_true] at hj
    split at hj
    · rename_i hlt
      cases hj
      exact World.cell?_setCell_same _ _ _ (h i cs[i] (List.getElem?_eq_getElem hlt))
    · cases hj
  · rw [List.getElem?_set_ne hij] at hj
    rw [World.cell?_setCell_other _ _ _ _ (by intro e; injection e; omega)]
    exact h j u hj
theorem rangeAt_below {B : Nat} {w w' : World} {b o : Nat} {cs : List Value} (hb : Below B w w') (hg : b < B) (h : w.rangeAt b o cs) : w'.rangeAt b o cs := fun j v hj => cell_below hb hg (h j v hj)
theorem run_arr16 (W : World) (a : Addr) (c : Nat) : (Instr.arrayAt 26 (.slice (some a) 16 c)).run Try.prog W = .ok (.pointer (some a)) W := by
  simp [Instr.arrayAt, run_underlying Try.underlying26]
theorem bts_range {w : World} {b off n cap : Nat} {bs : List Nat} (h : Bts w (.slice (some ⟨b, off, none⟩) n cap) bs) (hne : 0 < bs.length) : w.rangeAt b off (byteVs bs) := fun j v hj => by
  have hj' : j < bs.length := by
    rcases Nat.lt_or_ge j bs.length with h1 | h1
    · exact h1
    · rw [List.getElem?_eq_none (by rw [byteVs_length]; exact h1)] at hj; cases hj
  obtain ⟨b', off', cap', hsl, _, _, _, hcell⟩ := h.some (by omega)
  cases hsl
  rw [byteVs_get bs j hj'] at hj
  rw [← hj]; exact hcell j hj'
theorem run_storeCells_mid (W : World) (b o : Nat) (cs : List Value) (ht : W.there b o cs.length) (h1 : cs.toArray.all (·.oneCell') = true) : (storeCells ⟨b, o, none⟩ cs).run Try.prog W = .ok () (W.setCells b o cs) := by
  have := run_storeCells_cells (P := Try.prog) b o cs 0 W (fun j hj => by simpa using (ht j hj).1) (fun j hj => by simpa using (ht j hj).2)
    (fun v hv => (Array.all_eq_true_iff_forall_mem.1 h1) v (by simpa using hv))
  simpa using this
theorem gr_setCells : ∀ (vs : List Value) (w : World) (b o : Nat), w.grownBy (w.setCells b o vs) (some b)
  | [], w, b, o => gr_refl w _
  | v :: vs, w, b, o => by
    unfold World.setCells
    exact gr_trans (gr_set w b o v) (gr_setCells vs _ b _)
/-- A frame, as its cells. -/
def frL (f : FrmS) (bv : Value) : List Value := [.int .i64 f.kind, .int .i64 f.source, .int .u32 ((f.epoch : Nat) : Int), .int .u64 ((f.counter : Nat) : Int), bv] ++ byteVs f.tag
/-- What frame.Read answers. -/
def GivesR (w : World) (bs : List Nat) (e : Ending) (w' : World) : Prop := ∃ bv, e = .returned (.tuple #[.agg (frL (readS bs) bv).toArray, .int .i64 ((readN bs : Nat) : Int), .int .i64 (readE bs)]) ∧ OwnB w' w.heap.size bv (readS bs).body ∧ Below w.heap.size w w'
set_option maxRecDepth 100000 in
set_option maxHeartbeats 3200000 in
theorem fRead_good (v : Value) (bs : List Nat) (w : World) (hv : Bts w v bs) (hn : ¬ bs.length < 3) (hn6 : bs.length ≤ 1000000) (hs : 7 + bs.getD 2 0 ≤ bs.length) (hy : 30 ≤ bs.getD 2 0) (he : begB bs = true) (hr : rightB ((bs.drop 2).take (5 + bs.getD 2 0)) = true) :
    Calls Try.prog 16 #[v] w (GivesR w bs) := by
  have hE0 := readE_long he hs
  rw [hr, if_pos rfl] at hE0
  have HE0 := Lib.hid hE0
  clear hE0
  obtain ⟨va, vn, vc, rfl⟩ := hv.slice
  obtain rfl := hv.len
  obtain ⟨b, off, cap, hsl, hlc, hc, hb, hcell⟩ := hv.some (by omega)
  obtain ⟨rfl, rfl⟩ : va = some ⟨b, off, none⟩ ∧ vc = cap := by simpa using hsl
  have c2 := hcell 2 (by omega)
  have hlt := hv.lt 2
  have h35 : 5 + bs.getD 2 0 = 3 + bs.getD 2 0 + 2 := by omega
  rw [h35] at hr
  clear h35
  have HT := Lib.hid (btsSub hv hb hlc hc hcell 2 (3 + bs.getD 2 0 + 2) (vc - 2) (by omega) (by omega) (by omega))
  have HC := Lib.hid hcell
  have hI : ¬ (bs.length : Int) < 3 := by omega
  have hI2 : 2 < bs.length := by omega
  have HV := Lib.hid hv
  haveI : LtSize b w := ⟨hb⟩
  have hB := Lib.hid (fun (W : World) (h : Bts W (.slice (some ⟨b, off, none⟩) bs.length vc) bs) => he ▸ begins_any _ bs W h (by omega))
  have hR := Lib.hid (fun (W : World) (u : Value) (h : Bts W u ((bs.drop 2).take (3 + bs.getD 2 0 + 2))) => hr ▸ Right_any u _ W h (by simp; omega))
  generalize (bs.drop 2).take (3 + bs.getD 2 0 + 2) = T at *
  generalize hy2e : bs.getD 2 0 = y2 at *
  have HY2 := Lib.hid hy2e
  clear hy2e
  have hw1 : IntKind.i64.wrap (3 + (y2 : Int)) = 3 + (y2 : Int) := by rw [IntKind.wrap_i64]; omega
  have hw2 : IntKind.i64.wrap (3 + (y2 : Int) + 4) = 3 + (y2 : Int) + 4 := by rw [IntKind.wrap_i64]; omega
  have hw3 : IntKind.i64.wrap (3 + (y2 : Int) + 4 - 4) = 3 + (y2 : Int) := by rw [IntKind.wrap_i64]; omega
  have hw0 : IntKind.i64.wrap (y2 : Int) = (y2 : Int) := by rw [IntKind.wrap_i64]; omega
  have hI3 : ¬ (bs.length : Int) < 3 + (y2 : Int) + 4 := by omega
  clear hv hcell hsl he hr
  go_enter Try.func16, Try.ntmps16
  go_wp2
  refine wp_scope_once 0 rfl ?_
  go_upto_region 12 with (first | (go_at_call 58; (first | with_reducible refine Calls.fold (hB.out _ HV.out.alloc.alloc) ?_ | with_reducible refine Calls.fresh (hB.out _ HV.out.alloc.alloc) ?_); intro x1) | (go_at_call 59; (first | with_reducible refine Calls.fold (hR.out _ _ HT.out.alloc.alloc.up) ?_ | with_reducible refine Calls.fresh (hR.out _ _ HT.out.alloc.alloc.up) ?_); intro x1))
  simp only [Nat.add_sub_cancel_left]
  refine wp_gen (fun W => (Below w.heap.size w W ∧ w.heap.size + 1 < W.heap.size) ∧ W.there w.heap.size 0 21 ∧ FrAt W (w.heap.size + 1) 0 0 0 0 (.slice none 0 0) 0 0 0 0 0 0 0 0 0 0 0 0 0 0 0 0 ∧ W.there (w.heap.size + 1) 0 21) ⟨⟨by (repeat (first | (with_reducible exact Below.refl _ _) | (with_reducible assumption) | (with_reducible refine Below.alloc ?_ (by (repeat (first | (with_reducible exact Nat.le_refl _) | (with_reducible assumption) | (with_reducible refine le_up ?_) | (with_reducible refine le_alloc ?_) | (with_reducible refine le_setCell ?_) | (with_reducible refine le_drew ?_) | (with_reducible refine le_drewN ?_) | omega))) _) | (with_reducible refine Below.drew ?_) | (with_reducible refine Below.drewN ?_ _) | (with_reducible refine Below.setCell ?_ (by (repeat (first | (with_reducible exact Nat.le_refl _) | (with_reducible assumption) | (with_reducible refine le_up ?_) | (with_reducible refine le_alloc ?_) | (with_reducible refine le_setCell ?_) | (with_reducible refine le_drew ?_) | (with_reducible refine le_drewN ?_) | omega))) _) | (with_reducible refine Below.up ?_ (by (repeat (first | (with_reducible exact Nat.le_refl _) | (with_reducible assumption) | (with_reducible refine le_up ?_) | (with_reducible refine le_alloc ?_) | (with_reducible refine le_setCell ?_) | (with_reducible refine le_drew ?_) | (with_reducible refine le_drewN ?_) | omega)))))), LtSize.lt⟩, there_below (B := w.heap.size + 1) (Below.up ((Below.refl _ _).alloc (by simp) _) (by simp)) (by omega) (there_new w _ _ 21 rfl), ?_, ?_⟩ ?_
  · exact ⟨by simp, by simp, by simp, by simp, by simp, by simp, by simp, by simp, by simp, by simp, by simp, by simp, by simp, by simp, by simp, by simp, by simp, by simp, by simp, by simp, by simp⟩
  · exact there_below (B := w.heap.size + 2) (Below.up (Below.refl _ _) (by simp)) (by omega) (there_at (g := w.heap.size + 1) _ _ _ 21 rfl)
  rintro W ⟨⟨hbw, hlw⟩, hth, hfr, hthf⟩
  have hy3 := HV.out.lt 3
  have hy4 := HV.out.lt 4
  have x3 : W.cell? ⟨b, off + 3, none⟩ = some (.int .u8 ((bs.getD 3 0 : Nat) : Int)) := cell_below hbw hb (HC.out 3 (by omega))
  have x4 : W.cell? ⟨b, off + 3 + 1, none⟩ = some (.int .u8 ((bs.getD 4 0 : Nat) : Int)) := cell_below hbw hb (HC.out 4 (by omega))
  have x4' : W.cell? ⟨b, off + 4, none⟩ = some (.int .u8 ((bs.getD 4 0 : Nat) : Int)) := x4
  have F0 := (hthf 0 (by omega)).2
  have F1 := (hthf 1 (by omega)).2
  have hz0 : W.cell? ⟨w.heap.size + 1, 0, none⟩ = some (.int .i64 0) := hfr.1
  have hz1 : W.cell? ⟨w.heap.size + 1, 1, none⟩ = some (.int .i64 0) := hfr.2.1
  rw [Nat.zero_add] at F0 F1
  generalize hy3e : bs.getD 3 0 = y3 at *
  have HY3 := Lib.hid hy3e
  clear hy3e
  generalize hy4e : bs.getD 4 0 = y4 at *
  have HY4 := Lib.hid hy4e
  clear hy4e
  have hw3' : IntKind.i64.wrap (y3 : Int) = (y3 : Int) := by rw [IntKind.wrap_i64]; omega
  have hw4' : IntKind.i64.wrap (y4 : Int) = (y4 : Int) := by rw [IntKind.wrap_i64]; omega
  have HF := Lib.hid hfr
  have hne : b ≠ w.heap.size + 1 := by omega
  clear hfr
  go_region
  go_upto_region 13 with fail
  refine wp_gen (fun W => (Below w.heap.size w W ∧ w.heap.size + 1 < W.heap.size) ∧ W.there w.heap.size 0 21 ∧ FrAt W (w.heap.size + 1) y3 y4 0 0 (.slice none 0 0) 0 0 0 0 0 0 0 0 0 0 0 0 0 0 0 0 ∧ W.there (w.heap.size + 1) 0 21) ⟨⟨((hbw.setCell (p := ⟨w.heap.size + 1, 0, none⟩) (Nat.le_succ _) _).setCell (p := ⟨w.heap.size + 1, 1, none⟩) (Nat.le_succ _) _).drew, by simp; exact hlw⟩, there_set (there_set hth _) _, (HF.out.set0 _).set1 _, there_set (there_set hthf _) _⟩ ?_
  rintro W3 ⟨⟨hbw3, hlw3⟩, hth3, hfr3, hthf3⟩
  obtain ⟨c3, hc3⟩ : ∃ c3, vc - 3 = c3 := ⟨_, rfl⟩
  rw [hc3]
  have hc3l : 14 ≤ c3 := by omega
  have HG1 := Lib.hid (fun (W : World) (h : Below w.heap.size w W) => fget_any _ _ W (btsSub (HV.out.below h) (Nat.lt_of_lt_of_le hb h.size) hlc hc (fun i hi => cell_below h hb (HC.out i hi)) 5 4 (c3 - 2) (by omega) (by omega) (by omega)) (by simp; omega))
  have HG2 := Lib.hid (fun (W : World) (h : Below w.heap.size w W) => fget_any _ _ W (btsSub (HV.out.below h) (Nat.lt_of_lt_of_le hb h.size) hlc hc (fun i hi => cell_below h hb (HC.out i hi)) 9 8 (c3 - 6) (by omega) (by omega) (by omega)) (by simp; omega))
  have h6 : (6 : Int) ≤ (c3 : Int) := by omega
  have h14 : (14 : Int) ≤ (c3 : Int) := by omega
  have n2 : ¬ c3 = 2 := by omega
  have n6 : ¬ c3 = 6 := by omega
  have HC3 := Lib.hid hc3
  clear hc3
  have FF2 := (hthf3 2 (by omega)).2
  have FF3 := (hthf3 3 (by omega)).2
  rw [Nat.zero_add] at FF2 FF3
  have z2 : W3.cell? ⟨w.heap.size + 1, 2, none⟩ = some (.int .u32 0) := hfr3.2.2.1
  have z3 : W3.cell? ⟨w.heap.size + 1, 3, none⟩ = some (.int .u64 0) := hfr3.2.2.2.1
  have H3 := Lib.hid (And.intro hbw3 (And.intro hth3 (And.intro hthf3 hfr3)))
  clear hbw3 hth3 hthf3 hfr3
  have hE4l := beN_lt ((bs.drop 5).take 4) (fun y hy => HV.out.1 y (List.mem_of_mem_drop (List.mem_of_mem_take hy)))
  have hE4n : ((bs.drop 5).take 4).length = 4 := by simp; omega
  rw [hE4n] at hE4l
  clear hE4n
  obtain ⟨E4, hE4⟩ : ∃ x, beN ((bs.drop 5).take 4) = x := ⟨_, rfl⟩
  obtain ⟨C8, hC8⟩ : ∃ x, beN ((bs.drop 9).take 8) = x := ⟨_, rfl⟩
  rw [hE4] at HG1 hE4l
  rw [hC8] at HG2
  have HE4 := Lib.hid hE4
  have HC8 := Lib.hid hC8
  clear hE4 hC8
  have hwE : IntKind.u32.wrap (E4 : Int) = (E4 : Int) := by rw [IntKind.wrap_u32]; omega
  refine wp_region_tail 8 (by kernel_rfl) (by kernel_rfl) ?_
  simp only [List.take_succ_cons, List.take_zero, List.drop_succ_cons, List.drop_zero]
  still_step
  still_step
  still_call (Tells.still (HG1.out _ H3.out.1.drew))
  still_step
  still_step
  still_step
  still_call (Tells.still (HG2.out _ H3.out.1.drew))
  still_step
  with_reducible refine wpStill_nil ?_
  go_upto_region 14 with fail
  refine wp_gen (fun W => (Below w.heap.size w W ∧ w.heap.size + 1 < W.heap.size) ∧ W.there w.heap.size 0 21 ∧ W.there (w.heap.size + 1) 0 21 ∧ W.rangeAt (w.heap.size + 1) 0 [.int .i64 ((y3 : Nat) : Int), .int .i64 ((y4 : Nat) : Int), .int .u32 ((E4 : Nat) : Int), .int .u64 ((C8 : Nat) : Int), .slice none 0 0]) ⟨⟨((H3.out.1.drew).setCell (p := ⟨w.heap.size + 1, 2, none⟩) (Nat.le_succ _) _).setCell (p := ⟨w.heap.size + 1, 3, none⟩) (Nat.le_succ _) _, by simp; exact hlw3⟩, there_set (there_set H3.out.2.1 _) _, there_set (there_set H3.out.2.2.1 _) _, rangeAt_take 5 ((H3.out.2.2.2.set2 E4).set3 C8).range⟩ ?_
  rintro W4 ⟨⟨hbw4, hlw4⟩, hth4, hthf4, hr4⟩
  clear hlw hth hthf F0 F1 hz0 hz1 x3 x4 x4' hw3' hw4' HF hlw3 HG1 HG2 h6 n2 n6 FF2 FF3 z2 z3 H3 hwE hbw
  obtain ⟨m, hm⟩ : ∃ m, y2 = 30 + m := ⟨y2 - 30, by omega⟩
  have hw5 : IntKind.i64.wrap ((y2 : Int) - 16) = 14 + (m : Int) := by rw [IntKind.wrap_i64]; omega
  have hle5 : (14 : Int) + (m : Int) ≤ (c3 : Int) := by have := HC3.out; omega
  have n14 : ¬ c3 = 14 := by have := HC3.out; omega
  have z4 : W4.cell? ⟨w.heap.size + 1, 4, none⟩ = some (.slice none 0 0) := by simpa using hr4 4 _ rfl
  have F4 := (hthf4 4 (by omega)).2
  rw [Nat.zero_add] at F4
  have HCL := Lib.hid (Clone_any (.slice (some ⟨b, off + 17, none⟩) m (c3 - 14)) ((bs.drop 17).take m) W4 (btsSub (HV.out.below hbw4) (Nat.lt_of_lt_of_le hb hbw4.size) hlc hc (fun i hi => cell_below hbw4 hb (HC.out i hi)) 17 m (c3 - 14) (by omega) (by have := HC3.out; omega) (by have := HC3.out; omega)) (by simp) (by simp; omega))
  have H4 := Lib.hid (And.intro hbw4 (And.intro hth4 (And.intro hthf4 hr4)))
  have HM := Lib.hid hm
  clear hbw4 hth4 hthf4 hr4 hm
  go_wp2_with fail
  go_at_call 61
  refine (HCL.out).mono ?_
  rintro e5 w5 ⟨g5, q5, rfl, hg5, hl5, ho5, hb5⟩
  obtain ⟨n5, hbv5⟩ : ∃ x, x = ((bs.drop 17).take m).length := ⟨_, rfl⟩
  rw [← hbv5]
  rw [← hbv5] at ho5
  have HBV5 := Lib.hid hbv5
  clear hbv5
  have HO5 := Lib.hid (And.intro ho5 hb5)
  have zz5 : w5.cell? ⟨w.heap.size + 1, 4, none⟩ = some (.slice none 0 0) := cell_below hb5 hlw4 z4
  have FF5 : w5.frozen? ⟨w.heap.size + 1, 4, none⟩ = false := by rw [hb5.frozen (p := ⟨w.heap.size + 1, 4, none⟩) hlw4]; exact F4
  clear ho5 hb5
  go_upto_region 15 with fail
  refine wp_gen (fun W => (Below w.heap.size w W ∧ w.heap.size + 1 < W.heap.size) ∧ W.there w.heap.size 0 21 ∧ W.there (w.heap.size + 1) 0 21 ∧ W.rangeAt (w.heap.size + 1) 0 [.int .i64 ((y3 : Nat) : Int), .int .i64 ((y4 : Nat) : Int), .int .u32 ((E4 : Nat) : Int), .int .u64 ((C8 : Nat) : Int), .slice (some ⟨g5, 0, none⟩) n5 q5] ∧ OwnB W w.heap.size (.slice (some ⟨g5, 0, none⟩) n5 q5) ((bs.drop 17).take m))
    ⟨⟨(H4.out.1.trans (HO5.out.2.mono H4.out.1.size)).setCell (p := ⟨w.heap.size + 1, 4, none⟩) (Nat.le_succ _) _, by simp; exact Nat.lt_of_lt_of_le hlw4 HO5.out.2.size⟩, there_set (there_below HO5.out.2 (by omega) H4.out.2.1) _, there_set (there_below HO5.out.2 hlw4 H4.out.2.2.1) _, rangeAt_set (rangeAt_below HO5.out.2 hlw4 H4.out.2.2.2) 4 _, ?_⟩ ?_
  · have h1 := HO5.out.1
    exact (h1.mono H4.out.1.size).kept (gr_set _ _ _ _) (.inr (by simp [Value.ownBlock]; omega))
  rintro W5 ⟨⟨hbw5, hlw5⟩, hth5, hthf5, hr5, ho5⟩
  have hne5 : ¬ g5 = w.heap.size + 1 ∧ ¬ g5 = w.heap.size := by omega
  have HNE5 := Lib.hid hne5
  clear hne5
  clear H4 HO5 zz5 FF5 hlw4 hg5 hl5 HCL F4 z4 HBV5 n14
  have H5 := Lib.hid (And.intro hbw5 (And.intro hth5 (And.intro hthf5 (And.intro hr5 ho5))))
  clear hth5 hthf5 hr5 ho5
  have hsub : y2 - (14 + m) = 16 := by have := HM.out; omega
  have hle6 : (14 : Int) + (m : Int) ≤ (y2 : Int) := by have := HM.out; omega
  have nc3 : ¬ c3 = 14 + m := by have := HC3.out; have := HM.out; omega
  have hTl : ((bs.drop (17 + m)).take 16).length = 16 := by have := HM.out; simp; omega
  obtain ⟨TG, hTG⟩ : ∃ x, (bs.drop (17 + m)).take 16 = x := ⟨_, rfl⟩
  have hbT := btsSub (HV.out.below hbw5) (Nat.lt_of_lt_of_le hb hbw5.size) hlc hc (fun i hi => cell_below hbw5 hb (HC.out i hi)) (17 + m) 16 16 (by have := HM.out; omega) (by omega) (by omega)
  rw [hTG] at hTl hbT
  have HTG := Lib.hid hTG
  clear hTG hbw5
  have hrT : W5.rangeAt b (off + 3 + (14 + m)) (byteVs TG) := by
    have := bts_range hbT (by omega)
    rw [show off + 3 + (14 + m) = off + (17 + m) by omega]; exact this
  have h1c : (byteVs TG).toArray.all (·.oneCell') = true := all_oneCell_toArray (fun v hv => by obtain ⟨x, _, rfl⟩ := List.mem_map.1 hv; rfl)
  have harr := run_arr16
  have HTl := Lib.hid hTl
  obtain ⟨TV, hTV⟩ : ∃ x, byteVs TG = x := ⟨_, rfl⟩
  have hTVl : TV.length = 16 := by rw [← hTV, byteVs_length]; exact hTl
  have hthT : W5.there (w.heap.size + 1) 5 16 := fun j hj => by
    have := H5.out.2.2.1 (5 + j) (by omega)
    rwa [Nat.zero_add] at this
  rw [hTV] at hrT h1c
  have HRT := Lib.hid hrT
  have H1C := Lib.hid h1c
  have HTHT := Lib.hid hthT
  have HTVL := Lib.hid hTVl
  have HTV := Lib.hid hTV
  clear hTl hbT hrT h1c hTV hthT hTVl
  have hst := run_storeCells_mid W5 (w.heap.size + 1) 5 TV (by rw [HTVL.out]; exact HTHT.out) H1C.out
  go_upto_region 16 with (refine wpList_load_mid rfl 26 (.tmp 65) (by rfl) b (off + 3 + (14 + m)) (by rfl) TV _ HRT.out Try.underlying26 (by rfl) (by rw [HTVL.out]; kernel_rfl) ?_)
  refine wp_gen (fun W => (Below w.heap.size w W) ∧ W.there w.heap.size 0 21 ∧ W.rangeAt (w.heap.size + 1) 0 ([.int .i64 ((y3 : Nat) : Int), .int .i64 ((y4 : Nat) : Int), .int .u32 ((E4 : Nat) : Int), .int .u64 ((C8 : Nat) : Int), .slice (some ⟨g5, 0, none⟩) n5 q5] ++ TV) ∧ OwnB W w.heap.size (.slice (some ⟨g5, 0, none⟩) n5 q5) ((bs.drop 17).take m))
    ⟨H5.out.1.trans (below_setCells _ _ _ _ _ (Nat.le_succ _)), World.there_setCells H5.out.2.1 _ _ _, ?_, ?_⟩ ?_
  · refine rangeAt_append (World.rangeAt_setCells_apart H5.out.2.2.2.1 _ _ _ (.inr (.inl (by simp)))) ?_
    have := World.rangeAt_setCells_same W5 (w.heap.size + 1) 5 TV (by rw [HTVL.out]; exact HTHT.out)
    simpa using this
  · exact H5.out.2.2.2.2.kept (gr_setCells _ _ _ _) (.inr (by simp [Value.ownBlock]; exact HNE5.out.1))
  rintro W6 ⟨hbw6, hth6, hr6, ho6⟩
  obtain ⟨LV, hLV⟩ : ∃ x, x = ([.int .i64 ((y3 : Nat) : Int), .int .i64 ((y4 : Nat) : Int), .int .u32 ((E4 : Nat) : Int), .int .u64 ((C8 : Nat) : Int), .slice (some ⟨g5, 0, none⟩) n5 q5] ++ TV : List Value) := ⟨_, rfl⟩
  rw [← hLV] at hr6
  have hLl : LV.length = 21 := by rw [hLV, List.length_append, HTVL.out]; rfl
  have h1L : LV.toArray.all (·.oneCell') = true := all_oneCell_toArray (fun v hv => by
    rw [hLV] at hv
    rcases List.mem_append.1 hv with hv | hv
    · simp at hv; rcases hv with rfl | rfl | rfl | rfl | rfl <;> rfl
    · exact (Array.all_eq_true_iff_forall_mem.1 H1C.out) v (by simpa using hv))
  have hst6 := run_storeCells_mid W6 w.heap.size 0 LV (by rw [hLl]; exact hth6) h1L
  have hrs6 := World.rangeAt_setCells_same W6 w.heap.size 0 LV (by rw [hLl]; exact hth6)
  have HLV := Lib.hid hLV
  have HLL := Lib.hid hLl
  have HR6 := Lib.hid hr6
  have hres := run_loadVar_mid (P := Try.prog) (W6.setCells w.heap.size 0 LV) w.heap.size 0 28 LV _ hrs6 Try.underlying28 (by rfl) (by rw [hLl]; kernel_rfl)
  have HRES := Lib.hid hres
  have HB6 := Lib.hid hbw6
  have HO6 := Lib.hid ho6
  clear hLV hLl h1L hr6 hrs6 hres hbw6 ho6 hth6
  go_wp2_with (refine wpList_load_mid rfl 28 (.tmp 5) (by rfl) (w.heap.size + 1) 0 (by rfl) LV _ HR6.out Try.underlying28 (by rfl) (by rw [HLL.out]; kernel_rfl) ?_)
  have hm := HM.out
  have hS : readS bs = ⟨y3, y4, E4, C8, (bs.drop 17).take m, TG⟩ := by
    unfold readS goodS
    rw [if_pos HE0.out, HY2.out, HY3.out, HY4.out, HE4.out, HC8.out, show y2 - 30 = m by omega, show y2 - 13 = 17 + m by omega, HTG.out]
  have hN : readN bs = 7 + y2 := by unfold readN; rw [if_pos HE0.out, HY2.out]
  have hL : LV = frL (readS bs) (.slice (some ⟨g5, 0, none⟩) n5 q5) := by rw [hS, HLV.out, ← HTV.out]; rfl
  refine bodyPost_ret (v := .tuple #[.agg LV.toArray, .int .i64 (3 + (y2 : Int) + 4), .int .i64 0]) ?_ rfl ⟨.slice (some ⟨g5, 0, none⟩) n5 q5, ?_, ?_, ?_⟩
  · simp only [results, show Try.func16.results = #[ResultVar.cell 2 28, ResultVar.tmp 3, ResultVar.tmp 4] from rfl]
    simp [asAddr, HRES.out]
  · rw [hL, hN, HE0.out, show (3 + (y2 : Int) + 4) = ((7 + y2 : Nat) : Int) by omega]
  · rw [hS]; exact HO6.out.kept (gr_setCells _ _ _ _) (.inr (by simp [Value.ownBlock]; exact HNE5.out.2))
  · exact HB6.out.trans (below_setCells _ _ _ _ _ (Nat.le_refl _))
end Go.Proofs.Ytjkgodhoonkinaa
