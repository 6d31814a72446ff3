/-
  The walks over frame.Same and the reference's Same.
-/
import Derived.Test.YtjkgodhoonkinaaFrmY
namespace Go.Proofs.Ytjkgodhoonkinaa
open Go.RowKit
set_option linter.unusedVariables false

theorem wpList_load_mid' {P : Program} {ops : Array Oper} {rest : List Oper} {op : Oper} {a : Act} {w : World} {Q : Exit → Act → World → Prop} (ty : TypeId) (x : Operand) (ho : op.op = .load ty x) (hgd : Region.wanted op (yielded ops a.tmps) = true)
    (b o : Nat) (hx : a.eval x = .pointer (some ⟨b, o, none⟩)) (cs : List Value) (d : TypeDesc) (hc : w.rangeAt b o cs)
    (hu : P.underlying ty = some d) (hd : d.isRow = true) (hi : (P.info? ty).map (·.size) = some cs.length)
    (h : wpList P ops Q rest (a.put op.dst (.agg cs.toArray)) w) : wpList P ops Q (op :: rest) a w :=
  wpList_step fun K hK => by simp only [hgd, if_true]; exact wp_load_mid ty x ho b o hx cs d hc hu hd hi (hK _ _ h)
open Classical in
noncomputable def sameF (f g : FrmS) : Bool := decide (f = g)
theorem sameF_no {f g : FrmS} (h : f ≠ g) : sameF f g = false := by unfold sameF; simp [h]
theorem sameF_yes (f : FrmS) : sameF f f = true := by unfold sameF; simp
theorem run_eqItems_bytes (W : World) (d e : Nat) (he : e = d + 1) (a b : List Nat) : ∀ is : List Nat, (∀ i ∈ is, i < a.length ∧ i < b.length) →
    (Op.eqItems e 5 1 (byteVs a).toArray (byteVs b).toArray is).run Try.prog W = .ok (is.all fun i => decide (a.getD i 0 = b.getD i 0)) W
  | [], _ => by simp [Op.eqItems]
  | i :: is, h => by
    obtain ⟨h1, h2⟩ := h i (by simp)
    have ih := run_eqItems_bytes W d e he a b is (fun j hj => h j (by simp [hj]))
    have hu := Try.underlying5
    have p1 : (part 5 (byteVs a).toArray i).run Try.prog W = .ok (.int .u8 ((a.getD i 0 : Nat) : Int)) W := by
      simp [part, isAgg, run_underlying hu, byteVs_get a i h1]
    have p2 : (part 5 (byteVs b).toArray i).run Try.prog W = .ok (.int .u8 ((b.getD i 0 : Nat) : Int)) W := by
      simp [part, isAgg, run_underlying hu, byteVs_get b i h2]
    have hei := fun x y => run_equalIn_int W d 5 .u8 .u8 x y hu
    rw [← he] at hei
    simp only [Op.eqItems, Sem.run_bind, Nat.mul_one, p1, p2, Result.andThen_ok, hei, List.all_cons]
    by_cases he : a.getD i 0 = b.getD i 0
    · rw [he]; simp [ih]
    · have : (((a.getD i 0 : Nat) : Int) == ((b.getD i 0 : Nat) : Int)) = false := by rw [beq_eq_false_iff_ne]; omega
      rw [this, decide_eq_false he]; simp
theorem eqArr (W : World) (t : TypeId) (n : Nat) (hu : Try.prog.underlying t = some (.array n 5)) (a b : List Nat) (ha : a.length = n) (hb : b.length = n) :
    (Op.equalIn 10000 t (.agg (byteVs a).toArray) (.agg (byteVs b).toArray)).run Try.prog W = .ok (sameB a b) W := by
  obtain ⟨i0, hi, hz0, hz1, hz2⟩ := info_parts info_u8
  have hc : Try.prog.cellsOf 5 = 1 := by kernel_rfl
  have hit := run_eqItems_bytes W 9998 9999 rfl a b (List.range n) (fun i h => by rw [List.mem_range] at h; omega)
  have h1 := run_equalIn_array (P := Try.prog) W 9999 (byteVs a).toArray (byteVs b).toArray hu hi
  rw [hc] at h1
  refine h1.trans (hit.trans (congrArg (fun x => Result.ok x W) ?_))
  unfold sameB
  rw [Bool.eq_iff_iff]
  simp only [List.all_eq_true, List.mem_range, decide_eq_true_eq]
  constructor
  · intro h
    refine List.ext_getElem (by omega) (fun i h1 h2 => ?_)
    have := h i (by omega)
    simpa [List.getD_eq_getElem?_getD, h1, h2] using this
  · intro h i _; rw [h]
theorem tag_list {t : List Nat} (h : t.length = 16) : byteVs t = [.int .u8 ((t.getD 0 0 : Nat) : Int), .int .u8 ((t.getD 1 0 : Nat) : Int), .int .u8 ((t.getD 2 0 : Nat) : Int), .int .u8 ((t.getD 3 0 : Nat) : Int), .int .u8 ((t.getD 4 0 : Nat) : Int), .int .u8 ((t.getD 5 0 : Nat) : Int), .int .u8 ((t.getD 6 0 : Nat) : Int), .int .u8 ((t.getD 7 0 : Nat) : Int), .int .u8 ((t.getD 8 0 : Nat) : Int), .int .u8 ((t.getD 9 0 : Nat) : Int), .int .u8 ((t.getD 10 0 : Nat) : Int), .int .u8 ((t.getD 11 0 : Nat) : Int), .int .u8 ((t.getD 12 0 : Nat) : Int), .int .u8 ((t.getD 13 0 : Nat) : Int), .int .u8 ((t.getD 14 0 : Nat) : Int), .int .u8 ((t.getD 15 0 : Nat) : Int)] := by
  match t, h with
  | [t0, t1, t2, t3, t4, t5, t6, t7, t8, t9, t10, t11, t12, t13, t14, t15], _ => rfl
set_option maxRecDepth 100000 in
set_option maxHeartbeats 3200000 in
theorem rSame_any (f g : FrmS) (bv cv : Value) (w : World) (hf : Bts w bv f.body) (hg : Bts w cv g.body) (htf : f.tag.length = 16) (htg : g.tag.length = 16) :
    Calls Try.prog 19 #[.agg (frL f bv).toArray, .agg (frL g cv).toArray] w (Gives w (.bool (sameF f g))) := by
  obtain ⟨fk, fs, fe, fc, fb, ft⟩ := f
  obtain ⟨gk, gs, ge, gc, gb, gt⟩ := g
  dsimp only at hf hg htf htg
  have l0 : (frL ⟨fk, fs, fe, fc, fb, ft⟩ bv)[0]? = some (.int .i64 fk) := rfl
  have l1 : (frL ⟨fk, fs, fe, fc, fb, ft⟩ bv)[1]? = some (.int .i64 fs) := rfl
  have l2 : (frL ⟨fk, fs, fe, fc, fb, ft⟩ bv)[2]? = some (.int .u32 fe) := rfl
  have l3 : (frL ⟨fk, fs, fe, fc, fb, ft⟩ bv)[3]? = some (.int .u64 fc) := rfl
  have l4 : (frL ⟨fk, fs, fe, fc, fb, ft⟩ bv)[4]? = some bv := rfl
  have m0 : (frL ⟨gk, gs, ge, gc, gb, gt⟩ cv)[0]? = some (.int .i64 gk) := rfl
  have m1 : (frL ⟨gk, gs, ge, gc, gb, gt⟩ cv)[1]? = some (.int .i64 gs) := rfl
  have m2 : (frL ⟨gk, gs, ge, gc, gb, gt⟩ cv)[2]? = some (.int .u32 ge) := rfl
  have m3 : (frL ⟨gk, gs, ge, gc, gb, gt⟩ cv)[3]? = some (.int .u64 gc) := rfl
  have m4 : (frL ⟨gk, gs, ge, gc, gb, gt⟩ cv)[4]? = some cv := rfl
  have TF := Lib.hid (frL_at ⟨fk, fs, fe, fc, fb, ft⟩ bv htf)
  have TG := Lib.hid (frL_at ⟨gk, gs, ge, gc, gb, gt⟩ cv htg)
  dsimp only at TF TG
  generalize frL ⟨fk, fs, fe, fc, fb, ft⟩ bv = L at *
  generalize frL ⟨gk, gs, ge, gc, gb, gt⟩ cv = M at *
  have HF := Lib.hid ((hf.alloc (o := .cells L.toArray 28)).alloc (o := .cells M.toArray 28))
  have HG := Lib.hid ((hg.alloc (o := .cells L.toArray 28)).alloc (o := .cells M.toArray 28))
  obtain ⟨va, vn, vc, rfl⟩ := hf.slice
  obtain ⟨ua, un, uc, rfl⟩ := hg.slice
  have HTF := Lib.hid htf
  have HTG := Lib.hid htg
  clear hf hg htf htg
  by_cases h0 : fk = gk
  · subst h0
    by_cases h1 : fs = gs
    · subst h1
      by_cases h2 : fe = ge
      · subst h2
        by_cases h3 : fc = gc
        · subst h3
          have kb1 := run_str HF.out
          have kb2 := run_str HG.out
          by_cases h4 : fb = gb
          · have hsb : ((strB fb).toList == (strB gb).toList) = true := by rw [strB_eq HF.out.1 HG.out.1]; exact decide_eq_true h4
            by_cases h5 : ft = gt
            · skip
              have HY := Lib.hid (show sameF ⟨fk, fs, fe, fc, fb, ft⟩ ⟨fk, fs, fe, fc, gb, gt⟩ = true by rw [h4, h5]; exact sameF_yes _)
              rw [HY.out]
              have p0 := TF.out 0 (by omega)
              have q0 := TG.out 0 (by omega)
              have p1 := TF.out 1 (by omega)
              have q1 := TG.out 1 (by omega)
              have p2 := TF.out 2 (by omega)
              have q2 := TG.out 2 (by omega)
              have p3 := TF.out 3 (by omega)
              have q3 := TG.out 3 (by omega)
              have p4 := TF.out 4 (by omega)
              have q4 := TG.out 4 (by omega)
              have p5 := TF.out 5 (by omega)
              have q5 := TG.out 5 (by omega)
              have p6 := TF.out 6 (by omega)
              have q6 := TG.out 6 (by omega)
              have p7 := TF.out 7 (by omega)
              have q7 := TG.out 7 (by omega)
              have p8 := TF.out 8 (by omega)
              have q8 := TG.out 8 (by omega)
              have p9 := TF.out 9 (by omega)
              have q9 := TG.out 9 (by omega)
              have p10 := TF.out 10 (by omega)
              have q10 := TG.out 10 (by omega)
              have p11 := TF.out 11 (by omega)
              have q11 := TG.out 11 (by omega)
              have p12 := TF.out 12 (by omega)
              have q12 := TG.out 12 (by omega)
              have p13 := TF.out 13 (by omega)
              have q13 := TG.out 13 (by omega)
              have p14 := TF.out 14 (by omega)
              have q14 := TG.out 14 (by omega)
              have p15 := TF.out 15 (by omega)
              have q15 := TG.out 15 (by omega)
              have heq := fun W => (eqArr W 26 16 Try.underlying26 ft gt HTF.out HTG.out).trans (congrArg (fun x => Result.ok x W) (show sameB ft gt = true from decide_eq_true h5))
              rw [tag_list HTF.out, tag_list HTG.out] at heq
              simp only [Nat.reduceAdd] at p0 q0 p1 q1 p2 q2 p3 q3 p4 q4 p5 q5 p6 q6 p7 q7 p8 q8 p9 q9 p10 q10 p11 q11 p12 q12 p13 q13 p14 q14 p15 q15
              generalize ft.getD 0 0 = x0 at *
              generalize gt.getD 0 0 = y0 at *
              generalize ft.getD 1 0 = x1 at *
              generalize gt.getD 1 0 = y1 at *
              generalize ft.getD 2 0 = x2 at *
              generalize gt.getD 2 0 = y2 at *
              generalize ft.getD 3 0 = x3 at *
              generalize gt.getD 3 0 = y3 at *
              generalize ft.getD 4 0 = x4 at *
              generalize gt.getD 4 0 = y4 at *
              generalize ft.getD 5 0 = x5 at *
              generalize gt.getD 5 0 = y5 at *
              generalize ft.getD 6 0 = x6 at *
              generalize gt.getD 6 0 = y6 at *
              generalize ft.getD 7 0 = x7 at *
              generalize gt.getD 7 0 = y7 at *
              generalize ft.getD 8 0 = x8 at *
              generalize gt.getD 8 0 = y8 at *
              generalize ft.getD 9 0 = x9 at *
              generalize gt.getD 9 0 = y9 at *
              generalize ft.getD 10 0 = x10 at *
              generalize gt.getD 10 0 = y10 at *
              generalize ft.getD 11 0 = x11 at *
              generalize gt.getD 11 0 = y11 at *
              generalize ft.getD 12 0 = x12 at *
              generalize gt.getD 12 0 = y12 at *
              generalize ft.getD 13 0 = x13 at *
              generalize gt.getD 13 0 = y13 at *
              generalize ft.getD 14 0 = x14 at *
              generalize gt.getD 14 0 = y14 at *
              generalize ft.getD 15 0 = x15 at *
              generalize gt.getD 15 0 = y15 at *
              clear h4 h5
              go_enter Try.func19, Try.ntmps19
              go_wp2_with fail
              go_ret
              exact Gives.mk rfl (by (repeat (first | (with_reducible exact Below.refl _ _) | (with_reducible assumption) | (with_reducible refine Below.alloc ?_ (by (repeat (first | (with_reducible exact Nat.le_refl _) | (with_reducible assumption) | (with_reducible refine le_up ?_) | (with_reducible refine le_alloc ?_) | (with_reducible refine le_setCell ?_) | (with_reducible refine le_drew ?_) | (with_reducible refine le_drewN ?_) | omega))) _) | (with_reducible refine Below.drew ?_) | (with_reducible refine Below.drewN ?_ _) | (with_reducible refine Below.setCell ?_ (by (repeat (first | (with_reducible exact Nat.le_refl _) | (with_reducible assumption) | (with_reducible refine le_up ?_) | (with_reducible refine le_alloc ?_) | (with_reducible refine le_setCell ?_) | (with_reducible refine le_drew ?_) | (with_reducible refine le_drewN ?_) | omega))) _) | (with_reducible refine Below.up ?_ (by (repeat (first | (with_reducible exact Nat.le_refl _) | (with_reducible assumption) | (with_reducible refine le_up ?_) | (with_reducible refine le_alloc ?_) | (with_reducible refine le_setCell ?_) | (with_reducible refine le_drew ?_) | (with_reducible refine le_drewN ?_) | omega)))))))
            · rw [sameF_no (fun e => h5 (by injection e))]
              have p0 := TF.out 0 (by omega)
              have q0 := TG.out 0 (by omega)
              have p1 := TF.out 1 (by omega)
              have q1 := TG.out 1 (by omega)
              have p2 := TF.out 2 (by omega)
              have q2 := TG.out 2 (by omega)
              have p3 := TF.out 3 (by omega)
              have q3 := TG.out 3 (by omega)
              have p4 := TF.out 4 (by omega)
              have q4 := TG.out 4 (by omega)
              have p5 := TF.out 5 (by omega)
              have q5 := TG.out 5 (by omega)
              have p6 := TF.out 6 (by omega)
              have q6 := TG.out 6 (by omega)
              have p7 := TF.out 7 (by omega)
              have q7 := TG.out 7 (by omega)
              have p8 := TF.out 8 (by omega)
              have q8 := TG.out 8 (by omega)
              have p9 := TF.out 9 (by omega)
              have q9 := TG.out 9 (by omega)
              have p10 := TF.out 10 (by omega)
              have q10 := TG.out 10 (by omega)
              have p11 := TF.out 11 (by omega)
              have q11 := TG.out 11 (by omega)
              have p12 := TF.out 12 (by omega)
              have q12 := TG.out 12 (by omega)
              have p13 := TF.out 13 (by omega)
              have q13 := TG.out 13 (by omega)
              have p14 := TF.out 14 (by omega)
              have q14 := TG.out 14 (by omega)
              have p15 := TF.out 15 (by omega)
              have q15 := TG.out 15 (by omega)
              have heq := fun W => (eqArr W 26 16 Try.underlying26 ft gt HTF.out HTG.out).trans (congrArg (fun x => Result.ok x W) (show sameB ft gt = false from decide_eq_false h5))
              rw [tag_list HTF.out, tag_list HTG.out] at heq
              simp only [Nat.reduceAdd] at p0 q0 p1 q1 p2 q2 p3 q3 p4 q4 p5 q5 p6 q6 p7 q7 p8 q8 p9 q9 p10 q10 p11 q11 p12 q12 p13 q13 p14 q14 p15 q15
              generalize ft.getD 0 0 = x0 at *
              generalize gt.getD 0 0 = y0 at *
              generalize ft.getD 1 0 = x1 at *
              generalize gt.getD 1 0 = y1 at *
              generalize ft.getD 2 0 = x2 at *
              generalize gt.getD 2 0 = y2 at *
              generalize ft.getD 3 0 = x3 at *
              generalize gt.getD 3 0 = y3 at *
              generalize ft.getD 4 0 = x4 at *
              generalize gt.getD 4 0 = y4 at *
              generalize ft.getD 5 0 = x5 at *
              generalize gt.getD 5 0 = y5 at *
              generalize ft.getD 6 0 = x6 at *
              generalize gt.getD 6 0 = y6 at *
              generalize ft.getD 7 0 = x7 at *
              generalize gt.getD 7 0 = y7 at *
              generalize ft.getD 8 0 = x8 at *
              generalize gt.getD 8 0 = y8 at *
              generalize ft.getD 9 0 = x9 at *
              generalize gt.getD 9 0 = y9 at *
              generalize ft.getD 10 0 = x10 at *
              generalize gt.getD 10 0 = y10 at *
              generalize ft.getD 11 0 = x11 at *
              generalize gt.getD 11 0 = y11 at *
              generalize ft.getD 12 0 = x12 at *
              generalize gt.getD 12 0 = y12 at *
              generalize ft.getD 13 0 = x13 at *
              generalize gt.getD 13 0 = y13 at *
              generalize ft.getD 14 0 = x14 at *
              generalize gt.getD 14 0 = y14 at *
              generalize ft.getD 15 0 = x15 at *
              generalize gt.getD 15 0 = y15 at *
              clear h4
              go_enter Try.func19, Try.ntmps19
              go_wp2_with fail
              go_ret
              exact Gives.mk rfl (by (repeat (first | (with_reducible exact Below.refl _ _) | (with_reducible assumption) | (with_reducible refine Below.alloc ?_ (by (repeat (first | (with_reducible exact Nat.le_refl _) | (with_reducible assumption) | (with_reducible refine le_up ?_) | (with_reducible refine le_alloc ?_) | (with_reducible refine le_setCell ?_) | (with_reducible refine le_drew ?_) | (with_reducible refine le_drewN ?_) | omega))) _) | (with_reducible refine Below.drew ?_) | (with_reducible refine Below.drewN ?_ _) | (with_reducible refine Below.setCell ?_ (by (repeat (first | (with_reducible exact Nat.le_refl _) | (with_reducible assumption) | (with_reducible refine le_up ?_) | (with_reducible refine le_alloc ?_) | (with_reducible refine le_setCell ?_) | (with_reducible refine le_drew ?_) | (with_reducible refine le_drewN ?_) | omega))) _) | (with_reducible refine Below.up ?_ (by (repeat (first | (with_reducible exact Nat.le_refl _) | (with_reducible assumption) | (with_reducible refine le_up ?_) | (with_reducible refine le_alloc ?_) | (with_reducible refine le_setCell ?_) | (with_reducible refine le_drew ?_) | (with_reducible refine le_drewN ?_) | omega)))))))
          · rw [sameF_no (fun e => h4 (by injection e))]
            have hsb : ((strB fb).toList == (strB gb).toList) = false := by rw [strB_eq HF.out.1 HG.out.1]; exact decide_eq_false h4
            go_enter Try.func19, Try.ntmps19
            go_wp2_with fail
            go_ret
            exact Gives.mk rfl (by (repeat (first | (with_reducible exact Below.refl _ _) | (with_reducible assumption) | (with_reducible refine Below.alloc ?_ (by (repeat (first | (with_reducible exact Nat.le_refl _) | (with_reducible assumption) | (with_reducible refine le_up ?_) | (with_reducible refine le_alloc ?_) | (with_reducible refine le_setCell ?_) | (with_reducible refine le_drew ?_) | (with_reducible refine le_drewN ?_) | omega))) _) | (with_reducible refine Below.drew ?_) | (with_reducible refine Below.drewN ?_ _) | (with_reducible refine Below.setCell ?_ (by (repeat (first | (with_reducible exact Nat.le_refl _) | (with_reducible assumption) | (with_reducible refine le_up ?_) | (with_reducible refine le_alloc ?_) | (with_reducible refine le_setCell ?_) | (with_reducible refine le_drew ?_) | (with_reducible refine le_drewN ?_) | omega))) _) | (with_reducible refine Below.up ?_ (by (repeat (first | (with_reducible exact Nat.le_refl _) | (with_reducible assumption) | (with_reducible refine le_up ?_) | (with_reducible refine le_alloc ?_) | (with_reducible refine le_setCell ?_) | (with_reducible refine le_drew ?_) | (with_reducible refine le_drewN ?_) | omega)))))))
        · rw [sameF_no (fun e => h3 (by injection e))]
          have n3 : ¬ ((fc : Nat) : Int) = ((gc : Nat) : Int) := by omega
          go_enter Try.func19, Try.ntmps19
          go_wp2_with fail
          go_ret
          exact Gives.mk rfl (by (repeat (first | (with_reducible exact Below.refl _ _) | (with_reducible assumption) | (with_reducible refine Below.alloc ?_ (by (repeat (first | (with_reducible exact Nat.le_refl _) | (with_reducible assumption) | (with_reducible refine le_up ?_) | (with_reducible refine le_alloc ?_) | (with_reducible refine le_setCell ?_) | (with_reducible refine le_drew ?_) | (with_reducible refine le_drewN ?_) | omega))) _) | (with_reducible refine Below.drew ?_) | (with_reducible refine Below.drewN ?_ _) | (with_reducible refine Below.setCell ?_ (by (repeat (first | (with_reducible exact Nat.le_refl _) | (with_reducible assumption) | (with_reducible refine le_up ?_) | (with_reducible refine le_alloc ?_) | (with_reducible refine le_setCell ?_) | (with_reducible refine le_drew ?_) | (with_reducible refine le_drewN ?_) | omega))) _) | (with_reducible refine Below.up ?_ (by (repeat (first | (with_reducible exact Nat.le_refl _) | (with_reducible assumption) | (with_reducible refine le_up ?_) | (with_reducible refine le_alloc ?_) | (with_reducible refine le_setCell ?_) | (with_reducible refine le_drew ?_) | (with_reducible refine le_drewN ?_) | omega)))))))
      · rw [sameF_no (fun e => h2 (by injection e))]
        have n2 : ¬ ((fe : Nat) : Int) = ((ge : Nat) : Int) := by omega
        go_enter Try.func19, Try.ntmps19
        go_wp2_with fail
        go_ret
        exact Gives.mk rfl (by (repeat (first | (with_reducible exact Below.refl _ _) | (with_reducible assumption) | (with_reducible refine Below.alloc ?_ (by (repeat (first | (with_reducible exact Nat.le_refl _) | (with_reducible assumption) | (with_reducible refine le_up ?_) | (with_reducible refine le_alloc ?_) | (with_reducible refine le_setCell ?_) | (with_reducible refine le_drew ?_) | (with_reducible refine le_drewN ?_) | omega))) _) | (with_reducible refine Below.drew ?_) | (with_reducible refine Below.drewN ?_ _) | (with_reducible refine Below.setCell ?_ (by (repeat (first | (with_reducible exact Nat.le_refl _) | (with_reducible assumption) | (with_reducible refine le_up ?_) | (with_reducible refine le_alloc ?_) | (with_reducible refine le_setCell ?_) | (with_reducible refine le_drew ?_) | (with_reducible refine le_drewN ?_) | omega))) _) | (with_reducible refine Below.up ?_ (by (repeat (first | (with_reducible exact Nat.le_refl _) | (with_reducible assumption) | (with_reducible refine le_up ?_) | (with_reducible refine le_alloc ?_) | (with_reducible refine le_setCell ?_) | (with_reducible refine le_drew ?_) | (with_reducible refine le_drewN ?_) | omega)))))))
    · rw [sameF_no (fun e => h1 (by injection e))]
      go_enter Try.func19, Try.ntmps19
      go_wp2_with fail
      go_ret
      exact Gives.mk rfl (by (repeat (first | (with_reducible exact Below.refl _ _) | (with_reducible assumption) | (with_reducible refine Below.alloc ?_ (by (repeat (first | (with_reducible exact Nat.le_refl _) | (with_reducible assumption) | (with_reducible refine le_up ?_) | (with_reducible refine le_alloc ?_) | (with_reducible refine le_setCell ?_) | (with_reducible refine le_drew ?_) | (with_reducible refine le_drewN ?_) | omega))) _) | (with_reducible refine Below.drew ?_) | (with_reducible refine Below.drewN ?_ _) | (with_reducible refine Below.setCell ?_ (by (repeat (first | (with_reducible exact Nat.le_refl _) | (with_reducible assumption) | (with_reducible refine le_up ?_) | (with_reducible refine le_alloc ?_) | (with_reducible refine le_setCell ?_) | (with_reducible refine le_drew ?_) | (with_reducible refine le_drewN ?_) | omega))) _) | (with_reducible refine Below.up ?_ (by (repeat (first | (with_reducible exact Nat.le_refl _) | (with_reducible assumption) | (with_reducible refine le_up ?_) | (with_reducible refine le_alloc ?_) | (with_reducible refine le_setCell ?_) | (with_reducible refine le_drew ?_) | (with_reducible refine le_drewN ?_) | omega)))))))
  · rw [sameF_no (fun e => h0 (by injection e))]
    go_enter Try.func19, Try.ntmps19
    go_wp2_with fail
    go_ret
    exact Gives.mk rfl (by (repeat (first | (with_reducible exact Below.refl _ _) | (with_reducible assumption) | (with_reducible refine Below.alloc ?_ (by (repeat (first | (with_reducible exact Nat.le_refl _) | (with_reducible assumption) | (with_reducible refine le_up ?_) | (with_reducible refine le_alloc ?_) | (with_reducible refine le_setCell ?_) | (with_reducible refine le_drew ?_) | (with_reducible refine le_drewN ?_) | omega))) _) | (with_reducible refine Below.drew ?_) | (with_reducible refine Below.drewN ?_ _) | (with_reducible refine Below.setCell ?_ (by (repeat (first | (with_reducible exact Nat.le_refl _) | (with_reducible assumption) | (with_reducible refine le_up ?_) | (with_reducible refine le_alloc ?_) | (with_reducible refine le_setCell ?_) | (with_reducible refine le_drew ?_) | (with_reducible refine le_drewN ?_) | omega))) _) | (with_reducible refine Below.up ?_ (by (repeat (first | (with_reducible exact Nat.le_refl _) | (with_reducible assumption) | (with_reducible refine le_up ?_) | (with_reducible refine le_alloc ?_) | (with_reducible refine le_setCell ?_) | (with_reducible refine le_drew ?_) | (with_reducible refine le_drewN ?_) | omega)))))))
set_option maxRecDepth 100000 in
set_option maxHeartbeats 3200000 in
theorem fSame_any (f g : FrmS) (bv cv : Value) (w : World) (hf : Bts w bv f.body) (hg : Bts w cv g.body) (htf : f.tag.length = 16) (htg : g.tag.length = 16) :
    Calls Try.prog 28 #[.agg (frL f bv).toArray, .agg (frL g cv).toArray] w (Gives w (.bool (sameF f g))) := by
  obtain ⟨fk, fs, fe, fc, fb, ft⟩ := f
  obtain ⟨gk, gs, ge, gc, gb, gt⟩ := g
  dsimp only at hf hg htf htg
  have l0 : (frL ⟨fk, fs, fe, fc, fb, ft⟩ bv)[0]? = some (.int .i64 fk) := rfl
  have l1 : (frL ⟨fk, fs, fe, fc, fb, ft⟩ bv)[1]? = some (.int .i64 fs) := rfl
  have l2 : (frL ⟨fk, fs, fe, fc, fb, ft⟩ bv)[2]? = some (.int .u32 fe) := rfl
  have l3 : (frL ⟨fk, fs, fe, fc, fb, ft⟩ bv)[3]? = some (.int .u64 fc) := rfl
  have l4 : (frL ⟨fk, fs, fe, fc, fb, ft⟩ bv)[4]? = some bv := rfl
  have m0 : (frL ⟨gk, gs, ge, gc, gb, gt⟩ cv)[0]? = some (.int .i64 gk) := rfl
  have m1 : (frL ⟨gk, gs, ge, gc, gb, gt⟩ cv)[1]? = some (.int .i64 gs) := rfl
  have m2 : (frL ⟨gk, gs, ge, gc, gb, gt⟩ cv)[2]? = some (.int .u32 ge) := rfl
  have m3 : (frL ⟨gk, gs, ge, gc, gb, gt⟩ cv)[3]? = some (.int .u64 gc) := rfl
  have m4 : (frL ⟨gk, gs, ge, gc, gb, gt⟩ cv)[4]? = some cv := rfl
  have TF := Lib.hid (frL_at ⟨fk, fs, fe, fc, fb, ft⟩ bv htf)
  have TG := Lib.hid (frL_at ⟨gk, gs, ge, gc, gb, gt⟩ cv htg)
  dsimp only at TF TG
  generalize frL ⟨fk, fs, fe, fc, fb, ft⟩ bv = L at *
  generalize frL ⟨gk, gs, ge, gc, gb, gt⟩ cv = M at *
  have HF := Lib.hid ((hf.alloc (o := .cells L.toArray 28)).alloc (o := .cells M.toArray 28))
  have HG := Lib.hid ((hg.alloc (o := .cells L.toArray 28)).alloc (o := .cells M.toArray 28))
  obtain ⟨va, vn, vc, rfl⟩ := hf.slice
  obtain ⟨ua, un, uc, rfl⟩ := hg.slice
  have HTF := Lib.hid htf
  have HTG := Lib.hid htg
  clear hf hg htf htg
  by_cases h0 : fk = gk
  · subst h0
    by_cases h1 : fs = gs
    · subst h1
      by_cases h2 : fe = ge
      · subst h2
        by_cases h3 : fc = gc
        · subst h3
          by_cases h5 : ft = gt
          · skip
            have HY := Lib.hid (show sameB fb gb = sameF ⟨fk, fs, fe, fc, fb, ft⟩ ⟨fk, fs, fe, fc, gb, gt⟩ by
              by_cases h4 : fb = gb
              · rw [h4, h5, sameF_yes]; exact decide_eq_true rfl
              · rw [sameF_no (fun e => h4 (by injection e))]; exact decide_eq_false h4)
            rw [← HY.out]
            have p0 := TF.out 0 (by omega)
            have q0 := TG.out 0 (by omega)
            have p1 := TF.out 1 (by omega)
            have q1 := TG.out 1 (by omega)
            have p2 := TF.out 2 (by omega)
            have q2 := TG.out 2 (by omega)
            have p3 := TF.out 3 (by omega)
            have q3 := TG.out 3 (by omega)
            have p4 := TF.out 4 (by omega)
            have q4 := TG.out 4 (by omega)
            have p5 := TF.out 5 (by omega)
            have q5 := TG.out 5 (by omega)
            have p6 := TF.out 6 (by omega)
            have q6 := TG.out 6 (by omega)
            have p7 := TF.out 7 (by omega)
            have q7 := TG.out 7 (by omega)
            have p8 := TF.out 8 (by omega)
            have q8 := TG.out 8 (by omega)
            have p9 := TF.out 9 (by omega)
            have q9 := TG.out 9 (by omega)
            have p10 := TF.out 10 (by omega)
            have q10 := TG.out 10 (by omega)
            have p11 := TF.out 11 (by omega)
            have q11 := TG.out 11 (by omega)
            have p12 := TF.out 12 (by omega)
            have q12 := TG.out 12 (by omega)
            have p13 := TF.out 13 (by omega)
            have q13 := TG.out 13 (by omega)
            have p14 := TF.out 14 (by omega)
            have q14 := TG.out 14 (by omega)
            have p15 := TF.out 15 (by omega)
            have q15 := TG.out 15 (by omega)
            have heq := fun W => (eqArr W 26 16 Try.underlying26 ft gt HTF.out HTG.out).trans (congrArg (fun x => Result.ok x W) (show sameB ft gt = true from decide_eq_true h5))
            rw [tag_list HTF.out, tag_list HTG.out] at heq
            simp only [Nat.reduceAdd] at p0 q0 p1 q1 p2 q2 p3 q3 p4 q4 p5 q5 p6 q6 p7 q7 p8 q8 p9 q9 p10 q10 p11 q11 p12 q12 p13 q13 p14 q14 p15 q15
            generalize ft.getD 0 0 = x0 at *
            generalize gt.getD 0 0 = y0 at *
            generalize ft.getD 1 0 = x1 at *
            generalize gt.getD 1 0 = y1 at *
            generalize ft.getD 2 0 = x2 at *
            generalize gt.getD 2 0 = y2 at *
            generalize ft.getD 3 0 = x3 at *
            generalize gt.getD 3 0 = y3 at *
            generalize ft.getD 4 0 = x4 at *
            generalize gt.getD 4 0 = y4 at *
            generalize ft.getD 5 0 = x5 at *
            generalize gt.getD 5 0 = y5 at *
            generalize ft.getD 6 0 = x6 at *
            generalize gt.getD 6 0 = y6 at *
            generalize ft.getD 7 0 = x7 at *
            generalize gt.getD 7 0 = y7 at *
            generalize ft.getD 8 0 = x8 at *
            generalize gt.getD 8 0 = y8 at *
            generalize ft.getD 9 0 = x9 at *
            generalize gt.getD 9 0 = y9 at *
            generalize ft.getD 10 0 = x10 at *
            generalize gt.getD 10 0 = y10 at *
            generalize ft.getD 11 0 = x11 at *
            generalize gt.getD 11 0 = y11 at *
            generalize ft.getD 12 0 = x12 at *
            generalize gt.getD 12 0 = y12 at *
            generalize ft.getD 13 0 = x13 at *
            generalize gt.getD 13 0 = y13 at *
            generalize ft.getD 14 0 = x14 at *
            generalize gt.getD 14 0 = y14 at *
            generalize ft.getD 15 0 = x15 at *
            generalize gt.getD 15 0 = y15 at *
            clear h5
            go_enter Try.func28, Try.ntmps28
            go_wp2_with (go_at_call 70; with_reducible refine Calls.tells (Equal_any _ _ fb gb _ HF.out HG.out) ?_)
            go_ret
            exact Gives.mk rfl (by (repeat (first | (with_reducible exact Below.refl _ _) | (with_reducible assumption) | (with_reducible refine Below.alloc ?_ (by (repeat (first | (with_reducible exact Nat.le_refl _) | (with_reducible assumption) | (with_reducible refine le_up ?_) | (with_reducible refine le_alloc ?_) | (with_reducible refine le_setCell ?_) | (with_reducible refine le_drew ?_) | (with_reducible refine le_drewN ?_) | omega))) _) | (with_reducible refine Below.drew ?_) | (with_reducible refine Below.drewN ?_ _) | (with_reducible refine Below.setCell ?_ (by (repeat (first | (with_reducible exact Nat.le_refl _) | (with_reducible assumption) | (with_reducible refine le_up ?_) | (with_reducible refine le_alloc ?_) | (with_reducible refine le_setCell ?_) | (with_reducible refine le_drew ?_) | (with_reducible refine le_drewN ?_) | omega))) _) | (with_reducible refine Below.up ?_ (by (repeat (first | (with_reducible exact Nat.le_refl _) | (with_reducible assumption) | (with_reducible refine le_up ?_) | (with_reducible refine le_alloc ?_) | (with_reducible refine le_setCell ?_) | (with_reducible refine le_drew ?_) | (with_reducible refine le_drewN ?_) | omega)))))))
          · rw [sameF_no (fun e => h5 (by injection e))]
            have p0 := TF.out 0 (by omega)
            have q0 := TG.out 0 (by omega)
            have p1 := TF.out 1 (by omega)
            have q1 := TG.out 1 (by omega)
            have p2 := TF.out 2 (by omega)
            have q2 := TG.out 2 (by omega)
            have p3 := TF.out 3 (by omega)
            have q3 := TG.out 3 (by omega)
            have p4 := TF.out 4 (by omega)
            have q4 := TG.out 4 (by omega)
            have p5 := TF.out 5 (by omega)
            have q5 := TG.out 5 (by omega)
            have p6 := TF.out 6 (by omega)
            have q6 := TG.out 6 (by omega)
            have p7 := TF.out 7 (by omega)
            have q7 := TG.out 7 (by omega)
            have p8 := TF.out 8 (by omega)
            have q8 := TG.out 8 (by omega)
            have p9 := TF.out 9 (by omega)
            have q9 := TG.out 9 (by omega)
            have p10 := TF.out 10 (by omega)
            have q10 := TG.out 10 (by omega)
            have p11 := TF.out 11 (by omega)
            have q11 := TG.out 11 (by omega)
            have p12 := TF.out 12 (by omega)
            have q12 := TG.out 12 (by omega)
            have p13 := TF.out 13 (by omega)
            have q13 := TG.out 13 (by omega)
            have p14 := TF.out 14 (by omega)
            have q14 := TG.out 14 (by omega)
            have p15 := TF.out 15 (by omega)
            have q15 := TG.out 15 (by omega)
            have heq := fun W => (eqArr W 26 16 Try.underlying26 ft gt HTF.out HTG.out).trans (congrArg (fun x => Result.ok x W) (show sameB ft gt = false from decide_eq_false h5))
            rw [tag_list HTF.out, tag_list HTG.out] at heq
            simp only [Nat.reduceAdd] at p0 q0 p1 q1 p2 q2 p3 q3 p4 q4 p5 q5 p6 q6 p7 q7 p8 q8 p9 q9 p10 q10 p11 q11 p12 q12 p13 q13 p14 q14 p15 q15
            generalize ft.getD 0 0 = x0 at *
            generalize gt.getD 0 0 = y0 at *
            generalize ft.getD 1 0 = x1 at *
            generalize gt.getD 1 0 = y1 at *
            generalize ft.getD 2 0 = x2 at *
            generalize gt.getD 2 0 = y2 at *
            generalize ft.getD 3 0 = x3 at *
            generalize gt.getD 3 0 = y3 at *
            generalize ft.getD 4 0 = x4 at *
            generalize gt.getD 4 0 = y4 at *
            generalize ft.getD 5 0 = x5 at *
            generalize gt.getD 5 0 = y5 at *
            generalize ft.getD 6 0 = x6 at *
            generalize gt.getD 6 0 = y6 at *
            generalize ft.getD 7 0 = x7 at *
            generalize gt.getD 7 0 = y7 at *
            generalize ft.getD 8 0 = x8 at *
            generalize gt.getD 8 0 = y8 at *
            generalize ft.getD 9 0 = x9 at *
            generalize gt.getD 9 0 = y9 at *
            generalize ft.getD 10 0 = x10 at *
            generalize gt.getD 10 0 = y10 at *
            generalize ft.getD 11 0 = x11 at *
            generalize gt.getD 11 0 = y11 at *
            generalize ft.getD 12 0 = x12 at *
            generalize gt.getD 12 0 = y12 at *
            generalize ft.getD 13 0 = x13 at *
            generalize gt.getD 13 0 = y13 at *
            generalize ft.getD 14 0 = x14 at *
            generalize gt.getD 14 0 = y14 at *
            generalize ft.getD 15 0 = x15 at *
            generalize gt.getD 15 0 = y15 at *
            go_enter Try.func28, Try.ntmps28
            go_wp2_with (go_at_call 70; with_reducible refine Calls.tells (Equal_any _ _ fb gb _ HF.out HG.out) ?_)
            go_ret
            exact Gives.mk rfl (by (repeat (first | (with_reducible exact Below.refl _ _) | (with_reducible assumption) | (with_reducible refine Below.alloc ?_ (by (repeat (first | (with_reducible exact Nat.le_refl _) | (with_reducible assumption) | (with_reducible refine le_up ?_) | (with_reducible refine le_alloc ?_) | (with_reducible refine le_setCell ?_) | (with_reducible refine le_drew ?_) | (with_reducible refine le_drewN ?_) | omega))) _) | (with_reducible refine Below.drew ?_) | (with_reducible refine Below.drewN ?_ _) | (with_reducible refine Below.setCell ?_ (by (repeat (first | (with_reducible exact Nat.le_refl _) | (with_reducible assumption) | (with_reducible refine le_up ?_) | (with_reducible refine le_alloc ?_) | (with_reducible refine le_setCell ?_) | (with_reducible refine le_drew ?_) | (with_reducible refine le_drewN ?_) | omega))) _) | (with_reducible refine Below.up ?_ (by (repeat (first | (with_reducible exact Nat.le_refl _) | (with_reducible assumption) | (with_reducible refine le_up ?_) | (with_reducible refine le_alloc ?_) | (with_reducible refine le_setCell ?_) | (with_reducible refine le_drew ?_) | (with_reducible refine le_drewN ?_) | omega)))))))
        · rw [sameF_no (fun e => h3 (by injection e))]
          have n3 : ¬ ((fc : Nat) : Int) = ((gc : Nat) : Int) := by omega
          go_enter Try.func28, Try.ntmps28
          go_wp2_with (go_at_call 70; with_reducible refine Calls.tells (Equal_any _ _ fb gb _ HF.out HG.out) ?_)
          go_ret
          exact Gives.mk rfl (by (repeat (first | (with_reducible exact Below.refl _ _) | (with_reducible assumption) | (with_reducible refine Below.alloc ?_ (by (repeat (first | (with_reducible exact Nat.le_refl _) | (with_reducible assumption) | (with_reducible refine le_up ?_) | (with_reducible refine le_alloc ?_) | (with_reducible refine le_setCell ?_) | (with_reducible refine le_drew ?_) | (with_reducible refine le_drewN ?_) | omega))) _) | (with_reducible refine Below.drew ?_) | (with_reducible refine Below.drewN ?_ _) | (with_reducible refine Below.setCell ?_ (by (repeat (first | (with_reducible exact Nat.le_refl _) | (with_reducible assumption) | (with_reducible refine le_up ?_) | (with_reducible refine le_alloc ?_) | (with_reducible refine le_setCell ?_) | (with_reducible refine le_drew ?_) | (with_reducible refine le_drewN ?_) | omega))) _) | (with_reducible refine Below.up ?_ (by (repeat (first | (with_reducible exact Nat.le_refl _) | (with_reducible assumption) | (with_reducible refine le_up ?_) | (with_reducible refine le_alloc ?_) | (with_reducible refine le_setCell ?_) | (with_reducible refine le_drew ?_) | (with_reducible refine le_drewN ?_) | omega)))))))
      · rw [sameF_no (fun e => h2 (by injection e))]
        have n2 : ¬ ((fe : Nat) : Int) = ((ge : Nat) : Int) := by omega
        go_enter Try.func28, Try.ntmps28
        go_wp2_with (go_at_call 70; with_reducible refine Calls.tells (Equal_any _ _ fb gb _ HF.out HG.out) ?_)
        go_ret
        exact Gives.mk rfl (by (repeat (first | (with_reducible exact Below.refl _ _) | (with_reducible assumption) | (with_reducible refine Below.alloc ?_ (by (repeat (first | (with_reducible exact Nat.le_refl _) | (with_reducible assumption) | (with_reducible refine le_up ?_) | (with_reducible refine le_alloc ?_) | (with_reducible refine le_setCell ?_) | (with_reducible refine le_drew ?_) | (with_reducible refine le_drewN ?_) | omega))) _) | (with_reducible refine Below.drew ?_) | (with_reducible refine Below.drewN ?_ _) | (with_reducible refine Below.setCell ?_ (by (repeat (first | (with_reducible exact Nat.le_refl _) | (with_reducible assumption) | (with_reducible refine le_up ?_) | (with_reducible refine le_alloc ?_) | (with_reducible refine le_setCell ?_) | (with_reducible refine le_drew ?_) | (with_reducible refine le_drewN ?_) | omega))) _) | (with_reducible refine Below.up ?_ (by (repeat (first | (with_reducible exact Nat.le_refl _) | (with_reducible assumption) | (with_reducible refine le_up ?_) | (with_reducible refine le_alloc ?_) | (with_reducible refine le_setCell ?_) | (with_reducible refine le_drew ?_) | (with_reducible refine le_drewN ?_) | omega)))))))
    · rw [sameF_no (fun e => h1 (by injection e))]
      go_enter Try.func28, Try.ntmps28
      go_wp2_with (go_at_call 70; with_reducible refine Calls.tells (Equal_any _ _ fb gb _ HF.out HG.out) ?_)
      go_ret
      exact Gives.mk rfl (by (repeat (first | (with_reducible exact Below.refl _ _) | (with_reducible assumption) | (with_reducible refine Below.alloc ?_ (by (repeat (first | (with_reducible exact Nat.le_refl _) | (with_reducible assumption) | (with_reducible refine le_up ?_) | (with_reducible refine le_alloc ?_) | (with_reducible refine le_setCell ?_) | (with_reducible refine le_drew ?_) | (with_reducible refine le_drewN ?_) | omega))) _) | (with_reducible refine Below.drew ?_) | (with_reducible refine Below.drewN ?_ _) | (with_reducible refine Below.setCell ?_ (by (repeat (first | (with_reducible exact Nat.le_refl _) | (with_reducible assumption) | (with_reducible refine le_up ?_) | (with_reducible refine le_alloc ?_) | (with_reducible refine le_setCell ?_) | (with_reducible refine le_drew ?_) | (with_reducible refine le_drewN ?_) | omega))) _) | (with_reducible refine Below.up ?_ (by (repeat (first | (with_reducible exact Nat.le_refl _) | (with_reducible assumption) | (with_reducible refine le_up ?_) | (with_reducible refine le_alloc ?_) | (with_reducible refine le_setCell ?_) | (with_reducible refine le_drew ?_) | (with_reducible refine le_drewN ?_) | omega)))))))
  · rw [sameF_no (fun e => h0 (by injection e))]
    go_enter Try.func28, Try.ntmps28
    go_wp2_with (go_at_call 70; with_reducible refine Calls.tells (Equal_any _ _ fb gb _ HF.out HG.out) ?_)
    go_ret
    exact Gives.mk rfl (by (repeat (first | (with_reducible exact Below.refl _ _) | (with_reducible assumption) | (with_reducible refine Below.alloc ?_ (by (repeat (first | (with_reducible exact Nat.le_refl _) | (with_reducible assumption) | (with_reducible refine le_up ?_) | (with_reducible refine le_alloc ?_) | (with_reducible refine le_setCell ?_) | (with_reducible refine le_drew ?_) | (with_reducible refine le_drewN ?_) | omega))) _) | (with_reducible refine Below.drew ?_) | (with_reducible refine Below.drewN ?_ _) | (with_reducible refine Below.setCell ?_ (by (repeat (first | (with_reducible exact Nat.le_refl _) | (with_reducible assumption) | (with_reducible refine le_up ?_) | (with_reducible refine le_alloc ?_) | (with_reducible refine le_setCell ?_) | (with_reducible refine le_drew ?_) | (with_reducible refine le_drewN ?_) | omega))) _) | (with_reducible refine Below.up ?_ (by (repeat (first | (with_reducible exact Nat.le_refl _) | (with_reducible assumption) | (with_reducible refine le_up ?_) | (with_reducible refine le_alloc ?_) | (with_reducible refine le_setCell ?_) | (with_reducible refine le_drew ?_) | (with_reducible refine le_drewN ?_) | omega)))))))
end Go.Proofs.Ytjkgodhoonkinaa
