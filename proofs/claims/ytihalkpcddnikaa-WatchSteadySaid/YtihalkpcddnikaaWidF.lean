/-
  Numbers of 128 bits: the sum, bit by bit.
-/
import Derived.Test.YtihalkpcddnikaaWidE
import Derived.Test.YtihalkpcddnikaaSlim
import Derived.Deep.CutBlock
import Derived.Deep.CutRange
namespace Go.Proofs.Ytihalkpcddnikaa
open Go.RowKit
set_option linter.unusedVariables false
set_option linter.unusedSimpArgs false

/-- Two numbers boxed, and a result's variable. -/
structure AddAt (w : World) (n m : Nat) (W : World) : Prop where
  bel : Below w.heap.size w W
  a0 : W.cell? ⟨w.heap.size, 0, none⟩ = some (.int .i64 (hiV n))
  a1 : W.cell? ⟨w.heap.size, 1, none⟩ = some (.int .u64 (loV n))
  b0 : W.cell? ⟨w.heap.size + 1, 0, none⟩ = some (.int .i64 (hiV m))
  b1 : W.cell? ⟨w.heap.size + 1, 1, none⟩ = some (.int .u64 (loV m))
  r0 : W.cell? ⟨w.heap.size + 2, 0, none⟩ = some (.int .i64 0)
  r1 : W.cell? ⟨w.heap.size + 2, 1, none⟩ = some (.int .u64 0)
  f : ∀ i, W.frozen? ⟨w.heap.size + 2, i, none⟩ = false
  sz : w.heap.size + 3 ≤ W.heap.size
theorem cell_belowI {B : Nat} {w w' : World} {b o : Nat} {v : Value} (hb : Below B w w') (hB : b < B) (h : w.cell? ⟨b, o, none⟩ = some v) : w'.cell? ⟨b, o, none⟩ = some v := by rw [hb.cell (p := ⟨b, o, none⟩) hB]; exact h
theorem AddAt.below {w : World} {n m : Nat} {W W' : World} (H : AddAt w n m W) (hb : Below W.heap.size W W') : AddAt w n m W' := by
  have := H.sz
  exact ⟨H.bel.trans (hb.mono H.bel.size), cell_belowI hb (by omega) H.a0, cell_belowI hb (by omega) H.a1, cell_belowI hb (by omega) H.b0, cell_belowI hb (by omega) H.b1, cell_belowI hb (by omega) H.r0, cell_belowI hb (by omega) H.r1,
    fun i => by rw [hb.frozen (p := ⟨w.heap.size + 2, i, none⟩) (show w.heap.size + 2 < W.heap.size by omega)]; exact H.f i, Nat.le_trans this hb.size⟩
theorem AddAt.grown {w : World} {n m : Nat} {W W' : World} {row : Option Nat} (H : AddAt w n m W) (hg : W.grownBy W' row) (hr : ∀ b, row = some b → w.heap.size + 3 ≤ b) : AddAt w n m W' := by
  have hsz := H.sz
  have hne : ∀ k, k < w.heap.size + 3 → row ≠ some k := fun k hk e => by have := hr _ e; omega
  exact ⟨H.bel.grown hg H.bel.size (fun b e => by have := hr b e; omega), kept_cellR H.a0 hg (hne _ (by omega)), kept_cellR H.a1 hg (hne _ (by omega)), kept_cellR H.b0 hg (hne _ (by omega)), kept_cellR H.b1 hg (hne _ (by omega)), kept_cellR H.r0 hg (hne _ (by omega)), kept_cellR H.r1 hg (hne _ (by omega)),
    fun i => by rw [World.frozen?_of_block (a := ⟨w.heap.size + 2, i, none⟩) (hg.block _ (show w.heap.size + 2 < W.heap.size by omega) (fun e => hne (w.heap.size + 2) (by omega) e.symm))]; exact H.f i, Nat.le_trans hsz hg.size⟩
structure SumAt (w : World) (n m : Nat) (gx cx gy cy : Nat) (xs ys : List Nat) (i : Nat) (out : List Nat) (c : Nat) (v : Value) (W : World) : Prop where
  le : i ≤ 128
  c2 : c < 2
  len : out.length = i
  bits : Bits out
  sum : numN out + 2 ^ i * c = numN (xs.take i) + numN (ys.take i)
  own : OwnD W (w.heap.size + 3) v out
  nn : v ≠ .slice none 0 0
  ox : OwnD W (w.heap.size + 3) (.slice (some ⟨gx, 0, none⟩) 128 cx) xs
  oy : OwnD W (w.heap.size + 3) (.slice (some ⟨gy, 0, none⟩) 128 cy) ys
  ax : v.ownBlock ≠ some gx
  ay : v.ownBlock ≠ some gy
  add : AddAt w n m W
theorem SumAt.below {w : World} {n m gx cx gy cy : Nat} {xs ys : List Nat} {i : Nat} {out : List Nat} {c : Nat} {v : Value} {W W' : World} (H : SumAt w n m gx cx gy cy xs ys i out c v W) (hb : Below W.heap.size W W') : SumAt w n m gx cx gy cy xs ys i out c v W' :=
  ⟨H.le, H.c2, H.len, H.bits, H.sum, H.own.below hb (Nat.le_refl _), H.nn, H.ox.below hb (Nat.le_refl _), H.oy.below hb (Nat.le_refl _), H.ax, H.ay, H.add.below hb⟩
theorem sum_step {a b c l r P : Nat} (o : Nat) (h : o + P * c = l + r) : o + P * ((a + b + c) % 2) + 2 * P * ((a + b + c) / 2) = l + P * a + (r + P * b) := by
  have h1 : P * ((a + b + c) % 2) + 2 * P * ((a + b + c) / 2) = P * (a + b + c) := by
    rw [Nat.mul_comm 2 P, Nat.mul_assoc, ← Nat.mul_add, Nat.mod_add_div]
  have h2 : P * (a + b + c) = P * a + P * b + P * c := by rw [Nat.mul_add, Nat.mul_add]
  omega
theorem SumAt.step {w : World} {n m gx cx gy cy : Nat} {xs ys : List Nat} {i : Nat} {out : List Nat} {c : Nat} {v v2 : Value} {W W2 : World} {o : Obj} (H : SumAt w n m gx cx gy cy xs ys i out c v W) (hi : i < 128) (hx : xs.length = 128) (hy : ys.length = 128) (bx : Bits xs) (by_ : Bits ys)
    (ho : OwnD W2 (w.heap.size + 3) v2 (out ++ [(xs.getD i 0 + ys.getD i 0 + c) % 2])) (hg : (W.alloc o).grownBy W2 v.ownBlock) (hn : v2 ≠ .slice none 0 0) (hv2 : v2.ownBlock = v.ownBlock ∨ v2.ownBlock = some (W.alloc o).heap.size) :
    SumAt w n m gx cx gy cy xs ys (i + 1) (out ++ [(xs.getD i 0 + ys.getD i 0 + c) % 2]) ((xs.getD i 0 + ys.getD i 0 + c) / 2) v2 W2 := by
  have hb : Below W.heap.size W (W.alloc o) := (Below.refl _ _).alloc (Nat.le_refl _) _
  have hr : ∀ b, v.ownBlock = some b → w.heap.size + 3 ≤ b := fun b hb => (H.own.own b hb).1
  have x2 := bx.get i
  have y2 := by_.get i
  have c2 := H.c2
  have gxl := (H.ox.own gx rfl).2
  have gyl := (H.oy.own gy rfl).2
  have hsz := hb.size
  refine ⟨by omega, by omega, by rw [List.length_append, H.len]; rfl, fun d hd => ?_, ?_, ho, hn, (H.ox.below hb (Nat.le_refl _)).kept hg (.inr (fun e => H.ax e.symm)), (H.oy.below hb (Nat.le_refl _)).kept hg (.inr (fun e => H.ay e.symm)), ?_, ?_, (H.add.below hb).grown hg hr⟩
  · rcases List.mem_append.1 hd with h | h
    · exact H.bits d h
    · simp only [List.mem_cons, List.not_mem_nil, or_false] at h; omega
  · rw [numN_end, H.len, numN_take xs i (by omega), numN_take ys i (by omega), Nat.pow_succ, Nat.mul_comm (2 ^ i) 2]
    exact sum_step _ H.sum
  · rcases hv2 with h | h
    · rw [h]; exact H.ax
    · rw [h]; intro e; injection e with e; omega
  · rcases hv2 with h | h
    · rw [h]; exact H.ay
    · rw [h]; intro e; injection e with e; omega
/-- append(v, x): one int, out of a block of one cell; where the new slice lies. -/
theorem wpList_append_intA {ops : Array Oper} {rest : List Oper} {o : Oper} {a : Act} {Q0 : Exit → Act → World → Prop} {w : World} (hgd : o.guard = none) (s x : Operand)
    (ho : o.op = .call { callee := .builtin .append, args := #[s, x], argTypes := #[115, 115] })
    (base : Nat) (v : Value) (ds : List Nat) (d b c : Nat) (hs : a.eval s = v) (hv : OwnD w base v ds) (hx : a.eval x = .slice (some ⟨b, 0, none⟩) 1 c) (hc : w.cell? ⟨b, 0, none⟩ = some (.int .i64 ((d : Nat) : Int))) (hlen : ds.length ≤ 1000000) (hbase : base ≤ w.heap.size)
    (h : ∀ v' w', OwnD w' base v' (ds ++ [d]) → w.grownBy w' v.ownBlock → v' ≠ .slice none 0 0 → (v'.ownBlock = v.ownBlock ∨ v'.ownBlock = some w.heap.size) → wpList Try.prog ops Q0 rest (a.put o.dst v') w') : wpList Try.prog ops Q0 (o :: rest) a w := by
  obtain ⟨i0, hi, hz0, hz1, hz2⟩ := info_partsI info_int
  obtain ⟨v', w', hr, h2, h3, h4, h5⟩ := run_append_own_at (P := Try.prog) w base 115 o.type 3 i0 (.int .i64 0) 1 8 Try.underlying115 hi hz0 hz1 hz2 rfl (by decide) v ds.length (natVs ds) hv ⟨b, 0, none⟩ 1 c (natVs [d])
    rfl (fun j u hj => by
      cases j with
      | zero => simp only [natVs, List.map_cons, List.map_nil, List.getElem?_cons_zero, Option.some.injEq] at hj; rw [← hj]; exact hc
      | succ j => simp [natVs] at hj) (fun u hu => by
      obtain ⟨n, _, rfl⟩ := List.mem_map.1 hu; rfl) (by unfold maxLen; omega) (by omega) hbase
  refine wpList_plain hgd fun K hK => ?_
  unfold Oper.wp execOp
  simp only [ho, resolve, invoke, builtin, Sem.run_bind, Sem.run_pure, Result.andThen_ok, List.map_toArray, List.map_cons, List.map_nil, hs, hx, hr]
  refine hK _ _ (h v' w' ?_ h3 (fun he => absurd (h4.1 he).2 (by decide)) h5)
  unfold OwnD
  rw [natVs_append, List.length_append]; exact h2
theorem cell_at {g : Nat} (w : World) [hg : AtSize g w] (C : Array Value) (t : TypeId) (i : Nat) : (w.alloc (.cells C t)).cell? ⟨g, i, none⟩ = C[i]? := by
  have := hg.at_
  subst this
  simp
theorem frozen_at {g : Nat} (w : World) [hg : AtSize g w] (C : Array Value) (t : TypeId) (i : Nat) : (w.alloc (.cells C t)).frozen? ⟨g, i, none⟩ = false := by
  have := hg.at_
  subst this
  exact World.frozen?_alloc_new _ _ _ _
set_option maxRecDepth 100000 in
set_option maxHeartbeats 3200000 in
theorem Add_any (n m : Nat) (w : World) (hn : n < 340282366920938463463374607431768211456) (hm : m < 340282366920938463463374607431768211456) :
    Calls Try.prog 55 #[wideV n, wideV m] w (Gives w (wideV ((n + m) % 340282366920938463463374607431768211456))) := by
  have HN := Lib.hid (And.intro hn hm)
  have HDN := Lib.hid (fun W => Digits_any n W hn)
  have HDM := Lib.hid (fun W => Digits_any m W hm)
  unfold wideV at HDN HDM ⊢
  have HE := Lib.hid (show AddAt w n m (((w.alloc (.cells #[.int .i64 (hiV n), .int .u64 (loV n)] 98)).alloc (.cells #[.int .i64 (hiV m), .int .u64 (loV m)] 98)).alloc (.cells #[.int .i64 0, .int .u64 0] 98)) from
    ⟨by (repeat (first | (with_reducible exact Below.refl _ _) | (with_reducible assumption) | (with_reducible refine Below.alloc ?_ (by (repeat (first | (with_reducible exact Nat.le_refl _) | (with_reducible assumption) | (with_reducible refine le_up ?_) | (with_reducible refine le_alloc ?_) | (with_reducible refine le_setCell ?_) | (with_reducible refine le_drew ?_) | (with_reducible refine le_drewN ?_) | omega))) _) | (with_reducible refine Below.drew ?_) | (with_reducible refine Below.drewN ?_ _) | (with_reducible refine Below.setCell ?_ (by (repeat (first | (with_reducible exact Nat.le_refl _) | (with_reducible assumption) | (with_reducible refine le_up ?_) | (with_reducible refine le_alloc ?_) | (with_reducible refine le_setCell ?_) | (with_reducible refine le_drew ?_) | (with_reducible refine le_drewN ?_) | omega))) _) | (with_reducible refine Below.up ?_ (by (repeat (first | (with_reducible exact Nat.le_refl _) | (with_reducible assumption) | (with_reducible refine le_up ?_) | (with_reducible refine le_alloc ?_) | (with_reducible refine le_setCell ?_) | (with_reducible refine le_drew ?_) | (with_reducible refine le_drewN ?_) | omega)))))), by rw [alloc_cell_lt, alloc_cell_lt, cell_at]; rfl, by rw [alloc_cell_lt, alloc_cell_lt, cell_at]; rfl, by rw [alloc_cell_lt, cell_at]; rfl, by rw [alloc_cell_lt, cell_at]; rfl, by rw [cell_at]; rfl, by rw [cell_at]; rfl, fun i => frozen_at _ _ _ _, by simp⟩)
  clear hn hm
  go_enter Try.func55, Try.ntmps55
  go_upto_region 1 with fail
  refine wp_gen (AddAt w n m) HE.out ?_
  clear HE
  rintro W1 h1
  have H1 := Lib.hid (show AddAt w n m W1.drew from h1.below (Below.drew (Below.refl _ _)))
  clear h1
  refine wp_region_slim [3] [(0, 0), (2, 0), (1, 1), (3, 2), (4, 3), (5, 3)] (AddAt w n m) (by kernel_rfl) (by kernel_rfl) (fun d v c a w h => by cases d <;> exact h) H1.out ?_
  simp only [List.map_cons, List.map_nil, slim]
  refine wpSched_still ?sv1 rfl (by rfl) (fun W hW => ?sh1) ?sr1; (case sh1 => (have h1 := hW.a0; have h2 := hW.a1; go_simp; try (with_reducible rfl))); simp only [Act.put, List.getElem_toArray, List.getElem_cons_zero, List.getElem_cons_succ, List.setIfInBounds_toArray, List.set_cons_zero, List.set_cons_succ]
  refine wpSched_still ?sv2 rfl (by rfl) (fun W hW => ?sh2) ?sr2; (case sh2 => (have h1 := hW.b0; have h2 := hW.b1; go_simp; try (with_reducible rfl))); simp only [Act.put, List.getElem_toArray, List.getElem_cons_zero, List.getElem_cons_succ, List.setIfInBounds_toArray, List.set_cons_zero, List.set_cons_succ]
  refine wpSched_eff rfl (by rfl) (fun K hK => ?_); go_simp
  refine (HDN.out _).mono ?_
  rintro e1 w1 ⟨gx, cx, rfl, hox, hbx, hgx⟩
  rw [bitsN_length] at hox ⊢
  have H2 := Lib.hid (show AddAt w n m w1 ∧ OwnD w1 (w.heap.size + 3) (.slice (some ⟨gx, 0, none⟩) 128 cx) (bitsN 128 n) from ⟨H1.out.below hbx, hox.mono H1.out.sz⟩)
  clear hox hbx hgx
  refine hK _ _ H2.out.1 ?_
  clear hK K
  refine wpSched_tail rfl (by rfl) (fun K hK => ?_); go_simp
  refine (HDM.out _).mono ?_
  rintro e2 w2 ⟨gy, cy, rfl, hoy, hby, hgy⟩
  rw [bitsN_length] at hoy ⊢
  have H3 := Lib.hid (show AddAt w n m w2 ∧ OwnD w2 (w.heap.size + 3) (.slice (some ⟨gx, 0, none⟩) 128 cx) (bitsN 128 n) ∧ OwnD w2 (w.heap.size + 3) (.slice (some ⟨gy, 0, none⟩) 128 cy) (bitsN 128 m) from ⟨H2.out.1.below hby, H2.out.2.below hby (Nat.le_refl _), hoy.mono H2.out.1.sz⟩)
  clear hoy hby hgy
  refine hK _ _ ?_
  clear hK K
  refine wpSched_pure ?sv3 rfl (by rfl) (fun W => ?sh3) ?sr3; (case sh3 => (go_simp; try (with_reducible rfl))); simp only [Act.put, List.getElem_toArray, List.getElem_cons_zero, List.getElem_cons_succ, List.setIfInBounds_toArray, List.set_cons_zero, List.set_cons_succ]
  refine wpSched_pure ?sv4 rfl (by rfl) (fun W => ?sh4) ?sr4; (case sh4 => (go_simp; try (with_reducible rfl))); simp only [Act.put, List.getElem_toArray, List.getElem_cons_zero, List.getElem_cons_succ, List.setIfInBounds_toArray, List.set_cons_zero, List.set_cons_succ]
  refine wpSched_nil ?_
  clear H1 H2 HDN HDM
  have HXL := Lib.hid (And.intro (And.intro (bitsN_length 128 n) (bitsN_length 128 m)) (And.intro (bitsN_bits 128 n) (bitsN_bits 128 m)))
  have HNX := Lib.hid (show numN (bitsN 128 n) = n ∧ numN (bitsN 128 m) = m from by
    rw [numN_bitsN, numN_bitsN]; exact ⟨Nat.mod_eq_of_lt HN.out.1, Nat.mod_eq_of_lt HN.out.2⟩)
  generalize bitsN 128 n = xs at *
  generalize bitsN 128 m = ys at *
  go_upto_region 3 with fail
  refine wp_gen (SumAt w n m gx cx gy cy xs ys 0 [] 0 (.slice (some ⟨w2.heap.size, 0, none⟩) 0 0)) ?_ ?_
  · have hb := (Below.refl w2.heap.size w2).alloc (Nat.le_refl _) (.cells #[] 3)
    have l1 := (H3.out.2.1.own gx rfl).2
    have l2 := (H3.out.2.2.own gy rfl).2
    exact ⟨by omega, by omega, rfl, (fun d h => by cases h), by simp [numN], (OwnD.empty w2).mono H3.out.1.sz, (by intro h; cases h), H3.out.2.1.below hb (Nat.le_refl _), H3.out.2.2.below hb (Nat.le_refl _), (fun e => by simp only [Value.ownBlock, Option.some.injEq] at e; omega), (fun e => by simp only [Value.ownBlock, Option.some.injEq] at e; omega), H3.out.1.below hb⟩
  generalize w2.heap.size = q0
  clear H3
  rintro W3 h3
  have HS3 := Lib.hid h3
  clear h3
  go_wp2_with fail
  go_loopw [7, 8, 9] (fun v7 v8 v9 wr => ∃ (i : Nat) (out : List Nat) (c : Nat), v9 = .int .i64 (i : Int) ∧ v8 = .int .i64 (c : Int) ∧ SumAt w n m gx cx gy cy xs ys i out c v7 wr) (fun _ _ v9 _ => 128 - (intOf v9).toNat)
  case atStart => exact ⟨0, [], 0, rfl, rfl, HS3.out⟩
  case round =>
    clear HS3
    obtain ⟨i, out, c, rfl, rfl, hS⟩ := hrel
    have HS := Lib.hid hS
    have hi128 := hS.le
    have hc2 := hS.c2
    clear hS
    by_cases hlt : i < 128
    · have ha2 : xs.getD i 0 < 2 := HXL.out.2.1.get i
      have hb2 : ys.getD i 0 < 2 := HXL.out.2.2.get i
      have x0 := HS.out.ox.cell i (by rw [HXL.out.1.1]; exact hlt)
      have y0 := HS.out.oy.cell i (by rw [HXL.out.1.2]; exact hlt)
      haveI : LtSize gx wr := ⟨(HS.out.ox.own gx rfl).2⟩
      haveI : LtSize gy wr := ⟨(HS.out.oy.own gy rfl).2⟩
      have hltI : (i : Int) < 128 := by omega
      have HST := Lib.hid (fun (W W2 : World) (v2 : Value) (o : Obj) (H : SumAt w n m gx cx gy cy xs ys i out c u7 W) ho hg hn hv => H.step (W2 := W2) (v2 := v2) (o := o) hlt HXL.out.1.1 HXL.out.1.2 HXL.out.2.1 HXL.out.2.2 ho hg hn hv)
      have hol : out.length ≤ 1000000 := by rw [HS.out.len]; omega
      generalize xs.getD i 0 = a at *
      generalize ys.getD i 0 = b at *
      have hw1 : IntKind.i64.wrap ((a : Int) + (b : Int)) = (a : Int) + (b : Int) := by rw [IntKind.wrap_i64]; omega
      have hw2 : IntKind.i64.wrap ((a : Int) + (b : Int) + (c : Int)) = (a : Int) + (b : Int) + (c : Int) := by rw [IntKind.wrap_i64]; omega
      go_upto_region 7 with fail
      refine wp_region_slim [] [(0, 3), (1, 3), (2, 3), (3, 0), (4, 3), (5, 3), (6, 3), (7, 0), (8, 3), (9, 3), (10, 3), (11, 3)] (fun X => X.cell? ⟨gx, i, none⟩ = some (.int .i64 (a : Int)) ∧ X.cell? ⟨gy, i, none⟩ = some (.int .i64 (b : Int))) (by kernel_rfl) (by kernel_rfl) (fun d v c a w h => by cases d <;> exact h) ⟨x0, y0⟩ ?_
      simp only [List.map_cons, List.map_nil, slim]
      refine wpSched_pure ?sv5 rfl (by rfl) (fun W => ?sh5) ?sr5; (case sh5 => (go_simp; try (with_reducible rfl))); simp only [Act.put, List.getElem_toArray, List.getElem_cons_zero, List.getElem_cons_succ, List.setIfInBounds_toArray, List.set_cons_zero, List.set_cons_succ]
      refine wpSched_pure ?sv6 rfl (by rfl) (fun W => ?sh6) ?sr6; (case sh6 => (go_simp; try (with_reducible rfl))); simp only [Act.put, List.getElem_toArray, List.getElem_cons_zero, List.getElem_cons_succ, List.setIfInBounds_toArray, List.set_cons_zero, List.set_cons_succ]
      refine wpSched_pure ?sv7 rfl (by rfl) (fun W => ?sh7) ?sr7; (case sh7 => (go_simp; try (with_reducible rfl))); simp only [Act.put, List.getElem_toArray, List.getElem_cons_zero, List.getElem_cons_succ, List.setIfInBounds_toArray, List.set_cons_zero, List.set_cons_succ]
      refine wpSched_still ?sv8 rfl (by rfl) (fun W hW => ?sh8) ?sr8; (case sh8 => (obtain ⟨h1, h2⟩ := hW; go_simp; try (with_reducible rfl))); simp only [Act.put, List.getElem_toArray, List.getElem_cons_zero, List.getElem_cons_succ, List.setIfInBounds_toArray, List.set_cons_zero, List.set_cons_succ]
      refine wpSched_pure ?sv9 rfl (by rfl) (fun W => ?sh9) ?sr9; (case sh9 => (go_simp; try (with_reducible rfl))); simp only [Act.put, List.getElem_toArray, List.getElem_cons_zero, List.getElem_cons_succ, List.setIfInBounds_toArray, List.set_cons_zero, List.set_cons_succ]
      refine wpSched_pure ?sv10 rfl (by rfl) (fun W => ?sh10) ?sr10; (case sh10 => (go_simp; try (with_reducible rfl))); simp only [Act.put, List.getElem_toArray, List.getElem_cons_zero, List.getElem_cons_succ, List.setIfInBounds_toArray, List.set_cons_zero, List.set_cons_succ]
      refine wpSched_pure ?sv11 rfl (by rfl) (fun W => ?sh11) ?sr11; (case sh11 => (go_simp; try (with_reducible rfl))); simp only [Act.put, List.getElem_toArray, List.getElem_cons_zero, List.getElem_cons_succ, List.setIfInBounds_toArray, List.set_cons_zero, List.set_cons_succ]
      refine wpSched_still ?sv12 rfl (by rfl) (fun W hW => ?sh12) ?sr12; (case sh12 => (obtain ⟨h1, h2⟩ := hW; go_simp; try (with_reducible rfl))); simp only [Act.put, List.getElem_toArray, List.getElem_cons_zero, List.getElem_cons_succ, List.setIfInBounds_toArray, List.set_cons_zero, List.set_cons_succ]
      refine wpSched_pure ?sv13 rfl (by rfl) (fun W => ?sh13) ?sr13; (case sh13 => (go_simp; try (with_reducible rfl))); simp only [Act.put, List.getElem_toArray, List.getElem_cons_zero, List.getElem_cons_succ, List.setIfInBounds_toArray, List.set_cons_zero, List.set_cons_succ]
      refine wpSched_pure ?sv14 rfl (by rfl) (fun W => ?sh14) ?sr14; (case sh14 => (go_simp; try (with_reducible rfl))); simp only [Act.put, List.getElem_toArray, List.getElem_cons_zero, List.getElem_cons_succ, List.setIfInBounds_toArray, List.set_cons_zero, List.set_cons_succ]
      refine wpSched_pure ?sv15 rfl (by rfl) (fun W => ?sh15) ?sr15; (case sh15 => (go_simp; try (with_reducible rfl))); simp only [Act.put, List.getElem_toArray, List.getElem_cons_zero, List.getElem_cons_succ, List.setIfInBounds_toArray, List.set_cons_zero, List.set_cons_succ]
      refine wpSched_pure ?sv16 rfl (by rfl) (fun W => ?sh16) ?sr16; (case sh16 => (go_simp; try (with_reducible rfl))); simp only [Act.put, List.getElem_toArray, List.getElem_cons_zero, List.getElem_cons_succ, List.setIfInBounds_toArray, List.set_cons_zero, List.set_cons_succ]
      refine wpSched_nil ?_
      have HSD := Lib.hid (HS.out.below (Below.drew (Below.refl wr.heap.size wr)))
      obtain ⟨sm, hsm⟩ : ∃ sm, sm = a + b + c := ⟨_, rfl⟩
      rw [show ((a : Int) + (b : Int) + (c : Int)) = ((sm : Nat) : Int) by omega]
      rw [← hsm] at HST
      have hsm4 : sm < 4 := by omega
      clear x0 y0 hw1 hw2 hsm ha2 hb2
      have ht1 : Int.tmod (sm : Int) 2 = ((sm % 2 : Nat) : Int) := by rw [Int.tmod_eq_emod_of_nonneg (by omega)]; omega
      have ht2 : Int.tdiv (sm : Int) 2 = ((sm / 2 : Nat) : Int) := by rw [Int.tdiv_eq_ediv_of_nonneg (by omega)]; omega
      go_wp2_with (at_builtin; refine wpList_append_intA rfl _ _ rfl (w.heap.size + 3) _ out (sm % 2) wr.heap.size 1 (by rfl) (HSD.out.own.below ((Below.refl _ _).alloc (Nat.le_refl _) _) (Nat.le_refl _)) (by rfl) (by simp) hol (by have := HSD.out.add.sz; simp at this ⊢; omega) (fun v2 w2 ho2 hg2 hne2 hv2 => ?_); have HNW := Lib.hid (HST.out _ _ _ _ HSD.out ho2 hg2 hne2 hv2); clear ho2 hg2 hne2 hv2)
      exact ⟨⟨i + 1, _, _, (by first | rfl | go_num), (by first | rfl | go_num), HNW.out⟩, by simp [intOf]; omega⟩
    · obtain rfl : i = 128 := by omega
      rw [show ((128 : Nat) : Int) = 128 from rfl]
      have HNR := Lib.hid (Number_any u7 out _ wr HS.out.own HS.out.bits HS.out.len)
      have HEQ := Lib.hid (show numN out = (n + m) % 340282366920938463463374607431768211456 from by
        have h1 := HS.out.sum
        have h2 := numN_lt HS.out.bits
        rw [HS.out.len] at h2
        rw [List.take_of_length_le (by rw [HXL.out.1.1]; omega), List.take_of_length_le (by rw [HXL.out.1.2]; omega), HNX.out.1, HNX.out.2] at h1
        have h3 := HS.out.c2
        omega)
      rw [HEQ.out] at HNR
      clear HEQ
      generalize (n + m) % 340282366920938463463374607431768211456 = z at *
      unfold wideV at HNR
      have r0 := HS.out.add.r0
      have r1 := HS.out.add.r1
      have f0 := HS.out.add.f 0
      have f1 := HS.out.add.f 1
      haveI : LtSize (w.heap.size + 2) wr := ⟨by have := HS.out.add.sz; omega⟩
      have HBL := Lib.hid HS.out.add.bel
      clear HS
      go_wp2_with (go_at_call 70; (first | with_reducible refine Calls.fold (HNR.out) ?_ | with_reducible refine Calls.fresh (HNR.out) ?_); intro x1)
      refine bodyPost_ret (v := wideV z) ?_ rfl (Gives.mk rfl ?_)
      · simp only [results, show Try.f55.results = #[ResultVar.cell 4 98] from rfl]
        unfold wideV
        go_simp
      · have hbel := HBL.out
        have hle := hbel.size
        exact Below.setCell (Below.setCell (Below.up hbel hle) (by show w.heap.size ≤ w.heap.size + 1 + 1; omega) _) (by show w.heap.size ≤ w.heap.size + 1 + 1; omega) _
end Go.Proofs.Ytihalkpcddnikaa
