/-
  Slices of frames that a call made; a slice of bytes cut at its beginning; a hunter's bytes dropped.
-/
import Derived.Test.YtjkgodhoonkinaaHunW
import Derived.Test.YtjkgodhoonkinaaAddsP
namespace Go.Proofs.Ytjkgodhoonkinaa
open Go.RowKit
set_option linter.unusedVariables false
set_option linter.unusedSimpArgs false

def FrLim (f : FrmS) : Prop := f.epoch < 4294967296 ∧ f.counter < 18446744073709551616 ∧ f.tag.length = 16 ∧ (∀ x ∈ f.tag, x < 256)
def rowsOf (fs : List FrmS) (bvs : List Value) : List Value := (List.zipWith frL fs bvs).flatten
/-- v is a slice of these frames, of the call's own. -/
def FrsO (w : World) (base : Nat) (v : Value) (fs : List FrmS) : Prop :=
  ∃ bvs : List Value, bvs.length = fs.length ∧ w.ownsRow base 28 21 v fs.length (rowsOf fs bvs) ∧ ∀ (i : Nat) (f : FrmS) (bv : Value), fs[i]? = some f → bvs[i]? = some bv → OwnB w base bv f.body ∧ FrLim f
theorem FrsO.nil (w : World) (base : Nat) : FrsO w base (.slice none 0 0) [] := ⟨[], rfl, ⟨rfl, .inl ⟨rfl, rfl⟩⟩, fun i f bv h => by simp at h⟩
theorem FrsO.own {w : World} {base : Nat} {v : Value} {fs : List FrmS} (h : FrsO w base v fs) : ∀ k, v.ownBlock = some k → base ≤ k ∧ k < w.heap.size := by
  obtain ⟨bvs, _, h2, _⟩ := h
  exact fun k hk => h2.lt k hk
theorem FrsO.kept {w w' : World} {base : Nat} {v : Value} {fs : List FrmS} {r : Nat} (h : FrsO w base v fs) (hg : w.grownBy w' (some r)) (hr : r < base) : FrsO w' base v fs := by
  have hv : v.ownBlock ≠ some r := fun e => by have := (h.own r e).1; omega
  obtain ⟨bvs, h1, h2, h3⟩ := h
  refine ⟨bvs, h1, h2.kept hg (.inr hv), fun i f bv hf hb => ?_⟩
  obtain ⟨ho, hl⟩ := h3 i f bv hf hb
  exact ⟨ho.kept hg (.inr (fun e => by have := ho.own r e; omega)), hl⟩
theorem FrsO.below {w w' : World} {base : Nat} {v : Value} {fs : List FrmS} (h : FrsO w base v fs) (hb : Below w.heap.size w w') : FrsO w' base v fs := by
  have hg : w.grownBy w' none := ⟨hb.os, hb.tape, hb.output, hb.size, fun k hk _ => hb.block k hk⟩
  have hn : ∀ u : Value, u.ownBlock = none ∨ u.ownBlock ≠ none := fun u => Classical.em _
  obtain ⟨bvs, h1, h2, h3⟩ := h
  refine ⟨bvs, h1, h2.kept hg (hn v), fun i f bv hf hbv => ?_⟩
  obtain ⟨ho, hl⟩ := h3 i f bv hf hbv
  exact ⟨ho.kept hg (hn bv), hl⟩
theorem info_fr : (Try.prog.info? 28).map (fun i => (i.zero.map (·.cells.size), i.size, i.bytes)) = some (some 21, 21, 72) := by kernel_rfl
theorem info_fr' : ∃ i z, Try.prog.info? 28 = some i ∧ i.zero = some z ∧ i.size = 21 ∧ i.bytes = 72 ∧ z.cells.size = 21 := by
  have h := info_fr
  match hi : Try.prog.info? 28, h with
  | some i, h =>
    simp only [Option.map_some, Option.some.injEq, Prod.mk.injEq] at h
    match hz : i.zero, h with
    | some z, h => exact ⟨i, z, rfl, hz, h.2.1, h.2.2, by simpa using h.1⟩
    | none, h => simp at h
  | none, h => simp at h
theorem rowsOf_append (fs : List FrmS) (bvs : List Value) (h : bvs.length = fs.length) (f : FrmS) (bv : Value) : rowsOf (fs ++ [f]) (bvs ++ [bv]) = rowsOf fs bvs ++ frL f bv := by
  unfold rowsOf
  rw [List.zipWith_append h.symm]; simp
/-- append(l, f): one frame more. -/
theorem wpList_append_fr {ops : Array Oper} {rest : List Oper} {o : Oper} {a : Act} {Q : Exit → Act → World → Prop} {w : World} (hgd : o.guard = none) (s x : Operand)
    (ho : o.op = .call { callee := .builtin .append, args := #[s, x], argTypes := #[58, 58] })
    (base : Nat) (v : Value) (fs : List FrmS) (hs : a.eval s = v) (hown : FrsO w base v fs) (g : Nat) (hx : a.eval x = .slice (some ⟨g, 0, none⟩) 1 1) (f : FrmS) (bv : Value) (hr : w.rangeAt g 0 (frL f bv)) (hbv : OwnB w base bv f.body) (hlim : FrLim f)
    (hlen : fs.length ≤ 1000000) (hbase : base ≤ w.heap.size)
    (h : ∀ v' w', FrsO w' base v' (fs ++ [f]) → w.grownBy w' v.ownBlock → wpList Try.prog ops Q rest (a.put o.dst v') w') : wpList Try.prog ops Q (o :: rest) a w := by
  obtain ⟨i0, z0, hi, hz0, hz1, hz2, hz3⟩ := info_fr'
  obtain ⟨bvs, h1, h2, h3⟩ := hown
  refine wpList_append_own w hgd s x 58 ho base 28 i0 z0 21 72 Try.underlying58 hi hz0 hz1 hz2 hz3 (by decide) v fs.length (rowsOf fs bvs) hs h2 ⟨g, 0, none⟩ 1 1 (frL f bv) hx
    (by rw [frL_length f bv hlim.2.2.1]) (fun j u hj => ?_) (fun u hu => ?_) (by unfold maxLen; omega) (by omega) hbase (fun v' w' k2 k3 k4 => ?_)
  · rw [Addr.add_lit]; exact hr j u hj
  · have := frL_one f (one_slice hbv.bts)
    exact (Array.all_eq_true_iff_forall_mem.1 this) u (by simpa using hu)
  · refine h v' w' ⟨bvs ++ [bv], by simp [h1], ?_, fun i f' bv' hf hb => ?_⟩ k3
    · rw [rowsOf_append fs bvs h1, List.length_append]; exact k2
    · rcases Nat.lt_or_ge i fs.length with hlt | hge
      · rw [List.getElem?_append_left hlt] at hf
        rw [List.getElem?_append_left (by omega)] at hb
        obtain ⟨m1, m2⟩ := h3 i f' bv' hf hb
        exact ⟨m1.kept k3 (rows_apart m1.2 h2 (by decide)), m2⟩
      · rw [List.getElem?_append_right hge] at hf
        rw [List.getElem?_append_right (by omega)] at hb
        obtain ⟨k, rfl⟩ : ∃ k, i = fs.length + k := ⟨i - fs.length, by omega⟩
        rw [Nat.add_sub_cancel_left] at hf
        rw [h1, Nat.add_sub_cancel_left] at hb
        match k, hf, hb with
        | 0, hf, hb =>
          simp only [List.getElem?_cons_zero, Option.some.injEq] at hf hb
          subst hf; subst hb
          exact ⟨hbv.kept k3 (rows_apart hbv.2 h2 (by decide)), hlim⟩
        | k + 1, hf, _ => simp at hf
theorem run_build1 (w : World) (a0 a1 a2 a3 a4 a5 a6 a7 a8 a9 a10 a11 a12 a13 a14 a15 a16 a17 a18 a19 a20 : Value) : (Instr.buildSlice 58 1 #[(0, .agg #[a0, a1, a2, a3, a4, a5, a6, a7, a8, a9, a10, a11, a12, a13, a14, a15, a16, a17, a18, a19, a20])]).run Try.prog w = .ok (.slice (some ⟨w.heap.size, 0, none⟩) 1 1) (w.alloc (.cells #[a0, a1, a2, a3, a4, a5, a6, a7, a8, a9, a10, a11, a12, a13, a14, a15, a16, a17, a18, a19, a20] 28)) := by kernel_rfl
/-- A slice of one frame, made of a frame. -/
theorem run_buildOne (w : World) (L : List Value) (hL : L.length = 21) : (Instr.buildSlice 58 1 #[(0, .agg L.toArray)]).run Try.prog w = .ok (.slice (some ⟨w.heap.size, 0, none⟩) 1 1) (w.alloc (.cells L.toArray 28)) := by
  match L, hL with
  | [a0, a1, a2, a3, a4, a5, a6, a7, a8, a9, a10, a11, a12, a13, a14, a15, a16, a17, a18, a19, a20], _ => exact run_build1 w a0 a1 a2 a3 a4 a5 a6 a7 a8 a9 a10 a11 a12 a13 a14 a15 a16 a17 a18 a19 a20
theorem wpList_one {ops : Array Oper} {rest : List Oper} {o : Oper} {a : Act} {Q : Exit → Act → World → Prop} {w : World} (hgd : o.guard = none) (x : Operand) (ho : o.op = .buildSlice 58 1 #[(0, x)]) (L : List Value) (hL : L.length = 21) (hx : a.eval x = .agg L.toArray)
    (h : wpList Try.prog ops Q rest (a.put o.dst (.slice (some ⟨w.heap.size, 0, none⟩) 1 1)) (w.alloc (.cells L.toArray 28))) : wpList Try.prog ops Q (o :: rest) a w :=
  wpList_plain hgd fun K hK => by
    have hr := run_buildOne w L hL
    unfold Oper.wp execOp
    simp only [ho, Sem.run_bind, Sem.run_pure, Result.andThen_ok, List.map_toArray, List.map_cons, List.map_nil, hx, hr]
    exact hK _ _ h
/-- s[k:] -/
def skipA (k g off c : Nat) : Option Addr := if c = k then some ⟨g, off, none⟩ else some ⟨g, off + k, none⟩
abbrev skipV (k g off n c : Nat) : Value := .slice (skipA k g off c) (n - k) (c - k)
theorem skipV_own (k g off n c : Nat) : (skipV k g off n c).ownBlock = some g := by unfold skipV skipA; split <;> rfl
theorem run_skip (w : World) (k g off n c : Nat) (hk : k ≤ n) (hc : n ≤ c) : (Instr.sliceAt 22 (.slice (some ⟨g, off, none⟩) n c) (some (.int .i64 (k : Int))) none none).run Try.prog w = .ok (skipV k g off n c) w := by
  have h1 : ((k : Int) ≤ (n : Int)) := by omega
  have h2 : (0 : Int) ≤ (k : Int) := by omega
  have hu : Try.prog.underlying 22 = some (.slice 5) := Try.underlying22
  simp only [Instr.sliceAt, Instr.slice, Instr.sliceBounds, Instr.sliceBound]
  unfold skipV skipA
  go_simp
theorem wpList_skip {ops : Array Oper} {rest : List Oper} {o : Oper} {a : Act} {Q : Exit → Act → World → Prop} {w : World} (hgd : o.guard = none) (x y : Operand) (ho : o.op = .slice 22 x (some y) none none) (k g off n c : Nat)
    (hx : a.eval x = .slice (some ⟨g, off, none⟩) n c) (hy : a.eval y = .int .i64 (k : Int)) (hk : k ≤ n) (hc : n ≤ c) (h : wpList Try.prog ops Q rest (a.put o.dst (skipV k g off n c)) w) : wpList Try.prog ops Q (o :: rest) a w :=
  wpList_plain hgd fun K hK => by
    have hr := run_skip w k g off n c hk hc
    unfold Oper.wp execOp
    simp only [ho, Sem.run_bind, Sem.run_pure, Result.andThen_ok, Option.map_some, Option.map_none, hx, hy, hr]
    exact hK _ _ h
theorem bts_skip {w : World} {g off n c : Nat} {bs : List Nat} (h : Bts w (.slice (some ⟨g, off, none⟩) n c) bs) (k : Nat) (hk : k ≤ n) (hc : n ≤ c) : Bts w (skipV k g off n c) (bs.drop k) := by
  have hn := h.len
  subst hn
  have hb : ∀ x ∈ bs.drop k, x < 256 := fun x hx => h.1 x (List.mem_of_mem_drop hx)
  by_cases hz : bs.length = k
  · have hd : bs.drop k = [] := by rw [← hz, List.drop_length]
    rw [hd]
    refine ⟨(fun _ h => by cases h), .inr (.inl ?_)⟩
    unfold skipV skipA
    rw [hz, Nat.sub_self]
    split
    · exact ⟨_, _, rfl, rfl⟩
    · exact ⟨_, _, rfl, rfl⟩
  · obtain ⟨h1, ⟨hv, _⟩ | ⟨_, _, hv, rfl⟩ | ⟨b', off', cap', hv, hl, hcm, hs, hcell⟩⟩ := h
    · cases hv
    · simp at hk; simp [hk] at hz
    · simp only [Value.slice.injEq, Option.some.injEq, Addr.mk.injEq, and_true] at hv
      obtain ⟨⟨rfl, rfl⟩, _, rfl⟩ := hv
      refine ⟨hb, .inr (.inr ⟨g, off + k, c - k, ?_, by rw [List.length_drop]; omega, by omega, hs, fun i hi => ?_⟩)⟩
      · unfold skipV skipA
        rw [if_neg (by omega), List.length_drop]
      · rw [List.length_drop] at hi
        rw [Nat.add_assoc, hcell (k + i) (by omega), List.getD_eq_getElem?_getD, List.getD_eq_getElem?_getD, List.getElem?_drop]
theorem Drop_made (w : World) (h : Nat) (a : Option Addr) (n c : Nat) (noise : Nat) (sums : Int) (H : HunAt w h (.slice a n c) (noise : Int) sums true) (hl : noise + n ≤ 4000000000000) :
    Calls Try.prog 46 #[.pointer (some ⟨h, 0, none⟩)] w (fun e w' => (∃ v, e = .returned v) ∧ HunAt w' h (.slice none 0 0) ((noise + n : Nat) : Int) sums true ∧ w.grownBy w' (some h)) := by
  have HH := Lib.hid H
  have c0 : w.cell? ⟨h, 0, none⟩ = some (.slice a n c) := H.at_ 0 (by omega)
  have c1 : w.cell? ⟨h, 1, none⟩ = some (.int .i64 (noise : Int)) := H.at_ 1 (by omega)
  have f0 := H.free 0
  have f1 := H.free 1
  have hw : IntKind.i64.wrap ((noise : Int) + (n : Int)) = ((noise + n : Nat) : Int) := by
    rw [IntKind.wrap_i64]; omega
  clear H
  go_enter Try.func46, Try.ntmps46
  go_wp2_with (go_at_call 73; with_reducible refine Calls.tells (is_made _ _ _ _ _ _ HH.out) ?_)
  go_region
  all_goals go_wp2_with fail
  all_goals go_end0
  rw [← Int.natCast_add]
  refine ⟨⟨_, rfl⟩, (((HH.out.set 1 (by omega) _).set 0 (by omega) _).drew).same (fun i hi => ?_), gr_trans (gr_set _ _ _ _) (gr_trans (gr_set _ _ _ _) (gr_below _ (Below.drew (Below.refl _ _))))⟩
  have : i = 0 ∨ i = 1 ∨ i = 2 ∨ i = 3 := by omega
  rcases this with rfl | rfl | rfl | rfl <;> rfl
end Go.Proofs.Ytjkgodhoonkinaa
