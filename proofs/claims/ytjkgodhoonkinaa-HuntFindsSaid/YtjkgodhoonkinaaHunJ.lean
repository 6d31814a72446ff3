/-
  The walk over the law HuntFinds.
-/
import Derived.Test.YtjkgodhoonkinaaSched
import Derived.Test.YtjkgodhoonkinaaHunG
import Derived.Test.YtjkgodhoonkinaaFlatB
import Derived.Test.YtjkgodhoonkinaaFrmO
/-
  A region that draws its order: what only reads is taken first; then a tree of the orders in which the rest may come.
-/
namespace Go.Proofs.Ytjkgodhoonkinaa
open Go.RowKit

section
variable {P : Program} {ops : Array Oper} {Q : Exit → Act → World → Prop} {S : World → Prop} {md : Region.Mode}
def wpPre (P : Program) (md : Region.Mode) (ops : Array Oper) (Q : Exit → Act → World → Prop) (S : World → Prop) (n : Nat) : List (Nat × Nat) → Array Bool → Act → World → Prop
  | [], listed, a, w => wpAnyG P md ops Q S [] n listed a w
  | (i, 0) :: l, listed, a, w => ∃ o v, ops[i]? = some o ∧ Stills P ops S o v a ∧ wpPre P md ops Q S n l (listed.setIfInBounds i true) (a.put o.dst v) w
  | (i, _ + 1) :: l, listed, a, w => ∃ o v, ops[i]? = some o ∧ Yields P ops o v a ∧ wpPre P md ops Q S n l (listed.setIfInBounds i true) (a.put o.dst v) w
def prePlanB (md : Region.Mode) (ops : Array Oper) : List (Nat × Nat) → Array Bool → Bool
  | [], _ => true
  | (i, _) :: l, listed => Region.free md ops listed i && ((Region.ready md ops listed).contains i && prePlanB md ops l (listed.setIfInBounds i true))
theorem wpAnyG_of_pre (hs : Region.noSelect ops = true) (hQ : ∀ d v c a w, Q (.panic c) (Act.put a d v) w → Q (.panic c) a w) (n : Nat) : ∀ (l : List (Nat × Nat)) (listed : Array Bool) (a : Act) (w : World), ClosedL md ops listed → S w → prePlanB md ops l listed = true →
    wpPre P md ops Q S n l listed a w → wpAnyG P md ops Q S [] (l.length + n) listed a w
  | [], listed, a, w, _, _, _, h => by rw [List.length_nil, Nat.zero_add]; exact h
  | (i, 0) :: l, listed, a, w, hcl, hS, hB, h => by
    obtain ⟨o, v, ho, hy, h⟩ := h
    simp only [prePlanB, Bool.and_eq_true] at hB
    have hr : i ∈ Region.ready md ops listed := by simpa using hB.2.1
    have := wpAnyG_first (T := []) ho (Region.noSelect_spec hs) (fun c a w => hQ _ _ c a w) (fun j hj => by cases hj) (by simp) (l.length + n) listed a w hcl (Region.free_spec ho hB.1) hr hy hS (wpAnyG_of_pre hs hQ n l _ _ _ (hcl.set hr) hS hB.2.2 h)
    rw [List.length_cons, show l.length + 1 + n = l.length + n + 1 by omega]
    exact this
  | (i, m + 1) :: l, listed, a, w, hcl, hS, hB, h => by
    obtain ⟨o, v, ho, hy, h⟩ := h
    simp only [prePlanB, Bool.and_eq_true] at hB
    have hr : i ∈ Region.ready md ops listed := by simpa using hB.2.1
    have := wpAnyG_firstP (T := []) ho (Region.noSelect_spec hs) (fun c a w => hQ _ _ c a w) (by simp) (l.length + n) listed a w (Region.free_spec ho hB.1) hr hy (fun _ => hS) (wpAnyG_of_pre hs hQ n l _ _ _ (hcl.set hr) hS hB.2.2 h)
    rw [List.length_cons, show l.length + 1 + n = l.length + n + 1 by omega]
    exact this
theorem wp_region_pre {id : Nat} {a : Act} {w : World} {l : List Oper} (pre : List (Nat × Nat)) (n : Nat) (S : World → Prop) (hm : P.follows .mixedOrders = true)
    (hB : (prePlanB .any l.toArray pre (Array.replicate l.toArray.size false) && (pre.length + n == l.toArray.size && Region.noSelect l.toArray)) = true)
    (hQ : ∀ d v c a w, Q (.panic c) (Act.put a d v) w → Q (.panic c) a w) (hS : S w.drew) (h : wpPre P .any l.toArray Q S n pre (Array.replicate l.toArray.size false) a w.drew) : (Code.region id l.toArray true).wp P Q a w := by
  simp only [Bool.and_eq_true, beq_iff_eq] at hB
  refine wp_region_any hm (wpAny_of_G (S := S) (T := []) _ _ _ _ ?_)
  have h1 := wpAnyG_of_pre hB.2.2 hQ n pre _ a _ closed_start hS hB.1 h
  rw [hB.2.1] at h1
  exact h1
theorem wpPre_still {n i : Nat} {l : List (Nat × Nat)} {listed : Array Bool} {a : Act} {w : World} {o : Oper} (v : Value) (ho : ops[i]? = some o) (hw : Region.wanted o (yielded ops a.tmps) = true)
    (hv : ∀ W, S W → (execOp a.eval o).run P W = .ok (.value v) W) (h : wpPre P md ops Q S n l (listed.setIfInBounds i true) (a.put o.dst v) w) : wpPre P md ops Q S n ((i, 0) :: l) listed a w :=
  ⟨o, v, ho, .inl ⟨hw, fun w hs => Or.inl (hv w hs)⟩, h⟩
theorem wpPre_pure {n i : Nat} {l : List (Nat × Nat)} {listed : Array Bool} {a : Act} {w : World} {o : Oper} (v : Value) (ho : ops[i]? = some o) (hw : Region.wanted o (yielded ops a.tmps) = true)
    (hv : ∀ W, (execOp a.eval o).run P W = .ok (.value v) W) (h : wpPre P md ops Q S n l (listed.setIfInBounds i true) (a.put o.dst v) w) : wpPre P md ops Q S n ((i, 1) :: l) listed a w :=
  ⟨o, v, ho, .inl ⟨hw, hv⟩, h⟩
theorem wpPre_nil {n : Nat} {listed : Array Bool} {a : Act} {w : World} (h : wpAnyG P md ops Q S [] n listed a w) : wpPre P md ops Q S n [] listed a w := h
/-- One step at a fork. -/
def Fork (P : Program) (md : Region.Mode) (ops : Array Oper) (Q : Exit → Act → World → Prop) (S : World → Prop) (n : Nat) (listed : Array Bool) (i : Nat) (a : Act) (w : World) : Prop :=
  wpOp P ops Q i (fun a' w' => S w' ∧ wpAnyG P md ops Q S [] n (listed.setIfInBounds i true) a' w') a w
theorem wpAnyG_fork {n : Nat} {listed : Array Bool} {a : Act} {w : World} (l : List Nat) (hr : Region.ready md ops listed = l) (hne : l ≠ []) (h : ∀ i ∈ l, Fork P md ops Q S n listed i a w) : wpAnyG P md ops Q S [] (n + 1) listed a w :=
  ⟨fun h0 => absurd (hr.symm.trans h0) hne, fun i hi => wpOp_mono (fun _ _ ⟨h1, h2⟩ => ⟨fun _ => h1, h2⟩) (h i (hr ▸ hi))⟩
theorem fork1 {n i : Nat} {listed : Array Bool} {a : Act} {w : World} (hr : Region.ready md ops listed = [i]) (h : Fork P md ops Q S n listed i a w) : wpAnyG P md ops Q S [] (n + 1) listed a w :=
  wpAnyG_fork _ hr (by simp) (by simpa using h)
theorem fork2 {n i j : Nat} {listed : Array Bool} {a : Act} {w : World} (hr : Region.ready md ops listed = [i, j]) (h : Fork P md ops Q S n listed i a w) (h2 : Fork P md ops Q S n listed j a w) : wpAnyG P md ops Q S [] (n + 1) listed a w :=
  wpAnyG_fork _ hr (by simp) (by simpa using ⟨h, h2⟩)
theorem fork3 {n i j k : Nat} {listed : Array Bool} {a : Act} {w : World} (hr : Region.ready md ops listed = [i, j, k]) (h : Fork P md ops Q S n listed i a w) (h2 : Fork P md ops Q S n listed j a w) (h3 : Fork P md ops Q S n listed k a w) : wpAnyG P md ops Q S [] (n + 1) listed a w :=
  wpAnyG_fork _ hr (by simp) (by simpa using ⟨h, h2, h3⟩)
theorem fork_step {n i : Nat} {listed : Array Bool} {a : Act} {w : World} {o : Oper} (ho : ops[i]? = some o) (hw : Region.wanted o (yielded ops a.tmps) = true)
    (h : ∀ K : Act → World → Prop, (∀ a' w', S w' → wpAnyG P md ops Q S [] n (listed.setIfInBounds i true) a' w' → K a' w') → o.wp P a w K Q) : Fork P md ops Q S n listed i a w := by
  unfold Fork wpOp
  simp only [ho, hw, if_true]
  exact Or.inl (h _ fun a' w' h1 h2 => ⟨h1, h2⟩)
theorem fork_run {n i : Nat} {listed : Array Bool} {a : Act} {w w' : World} {o : Oper} (v : Value) (ho : ops[i]? = some o) (hw : Region.wanted o (yielded ops a.tmps) = true)
    (hr : (execOp a.eval o).run P w = .ok (.value v) w') (hS : S w') (h : wpAnyG P md ops Q S [] n (listed.setIfInBounds i true) (a.put o.dst v) w') : Fork P md ops Q S n listed i a w :=
  fork_step ho hw fun K hK => by unfold Oper.wp; rw [hr]; exact hK _ _ hS h
theorem wpPre_load {n i : Nat} {l : List (Nat × Nat)} {listed : Array Bool} {a : Act} {w : World} {op : Oper} (ty : TypeId) (x : Operand) (b o : Nat) (cs : List Value) (d : TypeDesc) (ho : ops[i]? = some op) (hop : op.op = .load ty x) (hw : Region.wanted op (yielded ops a.tmps) = true)
    (hx : a.eval x = .pointer (some ⟨b, o, none⟩)) (hS : ∀ w, S w → w.rangeAt b o cs)
    (hu : P.underlying ty = some d) (hd : d.isRow = true) (hi : (P.info? ty).map (·.size) = some cs.length) (h : wpPre P md ops Q S n l (listed.setIfInBounds i true) (a.put op.dst (.agg cs.toArray)) w) : wpPre P md ops Q S n ((i, 0) :: l) listed a w :=
  wpPre_still _ ho hw (fun W hW => by
    unfold execOp
    simp only [hop, hx, Sem.run_bind, run_loadAt_mid W b o ty cs d (hS W hW) hu hd hi, Result.andThen_ok, Sem.run_pure]) h
theorem fork_end {listed : Array Bool} {a : Act} {w : World} (hr : Region.ready md ops listed = []) (h : Q .normal a w) : wpAnyG P md ops Q S [] 0 listed a w := ⟨hr, h⟩
end
end Go.Proofs.Ytjkgodhoonkinaa

/-
  The law HuntFinds: slices of frames that came in; what holds in its loops.
-/
namespace Go.Proofs.Ytjkgodhoonkinaa
open Go.RowKit Go.ChangeShapes
set_option linter.unusedVariables false
set_option linter.unusedSimpArgs false

/-- v is a slice of these frames, that came in. -/
def FrsI (w : World) (v : Value) (fs : List FrmS) : Prop :=
  ∃ a c, v = .slice a fs.length c ∧ fs.length ≤ 9223372036854775807 ∧ (fs = [] ∨ ∃ b off : Nat, a = some ⟨b, off, none⟩ ∧ b < w.heap.size ∧ ∀ i f, fs[i]? = some f → ∃ L : List Value, w.rangeAt b (off + i * 21) L ∧ L.length = 21 ∧ FrA w f (.agg L.toArray))
theorem FrsI.below {w w' : World} {v : Value} {fs : List FrmS} (h : FrsI w v fs) (hb : Below w.heap.size w w') : FrsI w' v fs := by
  obtain ⟨a, c, h1, h2, h3⟩ := h
  refine ⟨a, c, h1, h2, h3.imp id ?_⟩
  rintro ⟨b, off, k1, k2, k3⟩
  refine ⟨b, off, k1, Nat.lt_of_lt_of_le k2 hb.size, fun i f hf => ?_⟩
  obtain ⟨L, m1, m2, m3⟩ := k3 i f hf
  exact ⟨L, rangeAt_below hb k2 m1, m2, m3.below hb⟩
section
variable {H : Type} {enc : TypeId × Value → H} {W : World}
theorem frsI_of {a : Option Addr} {len cap : Nat} {d : DataW H} {p : List MemPlace} (h : DataW.Trod enc Try.prog W 0 (fun _ => true) true 58 (.slice a len cap) d p) : ∃ fs, FrsI W (.slice a len cap) fs := by
  obtain ⟨fuel, hf⟩ := h
  have hc21 : Try.prog.cellsOf 28 = 21 := by kernel_rfl
  rcases DataW.trod_slice Try.underlying58 hf with ⟨hx, _⟩ | ⟨ad, len', cap', elems, rest, n, _, hx, _, _, hl, hm, hlen, hel, _⟩
  · simp only [Value.cells, List.cons.injEq, and_true, Value.slice.injEq] at hx
    obtain ⟨rfl, rfl, rfl⟩ := hx
    exact ⟨[], none, 0, rfl, by simp, .inl rfl⟩
  · simp only [Value.cells, List.cons.injEq, and_true, Value.slice.injEq] at hx
    obtain ⟨rfl, rfl, rfl⟩ := hx
    by_cases h0 : len = 0
    · subst h0; exact ⟨[], some ad, cap, rfl, by simp, .inl rfl⟩
    · have each : ∀ i, i < len → ∃ f : FrmS, ∃ L : List Value, (∀ j, j < 21 → W.cell? ((ad.add (i * 21)).add j) = L[j]?) ∧ L.length = 21 ∧ FrA W f (.agg L.toArray) := fun i hi => by
        have h1 := hel i hi
        rw [List.getElem?_eq_getElem (by omega), Option.bind_eq_some_iff] at h1
        obtain ⟨cs, h2, h3⟩ := h1
        rw [hc21] at h2
        obtain ⟨_, h5, h6⟩ := World.cells?_some h2
        generalize elems[i] = x at h3
        obtain ⟨x1, x2⟩ := x
        obtain ⟨f, hf⟩ := frame_of (enc := enc) (W := W) (v := .agg cs.toArray) ⟨_, rfl⟩ ⟨n, by simpa [Value.cells] using h3⟩
        exact ⟨f, cs, fun j hj => h6 j (by omega), h5, hf⟩
      obtain ⟨_, L0, hu, hL0, _⟩ := each 0 (by omega)
      have h3 := hu 0 (by omega)
      rw [List.getElem?_eq_getElem (by omega)] at h3
      have h5 := addr_of_cell h3
      obtain ⟨b, off, sp⟩ := ad
      simp only [Nat.zero_mul, Addr.add, if_true] at h5
      obtain ⟨rfl, hb⟩ := h5
      obtain ⟨ls, h8, h9⟩ := list_of zeroS (fun i (f : FrmS) => ∃ L : List Value, (∀ j, j < 21 → W.cell? (((⟨b, off, none⟩ : Addr).add (i * 21)).add j) = L[j]?) ∧ L.length = 21 ∧ FrA W f (.agg L.toArray)) len each
      refine ⟨ls, some ⟨b, off, none⟩, cap, by rw [h8], by unfold maxLen at hm; omega, .inr ⟨b, off, rfl, hb, fun i f hf => ?_⟩⟩
      have hi : i < ls.length := by
        rcases Nat.lt_or_ge i ls.length with h | h
        · exact h
        · rw [List.getElem?_eq_none h] at hf; cases hf
      obtain ⟨L, k1, k2, k3⟩ := h9 i (by omega)
      rw [List.getD_eq_getElem?_getD, hf, Option.getD_some] at k3
      refine ⟨L, fun j u hj => ?_, k2, k3⟩
      have hj21 : j < 21 := by
        rcases Nat.lt_or_ge j L.length with h | h
        · omega
        · rw [List.getElem?_eq_none h] at hj; cases hj
      have := k1 j hj21
      rw [Addr.add_lit, Addr.add_lit] at this
      rw [this]; exact hj
end
theorem exec_one {o : Oper} {a : Act} {w : World} (x : Operand) (ho : o.op = .buildSlice 58 1 #[(0, x)]) (L : List Value) (hL : L.length = 21) (hx : a.eval x = .agg L.toArray) : (execOp a.eval o).run Try.prog w = .ok (.value (.slice (some ⟨w.heap.size, 0, none⟩) 1 1)) (w.alloc (.cells L.toArray 28)) := by
  have hr := run_buildOne w L hL
  unfold execOp
  simp only [ho, Sem.run_bind, Sem.run_pure, Result.andThen_ok, List.map_toArray, List.map_cons, List.map_nil, hx, hr]
/-- A slice of one frame, made of a frame. -/
theorem FrsP.one {w : World} {f : FrmS} {bv : Value} (ho : OwnB w 0 bv f.body) (hl : FrLim f) : FrsP (w.alloc (.cells (frL f bv).toArray 28)) (.slice (some ⟨w.heap.size, 0, none⟩) 1 1) [f] (fun b => bv.ownBlock = some b) := by
  have h := World.ownsRow_lit (base := 0) (e := 28) (size := 21) w (frL f bv).toArray 1 (Nat.zero_le _) (by decide) (by rw [List.size_toArray, frL_length f bv hl.2.2.1])
  refine ⟨[bv], rfl, ?_, fun i f' bv' hf hb => ?_⟩
  · have e : rowsOf [f] [bv] = (frL f bv).toArray.toList := by simp [rowsOf]
    rw [e]; exact h
  · match i, hf, hb with
    | 0, hf, hb =>
      simp only [List.getElem?_cons_zero, Option.some.injEq] at hf hb
      subst hf; subst hb
      exact ⟨ho.alloc _, hl, fun b hb => hb⟩
    | i + 1, hf, _ => simp at hf
structure FindAt (w wr : World) (bv wv : Value) (C : List Nat) (fs : List FrmS) (i : Nat) : Prop where
  bel : Below w.heap.size w wr
  bb : OwnB wr 0 bv (C ++ (fs.map putF).flatten)
  bo : ∀ k, bv.ownBlock = some k → w.heap.size ≤ k
  want : FrsP wr wv fs (fun b => w.heap.size ≤ b ∧ bv.ownBlock ≠ some b)
  wo : ∀ k, wv.ownBlock = some k → w.heap.size ≤ k
  fits : ∀ f ∈ fs, Fits f
  len : fs.length ≤ i
  lb : (C ++ (fs.map putF).flatten).length ≤ 200 + 100 * i
theorem FindAt.below {w wr w' : World} {bv wv : Value} {C : List Nat} {fs : List FrmS} {i : Nat} (H : FindAt w wr bv wv C fs i) (hb : Below wr.heap.size wr w') : FindAt w w' bv wv C fs i :=
  ⟨H.bel.trans (hb.mono H.bel.size), H.bb.below hb (Nat.le_refl _), H.bo, H.want.below hb, H.wo, H.fits, H.len, H.lb⟩
theorem FindAt.later {w wr : World} {bv wv : Value} {C : List Nat} {fs : List FrmS} {i : Nat} (H : FindAt w wr bv wv C fs i) : FindAt w wr bv wv C fs (i + 1) :=
  ⟨H.bel, H.bb, H.bo, H.want, H.wo, H.fits, by have := H.len; omega, by have := H.lb; omega⟩
/-- Between the two appends: the bytes are longer, the one frame lies in a slice of its own. -/
structure MidF (w X : World) (bv wv ov : Value) (C : List Nat) (fs : List FrmS) (F : FrmS) (i : Nat) : Prop where
  bel : Below w.heap.size w X
  bb : OwnB X 0 bv (C ++ (fs.map putF).flatten ++ putF F)
  bo : ∀ k, bv.ownBlock = some k → w.heap.size ≤ k
  want : FrsP X wv fs (fun b => w.heap.size ≤ b ∧ bv.ownBlock ≠ some b)
  wo : ∀ k, wv.ownBlock = some k → w.heap.size ≤ k
  one : FrsP X ov [F] (fun b => w.heap.size ≤ b ∧ bv.ownBlock ≠ some b)
  fits : ∀ f ∈ fs, Fits f
  fit : Fits F
  len : fs.length ≤ i
  lb : (C ++ (fs.map putF).flatten).length ≤ 200 + 100 * i
theorem MidF.ends {w X : World} {bv wv ov : Value} {C : List Nat} {fs : List FrmS} {F : FrmS} {i : Nat} (H : MidF w X bv wv ov C fs F i) {v' : Value} {w' : World} (h1 : FrsP w' v' (fs ++ [F]) (fun b => (w.heap.size ≤ b ∧ bv.ownBlock ≠ some b) ∨ (w.heap.size ≤ b ∧ bv.ownBlock ≠ some b))) (h2 : X.grownBy w' wv.ownBlock) (h3 : v'.ownBlock = wv.ownBlock ∨ v'.ownBlock = some X.heap.size) :
    FindAt w w' bv v' C (fs ++ [F]) (i + 1) := by
  have e : C ++ ((fs ++ [F]).map putF).flatten = C ++ (fs.map putF).flatten ++ putF F := by simp
  have hz := H.bel.size
  refine ⟨H.bel.grown h2 H.bel.size H.wo, by rw [e]; exact H.bb.byFr H.want h2, H.bo, h1.imp (fun b hb => hb.elim id id), ?_, ?_, by have := H.len; simp; omega, ?_⟩
  · intro k hk
    rcases h3 with h3 | h3
    · exact H.wo k (by rw [← h3]; exact hk)
    · rw [h3] at hk; simp only [Option.some.injEq] at hk; omega
  · intro f hf
    rcases List.mem_append.1 hf with hf | hf
    · exact H.fits f hf
    · simp only [List.mem_singleton] at hf; subst hf; exact H.fit
  · rw [e, List.length_append]
    have := H.lb; have := H.fit.body; have := putF_length F H.fit.tag; omega
/-- The bytes first, then the slice of one frame. -/
theorem FindAt.midA {w X : World} {bv wv : Value} {C : List Nat} {fs : List FrmS} {i : Nat} (H : FindAt w X bv wv C fs i) {F : FrmS} {fb : Value} (hF : Fits F) (ho : OwnB X w.heap.size fb F.body) (hne : ∀ b, fb.ownBlock = some b → bv.ownBlock ≠ some b) {b2 : Value} {X2 : World} (h1 : OwnB X2 0 b2 (C ++ (fs.map putF).flatten ++ putF F)) (h2 : X.grownBy X2 bv.ownBlock) (h3 : b2.ownBlock = bv.ownBlock ∨ b2.ownBlock = some X.heap.size) :
    MidF w (X2.alloc (.cells (frL F fb).toArray 28)) b2 wv (.slice (some ⟨X2.heap.size, 0, none⟩) 1 1) C fs F i := by
  have hb : Below X2.heap.size X2 (X2.alloc (.cells (frL F fb).toArray 28)) := (Below.refl _ _).alloc (Nat.le_refl _) _
  have hfx : ∀ b, fb.ownBlock = some b → w.heap.size ≤ b ∧ b < X.heap.size := fun b hb => ho.2.lt b hb
  have hz := H.bel.size
  have hap : wv.ownBlock = none ∨ wv.ownBlock ≠ bv.ownBlock := by
    obtain ⟨bvs, _, r2, _⟩ := H.want
    exact rows_apart r2 H.bb.2 (by decide)
  have ho2 : OwnB X2 0 fb F.body := (ho.mono (Nat.zero_le _)).kept h2 (by
    match hq : fb.ownBlock with
    | none => exact .inl rfl
    | some b => exact .inr (fun e => hne b hq e.symm))
  have hb2 : ∀ b, b < X.heap.size → bv.ownBlock ≠ some b → b2.ownBlock ≠ some b := fun b hb hn e => by
    rcases h3 with h3 | h3
    · exact hn (by rw [← h3]; exact e)
    · rw [h3] at e; simp only [Option.some.injEq] at e; omega
  have hl : FrLim F := ⟨hF.epoch, hF.counter, hF.tag, hF.tagLt⟩
  refine ⟨(H.bel.grown h2 hz H.bo).trans (hb.mono (Nat.le_trans hz h2.size)), h1.below hb (Nat.le_refl _), ?_, ((H.want.both.kept h2 hap (fun b hb e => hb.1.2 e.symm)).below hb).imp (fun b hb => ⟨hb.1.1, hb2 b hb.2 hb.1.2⟩), H.wo, (FrsP.one ho2 hl).imp (fun b hb => ⟨(hfx b hb).1, hb2 b (hfx b hb).2 (hne b hb)⟩), H.fits, hF, H.len, H.lb⟩
  intro k hk
  rcases h3 with h3 | h3
  · exact H.bo k (by rw [← h3]; exact hk)
  · rw [h3] at hk; simp only [Option.some.injEq] at hk; omega
/-- The slice of one frame first, then the bytes. -/
theorem FindAt.midB {w X : World} {bv wv : Value} {C : List Nat} {fs : List FrmS} {i : Nat} (H : FindAt w X bv wv C fs i) {F : FrmS} {fb : Value} (hF : Fits F) (ho : OwnB X w.heap.size fb F.body) (hne : ∀ b, fb.ownBlock = some b → bv.ownBlock ≠ some b) :
    OwnB (X.alloc (.cells (frL F fb).toArray 28)) 0 bv (C ++ (fs.map putF).flatten) ∧ ∀ b2 X2, OwnB X2 0 b2 (C ++ (fs.map putF).flatten ++ putF F) → (X.alloc (.cells (frL F fb).toArray 28)).grownBy X2 bv.ownBlock → (b2.ownBlock = bv.ownBlock ∨ b2.ownBlock = some (X.alloc (.cells (frL F fb).toArray 28)).heap.size) →
    MidF w X2 b2 wv (.slice (some ⟨X.heap.size, 0, none⟩) 1 1) C fs F i := by
  have hb : Below X.heap.size X (X.alloc (.cells (frL F fb).toArray 28)) := (Below.refl _ _).alloc (Nat.le_refl _) _
  have hfx : ∀ b, fb.ownBlock = some b → w.heap.size ≤ b ∧ b < X.heap.size := fun b hb => ho.2.lt b hb
  have hz := H.bel.size
  have hl : FrLim F := ⟨hF.epoch, hF.counter, hF.tag, hF.tagLt⟩
  have h1 := FrsP.one (ho.mono (Nat.zero_le _)) hl
  have hA := H.below hb
  have hbl : ∀ b, bv.ownBlock = some b → b < X.heap.size := fun b hb => (H.bb.2.lt b hb).2
  refine ⟨hA.bb, fun b2 X2 k1 k2 k3 => ?_⟩
  have hap : wv.ownBlock = none ∨ wv.ownBlock ≠ bv.ownBlock := by
    obtain ⟨bvs, _, r2, _⟩ := H.want
    exact rows_apart r2 H.bb.2 (by decide)
  have hb2 : ∀ b, b < X.heap.size → bv.ownBlock ≠ some b → b2.ownBlock ≠ some b := fun b hb hn e => by
    rcases k3 with k3 | k3
    · exact hn (by rw [← k3]; exact e)
    · rw [k3, World.size_alloc] at e; simp only [Option.some.injEq] at e; omega
  refine ⟨hA.bel.grown k2 hA.bel.size H.bo, k1, ?_, ((H.want.both.below hb).kept k2 hap (fun b hb e => hb.1.2 e.symm)).imp (fun b hb => ⟨hb.1.1, hb2 b hb.2 hb.1.2⟩), H.wo, (h1.kept k2 (.inr (fun e => ?_)) (fun b hb e => hne b hb e.symm)).imp (fun b hb => ⟨(hfx b hb).1, hb2 b (hfx b hb).2 (hne b hb)⟩), H.fits, hF, H.len, H.lb⟩
  · intro k hk
    rcases k3 with k3 | k3
    · exact H.bo k (by rw [← k3]; exact hk)
    · rw [k3, World.size_alloc] at hk; simp only [Option.some.injEq] at hk; omega
  · have := hbl X.heap.size e.symm; omega
end Go.Proofs.Ytjkgodhoonkinaa
namespace Go.Proofs.Ytjkgodhoonkinaa
open Go.RowKit
set_option linter.unusedVariables false
set_option linter.unusedSimpArgs false

theorem rangeAt_kept {w w' : World} {row : Option Nat} {b o : Nat} {cs : List Value} (h : w.rangeAt b o cs) (hb : b < w.heap.size) (hg : w.grownBy w' row) (hne : some b ≠ row) : w'.rangeAt b o cs := fun j v hj => by
  rw [World.cell?_of_block (a := ⟨b, o + j, none⟩) (hg.block b hb hne)]; exact h j v hj
theorem getD_set_eq {C : List Nat} {k z : Nat} (j : Nat) (hk : k < C.length) : (C.set k z).getD j 0 = if j = k then z else C.getD j 0 := by
  rw [List.getD_eq_getElem?_getD, List.getD_eq_getElem?_getD, List.getElem?_set]
  by_cases h : k = j
  · subst h; simp [hk]
  · rw [if_neg h, if_neg (fun e => h e.symm)]
set_option maxRecDepth 200000 in
set_option maxHeartbeats 4000000 in
theorem HuntFinds_any (v lv : Value) (bs : List Nat) (ls : List FrmS) (w : World) (hv : Bts w v bs) (hl : FrsI w lv ls) :
    Calls Try.prog 9 #[v, lv] w (Gives w (.bool true)) := by
  have HC := Lib.hid (hv.cutV 200)
  obtain ⟨va, vn, vc, rfl⟩ := hv.slice
  obtain rfl := hv.len
  have hroom := bts_room hv
  clear hv
  have HTK := Lib.hid (show (bs.take 200).length = min bs.length 200 by rw [List.length_take]; omega)
  generalize hn : bs.length = n at *
  obtain ⟨cs, hcs⟩ : ∃ cs, cs = bs.take 200 := ⟨_, rfl⟩
  rw [← hcs] at HC HTK
  clear hcs hn
  obtain ⟨m, hm⟩ : ∃ m, m = min n 200 := ⟨_, rfl⟩
  have i0 : (if (200 : Int) < (n : Int) then (200 : Int) else (n : Int)) = (m : Int) := by split <;> omega
  have i3 : (0 : Int) ≤ (m : Int) := by omega
  have i4 : (m : Int) ≤ (vc : Int) := by omega
  rw [show cutV 200 (.slice va n vc) = .slice va m vc from by simp [cutV]; omega] at HC
  have HM := Lib.hid (show cs.length = m ∧ m ≤ 200 from ⟨by have := HTK.out; omega, by omega⟩)
  have HLS := Lib.hid hl
  obtain ⟨la, lc, rfl, hll, _⟩ := hl
  clear hm hroom HTK
  go_enter Try.func9, Try.ntmps9
  go_wp2_with (go_at_call 32; (first | with_reducible refine Calls.fold (works14 _) ?_ | with_reducible refine Calls.fresh (works14 _) ?_); intro x1)
  refine (Bytes_any _ cs _ (HC.out.below (up_below _ _)) (by have := HM.out; omega)).mono ?_
  rintro e1 w1 ⟨g1, c1, rfl, hg1, hl1, ho1, hb1⟩
  rw [HM.out.1] at ho1 ⊢
  have H1 := Lib.hid (show Below w.heap.size w w1 ∧ OwnB w1 w.heap.size (.slice (some ⟨g1, 0, none⟩) m c1) cs ∧ w.heap.size ≤ g1 ∧ g1 < w1.heap.size from ⟨(up_below _ _).trans (hb1.mono (up_size _ _)), ho1.mono (up_size _ _), Nat.le_trans (up_size _ _) hg1, hl1⟩)
  clear hg1 hl1 ho1 hb1
  go_wp2_with fail
  go_loopw [5] (fun v5 wr => ∃ (k : Nat) (C : List Nat), v5 = .int .i64 (k : Int) ∧ k ≤ m ∧ Below w.heap.size w wr ∧ OwnB wr w.heap.size (.slice (some ⟨g1, 0, none⟩) m c1) C ∧ C.length = m ∧ (∀ j, j < k → C.getD j 0 ≠ 165) ∧ g1 < wr.heap.size) (fun v5 _ => m + 1 - (intOf v5).toNat)
  case atStart => exact ⟨0, cs, rfl, by omega, H1.out.1, H1.out.2.1, HM.out.1, fun j hj => absurd hj (by omega), H1.out.2.2.2⟩
  case round =>
    obtain ⟨k, C, rfl, hk, hb, ho, hCl, hno, hgl⟩ := hrel
    have HB := Lib.hid (And.intro hb (And.intro ho (And.intro hCl hno)))
    clear hb ho hno
    by_cases hkm : k < m
    · have c0 := HB.out.2.1.cell k (by omega)
      have z0 := HB.out.2.1.free k
      haveI hlt : LtSize g1 wr := ⟨hgl⟩
      have i5 : (0 : Int) ≤ (k : Int) := by omega
      have i6 : (k : Int) < (m : Int) := by omega
      have i7 : IntKind.i64.wrap ((k : Int) + 1) = ((k + 1 : Nat) : Int) := by rw [IntKind.wrap_i64]; have := HM.out; omega
      obtain ⟨x, hx⟩ : ∃ x, x = C.getD k 0 := ⟨_, rfl⟩
      rw [← hx] at c0
      have HXK := Lib.hid hx
      clear hx hCl
      by_cases h165 : x = 165
      · subst h165
        have HS := Lib.hid (HB.out.2.1.store k 0 (by omega))
        go_wp2_with fail
        refine ⟨⟨k + 1, C.set k 0, (by first | rfl | go_num), by omega, ?_, HS.out, by rw [List.length_set]; exact HB.out.2.2.1, ?_, by simpa using hgl⟩, by simp [intOf]; omega⟩
        · exact HB.out.1.setCell (p := ⟨g1, k, none⟩) H1.out.2.2.1 _
        · intro j hj
          rw [getD_set_eq j (by rw [HB.out.2.2.1]; exact hkm)]
          split
          · decide
          · exact HB.out.2.2.2 j (by omega)
      · have i8 : ¬ (x : Int) = 165 := by omega
        go_wp2_with fail
        refine ⟨⟨k + 1, C, (by first | rfl | go_num), by omega, HB.out.1, HB.out.2.1, HB.out.2.2.1, ?_, hgl⟩, by simp [intOf]; omega⟩
        intro j hj
        rcases Nat.lt_or_ge j k with h | h
        · exact HB.out.2.2.2 j h
        · obtain rfl : j = k := by omega
          rw [← HXK.out]; exact h165
    · obtain rfl : k = m := by omega
      have HNO := Lib.hid (show ∀ x ∈ C, x ≠ 165 from fun x hx => by
        obtain ⟨j, hj⟩ := List.getElem?_of_mem hx
        have hjl : j < C.length := by
          rcases Nat.lt_or_ge j C.length with h | h
          · exact h
          · rw [List.getElem?_eq_none h] at hj; cases hj
        have := HB.out.2.2.2 j (by omega)
        rw [List.getD_eq_getElem?_getD, hj] at this
        exact this)
      clear hCl
      go_wp2_with fail
      refine (Bytes_any _ C _ HB.out.2.1.bts (by have := HM.out; have := HB.out.2.2.1; omega)).mono ?_
      rintro e2 w2 ⟨g2, c2, rfl, hg2, hl2, ho2, hb2⟩
      have H2 := Lib.hid (show FindAt w (w2.alloc (.cells #[] 28)) (.slice (some ⟨g2, 0, none⟩) C.length c2) (.slice (some ⟨w2.heap.size, 0, none⟩) 0 0) C [] 0 from by
        have hA : Below w2.heap.size w2 (w2.alloc (.cells #[] 28)) := (Below.refl _ _).alloc (Nat.le_refl _) _
        have hz := HB.out.1.size
        have hz2 := hb2.size
        refine ⟨(HB.out.1.trans (hb2.mono hz)).trans (hA.mono (by omega)), by simpa using (ho2.mono (Nat.zero_le _)).below hA (Nat.le_refl _), fun b hb => by simp only [Value.ownBlock, Option.some.injEq] at hb; omega, (FrsO.empty w2).frsP.imp (fun b hb => ⟨by omega, fun e => by simp only [Value.ownBlock, Option.some.injEq] at e; omega⟩), fun b hb => (by simp only [Value.ownBlock, Option.some.injEq] at hb; omega), fun f hf => (by cases hf), by simp, by have := HM.out; have := HB.out.2.2.1; simp; omega⟩)
      have HCL := Lib.hid HB.out.2.2.1
      clear hg2 hl2 ho2 hb2 HB
      go_wp2_with fail
      go_loopw [6, 7, 8] (fun v6 v7 v8 wr2 => ∃ (fs : List FrmS) (i : Nat), v8 = .int .i64 (i : Int) ∧ i ≤ 10 ∧ FindAt w wr2 v6 v7 C fs i) (fun _ _ v8 _ => 11 - (intOf v8).toNat)
      case atStart => exact ⟨[], 0, rfl, by omega, H2.out⟩
      case round =>
        obtain ⟨fs, i, rfl, hi, hA⟩ := hrel
        have HA := Lib.hid hA
        clear hA H2
        by_cases hin : i < ls.length ∧ i < 10
        · obtain ⟨hil, hi10⟩ := hin
          obtain ⟨f, hf⟩ : ∃ f, ls[i]? = some f := ⟨_, List.getElem?_eq_getElem hil⟩
          obtain ⟨_, _, hae, _, hcell⟩ := HLS.out
          cases hae
          obtain ⟨lb, lo, rfl, hlb, hlf⟩ := hcell.resolve_left (fun e => by rw [e] at hil; simp at hil)
          obtain ⟨L, hr, hL21, fb, hLe, hbb, hfx⟩ := hlf i f hf
          obtain rfl : L = frL f fb := by simpa using hLe
          have l4 : (frL f fb)[4]? = some fb := rfl
          have HLE := Lib.hid (fun u => (show (frL f fb).set 4 u = frL (fewS f) u from rfl))
          have hs := store_new wr (frL f fb) hL21 (frL_one f (one_slice hbb))
          have hst := hs.1
          have HTH := Lib.hid (World.there_setCells (there_new wr #[.int .i64 0, .int .i64 0, .int .u32 0, .int .u64 0, .slice none 0 0, .int .u8 0, .int .u8 0, .int .u8 0, .int .u8 0, .int .u8 0, .int .u8 0, .int .u8 0, .int .u8 0, .int .u8 0, .int .u8 0, .int .u8 0, .int .u8 0, .int .u8 0, .int .u8 0, .int .u8 0, .int .u8 0] 28 21 rfl) wr.heap.size 0 (frL f fb))
          have HS := Lib.hid hs.2
          have HR := Lib.hid (rangeAt_below HA.out.bel hlb hr)
          have HCB := Lib.hid (hbb.cutV 60)
          have HFX := Lib.hid hfx
          have HF0 := Lib.hid (show FrA w f (.agg (frL f fb).toArray) from ⟨fb, rfl, hbb, hfx⟩)
          have HL := Lib.hid hL21
          obtain ⟨fa, fn, fc, rfl⟩ := hbb.slice
          obtain hfn := hbb.len
          have hfroom := bts_room hbb
          obtain ⟨mm, hmm⟩ : ∃ mm, mm = min fn 60 := ⟨_, rfl⟩
          rw [show cutV 60 (.slice fa fn fc) = .slice fa mm fc from by rw [hmm]; rfl] at HCB
          have HMM := Lib.hid (show (f.body.take 60).length = mm from by rw [List.length_take, hmm, hfn]; omega)
          have i10 : (if (60 : Int) < (fn : Int) then (60 : Int) else (fn : Int)) = (mm : Int) := by split <;> omega
          have i11 : (0 : Int) ≤ (mm : Int) := by omega
          have i12 : (mm : Int) ≤ (fc : Int) := by omega
          have i13 : (0 : Int) ≤ (i : Int) := by omega
          have i14 : (i : Int) < (ls.length : Int) := by omega
          have i15 : IntKind.i64.wrap ((i : Int) + 1) = ((i + 1 : Nat) : Int) := by rw [IntKind.wrap_i64]; omega
          clear hcell hlf hr hL21 hLe hbb hfx hs hmm hfn hfroom hf
          generalize frL f (.slice fa fn fc) = L at *
          go_upto_region 14 with (refine wpList_load_mid rfl 28 (.tmp 52) (by rfl) lb (lo + i * 21) (by rfl) L _ HR.out Try.underlying28 (by rfl) (by rw [HL.out]; kernel_rfl) ?_)
          refine wp_gen (fun W => Below wr.heap.size wr W ∧ W.rangeAt wr.heap.size 0 L ∧ W.there wr.heap.size 0 21 ∧ wr.heap.size < W.heap.size) ⟨HS.out.1, HS.out.2.1, HTH.out, HS.out.2.2⟩ ?_
          rintro W3 ⟨hb3, hr3, hth3, hl3⟩
          clear hst HS HTH
          have z4 : W3.cell? ⟨wr.heap.size, 4, none⟩ = some (.slice fa fn fc) := by have := hr3 4 _ l4; rwa [Nat.zero_add] at this
          have F4 : W3.frozen? ⟨wr.heap.size, 4, none⟩ = false := by have := (hth3 4 (by omega)).2; rwa [Nat.zero_add] at this
          haveI hlt3 : LtSize wr.heap.size W3 := ⟨hl3⟩
          have H3 := Lib.hid (And.intro hb3 (And.intro hr3 (And.intro hth3 hl3)))
          clear hb3 hr3 hth3 hl3
          go_wp2_with fail
          refine (Bytes_any _ (f.body.take 60) W3 (HCB.out.below (HA.out.bel.trans (H3.out.1.mono HA.out.bel.size))) (by have := HMM.out; omega)).mono ?_
          rintro e4 w4 ⟨g4, c4, rfl, hg4, hl4, ho4, hb4⟩
          rw [HMM.out] at ho4 ⊢
          clear z4 F4
          have hr4 := rangeAt_below hb4 H3.out.2.2.2 H3.out.2.1
          have hth4 := there_below hb4 H3.out.2.2.2 H3.out.2.2.1
          have z4 : w4.cell? ⟨wr.heap.size, 4, none⟩ = some (.slice fa fn fc) := by have := hr4 4 _ l4; rwa [Nat.zero_add] at this
          have F4 : w4.frozen? ⟨wr.heap.size, 4, none⟩ = false := by have := (hth4 4 (by omega)).2; rwa [Nat.zero_add] at this
          haveI hlt4 : LtSize wr.heap.size w4 := ⟨Nat.lt_of_lt_of_le H3.out.2.2.2 hb4.size⟩
          have hne4 : ¬ g4 = wr.heap.size := by have := H3.out.2.2.2; omega
          have H4 := Lib.hid (And.intro (H3.out.1.trans (hb4.mono H3.out.1.size)) (And.intro hr4 (And.intro ho4 (And.intro hg4 hlt4.lt))))
          have HNE := Lib.hid hne4
          clear hr4 hth4 ho4 hb4 hl4 hg4 hne4
          go_upto_region 15 with fail
          refine wp_gen (fun W => Below wr.heap.size wr W ∧ W.rangeAt wr.heap.size 0 (L.set 4 (.slice (some ⟨g4, 0, none⟩) mm c4)) ∧ OwnB W wr.heap.size (.slice (some ⟨g4, 0, none⟩) mm c4) (f.body.take 60) ∧ wr.heap.size < W.heap.size)
            ⟨H4.out.1.setCell (p := ⟨wr.heap.size, 4, none⟩) (Nat.le_refl _) _, rangeAt_set H4.out.2.1 4 _, (H4.out.2.2.1.mono (by have := H3.out.2.2.2; omega)).kept (gr_set _ _ _ _) (.inr (by simp [Value.ownBlock]; exact HNE.out)), by simpa using H4.out.2.2.2.2⟩ ?_
          rintro W5 ⟨hb5, hr5, ho5, hl5⟩
          rw [HLE.out] at hr5
          have HFA := Lib.hid (show FrA W5 (fewS f) (.agg (frL (fewS f) (.slice (some ⟨g4, 0, none⟩) mm c4)).toArray) from ⟨_, rfl, ho5.bts, HFX.out⟩)
          have HM21 := Lib.hid (show (frL (fewS f) (.slice (some ⟨g4, 0, none⟩) mm c4)).length = 21 from frL_length _ _ HFX.out.2.2.1)
          have H5 := Lib.hid (And.intro hb5 (And.intro hr5 (And.intro ho5 hl5)))
          clear hb5 hr5 ho5 hl5 z4 F4 H4 H3 HCB l4 hlt3 hlt4
          obtain ⟨M, hM⟩ : ∃ M, M = frL (fewS f) (.slice (some ⟨g4, 0, none⟩) mm c4) := ⟨_, rfl⟩
          rw [← hM] at HFA HM21 H5
          have HME := Lib.hid hM
          clear hM
          go_wp2_with (refine wpList_load_mid rfl 28 (.tmp 9) (by rfl) wr.heap.size 0 (by rfl) M _ H5.out.2.1 Try.underlying28 (by rfl) (by rw [HM21.out]; kernel_rfl) ?_)
          refine (rPutA (fewS f) _ W5 HFA.out).mono ?_
          rintro e6 w6 ⟨pv, rfl, hop, hbp⟩
          obtain ⟨pa, pn, pc, rfl⟩ := hop.bts.slice
          have hA6 := HA.out.below (H5.out.1.trans (hbp.mono H5.out.1.size))
          have hdr : Below w6.heap.size w6 w6.drew := Below.drew (Below.refl _ _)
          by_cases h0 : putE (fewS f) = 0
          · have HF := Lib.hid (few_fits HF0.out h0)
            rw [h0]
            have hpr : putR (fewS f) = putF (fewS f) := by unfold putR; rw [if_pos h0]
            rw [hpr] at hop
            have hql : wr.heap.size < w6.drew.heap.size := Nat.lt_of_lt_of_le H5.out.2.2.2 hbp.size
            have hrM : w6.drew.rangeAt wr.heap.size 0 M := rangeAt_below hdr hql (rangeAt_below hbp H5.out.2.2.2 H5.out.2.1)
            have hAX := hA6.below hdr
            have hof : OwnB w6.drew w.heap.size (.slice (some ⟨g4, 0, none⟩) mm c4) (fewS f).body := ((H5.out.2.2.1.mono HA.out.bel.size).below hbp (Nat.le_refl _)).below hdr (Nat.le_refl _)
            have hbl : ∀ b, u6.ownBlock = some b → b < wr.heap.size := fun b hb => (HA.out.bb.2.lt b hb).2
            have hwl : ∀ b, u7.ownBlock = some b → b < wr.heap.size := fun b hb => HA.out.want.lt b hb
            have hne : ∀ b, (Value.slice (some ⟨g4, 0, none⟩) mm c4).ownBlock = some b → u6.ownBlock ≠ some b := fun b hb e => by have := H5.out.2.2.1.own b hb; have := hbl b e; omega
            have hP : Bts w6.drew (.slice pa pn pc) (putF (fewS f)) := (hop.bts.below hdr)
            have hln : (C ++ (fs.map putF).flatten).length + (putF (fewS f)).length ≤ 140737488355328 := by have := HA.out.lb; have := HF.out.body; have := putF_length (fewS f) HF.out.tag; omega
            have hln2 : fs.length + [fewS f].length ≤ 1000000 := by have := HA.out.len; simp; omega
            have HX := Lib.hid (And.intro hrM (And.intro hAX (And.intro hof (And.intro hbl (And.intro hwl (And.intro hne (And.intro hP (And.intro hln (And.intro hln2 hql)))))))))
            clear hrM hAX hof hbl hwl hne hP hln hln2 hop hbp hA6 hdr hpr hql H5 HFA HR
            go_upto_region 17 with fail
            refine wp_region_pre [(0, 1), (1, 1), (3, 1), (4, 0)] 5 (fun X => X.rangeAt wr.heap.size 0 M) (by kernel_rfl) (by kernel_rfl) (fun d v c a w h => by cases d <;> exact h) HX.out.1 ?_
            refine wpPre_pure ?sv1 rfl (by rfl) (fun W => ?sh1) ?sr1; (case sh1 => (go_simp; try (with_reducible rfl))); simp only [Act.put, List.getElem_toArray, List.getElem_cons_zero, List.getElem_cons_succ, List.setIfInBounds_toArray, List.set_cons_zero, List.set_cons_succ]
            refine wpPre_pure ?sv2 rfl (by rfl) (fun W => ?sh2) ?sr2; (case sh2 => (go_simp; try (with_reducible rfl))); simp only [Act.put, List.getElem_toArray, List.getElem_cons_zero, List.getElem_cons_succ, List.setIfInBounds_toArray, List.set_cons_zero, List.set_cons_succ]
            refine wpPre_pure ?sv3 rfl (by rfl) (fun W => ?sh3) ?sr3; (case sh3 => (go_simp; try (with_reducible rfl))); simp only [Act.put, List.getElem_toArray, List.getElem_cons_zero, List.getElem_cons_succ, List.setIfInBounds_toArray, List.set_cons_zero, List.set_cons_succ]
            refine wpPre_load 28 (.tmp 9) wr.heap.size 0 M _ rfl rfl (by rfl) (by rfl) (fun X h => h) Try.underlying28 (by rfl) (by rw [HM21.out]; kernel_rfl) ?_
            simp only [Act.put, List.getElem_toArray, List.getElem_cons_zero, List.getElem_cons_succ, List.setIfInBounds_toArray, List.set_cons_zero, List.set_cons_succ]
            refine wpPre_nil ?_
            obtain ⟨q1, q2, q3, q4, q5, q6, q7, q8, q9, q10⟩ := HX.out
            refine fork2 (i := 2) (j := 5) (by kernel_rfl) ?brA ?brB
            case brA =>
              obtain ⟨b2, X2, hr2, k1, k2, k3⟩ := run_append_btsA w6.drew 22 u6 (.slice pa pn pc) _ (putF (fewS f)) q2.bb q7 q8
              have hm := q2.midA HF.out q3 q6 k1 k2 k3
              rw [← HME.out] at hm
              have s2 : X2.rangeAt wr.heap.size 0 M := rangeAt_kept q1 q10 k2 (fun e => by have := q4 _ e.symm; omega)
              have l2 : wr.heap.size < X2.heap.size := Nat.lt_of_lt_of_le q10 k2.size
              have s3 := World.rangeAt_alloc s2 (.cells M.toArray 28)
              have l3 : wr.heap.size < (X2.alloc (.cells M.toArray 28)).heap.size := by rw [World.size_alloc]; omega
              obtain ⟨v4, w4, hr4, h1, h2, h3⟩ := run_append_frs _ 58 u7 _ fs [fewS f] _ _ hm.want hm.one q9
              have s4 := rangeAt_kept s3 l3 h2 (fun e => by have := q5 _ e.symm; omega)
              have HE := Lib.hid (hm.ends h1 h2 h3)
              refine fork_run b2 rfl (by rfl) (exec_append (.tmp 70) (.tmp 71) 22 rfl rfl rfl hr2) s2 (fork1 (i := 5) (by kernel_rfl) (fork_run (.slice (some ⟨X2.heap.size, 0, none⟩) 1 1) rfl (by rfl) (exec_one (.tmp 74) rfl M HM21.out rfl) s3 (fork1 (i := 6) (by kernel_rfl) (fork_run v4 rfl (by rfl) (exec_append (.tmp 73) (.tmp 75) 58 rfl rfl rfl hr4) s4 (fork1 (i := 7) (by kernel_rfl) (fork_run _ rfl (by rfl) (by rfl) s4 (fork1 (i := 8) (by kernel_rfl) (fork_run _ rfl (by rfl) (by rfl) s4 (fork_end (by kernel_rfl) ?_)))))))))
              simp only [Act.put, List.getElem_toArray, List.getElem_cons_zero, List.getElem_cons_succ, List.setIfInBounds_toArray, List.set_cons_zero, List.set_cons_succ]
              clear h1 h2 h3 k1 k2 k3 s2 s3 s4 l2 l3 hr2 hr4 hm q1 q2 q3 q4 q5 q6 q7 q8 q9 q10
              go_wp2_with fail
              exact ⟨⟨fs ++ [fewS f], i + 1, (by first | rfl | go_num), by omega, HE.out⟩, by simp [intOf]; omega⟩
            case brB =>
              obtain ⟨m1, m2⟩ := q2.midB HF.out q3 q6
              rw [← HME.out] at m1 m2
              have l1 : wr.heap.size < (w6.drew.alloc (.cells M.toArray 28)).heap.size := by rw [World.size_alloc]; omega
              have s1 := World.rangeAt_alloc q1 (.cells M.toArray 28)
              obtain ⟨b2, X2, hr2, k1, k2, k3⟩ := run_append_btsA (w6.drew.alloc (.cells M.toArray 28)) 22 u6 (.slice pa pn pc) _ (putF (fewS f)) m1 q7.alloc q8
              have hm := m2 b2 X2 k1 k2 k3
              have s2 : X2.rangeAt wr.heap.size 0 M := rangeAt_kept s1 l1 k2 (fun e => by have := q4 _ e.symm; omega)
              have l2 : wr.heap.size < X2.heap.size := Nat.lt_of_lt_of_le l1 k2.size
              obtain ⟨v4, w4, hr4, h1, h2, h3⟩ := run_append_frs _ 58 u7 _ fs [fewS f] _ _ hm.want hm.one q9
              have s4 := rangeAt_kept s2 l2 h2 (fun e => by have := q5 _ e.symm; omega)
              have HE := Lib.hid (hm.ends h1 h2 h3)
              refine fork_run (.slice (some ⟨w6.drew.heap.size, 0, none⟩) 1 1) rfl (by rfl) (exec_one (.tmp 74) rfl M HM21.out rfl) s1 (fork1 (i := 2) (by kernel_rfl) (fork_run b2 rfl (by rfl) (exec_append (.tmp 70) (.tmp 71) 22 rfl rfl rfl hr2) s2 (fork1 (i := 6) (by kernel_rfl) (fork_run v4 rfl (by rfl) (exec_append (.tmp 73) (.tmp 75) 58 rfl rfl rfl hr4) s4 (fork1 (i := 7) (by kernel_rfl) (fork_run _ rfl (by rfl) (by rfl) s4 (fork1 (i := 8) (by kernel_rfl) (fork_run _ rfl (by rfl) (by rfl) s4 (fork_end (by kernel_rfl) ?_)))))))))
              simp only [Act.put, List.getElem_toArray, List.getElem_cons_zero, List.getElem_cons_succ, List.setIfInBounds_toArray, List.set_cons_zero, List.set_cons_succ]
              clear h1 h2 h3 k1 k2 k3 s1 s2 s4 l1 l2 hr2 hr4 hm q1 q2 q3 q4 q5 q6 q7 q8 q9 q10 m1 m2
              go_wp2_with fail
              exact ⟨⟨fs ++ [fewS f], i + 1, (by first | rfl | go_num), by omega, HE.out⟩, by simp [intOf]; omega⟩
          · have HE := Lib.hid hA6.later
            have h2 : putE (fewS f) = 2 ∨ putE (fewS f) = 3 := by have := putE_cases (fewS f); omega
            clear hA6 hdr hop hbp
            rcases h2 with h2 | h2
            · rw [h2]
              clear h2 h0
              go_wp2_with fail
              exact ⟨⟨fs, i + 1, (by first | rfl | go_num), by omega, HE.out⟩, by simp [intOf]; omega⟩
            · rw [h2]
              clear h2 h0
              go_wp2_with fail
              exact ⟨⟨fs, i + 1, (by first | rfl | go_num), by omega, HE.out⟩, by simp [intOf]; omega⟩
        · have h30 : ¬ i < ls.length ∨ (i < ls.length ∧ ¬ i < 10) := by omega
          rcases h30 with h30 | ⟨h30, h31⟩
          · by_cases h32 : i < 10
            · skip
              go_wp2_with fail
              refine (HNew_any _).mono ?_
              rintro e8 w8 ⟨rfl, hb8, hh8, hl8⟩
              have hA8 := HA.out.below hb8
              have H8 := Lib.hid (And.intro hA8 (And.intro hh8 hl8))
              have HB8 := Lib.hid hb8
              clear hb8 hh8 hl8 hA8
              go_wp2_with fail
              have hsy : says ([] ++ (C ++ (fs.map putF).flatten)) = ⟨fs, C.length, 0, []⟩ := by rw [List.nil_append, says_noise C _ HNO.out, says_puts fs HA.out.fits]; simp
              refine (Feed_made w8 wr.heap.size (.slice none 0 0) _ [] (C ++ (fs.map putF).flatten) 0 0 H8.out.2.1 (nil_bts _) H8.out.1.bb.bts (by have := HA.out.lb; rw [List.length_nil]; omega) (by omega) (by omega)).mono ?_
              rw [hsy]
              rintro e9 w9 ⟨v9, hv9, rfl, hf9, hh9, hbt9, _, hg9, _⟩
              dsimp only at hf9 hh9 hbt9
              obtain ⟨ha, hn9, hc, rfl⟩ := hbt9.slice
              obtain rfl := hbt9.len
              have hz := HA.out.bel.size
              have hw9 : FrsP w9 u7 fs (fun b => w.heap.size ≤ b ∧ b < wr.heap.size) := by
                have h1 := HA.out.want.both.imp (Q := fun b => w.heap.size ≤ b ∧ b < wr.heap.size) (fun b hb => ⟨hb.1.1, hb.2⟩)
                exact (h1.below HB8.out).kept hg9 (.inr (fun e => by have := HA.out.want.lt _ e; omega)) (fun b hb e => by simp only [Option.some.injEq] at e; omega)
              have hls := list_any v9 u7 fs fs _ 0 w9 hf9 hw9.frs (by have := HA.out.len; omega)
              rw [sameL_yes] at hls
              have HLS9 := Lib.hid hls
              rw [Nat.zero_add, HCL.out] at hh9
              have HH9 := Lib.hid (show HunAt w9 wr.heap.size _ ((k : Nat) : Int) 0 true from hh9)
              have HB9 := Lib.hid (show Below w.heap.size w w9 from H8.out.1.bel.grown hg9 H8.out.1.bel.size (fun b hb => by simp only [Option.some.injEq] at hb; omega))
              clear hls hh9 hw9 hf9 hbt9 hg9 hsy hz
              go_wp2_with (first | (go_at_call 35; (first | with_reducible refine Calls.fresh HLS9.out ?_); intro x9) | (go_at_call 36; with_reducible refine Calls.tells (Noise_made _ _ _ _ _ HH9.out.up) ?_) | (go_at_call 37; with_reducible refine Calls.tells (Sums_made _ _ _ _ _ HH9.out.up) ?_) | (go_at_call 38; with_reducible refine Calls.tells (Held_made _ _ _ _ _ _ _ HH9.out.up) ?_))
              go_ret
              exact Gives.mk rfl (below_up HB9.out HB9.out.size _)
            · obtain rfl : i = 10 := by omega
              go_wp2_with fail
              refine (HNew_any _).mono ?_
              rintro e8 w8 ⟨rfl, hb8, hh8, hl8⟩
              have hA8 := HA.out.below hb8
              have H8 := Lib.hid (And.intro hA8 (And.intro hh8 hl8))
              have HB8 := Lib.hid hb8
              clear hb8 hh8 hl8 hA8
              go_wp2_with fail
              have hsy : says ([] ++ (C ++ (fs.map putF).flatten)) = ⟨fs, C.length, 0, []⟩ := by rw [List.nil_append, says_noise C _ HNO.out, says_puts fs HA.out.fits]; simp
              refine (Feed_made w8 wr.heap.size (.slice none 0 0) _ [] (C ++ (fs.map putF).flatten) 0 0 H8.out.2.1 (nil_bts _) H8.out.1.bb.bts (by have := HA.out.lb; rw [List.length_nil]; omega) (by omega) (by omega)).mono ?_
              rw [hsy]
              rintro e9 w9 ⟨v9, hv9, rfl, hf9, hh9, hbt9, _, hg9, _⟩
              dsimp only at hf9 hh9 hbt9
              obtain ⟨ha, hn9, hc, rfl⟩ := hbt9.slice
              obtain rfl := hbt9.len
              have hz := HA.out.bel.size
              have hw9 : FrsP w9 u7 fs (fun b => w.heap.size ≤ b ∧ b < wr.heap.size) := by
                have h1 := HA.out.want.both.imp (Q := fun b => w.heap.size ≤ b ∧ b < wr.heap.size) (fun b hb => ⟨hb.1.1, hb.2⟩)
                exact (h1.below HB8.out).kept hg9 (.inr (fun e => by have := HA.out.want.lt _ e; omega)) (fun b hb e => by simp only [Option.some.injEq] at e; omega)
              have hls := list_any v9 u7 fs fs _ 0 w9 hf9 hw9.frs (by have := HA.out.len; omega)
              rw [sameL_yes] at hls
              have HLS9 := Lib.hid hls
              rw [Nat.zero_add, HCL.out] at hh9
              have HH9 := Lib.hid (show HunAt w9 wr.heap.size _ ((k : Nat) : Int) 0 true from hh9)
              have HB9 := Lib.hid (show Below w.heap.size w w9 from H8.out.1.bel.grown hg9 H8.out.1.bel.size (fun b hb => by simp only [Option.some.injEq] at hb; omega))
              clear hls hh9 hw9 hf9 hbt9 hg9 hsy hz
              go_wp2_with (first | (go_at_call 35; (first | with_reducible refine Calls.fresh HLS9.out ?_); intro x9) | (go_at_call 36; with_reducible refine Calls.tells (Noise_made _ _ _ _ _ HH9.out.up) ?_) | (go_at_call 37; with_reducible refine Calls.tells (Sums_made _ _ _ _ _ HH9.out.up) ?_) | (go_at_call 38; with_reducible refine Calls.tells (Held_made _ _ _ _ _ _ _ HH9.out.up) ?_))
              go_ret
              exact Gives.mk rfl (below_up HB9.out HB9.out.size _)
          · obtain rfl : i = 10 := by omega
            have h33 : (10 : Int) < (ls.length : Int) := by omega
            go_wp2_with fail
            refine (HNew_any _).mono ?_
            rintro e8 w8 ⟨rfl, hb8, hh8, hl8⟩
            have hA8 := HA.out.below hb8
            have H8 := Lib.hid (And.intro hA8 (And.intro hh8 hl8))
            have HB8 := Lib.hid hb8
            clear hb8 hh8 hl8 hA8
            go_wp2_with fail
            have hsy : says ([] ++ (C ++ (fs.map putF).flatten)) = ⟨fs, C.length, 0, []⟩ := by rw [List.nil_append, says_noise C _ HNO.out, says_puts fs HA.out.fits]; simp
            refine (Feed_made w8 wr.heap.size (.slice none 0 0) _ [] (C ++ (fs.map putF).flatten) 0 0 H8.out.2.1 (nil_bts _) H8.out.1.bb.bts (by have := HA.out.lb; rw [List.length_nil]; omega) (by omega) (by omega)).mono ?_
            rw [hsy]
            rintro e9 w9 ⟨v9, hv9, rfl, hf9, hh9, hbt9, _, hg9, _⟩
            dsimp only at hf9 hh9 hbt9
            obtain ⟨ha, hn9, hc, rfl⟩ := hbt9.slice
            obtain rfl := hbt9.len
            have hz := HA.out.bel.size
            have hw9 : FrsP w9 u7 fs (fun b => w.heap.size ≤ b ∧ b < wr.heap.size) := by
              have h1 := HA.out.want.both.imp (Q := fun b => w.heap.size ≤ b ∧ b < wr.heap.size) (fun b hb => ⟨hb.1.1, hb.2⟩)
              exact (h1.below HB8.out).kept hg9 (.inr (fun e => by have := HA.out.want.lt _ e; omega)) (fun b hb e => by simp only [Option.some.injEq] at e; omega)
            have hls := list_any v9 u7 fs fs _ 0 w9 hf9 hw9.frs (by have := HA.out.len; omega)
            rw [sameL_yes] at hls
            have HLS9 := Lib.hid hls
            rw [Nat.zero_add, HCL.out] at hh9
            have HH9 := Lib.hid (show HunAt w9 wr.heap.size _ ((k : Nat) : Int) 0 true from hh9)
            have HB9 := Lib.hid (show Below w.heap.size w w9 from H8.out.1.bel.grown hg9 H8.out.1.bel.size (fun b hb => by simp only [Option.some.injEq] at hb; omega))
            clear hls hh9 hw9 hf9 hbt9 hg9 hsy hz
            go_wp2_with (first | (go_at_call 35; (first | with_reducible refine Calls.fresh HLS9.out ?_); intro x9) | (go_at_call 36; with_reducible refine Calls.tells (Noise_made _ _ _ _ _ HH9.out.up) ?_) | (go_at_call 37; with_reducible refine Calls.tells (Sums_made _ _ _ _ _ HH9.out.up) ?_) | (go_at_call 38; with_reducible refine Calls.tells (Held_made _ _ _ _ _ _ _ HH9.out.up) ?_))
            go_ret
            exact Gives.mk rfl (below_up HB9.out HB9.out.size _)
end Go.Proofs.Ytjkgodhoonkinaa
