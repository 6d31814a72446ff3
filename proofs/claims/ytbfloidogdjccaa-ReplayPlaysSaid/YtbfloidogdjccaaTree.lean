/-
  A region that draws its order: what only reads is taken first; then a tree of the orders in which the rest may come.
-/
import Derived.Test.YtbfloidogdjccaaSched
namespace Go.Proofs.Ytbfloidogdjccaa
open Go.RowKit

section
variable {P : Program} {ops : Array Oper} {Q : Exit → Act → World → Prop} {S : World → Prop} {md : Region.Mode}
def wpPre (P : Program) (md : Region.Mode) (ops : Array Oper) (Q : Exit → Act → World → Prop) (S : World → Prop) (n : Nat) : List (Nat × Nat) → Array Bool → Act → World → Prop
  | [], listed, a, w => wpAnyG P md ops Q S [] n listed a w
  | (i, 0) :: l, listed, a, w => ∃ o v, ops[i]? = some o ∧ Stills P ops S o v a ∧ wpPre P md ops Q S n l (listed.setIfInBounds i true) (a.put o.dst v) w
  | (i, _ + 1) :: l, listed, a, w => ∃ o v, ops[i]? = some o ∧ Yields P ops o v a ∧ wpPre P md ops Q S n l (listed.setIfInBounds i true) (a.put o.dst v) w
def prePlanB (md : Region.Mode) (ops : Array Oper) : List (Nat × Nat) → Array Bool → Bool
  | [], _ => true
  | (i, _) :: l, listed => Region.free md ops listed i && ((Region.ready md ops listed).contains i && prePlanB md ops l (listed.setIfInBounds i true))
theorem wpAnyG_of_pre (hs : Region.noSelect ops = true) (hQ : ∀ d v c a w, Q (.panic c) (Act.put a d v) w → Q (.panic c) a w) (n : Nat) : ∀ (l : List (Nat × Nat)) (listed : Array Bool) (a : Act) (w : World), ClosedL md ops listed → S w → prePlanB md ops l listed = true →
    wpPre P md ops Q S n l listed a w → wpAnyG P md ops Q S [] (l.length + n) listed a w
  | [], listed, a, w, _, _, _, h => by rw [List.length_nil, Nat.zero_add]; exact h
  | (i, 0) :: l, listed, a, w, hcl, hS, hB, h => by
    obtain ⟨o, v, ho, hy, h⟩ := h
    simp only [prePlanB, Bool.and_eq_true] at hB
    have hr : i ∈ Region.ready md ops listed := by simpa using hB.2.1
    have := wpAnyG_first (T := []) ho (Region.noSelect_spec hs) (fun c a w => hQ _ _ c a w) (fun j hj => by cases hj) (by simp) (l.length + n) listed a w hcl (Region.free_spec ho hB.1) hr hy hS (wpAnyG_of_pre hs hQ n l _ _ _ (hcl.set hr) hS hB.2.2 h)
    rw [List.length_cons, show l.length + 1 + n = l.length + n + 1 by omega]
    exact this
  | (i, m + 1) :: l, listed, a, w, hcl, hS, hB, h => by
    obtain ⟨o, v, ho, hy, h⟩ := h
    simp only [prePlanB, Bool.and_eq_true] at hB
    have hr : i ∈ Region.ready md ops listed := by simpa using hB.2.1
    have := wpAnyG_firstP (T := []) ho (Region.noSelect_spec hs) (fun c a w => hQ _ _ c a w) (by simp) (l.length + n) listed a w (Region.free_spec ho hB.1) hr hy (fun _ => hS) (wpAnyG_of_pre hs hQ n l _ _ _ (hcl.set hr) hS hB.2.2 h)
    rw [List.length_cons, show l.length + 1 + n = l.length + n + 1 by omega]
    exact this
theorem wp_region_pre {id : Nat} {a : Act} {w : World} {l : List Oper} (pre : List (Nat × Nat)) (n : Nat) (S : World → Prop) (hm : P.follows .mixedOrders = true)
    (hB : (prePlanB .any l.toArray pre (Array.replicate l.toArray.size false) && (pre.length + n == l.toArray.size && Region.noSelect l.toArray)) = true)
    (hQ : ∀ d v c a w, Q (.panic c) (Act.put a d v) w → Q (.panic c) a w) (hS : S w.drew) (h : wpPre P .any l.toArray Q S n pre (Array.replicate l.toArray.size false) a w.drew) : (Code.region id l.toArray true).wp P Q a w := by
  simp only [Bool.and_eq_true, beq_iff_eq] at hB
  refine wp_region_any hm (wpAny_of_G (S := S) (T := []) _ _ _ _ ?_)
  have h1 := wpAnyG_of_pre hB.2.2 hQ n pre _ a _ closed_start hS hB.1 h
  rw [hB.2.1] at h1
  exact h1
theorem wpPre_still {n i : Nat} {l : List (Nat × Nat)} {listed : Array Bool} {a : Act} {w : World} {o : Oper} (v : Value) (ho : ops[i]? = some o) (hw : Region.wanted o (yielded ops a.tmps) = true)
    (hv : ∀ W, S W → (execOp a.eval o).run P W = .ok (.value v) W) (h : wpPre P md ops Q S n l (listed.setIfInBounds i true) (a.put o.dst v) w) : wpPre P md ops Q S n ((i, 0) :: l) listed a w :=
  ⟨o, v, ho, .inl ⟨hw, fun w hs => Or.inl (hv w hs)⟩, h⟩
theorem wpPre_pure {n i : Nat} {l : List (Nat × Nat)} {listed : Array Bool} {a : Act} {w : World} {o : Oper} (v : Value) (ho : ops[i]? = some o) (hw : Region.wanted o (yielded ops a.tmps) = true)
    (hv : ∀ W, (execOp a.eval o).run P W = .ok (.value v) W) (h : wpPre P md ops Q S n l (listed.setIfInBounds i true) (a.put o.dst v) w) : wpPre P md ops Q S n ((i, 1) :: l) listed a w :=
  ⟨o, v, ho, .inl ⟨hw, hv⟩, h⟩
theorem wpPre_nil {n : Nat} {listed : Array Bool} {a : Act} {w : World} (h : wpAnyG P md ops Q S [] n listed a w) : wpPre P md ops Q S n [] listed a w := h
/-- One step at a fork. -/
def Fork (P : Program) (md : Region.Mode) (ops : Array Oper) (Q : Exit → Act → World → Prop) (S : World → Prop) (n : Nat) (listed : Array Bool) (i : Nat) (a : Act) (w : World) : Prop :=
  wpOp P ops Q i (fun a' w' => S w' ∧ wpAnyG P md ops Q S [] n (listed.setIfInBounds i true) a' w') a w
theorem wpAnyG_fork {n : Nat} {listed : Array Bool} {a : Act} {w : World} (l : List Nat) (hr : Region.ready md ops listed = l) (hne : l ≠ []) (h : ∀ i ∈ l, Fork P md ops Q S n listed i a w) : wpAnyG P md ops Q S [] (n + 1) listed a w :=
  ⟨fun h0 => absurd (hr.symm.trans h0) hne, fun i hi => wpOp_mono (fun _ _ ⟨h1, h2⟩ => ⟨fun _ => h1, h2⟩) (h i (hr ▸ hi))⟩
theorem fork1 {n i : Nat} {listed : Array Bool} {a : Act} {w : World} (hr : Region.ready md ops listed = [i]) (h : Fork P md ops Q S n listed i a w) : wpAnyG P md ops Q S [] (n + 1) listed a w :=
  wpAnyG_fork _ hr (by simp) (by simpa using h)
theorem fork2 {n i j : Nat} {listed : Array Bool} {a : Act} {w : World} (hr : Region.ready md ops listed = [i, j]) (h : Fork P md ops Q S n listed i a w) (h2 : Fork P md ops Q S n listed j a w) : wpAnyG P md ops Q S [] (n + 1) listed a w :=
  wpAnyG_fork _ hr (by simp) (by simpa using ⟨h, h2⟩)
theorem fork3 {n i j k : Nat} {listed : Array Bool} {a : Act} {w : World} (hr : Region.ready md ops listed = [i, j, k]) (h : Fork P md ops Q S n listed i a w) (h2 : Fork P md ops Q S n listed j a w) (h3 : Fork P md ops Q S n listed k a w) : wpAnyG P md ops Q S [] (n + 1) listed a w :=
  wpAnyG_fork _ hr (by simp) (by simpa using ⟨h, h2, h3⟩)
theorem fork_step {n i : Nat} {listed : Array Bool} {a : Act} {w : World} {o : Oper} (ho : ops[i]? = some o) (hw : Region.wanted o (yielded ops a.tmps) = true)
    (h : ∀ K : Act → World → Prop, (∀ a' w', S w' → wpAnyG P md ops Q S [] n (listed.setIfInBounds i true) a' w' → K a' w') → o.wp P a w K Q) : Fork P md ops Q S n listed i a w := by
  unfold Fork wpOp
  simp only [ho, hw, if_true]
  exact Or.inl (h _ fun a' w' h1 h2 => ⟨h1, h2⟩)
theorem fork_run {n i : Nat} {listed : Array Bool} {a : Act} {w w' : World} {o : Oper} (v : Value) (ho : ops[i]? = some o) (hw : Region.wanted o (yielded ops a.tmps) = true)
    (hr : (execOp a.eval o).run P w = .ok (.value v) w') (hS : S w') (h : wpAnyG P md ops Q S [] n (listed.setIfInBounds i true) (a.put o.dst v) w') : Fork P md ops Q S n listed i a w :=
  fork_step ho hw fun K hK => by unfold Oper.wp; rw [hr]; exact hK _ _ hS h
theorem wpPre_load {n i : Nat} {l : List (Nat × Nat)} {listed : Array Bool} {a : Act} {w : World} {op : Oper} (ty : TypeId) (x : Operand) (b o : Nat) (cs : List Value) (d : TypeDesc) (ho : ops[i]? = some op) (hop : op.op = .load ty x) (hw : Region.wanted op (yielded ops a.tmps) = true)
    (hx : a.eval x = .pointer (some ⟨b, o, none⟩)) (hS : ∀ w, S w → w.rangeAt b o cs)
    (hu : P.underlying ty = some d) (hd : d.isRow = true) (hi : (P.info? ty).map (·.size) = some cs.length) (h : wpPre P md ops Q S n l (listed.setIfInBounds i true) (a.put op.dst (.agg cs.toArray)) w) : wpPre P md ops Q S n ((i, 0) :: l) listed a w :=
  wpPre_still _ ho hw (fun W hW => by
    unfold execOp
    simp only [hop, hx, Sem.run_bind, run_loadAt_mid W b o ty cs d (hS W hW) hu hd hi, Result.andThen_ok, Sem.run_pure]) h
theorem fork_end {listed : Array Bool} {a : Act} {w : World} (hr : Region.ready md ops listed = []) (h : Q .normal a w) : wpAnyG P md ops Q S [] 0 listed a w := ⟨hr, h⟩
end
end Go.Proofs.Ytbfloidogdjccaa
