/-
  A region that draws its order, whose writing operations stand in one order: one walk by a schedule serves every order. (An operation that only reads is taken first, under a condition S that is shown anew behind each writing operation that may come ahead of a reading one.)
-/
import Derived.Deep.MidRow
import Derived.Test.YtihalkpcddnikaaLib
namespace Go.Proofs.Ytihalkpcddnikaa
open Go.RowKit

section
variable {P : Program} {ops : Array Oper} {Q : Exit → Act → World → Prop} {S : World → Prop} {md : Region.Mode} {T : List Nat}
/-- Number j waits for number i. -/
inductive Waits (md : Region.Mode) (ops : Array Oper) : Nat → Nat → Prop
  | edge {j i : Nat} {o : Oper} {e : Edge} : ops[j]? = some o → e ∈ o.after → Region.binds md e = true → e.on = i → Waits md ops j i
  | more {j k i : Nat} {o : Oper} {e : Edge} : ops[j]? = some o → e ∈ o.after → Region.binds md e = true → e.on = k → Waits md ops k i → Waits md ops j i
def waitsB (md : Region.Mode) (ops : Array Oper) : Nat → Nat → Nat → Bool
  | 0, _, _ => false
  | n + 1, j, i => match ops[j]? with
    | some o => (o.after.toList.any fun e => Region.binds md e && e.on == i) || (o.after.toList.any fun e => Region.binds md e && waitsB md ops n e.on i)
    | none => false
theorem waits_of : ∀ (n j i : Nat), waitsB md ops n j i = true → Waits md ops j i
  | 0, _, _, h => by simp [waitsB] at h
  | n + 1, j, i, h => by
    unfold waitsB at h
    split at h
    · rename_i o ho
      rw [Bool.or_eq_true, List.any_eq_true, List.any_eq_true] at h
      rcases h with ⟨e, he, h⟩ | ⟨e, he, h⟩
      · simp only [Bool.and_eq_true, beq_iff_eq] at h
        exact .edge ho (by simpa using he) h.1 h.2
      · simp only [Bool.and_eq_true] at h
        exact .more ho (by simpa using he) h.1 rfl (waits_of n _ _ h.2)
    · cases h
/-- What is listed has what it waits for listed. -/
def ClosedL (md : Region.Mode) (ops : Array Oper) (listed : Array Bool) : Prop :=
  ∀ k o, ops[k]? = some o → listed.getD k false = true → ∀ e ∈ o.after, Region.binds md e = true → listed.getD e.on false = true
theorem ClosedL.waits {listed : Array Bool} (h : ClosedL md ops listed) {j i : Nat} (hw : Waits md ops j i) : listed.getD j false = true → listed.getD i false = true := by
  induction hw with
  | edge ho he hb hi => intro hj; subst hi; exact h _ _ ho hj _ he hb
  | more ho he hb hk _ ih => intro hj; subst hk; exact ih (h _ _ ho hj _ he hb)
theorem ready_waits {listed : Array Bool} (h : ClosedL md ops listed) {j i : Nat} (hj : j ∈ Region.ready md ops listed) (hw : Waits md ops j i) : listed.getD i false = true := by
  obtain ⟨_, o, ho, hall⟩ := mem_ready.1 hj
  cases hw with
  | edge ho' he hb hi => rw [ho] at ho'; cases ho'; subst hi; exact hall _ he hb
  | more ho' he hb hk hw => rw [ho] at ho'; cases ho'; subst hk; exact h.waits hw (hall _ he hb)
theorem ClosedL.set {listed : Array Bool} (h : ClosedL md ops listed) {j : Nat} (hj : j ∈ Region.ready md ops listed) : ClosedL md ops (listed.setIfInBounds j true) := fun k o hk hl e he hb => by
  by_cases hjk : j = k
  · subst hjk
    obtain ⟨_, o', ho', hall⟩ := mem_ready.1 hj
    rw [hk] at ho'; cases ho'
    exact getD_set_true (hall e he hb)
  · rw [getD_set_ne false hjk] at hl
    exact getD_set_true (h k o hk hl e he hb)
/-- None of T is listed. -/
def NoT (T : List Nat) (listed : Array Bool) : Prop := ∀ t ∈ T, listed.getD t false = false
/-- Whatever order is picked from here on; as long as none of T is listed, S holds. -/
def wpAnyG (P : Program) (md : Region.Mode) (ops : Array Oper) (Q : Exit → Act → World → Prop) (S : World → Prop) (T : List Nat) : Nat → Array Bool → Act → World → Prop
  | 0, listed, a, w => Region.ready md ops listed = [] ∧ Q .normal a w
  | fuel + 1, listed, a, w =>
    (Region.ready md ops listed = [] → Q .normal a w) ∧
    ∀ i ∈ Region.ready md ops listed, wpOp P ops Q i (fun a' w' => (NoT T (listed.setIfInBounds i true) → S w') ∧ wpAnyG P md ops Q S T fuel (listed.setIfInBounds i true) a' w') a w
theorem wpAny_of_G : ∀ (fuel : Nat) (listed : Array Bool) (a : Act) (w : World), wpAnyG P md ops Q S T fuel listed a w → wpAny P md ops Q fuel listed a w
  | 0, _, _, _, h => h
  | fuel + 1, _, _, _, h => ⟨h.1, fun i hi => wpOp_mono (fun a' w' h' => wpAny_of_G fuel _ a' w' h'.2) (h.2 i hi)⟩
theorem unlisted_ne {listed : Array Bool} {i : Nat} (h : listed.getD i true = false) : listed.getD i false = false := by
  rcases Nat.lt_or_ge i listed.size with h' | h'
  · simp [h'] at h ⊢; exact h
  · simp [Array.getElem?_eq_none h'] at h
theorem listed_set {listed : Array Bool} {i : Nat} (h : listed.getD i true = false) : (listed.setIfInBounds i true).getD i false = true := by
  rcases Nat.lt_or_ge i listed.size with h' | h'
  · simp [h']
  · simp [Array.getElem?_eq_none h'] at h
/-- Operation o, in state a: in every world that meets S it leaves v in its temporary and the world as it is: by itself, or as a call of a function that only reads. -/
def Stills (P : Program) (ops : Array Oper) (S : World → Prop) (o : Oper) (v : Value) (a : Act) : Prop :=
  (Region.wanted o (yielded ops a.tmps) = true ∧ ∀ w, S w → (execOp a.eval o).run P w = .ok (.value v) w ∨ ∃ f args, (execOp a.eval o).run P w = .ok (.enter f args) w ∧ Calls P f args w (fun e w' => e = .returned v ∧ w' = w)) ∨
  (Region.wanted o (yielded ops a.tmps) = false ∧ v = undef)
theorem Stills.wpOp {i : Nat} {o : Oper} {v : Value} {a : Act} (hi : ops[i]? = some o) (hy : Stills P ops S o v a) {K : Act → World → Prop} {w : World} (hS : S w) (h : K (a.put o.dst v) w) : wpOp P ops Q i K a w := by
  unfold Go.wpOp
  rw [hi]
  dsimp only
  rcases hy with ⟨hw, hv⟩ | ⟨hw, rfl⟩
  · rw [if_pos hw]
    refine Or.inl ?_
    unfold Oper.wp
    rcases hv w hS with hr | ⟨f, args, hr, hc⟩
    · rw [hr]; exact h
    · rw [hr]
      exact hc.mono fun e w' ⟨h1, h2⟩ => by subst h1; subst h2; exact h
  · rw [if_neg (by rw [hw]; simp)]; exact h
/-- Number j ahead of i: i is as it was behind it. -/
theorem wpOp_ahead {j : Nat} {oi oj : Oper} {v : Value} (hj : ops[j]? = some oj) (hap : oi.apart ops oj = true) (hsi : ∀ cs b, oi.op ≠ .select cs b) (hsj : ∀ cs b, oj.op ≠ .select cs b)
    (hQ : ∀ c a w, Q (.panic c) (a.put oi.dst v) w → Q (.panic c) a w) {K : Act → World → Prop} {a : Act} {w : World}
    (hy : Stills P ops S oi v a) (h : wpOp P ops Q j K (a.put oi.dst v) w) : wpOp P ops Q j (fun a' w' => Stills P ops S oi v a' ∧ K (a'.put oi.dst v) w') a w := by
  obtain ⟨h1, h2, h3⟩ := Oper.apart_spec hap
  have keep : ∀ (b : Act) (u : Value), Stills P ops S oi v b → Stills P ops S oi v (b.put oj.dst u) := fun b u hb => by
    unfold Stills at *
    rw [execOp_put oi hsi b oj.dst u h3, wanted_put oi b oj.dst u h3]; exact hb
  have done : ∀ (u : Value) (w' : World), K ((a.put oi.dst v).put oj.dst u) w' → Stills P ops S oi v (a.put oj.dst u) ∧ K ((a.put oj.dst u).put oi.dst v) w' := fun u w' hk =>
    ⟨keep a u hy, by rw [← Act.put_comm a v u h2]; exact hk⟩
  unfold wpOp at h ⊢
  rw [hj] at h ⊢
  dsimp only at h ⊢
  rw [wanted_put oj a oi.dst v h1] at h
  by_cases hw : Region.wanted oj (yielded ops a.tmps) = true
  · rw [if_pos hw] at h ⊢
    rcases h with h | ⟨hasks, hlets⟩
    · refine Or.inl ?_
      unfold Oper.wp at h ⊢
      rw [execOp_put oj hsj a oi.dst v h1] at h
      revert h
      generalize (execOp a.eval oj).run P w = r
      intro h
      match r, h with
      | .ok (.value u) w', h => exact done u w' h
      | .ok .skip w', h => exact done undef w' h
      | .ok (.defer d) w', h =>
        have hd : Stills P ops S oi v { a with defers := d :: a.defers } := hy
        rw [Oper.upon_defer] at h ⊢
        refine ⟨keep _ _ hd, ?_⟩
        rw [← Act.put_comm _ v undef h2, ← Act.put_defers]; exact h
      | .ok (.enter f args) w', h =>
        rw [Oper.upon_enter] at h ⊢
        exact Calls.mono h fun e w'' he => match e, he with
          | .returned u, he => done u w'' he
          | .panicked c, he => hQ _ _ _ he
          | .outgrown, he => he
      | .ok (.row row args) w', h =>
        rw [Oper.upon_row] at h ⊢
        exact Rows.mono h fun u w'' he => done u w'' he
      | .halt (.panic u) w', h =>
        rw [Oper.upon_panic] at h ⊢
        exact hQ _ _ _ h
    · exact Or.inr ⟨by unfold Oper.asks at *; rw [execOp_put oj hsj a oi.dst v h1] at hasks; exact hasks, hlets⟩
  · rw [if_neg hw] at h ⊢
    exact done undef w h
theorem wpAnyG_first {i : Nat} {oi : Oper} {v : Value} (hi : ops[i]? = some oi) (hsel : ∀ (j : Nat) (o : Oper) cs b, ops[j]? = some o → o.op ≠ .select cs b)
    (hQ : ∀ c a w, Q (.panic c) (a.put oi.dst v) w → Q (.panic c) a w) (hT : ∀ j ∈ T, Waits md ops j i) (hiT : ¬ i ∈ T) :
    ∀ (fuel : Nat) (listed : Array Bool) (a : Act) (w : World), ClosedL md ops listed →
      (∀ j oj, ops[j]? = some oj → j ≠ i → listed.getD j true = false → (∀ e ∈ oj.after, Region.binds md e = true → e.on ≠ i) → oi.apart ops oj = true) →
      i ∈ Region.ready md ops listed → Stills P ops S oi v a → S w →
      wpAnyG P md ops Q S T fuel (listed.setIfInBounds i true) (a.put oi.dst v) w → wpAnyG P md ops Q S T (fuel + 1) listed a w := by
  intro fuel
  induction fuel with
  | zero =>
    intro listed a w _ hfree hr hy hS H
    refine ⟨fun h => (by rw [h] at hr; cases hr), fun j hj => ?_⟩
    by_cases hji : j = i
    · subst hji; exact hy.wpOp hi hS ⟨fun _ => hS, H⟩
    · have := ready_mono hj hji
      rw [H.1] at this
      cases this
  | succ fuel ih =>
    intro listed a w hcl hfree hr hy hS H
    refine ⟨fun h => (by rw [h] at hr; cases hr), fun j hj => ?_⟩
    by_cases hji : j = i
    · subst hji; exact hy.wpOp hi hS ⟨fun _ => hS, H⟩
    · have h1 := H.2 j (ready_mono hj hji)
      have hun := unlisted_ne (mem_ready.1 hr).1
      have hno : NoT T ((listed.setIfInBounds i true).setIfInBounds j true) := fun t ht => by
        have hti : i ≠ t := fun e => hiT (by rw [e]; exact ht)
        have htj : j ≠ t := fun e => by
          have := ready_waits hcl hj (e ▸ hT t ht)
          rw [hun] at this; cases this
        rw [getD_set_ne false htj, getD_set_ne false hti]
        cases hl : listed.getD t false
        · rfl
        · have := hcl.waits (hT t ht) hl
          rw [hun] at this; cases this
      obtain ⟨hjun, oj, hoj, hall⟩ := mem_ready.1 hj
      have hnot : ∀ e ∈ oj.after, Region.binds md e = true → e.on ≠ i := fun e he hb heq => by
        have h1 := hall e he hb
        rw [heq, hun] at h1; cases h1
      have h2 := wpOp_ahead hoj (hfree j oj hoj hji hjun hnot) (fun cs b => hsel i oi cs b hi) (fun cs b => hsel j oj cs b hoj) hQ hy h1
      have hfree' : ∀ k ok, ops[k]? = some ok → k ≠ i → (listed.setIfInBounds j true).getD k true = false →
          (∀ e ∈ ok.after, Region.binds md e = true → e.on ≠ i) → oi.apart ops ok = true := fun k ok hk hki hun hno => by
        refine hfree k ok hk hki ?_ hno
        by_cases hjk : j = k
        · subst hjk; exact hjun
        · rw [getD_set_ne true hjk] at hun; exact hun
      refine wpOp_mono (fun a' w' h3 => ⟨fun _ => h3.2.1 hno, ih (listed.setIfInBounds j true) a' w' (hcl.set hj) hfree' (ready_mono hr (Ne.symm hji)) h3.1 (h3.2.1 hno) ?_⟩) h2
      rw [Array.setIfInBounds_comm _ _ hji]
      exact h3.2.2
theorem wpAnyG_firstP {i : Nat} {oi : Oper} {v : Value} (hi : ops[i]? = some oi) (hsel : ∀ (j : Nat) (o : Oper) cs b, ops[j]? = some o → o.op ≠ .select cs b)
    (hQ : ∀ c a w, Q (.panic c) (a.put oi.dst v) w → Q (.panic c) a w) (hiT : ¬ i ∈ T) :
    ∀ (fuel : Nat) (listed : Array Bool) (a : Act) (w : World),
      (∀ j oj, ops[j]? = some oj → j ≠ i → listed.getD j true = false → (∀ e ∈ oj.after, Region.binds md e = true → e.on ≠ i) → oi.apart ops oj = true) →
      i ∈ Region.ready md ops listed → Yields P ops oi v a → (NoT T listed → S w) →
      wpAnyG P md ops Q S T fuel (listed.setIfInBounds i true) (a.put oi.dst v) w → wpAnyG P md ops Q S T (fuel + 1) listed a w := by
  have hnt : ∀ (l : Array Bool), NoT T (l.setIfInBounds i true) → NoT T l := fun l h t ht => by
    have := h t ht
    rwa [getD_set_ne false (show i ≠ t from fun e => hiT (by rw [e]; exact ht))] at this
  have hnt' : ∀ (l : Array Bool), NoT T l → NoT T (l.setIfInBounds i true) := fun l h t ht => by
    rw [getD_set_ne false (show i ≠ t from fun e => hiT (by rw [e]; exact ht))]; exact h t ht
  intro fuel
  induction fuel with
  | zero =>
    intro listed a w hfree hr hy hS H
    refine ⟨fun h => (by rw [h] at hr; cases hr), fun j hj => ?_⟩
    by_cases hji : j = i
    · subst hji; exact hy.wpOp hi ⟨fun h => hS (hnt _ h), H⟩
    · have := ready_mono hj hji
      rw [H.1] at this
      cases this
  | succ fuel ih =>
    intro listed a w hfree hr hy hS H
    refine ⟨fun h => (by rw [h] at hr; cases hr), fun j hj => ?_⟩
    by_cases hji : j = i
    · subst hji; exact hy.wpOp hi ⟨fun h => hS (hnt _ h), H⟩
    · have h1 := H.2 j (ready_mono hj hji)
      have hun := unlisted_ne (mem_ready.1 hr).1
      obtain ⟨hjun, oj, hoj, hall⟩ := mem_ready.1 hj
      have hnot : ∀ e ∈ oj.after, Region.binds md e = true → e.on ≠ i := fun e he hb heq => by
        have h1 := hall e he hb
        rw [heq, hun] at h1; cases h1
      have h2 := wpOp_put hoj (hfree j oj hoj hji hjun hnot) (fun cs b => hsel i oi cs b hi) (fun cs b => hsel j oj cs b hoj) hQ hy h1
      have hfree' : ∀ k ok, ops[k]? = some ok → k ≠ i → (listed.setIfInBounds j true).getD k true = false →
          (∀ e ∈ ok.after, Region.binds md e = true → e.on ≠ i) → oi.apart ops ok = true := fun k ok hk hki hun hno => by
        refine hfree k ok hk hki ?_ hno
        by_cases hjk : j = k
        · subst hjk; exact hjun
        · rw [getD_set_ne true hjk] at hun; exact hun
      have hS' : ∀ w', (NoT T ((listed.setIfInBounds i true).setIfInBounds j true) → S w') → NoT T (listed.setIfInBounds j true) → S w' := fun w' h hn => h (by
        rw [Array.setIfInBounds_comm _ _ (Ne.symm hji)]; exact hnt' _ hn)
      refine wpOp_mono (fun a' w' h3 => ⟨hS' w' h3.2.1, ih (listed.setIfInBounds j true) a' w' hfree' (ready_mono hr (Ne.symm hji)) h3.1 (hS' w' h3.2.1) ?_⟩) h2
      rw [Array.setIfInBounds_comm _ _ hji]
      exact h3.2.2

/-- The walk by a schedule: (i, 0): number i only reads; (i, 1): it may write, and S is shown anew behind it; (i, 2): it may write, and all that reads came ahead of it; (i, 3): it does not look at memory. -/
def wpSched (P : Program) (ops : Array Oper) (Q : Exit → Act → World → Prop) (S : World → Prop) : List (Nat × Nat) → Act → World → Prop
  | [], a, w => Q .normal a w
  | (i, 0) :: l, a, w => ∃ o v, ops[i]? = some o ∧ Stills P ops S o v a ∧ wpSched P ops Q S l (a.put o.dst v) w
  | (i, 1) :: l, a, w => wpOp P ops Q i (fun a' w' => S w' ∧ wpSched P ops Q S l a' w') a w
  | (i, 2) :: l, a, w => wpOp P ops Q i (fun a' w' => wpSched P ops Q S l a' w') a w
  | (i, _ + 3) :: l, a, w => ∃ o v, ops[i]? = some o ∧ Yields P ops o v a ∧ wpSched P ops Q S l (a.put o.dst v) w
/-- Is it a schedule? -/
def schedB (md : Region.Mode) (ops : Array Oper) (T : List Nat) : List (Nat × Nat) → Array Bool → Bool
  | [], listed => (Region.ready md ops listed).isEmpty
  | (i, 0) :: l, listed => Region.free md ops listed i && ((Region.ready md ops listed).contains i && ((T.all (fun j => waitsB md ops 9 j i) && (!T.contains i && T.all (fun j => !listed.getD j false))) && schedB md ops T l (listed.setIfInBounds i true)))
  | (i, 1) :: l, listed => (match Region.ready md ops listed with | [j] => j == i | _ => false) && schedB md ops T l (listed.setIfInBounds i true)
  | (i, 2) :: l, listed => (match Region.ready md ops listed with | [j] => j == i | _ => false) && (T.contains i && schedB md ops T l (listed.setIfInBounds i true))
  | (i, _ + 3) :: l, listed => Region.free md ops listed i && ((Region.ready md ops listed).contains i && (!T.contains i && schedB md ops T l (listed.setIfInBounds i true)))
theorem ready_one {listed : Array Bool} {i : Nat} (h : (match Region.ready md ops listed with | [j] => j == i | _ => false) = true) : Region.ready md ops listed = [i] := by
  split at h
  · rename_i j hj; rw [hj, beq_iff_eq.1 h]
  · cases h
theorem wpAnyG_of_sched (hs : Region.noSelect ops = true) (hQ : ∀ d v c a w, Q (.panic c) (Act.put a d v) w → Q (.panic c) a w) : ∀ (l : List (Nat × Nat)) (listed : Array Bool) (a : Act) (w : World), ClosedL md ops listed → (NoT T listed → S w) → schedB md ops T l listed = true →
    wpSched P ops Q S l a w → wpAnyG P md ops Q S T l.length listed a w
  | [], listed, a, w, _, _, hB, h => ⟨by simpa [schedB, List.isEmpty_iff] using hB, h⟩
  | (i, 0) :: l, listed, a, w, hcl, hS, hB, h => by
    obtain ⟨o, v, ho, hy, h⟩ := h
    simp only [schedB, Bool.and_eq_true] at hB
    have hr : i ∈ Region.ready md ops listed := by simpa using hB.2.1
    have hS' : S w := hS fun t ht => by
      have := List.all_eq_true.1 hB.2.2.1.2.2 t ht
      simpa using this
    have hiT : ¬ i ∈ T := by
      have := hB.2.2.1.2.1
      simpa using this
    exact wpAnyG_first ho (Region.noSelect_spec hs) (fun c a w => hQ _ _ c a w) (fun j hj => waits_of 9 j i (List.all_eq_true.1 hB.2.2.1.1 j hj)) hiT l.length listed a w hcl (Region.free_spec ho hB.1) hr hy hS' (wpAnyG_of_sched hs hQ l _ _ _ (hcl.set hr) (fun _ => hS') hB.2.2.2 h)
  | (i, 1) :: l, listed, a, w, hcl, hS, hB, h => by
    simp only [schedB, Bool.and_eq_true] at hB
    have hr := ready_one hB.1
    refine ⟨fun h0 => (by rw [hr] at h0; cases h0), fun j hj => ?_⟩
    rw [hr, List.mem_singleton] at hj
    subst hj
    exact wpOp_mono (fun a' w' ⟨h1, h2⟩ => ⟨fun _ => h1, wpAnyG_of_sched hs hQ l _ a' w' (hcl.set (by rw [hr]; simp)) (fun _ => h1) hB.2 h2⟩) h
  | (i, 2) :: l, listed, a, w, hcl, hS, hB, h => by
    simp only [schedB, Bool.and_eq_true] at hB
    have hr := ready_one hB.1
    refine ⟨fun h0 => (by rw [hr] at h0; cases h0), fun j hj => ?_⟩
    have hj' := hj
    rw [hr, List.mem_singleton] at hj
    subst hj
    have hv : ∀ w', NoT T (listed.setIfInBounds j true) → S w' := fun w' hn => by
      have := hn j (by simpa using hB.2.1)
      rw [listed_set (mem_ready.1 hj').1] at this; cases this
    exact wpOp_mono (fun a' w' h2 => ⟨hv w', wpAnyG_of_sched hs hQ l _ a' w' (hcl.set hj') (hv w') hB.2.2 h2⟩) h
  | (i, n + 3) :: l, listed, a, w, hcl, hS, hB, h => by
    obtain ⟨o, v, ho, hy, h⟩ := h
    simp only [schedB, Bool.and_eq_true] at hB
    have hr : i ∈ Region.ready md ops listed := by simpa using hB.2.1
    have hiT : ¬ i ∈ T := by
      have := hB.2.2.1
      simpa using this
    refine wpAnyG_firstP ho (Region.noSelect_spec hs) (fun c a w => hQ _ _ c a w) hiT l.length listed a w (Region.free_spec ho hB.1) hr hy hS (wpAnyG_of_sched hs hQ l _ _ _ (hcl.set hr) (fun hn => hS fun t ht => ?_) hB.2.2.2 h)
    have := hn t ht
    rwa [getD_set_ne false (show i ≠ t from fun e => hiT (by rw [e]; exact ht))] at this
theorem closed_start : ClosedL md ops (Array.replicate ops.size false) := fun k o _ hl => by
  rcases Nat.lt_or_ge k ops.size with h | h <;> simp [h] at hl
theorem wp_region_sched {id : Nat} {a : Act} {w : World} {l : List Oper} (T : List Nat) (sch : List (Nat × Nat)) (S : World → Prop) (hm : P.follows .mixedOrders = true)
    (hB : (schedB .any l.toArray T sch (Array.replicate l.toArray.size false) && (sch.length == l.toArray.size && Region.noSelect l.toArray)) = true)
    (hQ : ∀ d v c a w, Q (.panic c) (Act.put a d v) w → Q (.panic c) a w) (hS : S w.drew) (h : wpSched P l.toArray Q S sch a w.drew) : (Code.region id l.toArray true).wp P Q a w := by
  simp only [Bool.and_eq_true, beq_iff_eq] at hB
  refine wp_region_any hm (wpAny_of_G (S := S) (T := T) _ _ _ _ ?_)
  have h1 := wpAnyG_of_sched (T := T) hB.2.2 hQ sch _ a _ closed_start (fun _ => hS) hB.1 h
  rw [hB.2.1] at h1
  exact h1
theorem wpSched_nil {a : Act} {w : World} (h : Q .normal a w) : wpSched P ops Q S [] a w := h
/-- An operation that only reads: its value, in every world that meets S. -/
theorem wpSched_still {i : Nat} {l : List (Nat × Nat)} {a : Act} {w : World} {o : Oper} (v : Value) (ho : ops[i]? = some o) (hw : Region.wanted o (yielded ops a.tmps) = true)
    (hv : ∀ W, S W → (execOp a.eval o).run P W = .ok (.value v) W) (h : wpSched P ops Q S l (a.put o.dst v) w) : wpSched P ops Q S ((i, 0) :: l) a w :=
  ⟨o, v, ho, .inl ⟨hw, fun w hs => Or.inl (hv w hs)⟩, h⟩
/-- A call of a function that only reads. -/
theorem wpSched_tells {i : Nat} {l : List (Nat × Nat)} {a : Act} {w : World} {o : Oper} (f : FuncId) (args : Array Value) (v : Value) (ho : ops[i]? = some o) (hw : Region.wanted o (yielded ops a.tmps) = true)
    (hr : ∀ W, (execOp a.eval o).run P W = .ok (.enter f args) W) (hc : ∀ W, S W → Calls P f args W (Tells W v)) (h : wpSched P ops Q S l (a.put o.dst v) w) : wpSched P ops Q S ((i, 0) :: l) a w :=
  ⟨o, v, ho, .inl ⟨hw, fun W hs => Or.inr ⟨f, args, hr W, (hc W hs).mono fun _ _ ⟨h1, h2⟩ => ⟨h1, h2.symm⟩⟩⟩, h⟩
theorem wpSched_take {i : Nat} {l : List (Nat × Nat)} {a : Act} {w : World} {o : Oper} (v : Value) (ho : ops[i]? = some o) (hy : YieldsIf P ops S o v a) (h : wpSched P ops Q S l (a.put o.dst v) w) : wpSched P ops Q S ((i, 0) :: l) a w :=
  ⟨o, v, ho, hy.imp (fun ⟨hw, hv⟩ => ⟨hw, fun w hs => Or.inl (hv w hs)⟩) id, h⟩
theorem wpSched_skip {i : Nat} {l : List (Nat × Nat)} {a : Act} {w : World} {o : Oper} (ho : ops[i]? = some o) (hw : Region.wanted o (yielded ops a.tmps) = false) (h : wpSched P ops Q S l (a.put o.dst undef) w) : wpSched P ops Q S ((i, 0) :: l) a w :=
  ⟨o, undef, ho, .inr ⟨hw, rfl⟩, h⟩
theorem wpSched_skipE {i : Nat} {l : List (Nat × Nat)} {a : Act} {w : World} {o : Oper} (ho : ops[i]? = some o) (hw : Region.wanted o (yielded ops a.tmps) = false) (hS : S w) (h : wpSched P ops Q S l (a.put o.dst undef) w) : wpSched P ops Q S ((i, 1) :: l) a w := by
  unfold wpSched wpOp
  simp only [ho, hw, Bool.false_eq_true, if_false]
  exact ⟨hS, h⟩
theorem wpSched_skipT {i : Nat} {l : List (Nat × Nat)} {a : Act} {w : World} {o : Oper} (ho : ops[i]? = some o) (hw : Region.wanted o (yielded ops a.tmps) = false) (h : wpSched P ops Q S l (a.put o.dst undef) w) : wpSched P ops Q S ((i, 2) :: l) a w := by
  unfold wpSched wpOp
  simp only [ho, hw, Bool.false_eq_true, if_false]
  exact h
/-- An operation that does not look at memory. -/
theorem wpSched_pure {i : Nat} {l : List (Nat × Nat)} {a : Act} {w : World} {o : Oper} (v : Value) (ho : ops[i]? = some o) (hw : Region.wanted o (yielded ops a.tmps) = true)
    (hv : ∀ W, (execOp a.eval o).run P W = .ok (.value v) W) (h : wpSched P ops Q S l (a.put o.dst v) w) : wpSched P ops Q S ((i, 3) :: l) a w :=
  ⟨o, v, ho, .inl ⟨hw, hv⟩, h⟩
theorem wpSched_skipP {i : Nat} {l : List (Nat × Nat)} {a : Act} {w : World} {o : Oper} (ho : ops[i]? = some o) (hw : Region.wanted o (yielded ops a.tmps) = false) (h : wpSched P ops Q S l (a.put o.dst undef) w) : wpSched P ops Q S ((i, 3) :: l) a w :=
  ⟨o, undef, ho, .inr ⟨hw, rfl⟩, h⟩
/-- An operation that may write. -/
theorem wpSched_eff {i : Nat} {l : List (Nat × Nat)} {a : Act} {w : World} {o : Oper} (ho : ops[i]? = some o) (hw : Region.wanted o (yielded ops a.tmps) = true)
    (h : ∀ K : Act → World → Prop, (∀ a' w', S w' → wpSched P ops Q S l a' w' → K a' w') → o.wp P a w K Q) : wpSched P ops Q S ((i, 1) :: l) a w := by
  unfold wpSched wpOp
  simp only [ho, hw, if_true]
  exact Or.inl (h _ fun a' w' h1 h2 => ⟨h1, h2⟩)
theorem wpSched_tail {i : Nat} {l : List (Nat × Nat)} {a : Act} {w : World} {o : Oper} (ho : ops[i]? = some o) (hw : Region.wanted o (yielded ops a.tmps) = true)
    (h : ∀ K : Act → World → Prop, (∀ a' w', wpSched P ops Q S l a' w' → K a' w') → o.wp P a w K Q) : wpSched P ops Q S ((i, 2) :: l) a w := by
  unfold wpSched wpOp
  simp only [ho, hw, if_true]
  exact Or.inl (h _ fun a' w' h2 => h2)
/-- An operation whose run is known. -/
theorem wpSched_run {i : Nat} {l : List (Nat × Nat)} {a : Act} {w w' : World} {o : Oper} (v : Value) (ho : ops[i]? = some o) (hw : Region.wanted o (yielded ops a.tmps) = true)
    (hr : (execOp a.eval o).run P w = .ok (.value v) w') (hS : S w') (h : wpSched P ops Q S l (a.put o.dst v) w') : wpSched P ops Q S ((i, 1) :: l) a w :=
  wpSched_eff ho hw fun K hK => by unfold Oper.wp; rw [hr]; exact hK _ _ hS h
theorem wpSched_runT {i : Nat} {l : List (Nat × Nat)} {a : Act} {w w' : World} {o : Oper} (v : Value) (ho : ops[i]? = some o) (hw : Region.wanted o (yielded ops a.tmps) = true)
    (hr : (execOp a.eval o).run P w = .ok (.value v) w') (h : wpSched P ops Q S l (a.put o.dst v) w') : wpSched P ops Q S ((i, 2) :: l) a w :=
  wpSched_tail ho hw fun K hK => by unfold Oper.wp; rw [hr]; exact hK _ _ h
theorem wpSched_store {i : Nat} {l : List (Nat × Nat)} {a : Act} {w w' : World} {o : Oper} (ho : ops[i]? = some o) (hw : Region.wanted o (yielded ops a.tmps) = true)
    (hr : (execOp a.eval o).run P w = .ok .skip w') (hS : S w') (h : wpSched P ops Q S l (a.put o.dst undef) w') : wpSched P ops Q S ((i, 1) :: l) a w :=
  wpSched_eff ho hw fun K hK => by unfold Oper.wp; rw [hr]; exact hK _ _ hS h
theorem wpSched_storeT {i : Nat} {l : List (Nat × Nat)} {a : Act} {w w' : World} {o : Oper} (ho : ops[i]? = some o) (hw : Region.wanted o (yielded ops a.tmps) = true)
    (hr : (execOp a.eval o).run P w = .ok .skip w') (h : wpSched P ops Q S l (a.put o.dst undef) w') : wpSched P ops Q S ((i, 2) :: l) a w :=
  wpSched_tail ho hw fun K hK => by unfold Oper.wp; rw [hr]; exact hK _ _ h
theorem exec_append {o : Oper} {a : Act} {w w' : World} (s x : Operand) (t : TypeId) {v u v' : Value} (ho : o.op = .call { callee := .builtin .append, args := #[s, x], argTypes := #[t, t] }) (hs : a.eval s = v) (hx : a.eval x = u)
    (hr : (Builtin.append_ #[t, t] o.type #[v, u]).run P w = .ok v' w') : (execOp a.eval o).run P w = .ok (.value v') w' := by
  unfold execOp
  simp only [ho, resolve, invoke, builtin, Sem.run_bind, Sem.run_pure, Result.andThen_ok, List.map_toArray, List.map_cons, List.map_nil, hs, hx, hr]
/-- A store of a struct or an array. -/
theorem exec_store {o : Oper} {a : Act} {w : World} (ty : TypeId) (x y : Operand) (b off : Nat) (cs : List Value) (ho : o.op = .store ty x y) (hx : a.eval x = .pointer (some ⟨b, off, none⟩)) (hy : a.eval y = .agg cs.toArray)
    (ht : w.there b off cs.length) (hi : (P.info? ty).map (·.size) = some cs.length) (h1 : cs.toArray.all (·.oneCell') = true) : (execOp a.eval o).run P w = .ok .skip (w.setCells b off cs) := by
  have := run_storeAt_mid (P := P) w b off ty cs.toArray (by simpa using ht) (by simpa using hi) h1
  unfold execOp
  simp only [ho, hx, hy, Sem.run_bind, this, Result.andThen_ok, Sem.run_pure]
/-- A variable of a struct's or an array's type. -/
theorem wpSched_load {i : Nat} {l : List (Nat × Nat)} {a : Act} {w : World} {op : Oper} (ty : TypeId) (x : Operand) (b o : Nat) (cs : List Value) (d : TypeDesc) (ho : ops[i]? = some op) (hop : op.op = .load ty x) (hw : Region.wanted op (yielded ops a.tmps) = true)
    (hx : a.eval x = .pointer (some ⟨b, o, none⟩)) (hS : ∀ w, S w → w.rangeAt b o cs)
    (hu : P.underlying ty = some d) (hd : d.isRow = true) (hi : (P.info? ty).map (·.size) = some cs.length) (h : wpSched P ops Q S l (a.put op.dst (.agg cs.toArray)) w) : wpSched P ops Q S ((i, 0) :: l) a w :=
  wpSched_take _ ho (yieldsIf_load_mid hw ty x hop b o hx cs d hS hu hd hi) h
/-- A variable of one cell. -/
theorem wpSched_cell {i : Nat} {l : List (Nat × Nat)} {a : Act} {w : World} {op : Oper} (ty : TypeId) (x : Operand) (b o : Nat) (v : Value) (ho : ops[i]? = some op) (hop : op.op = .load ty x) (hw : Region.wanted op (yielded ops a.tmps) = true)
    (hx : a.eval x = .pointer (some ⟨b, o, none⟩)) (hv : ∀ W, S W → (Instr.loadAt ty (.pointer (some ⟨b, o, none⟩))).run P W = .ok v W) (h : wpSched P ops Q S l (a.put op.dst v) w) : wpSched P ops Q S ((i, 0) :: l) a w :=
  wpSched_still v ho hw (fun W hW => by
    unfold execOp
    simp only [hop, hx, Sem.run_bind, hv W hW, Result.andThen_ok, Sem.run_pure]) h
end
section
variable {P : Program} {ops : Array Oper} {Q : Exit → Act → World → Prop} {S : World → Prop}
/-- A call by its contract. -/
theorem wpSched_call {i : Nat} {l : List (Nat × Nat)} {a : Act} {w : World} {o : Oper} (f : FuncId) (args : Array Value) (C : Ending → World → Prop) (ho : ops[i]? = some o) (hw : Region.wanted o (yielded ops a.tmps) = true)
    (hr : (execOp a.eval o).run P w = .ok (.enter f args) w) (hC : Calls P f args w C) (h : ∀ e w', C e w' → ∃ v, e = .returned v ∧ S w' ∧ wpSched P ops Q S l (a.put o.dst v) w') : wpSched P ops Q S ((i, 1) :: l) a w :=
  wpSched_eff ho hw fun K hK => by
    unfold Oper.wp
    rw [hr]
    exact hC.mono fun e w' hc => by
      obtain ⟨v, rfl, h1, h2⟩ := h e w' hc
      exact hK _ _ h1 h2
theorem wpSched_callT {i : Nat} {l : List (Nat × Nat)} {a : Act} {w : World} {o : Oper} (f : FuncId) (args : Array Value) (C : Ending → World → Prop) (ho : ops[i]? = some o) (hw : Region.wanted o (yielded ops a.tmps) = true)
    (hr : (execOp a.eval o).run P w = .ok (.enter f args) w) (hC : Calls P f args w C) (h : ∀ e w', C e w' → ∃ v, e = .returned v ∧ wpSched P ops Q S l (a.put o.dst v) w') : wpSched P ops Q S ((i, 2) :: l) a w :=
  wpSched_tail ho hw fun K hK => by
    unfold Oper.wp
    rw [hr]
    exact hC.mono fun e w' hc => by
      obtain ⟨v, rfl, h2⟩ := h e w' hc
      exact hK _ _ h2
end
end Go.Proofs.Ytihalkpcddnikaa
