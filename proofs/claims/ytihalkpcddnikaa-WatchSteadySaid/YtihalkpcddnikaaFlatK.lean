/-
  Values of a flat type: compared with themselves.
-/
import Derived.Test.YtihalkpcddnikaaFlat
import Derived.DeepKeys
namespace Go.Proofs.Ytihalkpcddnikaa
open Go.RowKit
set_option linter.unusedVariables false
set_option linter.unusedSimpArgs false

theorem mapM_ex {α β : Type} (f : α → Option β) : ∀ (l : List α), (∀ a ∈ l, ∃ b, f a = some b) → ∃ bs, l.mapM f = some bs
  | [], _ => ⟨[], rfl⟩
  | a :: l, h => by
    obtain ⟨b, hb⟩ := h a (List.mem_cons_self ..)
    obtain ⟨bs, hbs⟩ := mapM_ex f l (fun a ha => h a (List.mem_cons_of_mem _ ha))
    exact ⟨b :: bs, by simp [List.mapM_cons, hb, hbs]⟩
theorem IntCells.split : ∀ (k r : List (Option IntKind)) (l : List Value), IntCells (k ++ r) l → IntCells k (l.take k.length) ∧ IntCells r (l.drop k.length)
  | [], r, l, h => ⟨trivial, h⟩
  | some k :: ks, r, l, h => by
    obtain ⟨n, l', rfl, w, h'⟩ := IntCells.cons h
    obtain ⟨a, b⟩ := IntCells.split ks r l' h'
    exact ⟨⟨⟨n, rfl, w⟩, a⟩, b⟩
  | none :: ks, r, l, h => by
    obtain ⟨n, l', rfl, h'⟩ := IntCells.consB h
    obtain ⟨a, b⟩ := IntCells.split ks r l' h'
    exact ⟨⟨⟨n, rfl⟩, a⟩, b⟩
theorem flatF_parts {P : Program} {F : TypeId → Option (List (Option IntKind))} {cs : List Value} :
    ∀ (fs : List Field) (pos : Nat) (ks : List (Option IntKind)), flatF P F fs pos = some ks → IntCells ks (cs.drop pos) →
      ∀ f ∈ fs, ∃ k, F f.type = some k ∧ IntCells k ((cs.drop f.offset).take (P.cellsOf f.type))
  | [], pos, ks, h, hI => fun f hf => by cases hf
  | f :: fs, pos, ks, h, hI => by
    unfold flatF at h
    split at h
    · rename_i hp
      split at h
      · rename_i k hk
        split at h
        · rename_i hl
          split at h
          · rename_i r hr
            simp only [Option.some.injEq] at h; subst h
            obtain ⟨a, b⟩ := IntCells.split k r _ hI
            intro g hg
            rcases List.mem_cons.1 hg with rfl | hg
            · exact ⟨k, hk, by rw [hp, ← hl]; exact a⟩
            · exact flatF_parts fs _ r hr (by rw [List.drop_drop] at b; exact b) g hg
          · cases h
        · cases h
      · cases h
    · cases h
theorem flatA_parts {k : List (Option IntKind)} : ∀ (m : Nat) (cs : List Value), IntCells (List.replicate m k).flatten cs → ∀ i, i < m → IntCells k ((cs.drop (i * k.length)).take k.length)
  | 0, cs, h => fun i hi => absurd hi (Nat.not_lt_zero _)
  | m + 1, cs, h => by
    rw [List.replicate_succ, List.flatten_cons] at h
    obtain ⟨a, b⟩ := IntCells.split _ _ _ h
    intro i hi
    cases i with
    | zero => rw [Nat.zero_mul]; exact a
    | succ i =>
      have := flatA_parts m _ b i (by omega)
      rw [List.drop_drop] at this
      rw [Nat.succ_mul, Nat.add_comm]
      exact this
theorem flat_keys {P : Program} : ∀ (n : Nat) (t : TypeId) (ks : List (Option IntKind)), flat P n t = some ks → P.keyTypeAt n t = true → ∀ (cs : List Value), IntCells ks cs → ∃ L, P.keyLits n t cs = some L
  | 0, _, _, h, _ => by simp [flat] at h
  | n + 1, t, ks, h, hk => by
    intro cs hI
    unfold flat at h
    unfold Program.keyTypeAt at hk
    split at h
    · rename_i k hu
      simp only [Option.some.injEq] at h; subst h
      obtain ⟨m, l', rfl, w, r⟩ := IntCells.cons hI
      obtain rfl := IntCells.nil r
      exact ⟨[.int k m], by unfold Program.keyLits; simp [hu, w]⟩
    · rename_i hu
      simp only [Option.some.injEq] at h; subst h
      obtain ⟨m, l', rfl, r⟩ := IntCells.consB hI
      obtain rfl := IntCells.nil r
      exact ⟨[.bool m], by unfold Program.keyLits; simp [hu]⟩
    · rename_i fs hu
      split at h
      · rename_i ks' hk'
        split at h
        · rename_i hl
          simp only [Option.some.injEq] at h; subst h
          rw [hu] at hk
          simp only [Bool.and_eq_true] at hk
          have hall := Array.all_eq_true_iff_forall_mem.1 hk.1.1
          have hf := flatF_parts (cs := cs) fs.toList 0 ks' hk' hI
          obtain ⟨Ls, hL⟩ := mapM_ex (fun f : Field => P.keyLits n f.type ((cs.drop f.offset).take (P.cellsOf f.type))) fs.toList (fun f hfm => by
            obtain ⟨k, h1, h2⟩ := hf f hfm
            have := hall f (by simpa using hfm)
            simp only [Bool.and_eq_true] at this
            exact flat_keys n f.type k h1 this.2 _ h2)
          have hlen := hI.length
          have hnm : fs.all (fun f => f.name != "_") = true := Array.all_eq_true_iff_forall_mem.2 (fun f hf => by
            have := hall f hf
            simp only [Bool.and_eq_true] at this
            exact this.1)
          exact ⟨Ls.flatten, by unfold Program.keyLits; simp only [hu]; rw [if_pos ⟨by omega, hnm⟩, hL]; rfl⟩
        · cases h
      · cases h
    · rename_i m e hu
      split at h
      · rename_i k hk'
        split at h
        · rename_i hl
          simp only [Option.some.injEq] at h; subst h
          rw [hu] at hk
          obtain ⟨hl1, hl2⟩ := hl
          have hf := flatA_parts m cs hI
          obtain ⟨Ls, hL⟩ := mapM_ex (fun i : Nat => P.keyLits n e ((cs.drop (i * P.cellsOf e)).take (P.cellsOf e))) (List.range m) (fun i hi => by
            have := hf i (by simpa using hi)
            rw [hl1] at this
            exact flat_keys n e k hk' hk _ this)
          have hlen := hI.length
          have h3 : (List.replicate m k).flatten.length = m * k.length := by simp [List.length_flatten]
          exact ⟨Ls.flatten, by unfold Program.keyLits; simp only [hu]; rw [if_pos (by omega), hL]; rfl⟩
        · cases h
      · cases h
    · cases h
/-- A value of a flat type is equal to itself. -/
theorem eq_self {P : Program} (n : Nat) (hn : n ≤ 10000) (t : TypeId) (ks : List (Option IntKind)) (hf : flat P n t = some ks) (hk : P.keyTypeAt n t = true) (cs : List Value) (hI : IntCells ks cs)
    (hfm : (Value.agg cs.toArray).formed P t = true) (W : World) : (Op.equalIn 10000 t (.agg cs.toArray) (.agg cs.toArray)).run P W = .ok true W := by
  obtain ⟨L, hL⟩ := flat_keys n t ks hf hk cs hI
  obtain ⟨r, hr, hiff⟩ := run_equalIn_deep (10000 - n) n t hk W n n (.agg cs.toArray) (.agg cs.toArray) L L hfm hfm (by simpa [Value.cells] using hL) (by simpa [Value.cells] using hL)
  rw [show 10000 - n + n = 10000 by omega] at hr
  rw [hiff.2 rfl] at hr
  exact hr
end Go.Proofs.Ytihalkpcddnikaa
