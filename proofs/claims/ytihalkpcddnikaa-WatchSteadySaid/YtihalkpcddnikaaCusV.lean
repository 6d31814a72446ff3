/-
  The monitor of drifts: Clear, a range over the map that deletes.
-/
import Derived.Test.YtihalkpcddnikaaCusU
namespace Go.Proofs.Ytihalkpcddnikaa
open Go.RowKit Go.Maps
set_option linter.unusedVariables false
set_option linter.unusedSimpArgs false

theorem int_lits {P : Program} {t : TypeId} (hi : P.underlying t = some (.int .i64)) (n : Nat) {v : Value} {L : List Lit} (h : P.keyLits (n + 1) t [v] = some L) : ∃ s, v = .int .i64 s ∧ I64 s := by
  unfold Program.keyLits at h
  rw [hi] at h
  cases v <;> simp at h
  rename_i q m
  obtain ⟨⟨rfl, hw⟩, _⟩ := h
  refine ⟨m, rfl, ?_⟩
  unfold I64
  simp [Lit.wf, IntKind.min, IntKind.max, IntKind.bits, IntKind.signed] at hw
  omega
theorem two_inv {P : Program} {T t : TypeId} {n1 n2 : String} {a1 a2 a3 a4 b1 b2 b3 b4 : _} (hi : P.underlying t = some (.int .i64)) (hu : P.underlying T = some (TypeDesc.struct #[{ name := n1, type := t, offset := 0, embedded := a1, tag := a2, pkgPath := a3, byteOffset := a4 }, { name := n2, type := t, offset := 1, embedded := b1, tag := b2, pkgPath := b3, byteOffset := b4 }])) (hcell : P.cellsOf T = 2) (hcint : P.cellsOf t = 1) {x : Value} {kl : Lit} (h : keyOf P T x = some kl) : ∃ s k, x = placeV s k ∧ I64 s ∧ I64 k := by
  unfold keyOf at h
  rw [hu] at h
  simp only at h
  split at h
  · rename_i hc
    simp only [Bool.and_eq_true] at hc
    have hf := hc.2
    unfold Value.formed at hf
    rw [hu] at hf
    cases x <;> simp only [Bool.false_eq_true] at hf
    rename_i cs
    rw [hcell] at hf
    have hsz : cs.toList.length = 2 := by simpa using hf
    obtain ⟨v0, v1, hcs⟩ : ∃ v0 v1, cs.toList = [v0, v1] := by
      rcases hl : cs.toList with _ | ⟨a, _ | ⟨b, _ | ⟨c, l⟩⟩⟩
      · rw [hl] at hsz; simp at hsz
      · rw [hl] at hsz; simp at hsz
      · exact ⟨a, b, rfl⟩
      · rw [hl] at hsz; simp at hsz
    cases hL : P.keyLits (P.types.size + 1) T (Value.agg cs).cells.toList with
    | none => rw [hL] at h; cases h
    | some L =>
      clear h
      rw [show (Value.agg cs).cells.toList = cs.toList from rfl, hcs] at hL
      unfold Program.keyLits at hL
      rw [hu] at hL
      simp only at hL
      split at hL
      · generalize hn : P.types.size = n at hL
        cases n with
        | zero => simp [List.mapM_cons, hcint, Program.keyLits] at hL
        | succ n =>
          cases h0 : P.keyLits (n + 1) t [v0] with
          | none => simp [List.mapM_cons, hcint, h0] at hL
          | some l0 =>
            cases h1 : P.keyLits (n + 1) t [v1] with
            | none => simp [List.mapM_cons, hcint, h0, h1] at hL
            | some l1 =>
              obtain ⟨s, rfl, hs⟩ := int_lits hi n h0
              obtain ⟨k, rfl, hk⟩ := int_lits hi n h1
              exact ⟨s, k, by unfold placeV; congr 1; exact Array.ext' hcs, hs, hk⟩
      · cases hL
  · cases h
theorem place_inv {x : Value} {kl : Lit} (h : keyOf Try.prog 112 x = some kl) : ∃ s k, x = placeV s k ∧ I64 s ∧ I64 k :=
  two_inv Try.underlying3 Try.underlying112 (by kernel_rfl) (by kernel_rfl) h
end Go.Proofs.Ytihalkpcddnikaa
