/-
  The plain laws of the keeper of quarantines: who is away comes back behind Hold and Prove only; who has fewer than Bad in a row is never away.
-/
import Derived.Test.YtcdhhnodfgpkiaaQuarV
namespace Go.Proofs.Ytcdhhnodfgpkiaa
open Go.RowKit
set_option linter.unusedVariables false

/-- What holds of one that is watched: since when it is away (-1: it never was), and how many good ones came since then. -/
def HInv (S : QuarS) (o : QOne) (since good now : Int) : Prop :=
  0 ≤ good ∧ ((since = -1 ∧ o.st ≤ 1) ∨ (0 ≤ since ∧ since ≤ now ∧ ((o.st = 2 ∧ o.til = since + S.hold ∧ good = 0) ∨ (o.st = 3 ∧ since + S.hold ≤ now ∧ o.good = good) ∨ (o.st ≤ 1 ∧ since + S.hold ≤ now ∧ S.prove ≤ good))))
theorem HInv.never {S : QuarS} {o : QOne} {since good now : Int} (h0 : 0 ≤ good) (h1 : since = -1) (h2 : o.st ≤ 1) : HInv S o since good now := ⟨h0, .inl ⟨h1, h2⟩⟩
theorem HInv.gone {S : QuarS} {o : QOne} {since good now : Int} (h0 : good = 0) (h1 : 0 ≤ since) (h2 : since ≤ now) (h3 : o.st = 2) (h4 : o.til = since + S.hold) : HInv S o since good now := ⟨by omega, .inr ⟨h1, h2, .inl ⟨h3, h4, h0⟩⟩⟩
theorem HInv.prob {S : QuarS} {o : QOne} {since good now : Int} (h0 : 0 ≤ good) (h1 : 0 ≤ since) (h2 : since ≤ now) (h3 : o.st = 3) (h4 : since + S.hold ≤ now) (h5 : o.good = good) : HInv S o since good now := ⟨h0, .inr ⟨h1, h2, .inr (.inl ⟨h3, h4, h5⟩)⟩⟩
theorem HInv.back {S : QuarS} {o : QOne} {since good now : Int} (h0 : 0 ≤ good) (h1 : 0 ≤ since) (h2 : since ≤ now) (h3 : o.st ≤ 1) (h4 : since + S.hold ≤ now) (h5 : S.prove ≤ good) : HInv S o since good now := ⟨h0, .inr ⟨h1, h2, .inr (.inr ⟨h3, h4, h5⟩)⟩⟩
set_option maxHeartbeats 1600000 in
theorem HInv.step {S : QuarS} {o : QOne} {since good now N kd : Int} (hh : 1 ≤ S.hold) (hp : 1 ≤ S.prove) (s0 : 0 ≤ o.st) (s1 : o.st ≤ 3) (g0 : 0 ≤ o.good) (g1 : o.good < S.prove)
    (h : HInv S o since good now) (hN : now ≤ N) (hN0 : 0 ≤ N) :
    ((hapO S o N kd).times = o.times + 1 ∧ (hapO S o N kd).st = 2 ∧ HInv S (hapO S o N kd) N 0 N) ∨
    ((hapO S o N kd).times = o.times ∧
      ((since = -1 ∧ o.st < 2 ∧ (hapO S o N kd).st < 2 ∧ HInv S (hapO S o N kd) since good N) ∨
       (0 ≤ since ∧ N < since + S.hold ∧ ¬ o.st < 2 ∧ (hapO S o N kd).st = 2 ∧ HInv S (hapO S o N kd) since good N) ∨
       (0 ≤ since ∧ since + S.hold ≤ N ∧ kd ≠ 1 ∧ ((o.st < 2 ∧ (hapO S o N kd).st < 2) ∨ (¬ o.st < 2 ∧ ¬ (hapO S o N kd).st < 2)) ∧ HInv S (hapO S o N kd) since good N) ∨
       (0 ≤ since ∧ since + S.hold ≤ N ∧ kd = 1 ∧ ((o.st < 2 ∧ (hapO S o N kd).st < 2) ∨ (¬ o.st < 2 ∧ ¬ (hapO S o N kd).st < 2) ∨ (¬ o.st < 2 ∧ (hapO S o N kd).st < 2 ∧ S.prove ≤ good + 1)) ∧ HInv S (hapO S o N kd) since (good + 1) N))) := by
  obtain ⟨st, bd, gd, tl, tm⟩ := o
  generalize he : hapO S ⟨st, bd, gd, tl, tm⟩ N kd = o'
  simp only [] at s0 s1 g0 g1
  unfold hapO goodO badO awayO wakeO at he
  obtain ⟨hg, ⟨h1, h2⟩ | ⟨h1, h2, ⟨h3, h4, h5⟩ | ⟨h3, h4, h5⟩ | ⟨h3, h4, h5⟩⟩⟩ := h
  · simp only [] at h2
    (repeat' split at he) <;> subst he <;> (try dsimp only at *) <;> first
      | (exfalso; simp only [not_true_eq_false, not_false_eq_true, false_and, ne_eq] at *; omega)
      | (refine .inl ⟨?_, ?_, HInv.gone ?_ ?_ ?_ ?_ ?_⟩ <;> (try simp only []) <;> omega)
      | (refine .inr ⟨?_, .inl ⟨?_, ?_, ?_, HInv.never ?_ ?_ ?_⟩⟩ <;> (try simp only []) <;> omega)
  · simp only [] at h3 h4
    (repeat' split at he) <;> subst he <;> (try dsimp only at *) <;> first
      | (exfalso; simp only [not_true_eq_false, not_false_eq_true, false_and, ne_eq] at *; omega)
      | (refine .inl ⟨?_, ?_, HInv.gone ?_ ?_ ?_ ?_ ?_⟩ <;> (try simp only []) <;> omega)
      | (refine .inr ⟨?_, .inr (.inl ⟨?_, ?_, ?_, ?_, HInv.gone ?_ ?_ ?_ ?_ ?_⟩)⟩ <;> (try simp only []) <;> omega)
      | (refine .inr ⟨?_, .inr (.inr (.inl ⟨?_, ?_, ?_, .inr ⟨?_, ?_⟩, HInv.prob ?_ ?_ ?_ ?_ ?_ ?_⟩))⟩ <;> (try simp only []) <;> omega)
      | (refine .inr ⟨?_, .inr (.inr (.inr ⟨?_, ?_, ?_, .inr (.inl ⟨?_, ?_⟩), HInv.prob ?_ ?_ ?_ ?_ ?_ ?_⟩))⟩ <;> (try simp only []) <;> omega)
      | (refine .inr ⟨?_, .inr (.inr (.inr ⟨?_, ?_, ?_, .inr (.inr ⟨?_, ?_, ?_⟩), HInv.back ?_ ?_ ?_ ?_ ?_ ?_⟩))⟩ <;> (try simp only []) <;> omega)
  · simp only [] at h3 h5
    (repeat' split at he) <;> subst he <;> (try dsimp only at *) <;> first
      | (exfalso; simp only [not_true_eq_false, not_false_eq_true, false_and, ne_eq] at *; omega)
      | (refine .inl ⟨?_, ?_, HInv.gone ?_ ?_ ?_ ?_ ?_⟩ <;> (try simp only []) <;> omega)
      | (refine .inr ⟨?_, .inr (.inr (.inl ⟨?_, ?_, ?_, .inr ⟨?_, ?_⟩, HInv.prob ?_ ?_ ?_ ?_ ?_ ?_⟩))⟩ <;> (try simp only []) <;> omega)
      | (refine .inr ⟨?_, .inr (.inr (.inr ⟨?_, ?_, ?_, .inr (.inl ⟨?_, ?_⟩), HInv.prob ?_ ?_ ?_ ?_ ?_ ?_⟩))⟩ <;> (try simp only []) <;> omega)
      | (refine .inr ⟨?_, .inr (.inr (.inr ⟨?_, ?_, ?_, .inr (.inr ⟨?_, ?_, ?_⟩), HInv.back ?_ ?_ ?_ ?_ ?_ ?_⟩))⟩ <;> (try simp only []) <;> omega)
  · simp only [] at h3
    (repeat' split at he) <;> subst he <;> (try dsimp only at *) <;> first
      | (exfalso; simp only [not_true_eq_false, not_false_eq_true, false_and, ne_eq] at *; omega)
      | (refine .inl ⟨?_, ?_, HInv.gone ?_ ?_ ?_ ?_ ?_⟩ <;> (try simp only []) <;> omega)
      | (refine .inr ⟨?_, .inr (.inr (.inl ⟨?_, ?_, ?_, .inl ⟨?_, ?_⟩, HInv.back ?_ ?_ ?_ ?_ ?_ ?_⟩))⟩ <;> (try simp only []) <;> omega)
      | (refine .inr ⟨?_, .inr (.inr (.inr ⟨?_, ?_, ?_, .inl ⟨?_, ?_⟩, HInv.back ?_ ?_ ?_ ?_ ?_ ?_⟩))⟩ <;> (try simp only []) <;> omega)

/-- What holds of one that has fewer than Bad in a row. -/
def FInv (S : QuarS) (o : QOne) (row : Int) : Prop := o.times = 0 ∧ o.bad = row ∧ 0 ≤ row ∧ row < S.bad ∧ (o.st = 1 ∨ (o.st = 0 ∧ row = 0))
theorem FInv.step {S : QuarS} {o : QOne} {row N kd : Int} (h : FInv S o row) (hk : kd = 0 ∨ kd = 1 ∨ (kd = 2 ∧ row ≠ S.bad - 1)) :
    FInv S (hapO S o N kd) (if kd = 1 then 0 else if kd = 2 then row + 1 else row) ∧ (hapO S o N kd).st ≤ 1 := by
  obtain ⟨st, bd, gd, tl, tm⟩ := o
  generalize he : hapO S ⟨st, bd, gd, tl, tm⟩ N kd = o'
  unfold FInv at *
  unfold hapO goodO badO awayO wakeO at he
  (repeat' split at he) <;> subst he <;> simp only [true_and, and_true, not_true_eq_false, not_false_eq_true, false_and, true_or, ne_eq] at * <;> (try split) <;> (try split) <;> omega
theorem hapS_other {S : QuarS} {s t k : Int} {q : Nat} (h : s ≠ (q : Int)) : (hapS S s t k).l q = S.l q := by
  unfold hapS
  split
  · rename_i he
    rcases hapE_cases s t with ⟨_, hs, _⟩ | ⟨e2, _⟩
    · obtain ⟨j, hj, rfl⟩ := src_in hs
      exact QuarS.put_other _ _ (by simp; omega)
    · omega
  · rfl
theorem hapS_own {S : QuarS} {t k : Int} {q : Nat} (hq : q < 8) (ht : tickB t = true) : (hapS S (q : Int) t k).l q = hapO S (S.l q) t k ∧ hapN S (q : Int) t k = (hapO S (S.l q) t k).st ∧ hapE (q : Int) t = 0 := by
  have hs : srcB (q : Int) = true := by simp [srcB]; omega
  have e : hapE (q : Int) t = 0 := by simp [hapE, hs, ht]
  refine ⟨?_, ?_, e⟩
  · unfold hapS; rw [if_pos e]; exact QuarS.put_same _ _ _
  · unfold hapN; rw [if_pos e]; rfl
theorem hapS_pars (S : QuarS) (s t k : Int) : (hapS S s t k).bad = S.bad ∧ (hapS S s t k).hold = S.hold ∧ (hapS S s t k).prove = S.prove := by
  unfold hapS; split <;> exact ⟨rfl, rfl, rfl⟩
/-- Only the keeper's bounds count for one. -/
theorem hapO_pars {S S' : QuarS} (h1 : S'.bad = S.bad) (h2 : S'.hold = S.hold) (h3 : S'.prove = S.prove) (o : QOne) (t k : Int) : hapO S' o t k = hapO S o t k := by
  unfold hapO goodO badO awayO; rw [h1, h2, h3]
theorem HInv.pars {S S' : QuarS} {o : QOne} {since good now : Int} (h : HInv S o since good now) (h2 : S'.hold = S.hold) (h3 : S'.prove = S.prove) : HInv S' o since good now := by
  unfold HInv at *; rw [h2, h3]; exact h
theorem FInv.pars {S S' : QuarS} {o : QOne} {row : Int} (h : FInv S o row) (h1 : S'.bad = S.bad) : FInv S' o row := by
  unfold FInv at *; rw [h1]; exact h
end Go.Proofs.Ytcdhhnodfgpkiaa
