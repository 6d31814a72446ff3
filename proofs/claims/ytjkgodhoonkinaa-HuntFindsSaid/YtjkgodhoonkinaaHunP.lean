/-
  Plain laws on a stream of bytes: the frames that it says, the noise, the bad sums, and what waits; piece by piece.
-/
import Derived.Test.YtjkgodhoonkinaaFrmD
namespace Go.Proofs.Ytjkgodhoonkinaa
open Go.RowKit
set_option linter.unusedVariables false

/-- What a stream says: frames, noise, bad sums, and what waits. -/
structure Said where
  frames : List FrmS
  noise : Nat
  sums : Nat
  held : List Nat
def saysN : Nat → List Nat → Said
  | 0, b => ⟨[], 0, 0, b⟩
  | n + 1, b =>
    if b = [] then ⟨[], 0, 0, []⟩ else
    if readE b = 7 then ⟨[], 0, 0, b⟩ else
    if readE b = 0 then ⟨goodS b :: (saysN n (b.drop (7 + b.getD 2 0))).frames, (saysN n (b.drop (7 + b.getD 2 0))).noise, (saysN n (b.drop (7 + b.getD 2 0))).sums, (saysN n (b.drop (7 + b.getD 2 0))).held⟩ else
    ⟨(saysN n (b.drop 1)).frames, (saysN n (b.drop 1)).noise + 1, (saysN n (b.drop 1)).sums + (if readE b = 131 then 1 else 0), (saysN n (b.drop 1)).held⟩
def says (b : List Nat) : Said := saysN b.length b
theorem saysN_nil (n : Nat) : saysN n [] = ⟨[], 0, 0, []⟩ := by cases n <;> simp [saysN]
theorem saysN_more : ∀ (n m : Nat) (b : List Nat), b.length ≤ n → b.length ≤ m → saysN n b = saysN m b := by
  intro n
  induction n with
  | zero =>
    intro m b h _
    obtain rfl : b = [] := List.eq_nil_of_length_eq_zero (by omega)
    rw [saysN_nil, saysN_nil]
  | succ n ih =>
    intro m b h hm
    cases m with
    | zero =>
      obtain rfl : b = [] := List.eq_nil_of_length_eq_zero (by omega)
      rw [saysN_nil, saysN_nil]
    | succ m =>
      unfold saysN
      by_cases h0 : b = []
      · rw [if_pos h0, if_pos h0]
      · have hl : 0 < b.length := List.length_pos_iff.2 h0
        have e1 := ih m (b.drop (7 + b.getD 2 0)) (by rw [List.length_drop]; omega) (by rw [List.length_drop]; omega)
        have e2 := ih m (b.drop 1) (by rw [List.length_drop]; omega) (by rw [List.length_drop]; omega)
        rw [e1, e2]
theorem says_nil : says [] = ⟨[], 0, 0, []⟩ := rfl
theorem says_short {b : List Nat} (h : readE b = 7) : says b = ⟨[], 0, 0, b⟩ := by
  unfold says
  cases hl : b.length with
  | zero => rfl
  | succ n =>
    unfold saysN
    rw [if_neg (fun e => by rw [e] at hl; cases hl), if_pos h]
theorem says_good {b : List Nat} (h : readE b = 0) : says b = ⟨goodS b :: (says (b.drop (7 + b.getD 2 0))).frames, (says (b.drop (7 + b.getD 2 0))).noise, (says (b.drop (7 + b.getD 2 0))).sums, (says (b.drop (7 + b.getD 2 0))).held⟩ := by
  have hw := (readE_whole (.inl h)).2.1
  unfold says
  obtain ⟨n, hl⟩ : ∃ n, b.length = n + 1 := ⟨b.length - 1, by omega⟩
  rw [saysN_more (b.drop (7 + b.getD 2 0)).length n _ (Nat.le_refl _) (by rw [List.length_drop]; omega), hl]
  conv => lhs; unfold saysN
  rw [if_neg (fun e => by rw [e] at hl; cases hl), if_neg (by rw [h]; decide), if_pos h]
theorem says_bad {b : List Nat} (hne : b ≠ []) (h : readE b ≠ 7) (h0 : readE b ≠ 0) : says b = ⟨(says (b.drop 1)).frames, (says (b.drop 1)).noise + 1, (says (b.drop 1)).sums + (if readE b = 131 then 1 else 0), (says (b.drop 1)).held⟩ := by
  have hw := List.length_pos_iff.2 hne
  unfold says
  obtain ⟨n, hl⟩ : ∃ n, b.length = n + 1 := ⟨b.length - 1, by omega⟩
  rw [saysN_more (b.drop 1).length n _ (Nat.le_refl _) (by rw [List.length_drop]; omega), hl]
  conv => lhs; unfold saysN
  rw [if_neg hne, if_neg h, if_neg h0]
/-- A stream in two pieces. -/
theorem says_append (p : List Nat) : ∀ (n : Nat) (a : List Nat), a.length ≤ n →
    says (a ++ p) = ⟨(says a).frames ++ (says ((says a).held ++ p)).frames, (says a).noise + (says ((says a).held ++ p)).noise, (says a).sums + (says ((says a).held ++ p)).sums, (says ((says a).held ++ p)).held⟩ := by
  intro n
  induction n with
  | zero =>
    intro a h
    obtain rfl : a = [] := List.eq_nil_of_length_eq_zero (by omega)
    rw [says_nil]; simp
  | succ n ih =>
    intro a h
    by_cases hne : a = []
    · subst hne; rw [says_nil]; simp
    · by_cases h7 : readE a = 7
      · rw [says_short h7]; simp
      · have hx := readE_ext a p hne h7
        have hl := List.length_pos_iff.2 hne
        by_cases h0 : readE a = 0
        · obtain ⟨hg, h2⟩ := goodS_ext a p h0
          have hw := (readE_whole (.inl h0)).2.1
          rw [says_good (b := a ++ p) (by rw [hx]; exact h0), says_good h0, hg, h2, List.drop_append_of_le_length hw, ih (a.drop (7 + a.getD 2 0)) (by rw [List.length_drop]; omega)]
          rfl
        · rw [says_bad (b := a ++ p) (by simp [hne]) (by rw [hx]; exact h7) (by rw [hx]; exact h0), says_bad hne h7 h0, hx, List.drop_append_of_le_length hl, ih (a.drop 1) (by rw [List.length_drop]; omega)]
          simp only [Said.mk.injEq, true_and, and_true]
          omega
theorem says_two (a p : List Nat) : says (a ++ p) = ⟨(says a).frames ++ (says ((says a).held ++ p)).frames, (says a).noise + (says ((says a).held ++ p)).noise, (says a).sums + (says ((says a).held ++ p)).sums, (says ((says a).held ++ p)).held⟩ := says_append p _ a (Nat.le_refl _)
theorem says_held : ∀ (n : Nat) (a : List Nat), a.length ≤ n → ((says a).held = [] ∨ readE (says a).held = 7) ∧ ∃ k, (says a).held = a.drop k := by
  intro n
  induction n with
  | zero =>
    intro a h
    obtain rfl : a = [] := List.eq_nil_of_length_eq_zero (by omega)
    rw [says_nil]; exact ⟨.inl rfl, 0, rfl⟩
  | succ n ih =>
    intro a h
    by_cases hne : a = []
    · subst hne; rw [says_nil]; exact ⟨.inl rfl, 0, rfl⟩
    · by_cases h7 : readE a = 7
      · rw [says_short h7]; exact ⟨.inr h7, 0, rfl⟩
      · have hl := List.length_pos_iff.2 hne
        by_cases h0 : readE a = 0
        · rw [says_good h0]
          obtain ⟨h1, k, h2⟩ := ih (a.drop (7 + a.getD 2 0)) (by rw [List.length_drop]; omega)
          exact ⟨h1, _, by rw [h2, List.drop_drop]⟩
        · rw [says_bad hne h7 h0]
          obtain ⟨h1, k, h2⟩ := ih (a.drop 1) (by rw [List.length_drop]; omega)
          exact ⟨h1, _, by rw [h2, List.drop_drop]⟩
theorem says_held_lt (a : List Nat) : (says a).held.length < 85 := by
  rcases (says_held _ a (Nat.le_refl _)).1 with h | h
  · rw [h]; simp
  · exact (readE_short_lt h).2.1
theorem says_held_again (a : List Nat) : says (says a).held = ⟨[], 0, 0, (says a).held⟩ := by
  rcases (says_held _ a (Nat.le_refl _)).1 with h | h
  · rw [h, says_nil]
  · exact says_short h
theorem says_frames_len : ∀ (n : Nat) (a : List Nat), a.length ≤ n → (says a).frames.length ≤ a.length ∧ (says a).noise ≤ a.length ∧ (says a).sums ≤ a.length := by
  intro n
  induction n with
  | zero =>
    intro a h
    obtain rfl : a = [] := List.eq_nil_of_length_eq_zero (by omega)
    rw [says_nil]; simp
  | succ n ih =>
    intro a h
    by_cases hne : a = []
    · subst hne; rw [says_nil]; simp
    · by_cases h7 : readE a = 7
      · rw [says_short h7]; simp
      · have hl := List.length_pos_iff.2 hne
        by_cases h0 : readE a = 0
        · rw [says_good h0]
          have hw := (readE_whole (.inl h0)).2.1
          have h1 := ih (a.drop (7 + a.getD 2 0)) (by rw [List.length_drop]; omega)
          rw [List.length_drop] at h1
          simp only [List.length_cons]
          omega
        · rw [says_bad hne h7 h0]
          have h1 := ih (a.drop 1) (by rw [List.length_drop]; omega)
          rw [List.length_drop] at h1
          dsimp only
          split <;> omega
/-! ### noise without 165 ahead of frames -/
theorem readE_noise {x : Nat} (h : x ≠ 165) (t : List Nat) : readE (x :: t) = 130 := by
  refine readE_none _ ?_
  have := begB_ext [x] t (by simp) (by rw [begB_one]; simp [h])
  simpa using this
theorem says_noise : ∀ (z t : List Nat), (∀ x ∈ z, x ≠ 165) → says (z ++ t) = ⟨(says t).frames, (says t).noise + z.length, (says t).sums, (says t).held⟩ := by
  intro z
  induction z with
  | nil => intro t _; rfl
  | cons x z ih =>
    intro t h
    have hx := readE_noise (h x (by simp)) (z ++ t)
    rw [List.cons_append, says_bad (by simp) (by rw [hx]; decide) (by rw [hx]; decide), hx, List.drop_one, List.tail_cons, ih t (fun y hy => h y (by simp [hy]))]
    simp only [List.length_cons, Said.mk.injEq, true_and, and_true]
    exact ⟨by omega, by rw [if_neg (by decide)]; rfl⟩
theorem says_put {f : FrmS} (h : Fits f) (t : List Nat) : says (putF f ++ t) = ⟨f :: (says t).frames, (says t).noise, (says t).sums, (says t).held⟩ := by
  have h0 := readE_put h
  have hl := putF_length f h.tag
  have h2 := putF_two h
  obtain ⟨hg, h2'⟩ := goodS_ext (putF f) t h0
  rw [says_good (b := putF f ++ t) (by rw [readE_ext _ _ (fun e => by rw [e] at hl; simp at hl; omega) (by rw [h0]; decide)]; exact h0), hg, goodS_put h, h2', h2, show 7 + (30 + f.body.length) = (putF f).length by omega, List.drop_left]
theorem says_puts : ∀ (fs : List FrmS), (∀ f ∈ fs, Fits f) → says (fs.map putF).flatten = ⟨fs, 0, 0, []⟩ := by
  intro fs
  induction fs with
  | nil => intro _; rfl
  | cons f fs ih =>
    intro h
    rw [List.map_cons, List.flatten_cons, says_put (h f (by simp)), ih (fun g hg => h g (by simp [hg]))]
end Go.Proofs.Ytjkgodhoonkinaa
