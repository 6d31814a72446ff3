/-
  Plain laws on frames as lists of bytes: what bytes are read as, behind what was put, turned, cut, and with more behind.
-/
import Derived.Test.YtjkgodhoonkinaaFrmW
import Derived.Test.YtjkgodhoonkinaaAddsP
namespace Go.Proofs.Ytjkgodhoonkinaa
open Go.RowKit
set_option linter.unusedVariables false

/-- What bytes are read as: the error. -/
def readE (bs : List Nat) : Int :=
  if begB bs then (if bs.length < 3 then 7 else if bs.length < 7 + bs.getD 2 0 then 7 else if rightB ((bs.drop 2).take (5 + bs.getD 2 0)) then 0 else 131) else 130
def goodS (bs : List Nat) : FrmS :=
  ⟨(bs.getD 3 0 : Nat), (bs.getD 4 0 : Nat), beN ((bs.drop 5).take 4), beN ((bs.drop 9).take 8), (bs.drop 17).take (bs.getD 2 0 - 30), (bs.drop (bs.getD 2 0 - 13)).take 16⟩
def zeroS : FrmS := ⟨0, 0, 0, 0, [], List.replicate 16 0⟩
def readN (bs : List Nat) : Nat := if readE bs = 0 then 7 + bs.getD 2 0 else 0
def readS (bs : List Nat) : FrmS := if readE bs = 0 then goodS bs else zeroS

theorem getD_lt {bs : List Nat} (h : ∀ x ∈ bs, x < 256) (i : Nat) : bs.getD i 0 < 256 := by
  rcases Nat.lt_or_ge i bs.length with hi | hi
  · exact h (bs.getD i 0) (by rw [List.getD_eq_getElem?_getD, List.getElem?_eq_getElem hi]; simp)
  · rw [List.getD_eq_getElem?_getD, List.getElem?_eq_none hi]; decide
theorem begB_nil : begB [] = true := by decide
theorem begB_one (x : Nat) : begB [x] = decide (x = 165) := by
  simp [begB, preB, sameB, eq_comm]
theorem begB_two (x y : Nat) : begB [x, y] = (decide (x = 165) && decide (y = 90)) := by
  simp [begB, preB, sameB, eq_comm]
theorem begB_more (x y z : Nat) (t : List Nat) : begB (x :: y :: z :: t) = (decide (x = 165) && (decide (y = 90) && (decide (30 ≤ z) && decide (z ≤ 78)))) := by
  unfold begB
  rw [if_neg (by simp)]
  simp
theorem begB_ext (a p : List Nat) (hne : a ≠ []) (h : begB a = false) : begB (a ++ p) = false := by
  rcases a with _ | ⟨x, _ | ⟨y, _ | ⟨z, t⟩⟩⟩
  · exact absurd rfl hne
  · rw [begB_one] at h
    rcases p with _ | ⟨u, _ | ⟨v, p⟩⟩
    · rw [List.append_nil, begB_one]; exact h
    · rw [show [x] ++ [u] = [x, u] from rfl, begB_two, h]; rfl
    · rw [show [x] ++ u :: v :: p = x :: u :: v :: p from rfl, begB_more, h]; rfl
  · rw [begB_two] at h
    rcases p with _ | ⟨u, p⟩
    · rw [List.append_nil, begB_two]; exact h
    · rw [show [x, y] ++ u :: p = x :: y :: u :: p from rfl, begB_more, ← Bool.and_assoc, h]; rfl
  · rw [begB_more] at h
    rw [show x :: y :: z :: t ++ p = x :: y :: z :: (t ++ p) from rfl, begB_more, h]
theorem begB_len {bs : List Nat} (h : begB bs = true) (hl : ¬ bs.length < 3) : 30 ≤ bs.getD 2 0 ∧ bs.getD 2 0 ≤ 78 := by
  unfold begB at h
  rw [if_neg hl] at h
  simp only [Bool.and_eq_true, decide_eq_true_eq] at h
  exact h.2.2
theorem readE_cases (bs : List Nat) : readE bs = 130 ∨ readE bs = 7 ∨ readE bs = 131 ∨ readE bs = 0 := by
  unfold readE
  split
  · split
    · exact .inr (.inl rfl)
    · split
      · exact .inr (.inl rfl)
      · split
        · exact .inr (.inr (.inr rfl))
        · exact .inr (.inr (.inl rfl))
  · exact .inl rfl
theorem take_drop_append (a p : List Nat) (i k : Nat) (h : i + k ≤ a.length) : ((a ++ p).drop i).take k = (a.drop i).take k := by
  rw [List.drop_append_of_le_length (by omega), List.take_append_of_le_length (by rw [List.length_drop]; omega)]
theorem getD_append_lt (a p : List Nat) (i : Nat) (h : i < a.length) : (a ++ p).getD i 0 = a.getD i 0 := by
  rw [List.getD_eq_getElem?_getD, List.getD_eq_getElem?_getD, List.getElem?_append_left h]
/-- What is no frame is none, with whatever behind it. -/
theorem readE_none (bs : List Nat) (h : begB bs = false) : readE bs = 130 := by unfold readE; rw [h]; rfl
theorem readE_130 {bs : List Nat} (h : readE bs = 130) : begB bs = false := by
  unfold readE at h
  cases hb : begB bs
  · rfl
  · rw [hb] at h
    simp only [if_true] at h
    split at h
    · cases h
    · split at h
      · cases h
      · split at h <;> cases h
/-- What is told is there whole. -/
theorem readE_whole {bs : List Nat} (h : readE bs = 0 ∨ readE bs = 131) : begB bs = true ∧ 7 + bs.getD 2 0 ≤ bs.length ∧ 30 ≤ bs.getD 2 0 ∧ bs.getD 2 0 ≤ 78 ∧ (rightB ((bs.drop 2).take (5 + bs.getD 2 0)) = true ↔ readE bs = 0) := by
  cases hb : begB bs
  · rw [readE_none bs hb] at h; rcases h with h | h <;> cases h
  · unfold readE at h ⊢
    rw [hb] at h ⊢
    simp only [if_true] at h ⊢
    by_cases h3 : bs.length < 3
    · rw [if_pos h3] at h; rcases h with h | h <;> cases h
    · rw [if_neg h3] at h ⊢
      by_cases h7 : bs.length < 7 + bs.getD 2 0
      · rw [if_pos h7] at h; rcases h with h | h <;> cases h
      · rw [if_neg h7] at h ⊢
        have h2 := begB_len hb h3
        refine ⟨trivial, by omega, h2.1, h2.2, ?_⟩
        cases rightB ((bs.drop 2).take (5 + bs.getD 2 0)) <;> simp
theorem readE_long {bs : List Nat} (hb : begB bs = true) (h : 7 + bs.getD 2 0 ≤ bs.length) : readE bs = if rightB ((bs.drop 2).take (5 + bs.getD 2 0)) then 0 else 131 := by
  unfold readE
  rw [hb]
  simp only [if_true]
  rw [if_neg (by omega), if_neg (by omega)]
theorem readE_short_lt {bs : List Nat} (h : readE bs = 7) : begB bs = true ∧ bs.length < 85 ∧ (bs.length < 3 ∨ bs.length < 7 + bs.getD 2 0) := by
  cases hb : begB bs
  · rw [readE_none bs hb] at h; cases h
  · refine ⟨rfl, ?_⟩
    by_cases h3 : bs.length < 3
    · exact ⟨by omega, .inl h3⟩
    · have h2 := begB_len hb h3
      by_cases h7 : bs.length < 7 + bs.getD 2 0
      · exact ⟨by omega, .inr h7⟩
      · rw [readE_long hb (by omega)] at h
        split at h <;> cases h
theorem begB_true_ext {a : List Nat} (p : List Nat) (h : begB a = true) (hl : ¬ a.length < 3) : begB (a ++ p) = true := by
  rcases a with _ | ⟨x, _ | ⟨y, _ | ⟨z, t⟩⟩⟩
  · simp at hl
  · simp at hl
  · simp at hl
  · rw [begB_more] at h
    rw [show x :: y :: z :: t ++ p = x :: y :: z :: (t ++ p) from rfl, begB_more, h]
/-- What is decided stays so, whatever comes behind. -/
theorem readE_ext (a p : List Nat) (hne : a ≠ []) (h : readE a ≠ 7) : readE (a ++ p) = readE a := by
  rcases readE_cases a with h1 | h1 | h1 | h1
  · rw [h1]; exact readE_none _ (begB_ext a p hne (readE_130 h1))
  · exact absurd h1 h
  · obtain ⟨hb, hl, h30, h78, hr⟩ := readE_whole (.inr h1)
    have h2 : (a ++ p).getD 2 0 = a.getD 2 0 := getD_append_lt a p 2 (by omega)
    rw [readE_long (begB_true_ext p hb (by omega)) (by rw [h2, List.length_append]; omega), h2, take_drop_append a p _ _ (by omega), ← readE_long hb hl]
  · obtain ⟨hb, hl, h30, h78, hr⟩ := readE_whole (.inl h1)
    have h2 : (a ++ p).getD 2 0 = a.getD 2 0 := getD_append_lt a p 2 (by omega)
    rw [readE_long (begB_true_ext p hb (by omega)) (by rw [h2, List.length_append]; omega), h2, take_drop_append a p _ _ (by omega), ← readE_long hb hl]
theorem goodS_ext (a p : List Nat) (h : readE a = 0) : goodS (a ++ p) = goodS a ∧ (a ++ p).getD 2 0 = a.getD 2 0 := by
  obtain ⟨hb, hl, h30, h78, hr⟩ := readE_whole (.inl h)
  have h2 : (a ++ p).getD 2 0 = a.getD 2 0 := getD_append_lt a p 2 (by omega)
  refine ⟨?_, h2⟩
  unfold goodS
  rw [h2, getD_append_lt a p 3 (by omega), getD_append_lt a p 4 (by omega), take_drop_append a p _ _ (by omega), take_drop_append a p _ _ (by omega), take_drop_append a p _ _ (by omega), take_drop_append a p _ _ (by omega)]
theorem goodS_tag {bs : List Nat} (h : readE bs = 0) : (goodS bs).tag.length = 16 := by
  obtain ⟨hb, hl, h30, h78, hr⟩ := readE_whole (.inl h)
  show ((bs.drop _).take 16).length = 16
  rw [List.length_take, List.length_drop]; omega

/-! ### What was put -/
/-- A frame that may be put. -/
structure Fits (f : FrmS) : Prop where
  kind : octB f.kind = true
  source : octB f.source = true
  epoch : f.epoch < 4294967296
  counter : f.counter < 18446744073709551616
  body : f.body.length ≤ 48
  tag : f.tag.length = 16
  bodyLt : ∀ y ∈ f.body, y < 256
  tagLt : ∀ y ∈ f.tag, y < 256
theorem octB_byte {x : Int} (h : octB x = true) : ((byteI x : Nat) : Int) = x := by
  simp [octB] at h
  unfold byteI; omega
theorem putF_eq (f : FrmS) : putF f = 165 :: 90 :: ((signedB f ++ f.tag).length % 256) :: (signedB f ++ f.tag ++ sumB (cof (lenB (signedB f ++ f.tag)))) := by
  unfold putF putB lenB; simp
theorem sumB_length (s : Nat) : (sumB s).length = 4 := rfl
theorem putF_length (f : FrmS) (ht : f.tag.length = 16) : (putF f).length = 37 + f.body.length := by
  rw [putF_eq]; simp only [List.length_cons, List.length_append, signedB_length, ht, sumB_length]; omega
theorem putF_two {f : FrmS} (h : Fits f) : (putF f).getD 2 0 = 30 + f.body.length := by
  have h1 := h.body
  have h2 := h.tag
  rw [putF_eq]
  show (signedB f ++ f.tag).length % 256 = _
  rw [List.length_append, signedB_length, h2]; omega
theorem putF_begins {f : FrmS} (h : Fits f) : begB (putF f) = true := by
  have h1 := h.body
  have h2 := h.tag
  rw [putF_eq, begB_more, List.length_append, signedB_length, h2]
  simp
  omega
theorem putF_right {f : FrmS} (h : Fits f) : ((putF f).drop 2).take (5 + (putF f).getD 2 0) = putB (lenB (signedB f ++ f.tag)) := by
  have hl := putF_length f h.tag
  rw [putF_two h]
  rw [List.take_of_length_le (by rw [List.length_drop]; omega)]
  unfold putF; simp
/-- What was put is read. -/
theorem readE_put {f : FrmS} (h : Fits f) : readE (putF f) = 0 := by
  rw [readE_long (putF_begins h) (by rw [putF_two h, putF_length f h.tag]; omega), putF_right h, rightB_put]; rfl
theorem take_drop_mid (a b c : List Nat) (i k : Nat) (hi : a.length = i) (hk : b.length = k) : ((a ++ (b ++ c)).drop i).take k = b := by
  subst hi; subst hk; simp
theorem goodS_put {f : FrmS} (h : Fits f) : goodS (putF f) = f := by
  have h1 := h.body
  have h2 := h.tag
  have hS : putF f = [165, 90, (signedB f ++ f.tag).length % 256, byteI f.kind, byteI f.source] ++ (beB 4 f.epoch ++ (beB 8 f.counter ++ (f.body ++ (f.tag ++ sumB (cof (lenB (signedB f ++ f.tag))))))) := by
    rw [putF_eq]
    generalize sumB (cof (lenB (signedB f ++ f.tag))) = Z
    generalize (signedB f ++ f.tag).length % 256 = n
    simp [signedB, List.append_assoc]
  have e5 : ((putF f).drop 5).take 4 = beB 4 f.epoch := by rw [hS]; exact take_drop_mid _ _ _ _ _ rfl (beB_length 4 _)
  have e9 : ((putF f).drop 9).take 8 = beB 8 f.counter := by
    rw [hS, ← List.append_assoc]; exact take_drop_mid _ _ _ _ _ (by rw [List.length_append, beB_length]; rfl) (beB_length 8 _)
  have e17 : ((putF f).drop 17).take (30 + f.body.length - 30) = f.body := by
    rw [hS, ← List.append_assoc, ← List.append_assoc]; exact take_drop_mid _ _ _ _ _ (by rw [List.length_append, List.length_append, beB_length, beB_length]; rfl) (by omega)
  have e18 : ((putF f).drop (30 + f.body.length - 13)).take 16 = f.tag := by
    rw [hS, ← List.append_assoc, ← List.append_assoc, ← List.append_assoc]; exact take_drop_mid _ _ _ _ _ (by rw [List.length_append, List.length_append, List.length_append, beB_length, beB_length]; simp; omega) h2
  have e3 : (putF f).getD 3 0 = byteI f.kind := by rw [hS]; rfl
  have e4 : (putF f).getD 4 0 = byteI f.source := by rw [hS]; rfl
  unfold goodS
  rw [putF_two h, e5, e9, e17, e18, e3, e4, octB_byte h.kind, octB_byte h.source, beN_beB, beN_beB, Nat.mod_eq_of_lt (by have := h.epoch; omega), Nat.mod_eq_of_lt (by have := h.counter; omega)]
/-- Each beginning of what was put is short. -/
theorem readE_cut {f : FrmS} (h : Fits f) (i : Nat) (hi : i < (putF f).length) : readE ((putF f).take i) = 7 := by
  have hl := putF_length f h.tag
  have h2 := putF_two h
  have hb := putF_begins h
  rw [putF_eq] at hb
  rw [begB_more] at hb
  by_cases h3 : i < 3
  · have hi' : i = 0 ∨ i = 1 ∨ i = 2 := by omega
    rw [putF_eq]
    rcases hi' with rfl | rfl | rfl <;> (unfold readE; simp [begB, preB, sameB])
  · have hlen : ((putF f).take i).length = i := by rw [List.length_take]; omega
    have hg : ((putF f).take i).getD 2 0 = (putF f).getD 2 0 := by
      rw [List.getD_eq_getElem?_getD, List.getD_eq_getElem?_getD, List.getElem?_take_of_lt (by omega)]
    have hbeg : begB ((putF f).take i) = true := by
      obtain ⟨j, rfl⟩ : ∃ j, i = j + 3 := ⟨i - 3, by omega⟩
      rw [putF_eq]
      simp only [List.take_succ_cons]
      rw [begB_more]; exact hb
    unfold readE
    rw [hbeg, hlen, hg, h2]
    simp only [if_true]
    rw [if_neg h3, if_pos (by omega)]

/-! ### A byte that is turned -/
theorem sumB_inj {a b : Nat} (ha : a < 4294967296) (hb : b < 4294967296) (h : sumB a = sumB b) : a = b := by
  simp only [sumB, List.cons.injEq, and_true] at h
  omega
theorem xor_ne {a y : Nat} (h : y ≠ 0) : a ^^^ y ≠ a := fun e => h (xor_eq_self.1 e)
theorem set_ne {l : List Nat} {k y : Nat} (hk : k < l.length) (h : y ≠ 0) : l.set k (l.getD k 0 ^^^ y) ≠ l := fun e => by
  have h1 : (l.set k (l.getD k 0 ^^^ y)).getD k 0 = l.getD k 0 := by rw [e]
  rw [List.getD_eq_getElem?_getD, List.getElem?_set_self hk] at h1
  exact xor_ne h h1
theorem rightB_turned {T : List Nat} (hT : ∀ x ∈ T, x < 256) {k y : Nat} (hk : k < (putB T).length) (hy : y < 256) (h0 : y ≠ 0) : rightB ((putB T).set k ((putB T).getD k 0 ^^^ y)) = false := by
  have hl := putB_length T
  unfold rightB
  rw [if_pos (by rw [List.length_set]; omega), List.length_set, hl, Nat.add_sub_cancel]
  unfold sameB
  rw [decide_eq_false_iff_not]
  intro e
  by_cases hkT : k < T.length
  · have hg : (putB T).getD k 0 = T.getD k 0 := getD_append_lt T _ k hkT
    have hs : (putB T).set k (T.getD k 0 ^^^ y) = T.set k (T.getD k 0 ^^^ y) ++ sumB (cof T) := by unfold putB; rw [List.set_append_left _ _ hkT]
    rw [hg, hs, List.take_append_of_le_length (by simp), List.take_of_length_le (by simp)] at e
    unfold putB at e
    have e2 := List.append_cancel_left e
    have hz : T.getD k 0 ^^^ y < 256 := xor_byte (getD_lt hT k) hy
    have e3 := sumB_inj (cof_lt _) (cof_lt _) e2
    have hcn := cnum_set hy T k hT hkT
    rw [cof_turned hT (set_lt hT hz) (by simp) hcn] at e3
    have hcs := xor_eq_self.1 e3
    rw [csteps_mul (by omega)] at hcs
    exact csteps_ne _ y (by omega) h0 hcs
  · have ht : ((putB T).set k ((putB T).getD k 0 ^^^ y)).take T.length = T := by
      rw [List.take_set_of_le (by omega)]; unfold putB; simp
    rw [ht] at e
    exact set_ne hk h0 e.symm
theorem signed_lt {f : FrmS} (h : Fits f) : ∀ y ∈ lenB (signedB f ++ f.tag), y < 256 := by
  intro y hy
  unfold lenB at hy
  rcases List.mem_append.1 hy with hy | hy
  · simp only [List.mem_singleton] at hy; omega
  · rcases List.mem_append.1 hy with hy | hy
    · exact signedB_lt h.bodyLt y hy
    · exact h.tagLt y hy
theorem readE_turned {f : FrmS} (h : Fits f) {j y : Nat} (h3 : 3 ≤ j) (hj : j < (putF f).length) (hy : y < 256) (h0 : y ≠ 0) : readE ((putF f).set j ((putF f).getD j 0 ^^^ y)) = 131 := by
  obtain ⟨k, rfl⟩ : ∃ k, j = k + 3 := ⟨j - 3, by omega⟩
  have hl := putF_length f h.tag
  have h2 := putF_two h
  generalize hZ : (putF f).getD (k + 3) 0 ^^^ y = z
  have hb : begB ((putF f).set (k + 3) z) = true := by
    have := putF_begins h
    rw [putF_eq] at this ⊢
    simp only [List.set_cons_succ]
    rw [begB_more] at this ⊢; exact this
  have hg : ((putF f).set (k + 3) z).getD 2 0 = (putF f).getD 2 0 := by
    rw [List.getD_eq_getElem?_getD, List.getD_eq_getElem?_getD, List.getElem?_set_ne (by omega)]
  have hr := putF_right h
  rw [readE_long hb (by rw [hg, List.length_set, h2, hl]; omega), hg]
  have hd : ((putF f).set (k + 3) z).drop 2 = ((putF f).drop 2).set (k + 1) z := by
    rw [List.drop_set]; rw [if_neg (by omega)]
    rfl
  rw [hd, List.take_set, hr]
  have hz : (putB (lenB (signedB f ++ f.tag))).getD (k + 1) 0 ^^^ y = z := by
    rw [← hZ]
    unfold putF
    congr 1
  rw [← hz, rightB_turned (signed_lt h) (by rw [putB_length]; unfold lenB; rw [List.length_append, List.length_append, signedB_length, h.tag]; simp; omega) hy h0]
  rfl
end Go.Proofs.Ytjkgodhoonkinaa
