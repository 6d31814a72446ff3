/-
  What a store keeps, whenever the power goes: the plain law.
-/
import Derived.Test.YtjkgodhoonkinaaBnkL
namespace Go.Proofs.Ytjkgodhoonkinaa
open Go.RowKit
set_option linter.unusedVariables false
set_option linter.unusedSimpArgs false

abbrev seqOf (R : List Nat) : Nat := R.getD 0 0
abbrev fullB (R : List Nat) : List Nat := 165 :: putB (recB R)
abbrev halfB (R : List Nat) : List Nat := 0 :: putB (recB R)
theorem seqOf_zero : seqOf zeroR = 0 := rfl
theorem cntS_second {R : List Nat} (h : RecOK R) (h0 : seqOf R ≠ 0) {x : List Nat} (hx : goodX x = false) : cntS x (fullB R) = (1, R) := by
  obtain ⟨h1, h2⟩ := goodX_done h h0
  unfold cntS
  rw [stepC_no hx]
  unfold stepC
  rw [h1, h2]
  rfl
theorem cntS_none {x y : List Nat} (hx : goodX x = false) (hy : goodX y = false) : cntS x y = (-1, zeroR) := by
  unfold cntS
  rw [stepC_no hx, stepC_no hy]
theorem cntS_both1 {R S : List Nat} (h : RecOK R) (h0 : seqOf R ≠ 0) (k : RecOK S) (k0 : seqOf S ≠ 0) (hlt : seqOf S < seqOf R) : cntS (fullB R) (fullB S) = (0, R) := by
  obtain ⟨h1, h2⟩ := goodX_done h h0
  obtain ⟨k1, k2⟩ := goodX_done k k0
  unfold cntS stepC
  rw [h1, h2, k1, k2]
  simp [seqOf] at hlt
  simp
  omega
theorem cntS_both2 {R S : List Nat} (h : RecOK R) (h0 : seqOf R ≠ 0) (k : RecOK S) (k0 : seqOf S ≠ 0) (hlt : seqOf S < seqOf R) : cntS (fullB S) (fullB R) = (1, R) := by
  obtain ⟨h1, h2⟩ := goodX_done h h0
  obtain ⟨k1, k2⟩ := goodX_done k k0
  unfold cntS stepC
  rw [h1, h2, k1, k2]
  simp [seqOf] at hlt
  simp [hlt]
/-- x holds the last one; y the one ahead of it, if any. -/
def BankS (x y : List Nat) (L A : List Nat) : Prop :=
  x = fullB L ∧ seqOf L ≠ 0 ∧ ((goodX y = false ∧ A = zeroR) ∨ (y = fullB A ∧ seqOf A ≠ 0 ∧ seqOf A < seqOf L))
theorem BankS.cnt0 {x y L A : List Nat} (h : BankS x y L A) (hL : RecOK L) (hA : RecOK A) : cntS x y = (0, L) := by
  obtain ⟨rfl, h0, ⟨hy, rfl⟩ | ⟨rfl, h1, h2⟩⟩ := h
  · exact cntS_done hL h0 hy
  · exact cntS_both1 hL h0 hA h1 h2
theorem BankS.cnt1 {x y L A : List Nat} (h : BankS x y L A) (hL : RecOK L) (hA : RecOK A) : cntS y x = (1, L) := by
  obtain ⟨rfl, h0, ⟨hy, rfl⟩ | ⟨rfl, h1, h2⟩⟩ := h
  · exact cntS_second hL h0 hy
  · exact cntS_both2 hL h0 hA h1 h2
/-- What is begun: bank k holds its bytes behind a seal 0. -/
def BegunS (x0 x1 : List Nat) (bg : Int) (L A B : List Nat) (sq : Nat) : Prop :=
  seqOf L < seqOf B ∧ seqOf B ≤ sq ∧ A = zeroR ∧
    ((bg = 0 ∧ x0 = halfB B ∧ (goodX x1 = false ∧ L = zeroR ∨ BankS x1 x0 L A)) ∨ (bg = 1 ∧ x1 = halfB B ∧ BankS x0 x1 L A))
structure Keep (x0 x1 : List Nat) (bg : Int) (L A B : List Nat) (sq : Nat) : Prop where
  okL : RecOK L
  okA : RecOK A
  okB : RecOK B
  lq : seqOf L ≤ sq
  st : (goodX x0 = false ∧ goodX x1 = false ∧ L = zeroR ∧ A = zeroR) ∨ BankS x0 x1 L A ∨ BankS x1 x0 L A
  be : (bg = -1 ∧ B = zeroR) ∨ BegunS x0 x1 bg L A B sq
  l0 : x0.length ≤ 141
  l1 : x1.length ≤ 141
theorem Keep.start : Keep [] [] (-1) zeroR zeroR zeroR 0 :=
  ⟨zeroR_ok, zeroR_ok, zeroR_ok, Nat.le_refl _, .inl ⟨rfl, rfl, rfl, rfl⟩, .inl ⟨rfl, rfl⟩, by decide, by decide⟩
theorem half_length {R : List Nat} (h : RecOK R) (s : Nat) : (s :: putB (recB R)).length ≤ 141 := by rw [List.length_cons, putB_small h.1]; omega
theorem nextK_of {x0 x1 : List Nat} {c : Int × List Nat} (h : cntS x0 x1 = c) : nextK x0 x1 = if c.1 = 0 then 1 else 0 := by unfold nextK; rw [h]
/-- A record is begun. -/
theorem Keep.begin {x0 x1 : List Nat} {bg : Int} {L A B : List Nat} {sq : Nat} (K : Keep x0 x1 bg L A B sq) {R : List Nat} (hR : RecOK R) (hq : seqOf R = sq + 1) :
    Keep (if nextK x0 x1 = 0 then halfB R else x0) (if nextK x0 x1 = 0 then x1 else halfB R) (nextK x0 x1 : Nat) L zeroR R (sq + 1) := by
  have hlR := half_length hR 0
  have h1 : seqOf L < seqOf R := by have := K.lq; omega
  rcases K.st with ⟨g0, g1, rfl, rfl⟩ | h | h
  · have hk : nextK x0 x1 = 0 := by rw [nextK_of (cntS_none g0 g1)]; rfl
    rw [hk, if_pos rfl, if_pos rfl]
    exact ⟨zeroR_ok, zeroR_ok, hR, by rw [seqOf_zero]; omega, .inl ⟨goodX_begun _, g1, rfl, rfl⟩, .inr ⟨h1, by omega, rfl, .inl ⟨rfl, rfl, .inl ⟨g1, rfl⟩⟩⟩, hlR, K.l1⟩
  · have hk : nextK x0 x1 = 1 := by rw [nextK_of (h.cnt0 K.okL K.okA)]; rfl
    rw [hk, if_neg (by decide), if_neg (by decide)]
    have hb : BankS x0 (halfB R) L zeroR := ⟨h.1, h.2.1, .inl ⟨goodX_begun _, rfl⟩⟩
    exact ⟨K.okL, zeroR_ok, hR, by have := K.lq; omega, .inr (.inl hb), .inr ⟨h1, by omega, rfl, .inr ⟨rfl, rfl, hb⟩⟩, K.l0, hlR⟩
  · have hk : nextK x0 x1 = 0 := by rw [nextK_of (h.cnt1 K.okL K.okA)]; rfl
    rw [hk, if_pos rfl, if_pos rfl]
    have hb : BankS x1 (halfB R) L zeroR := ⟨h.1, h.2.1, .inl ⟨goodX_begun _, rfl⟩⟩
    exact ⟨K.okL, zeroR_ok, hR, by have := K.lq; omega, .inr (.inr hb), .inr ⟨h1, by omega, rfl, .inl ⟨rfl, rfl, .inr hb⟩⟩, hlR, K.l1⟩
theorem Keep.lose {x0 x1 : List Nat} {bg : Int} {L A B : List Nat} {sq : Nat} (K : Keep x0 x1 bg L A B sq) : Keep x0 x1 (-1) L A zeroR sq :=
  ⟨K.okL, K.okA, zeroR_ok, K.lq, K.st, .inl ⟨rfl, rfl⟩, K.l0, K.l1⟩
/-- What is begun is finished. -/
theorem Keep.finish0 {x0 x1 : List Nat} {L A B : List Nat} {sq : Nat} (K : Keep x0 x1 0 L A B sq) : 0 < x0.length ∧ seqOf B ≠ 0 ∧ Keep (x0.set 0 165) x1 (-1) B L zeroR sq := by
  rcases K.be with ⟨h, _⟩ | ⟨h1, h2, rfl, ⟨_, rfl, h⟩ | ⟨h, _⟩⟩
  · cases h
  · have h0 : seqOf B ≠ 0 := by omega
    refine ⟨by simp, h0, K.okB, K.okL, zeroR_ok, h2, .inr (.inl ⟨rfl, h0, ?_⟩), .inl ⟨rfl, rfl⟩, by rw [List.length_set]; exact K.l0, K.l1⟩
    rcases h with ⟨g1, rfl⟩ | ⟨e1, e2, _⟩
    · exact .inl ⟨g1, rfl⟩
    · exact .inr ⟨e1, e2, h1⟩
  · cases h
theorem Keep.finish1 {x0 x1 : List Nat} {L A B : List Nat} {sq : Nat} (K : Keep x0 x1 1 L A B sq) : 0 < x1.length ∧ seqOf B ≠ 0 ∧ Keep x0 (x1.set 0 165) (-1) B L zeroR sq := by
  rcases K.be with ⟨h, _⟩ | ⟨h1, h2, rfl, ⟨h, _⟩ | ⟨_, rfl, e1, e2, _⟩⟩
  · cases h
  · cases h
  · have h0 : seqOf B ≠ 0 := by omega
    exact ⟨by simp, h0, K.okB, K.okL, zeroR_ok, h2, .inr (.inr ⟨rfl, h0, .inr ⟨e1, e2, h1⟩⟩), .inl ⟨rfl, rfl⟩, K.l0, by rw [List.length_set]; exact K.l1⟩
theorem Keep.begun {x0 x1 : List Nat} {bg : Int} {L A B : List Nat} {sq : Nat} (K : Keep x0 x1 bg L A B sq) : bg = -1 ∧ B = zeroR ∨ bg = 0 ∨ bg = 1 := by
  rcases K.be with ⟨h, h'⟩ | ⟨_, _, _, ⟨h, _⟩ | ⟨h, _⟩⟩
  · exact .inl ⟨h, h'⟩
  · exact .inr (.inl h)
  · exact .inr (.inr h)
theorem rcv_of {x0 x1 : List Nat} {c : Int} {L : List Nat} (h : cntS x0 x1 = (c, L)) (hc : c ≠ -1) : rcvR x0 x1 = L ∧ rcvE x0 x1 = 0 := by
  unfold rcvR rcvE
  rw [h]
  exact ⟨if_neg hc, if_neg hc⟩
theorem Keep.rcv {x0 x1 : List Nat} {bg : Int} {L A B : List Nat} {sq : Nat} (K : Keep x0 x1 bg L A B sq) : rcvR x0 x1 = L ∧ rcvE x0 x1 = if seqOf L = 0 then 300 else 0 := by
  rcases K.st with ⟨g0, g1, rfl, rfl⟩ | h | h
  · unfold rcvR rcvE
    rw [cntS_none g0 g1]
    exact ⟨rfl, rfl⟩
  · have := rcv_of (h.cnt0 K.okL K.okA) (by decide)
    rw [if_neg h.2.1]; exact this
  · have := rcv_of (h.cnt1 K.okL K.okA) (by decide)
    rw [if_neg h.2.1]; exact this
/-! ### a bank spoilt -/
theorem xor_ne {b : Nat} (hb : b < 256) (h0 : b ≠ 0) : 165 ^^^ b ≠ 165 := by
  intro h
  have : 165 ^^^ (165 ^^^ b) = 165 ^^^ 165 := by rw [h]
  rw [← Nat.xor_assoc, Nat.xor_self, Nat.zero_xor] at this
  exact h0 this
theorem goodX_spoilt {R : List Nat} {b : Nat} (hb : b < 256) (h0 : b ≠ 0) : goodX ((fullB R).set 0 (165 ^^^ b)) = false := by
  unfold goodX
  have := xor_ne hb h0
  simp [this]
/-- Both were finished: the bank of the last one (by its number), and what is left if it is spoilt. -/
theorem Keep.two {x0 x1 : List Nat} {bg : Int} {L A B : List Nat} {sq : Nat} (K : Keep x0 x1 bg L A B sq) (hL : seqOf L ≠ 0) (hA : seqOf A ≠ 0) :
    (x0 = fullB L ∧ x1 = fullB A) ∨ (x0 = fullB A ∧ x1 = fullB L ∧ seqOf A < seqOf L) := by
  rcases K.st with ⟨_, _, rfl, _⟩ | ⟨h1, _, ⟨_, rfl⟩ | ⟨h2, _, h3⟩⟩ | ⟨h1, _, ⟨_, rfl⟩ | ⟨h2, _, h3⟩⟩
  · exact absurd rfl hL
  · exact absurd rfl hA
  · exact .inl ⟨h1, h2⟩
  · exact absurd rfl hA
  · exact .inr ⟨h2, h1, h3⟩
theorem rcv_spoilt0 {L A : List Nat} (hA : RecOK A) (h0 : seqOf A ≠ 0) {b : Nat} (hb : b < 256) (hb0 : b ≠ 0) : rcvR ((fullB L).set 0 (165 ^^^ b)) (fullB A) = A ∧ rcvE ((fullB L).set 0 (165 ^^^ b)) (fullB A) = 0 :=
  rcv_of (cntS_second hA h0 (goodX_spoilt hb hb0)) (by decide)
theorem rcv_spoilt1 {L A : List Nat} (hA : RecOK A) (h0 : seqOf A ≠ 0) {b : Nat} (hb : b < 256) (hb0 : b ≠ 0) : rcvR (fullB A) ((fullB L).set 0 (165 ^^^ b)) = A ∧ rcvE (fullB A) ((fullB L).set 0 (165 ^^^ b)) = 0 :=
  rcv_of (cntS_done hA h0 (goodX_spoilt hb hb0)) (by decide)
theorem full_at {R : List Nat} (h : RecOK R) (hs : seqOf R < 256) (t : Nat) : (t :: putB (recB R)).getD 1 0 = 0 ∧ (t :: putB (recB R)).getD 2 0 = 0 ∧ (t :: putB (recB R)).getD 3 0 = 0 ∧ (t :: putB (recB R)).getD 4 0 = seqOf R := by
  obtain ⟨hl, _⟩ := h
  obtain ⟨r0, R', rfl⟩ : ∃ r R', R = r :: R' := by cases R with
    | nil => cases hl
    | cons r R' => exact ⟨r, R', rfl⟩
  have hs' : r0 < 256 := hs
  have hb : recB (r0 :: R') = beB 4 r0 ++ (List.zipWith beB widths.tail R').flatten := by
    unfold recB
    rfl
  have h4 : beB 4 r0 = [0, 0, 0, r0] := by
    have e1 : r0 / 256 = 0 := by omega
    unfold beB beB beB beB beB
    simp
    omega
  have hp : ∃ t, putB (recB (r0 :: R')) = 0 :: 0 :: 0 :: r0 :: t := by
    unfold putB
    rw [hb, h4]
    exact ⟨_, rfl⟩
  obtain ⟨t', ht⟩ := hp
  rw [ht]
  exact ⟨rfl, rfl, rfl, rfl⟩
end Go.Proofs.Ytjkgodhoonkinaa
