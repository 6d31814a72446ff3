/-
  The plain law of check sums: the register behind bytes is the register and the bytes, taken as one great number, stepped eight times a byte; a step keeps sums without carry, and is one to one on 32 bits.
-/
import Derived.WalkKit
namespace Go.Proofs.Ytjkgodhoonkinaa
open Go.RowKit

/-- One step of the register. -/
def cstep (r : Nat) : Nat := (r / 2) ^^^ (if r % 2 = 1 then 3988292384 else 0)
def csteps : Nat → Nat → Nat
  | 0, r => r
  | n + 1, r => csteps n (cstep r)
def cbyte (r x : Nat) : Nat := csteps 8 (r ^^^ x)
def cadd (r : Nat) (bs : List Nat) : Nat := bs.foldl cbyte r
def cof (bs : List Nat) : Nat := 4294967295 - cadd 4294967295 bs
/-- Bytes as one number, the first the least. -/
def cnum : List Nat → Nat
  | [] => 0
  | x :: l => x + 256 * cnum l

theorem xor_half (a b : Nat) : (a ^^^ b) / 2 = a / 2 ^^^ b / 2 := by
  have := Nat.shiftRight_xor_distrib (a := a) (b := b) (i := 1)
  simpa [Nat.shiftRight_eq_div_pow] using this
theorem xor_mod2 (a b : Nat) : (a ^^^ b) % 2 = (a % 2 + b % 2) % 2 := by
  have h := Nat.xor_mod_two_pow (a := a) (b := b) (n := 1)
  simp only [Nat.pow_one] at h
  rw [h]
  rcases Nat.mod_two_eq_zero_or_one a with ha | ha <;> rcases Nat.mod_two_eq_zero_or_one b with hb | hb <;> rw [ha, hb] <;> rfl
theorem xor4 (a b c d : Nat) : (a ^^^ b) ^^^ (c ^^^ d) = (a ^^^ c) ^^^ (b ^^^ d) := by
  rw [Nat.xor_assoc, Nat.xor_assoc, ← Nat.xor_assoc b c d, Nat.xor_comm b c, Nat.xor_assoc c b d]
theorem cstep_xor (a b : Nat) : cstep (a ^^^ b) = cstep a ^^^ cstep b := by
  unfold cstep
  rw [xor_half, xor4]
  congr 1
  have := xor_mod2 a b
  rcases Nat.mod_two_eq_zero_or_one a with ha | ha <;> rcases Nat.mod_two_eq_zero_or_one b with hb | hb <;> simp [ha, hb] at this <;> simp [ha, hb, this]
theorem csteps_xor (n : Nat) : ∀ a b : Nat, csteps n (a ^^^ b) = csteps n a ^^^ csteps n b := by
  induction n with
  | zero => intro a b; rfl
  | succ n ih => intro a b; unfold csteps; rw [cstep_xor, ih]
theorem csteps_add (m n : Nat) : ∀ r, csteps (m + n) r = csteps n (csteps m r) := by
  induction m with
  | zero => intro r; rw [Nat.zero_add]; rfl
  | succ m ih => intro r; rw [Nat.succ_add]; exact ih (cstep r)
theorem csteps_succ' (n r : Nat) : csteps (n + 1) r = cstep (csteps n r) := by rw [csteps_add n 1]; rfl
theorem cstep_zero : cstep 0 = 0 := by decide
theorem csteps_zero (n : Nat) : csteps n 0 = 0 := by
  induction n with
  | zero => rfl
  | succ n ih => unfold csteps; rw [cstep_zero]; exact ih
theorem cstep_even (x : Nat) : cstep (2 * x) = x := by
  unfold cstep
  rw [if_neg (by omega)]; simp
theorem csteps_shift (n x : Nat) : csteps n (2 ^ n * x) = x := by
  induction n generalizing x with
  | zero => simp [csteps]
  | succ n ih => unfold csteps; rw [show 2 ^ (n + 1) * x = 2 * (2 ^ n * x) from by rw [Nat.pow_succ]; rw [Nat.mul_comm (2 ^ n) 2, Nat.mul_assoc], cstep_even]; exact ih x
theorem xor_lt32 {a b : Nat} (ha : a < 4294967296) (hb : b < 4294967296) : a ^^^ b < 4294967296 := Nat.xor_lt_two_pow (n := 32) ha hb
theorem cstep_lt {r : Nat} (h : r < 4294967296) : cstep r < 4294967296 := by
  unfold cstep
  refine xor_lt32 (by omega) (by split <;> decide)
theorem csteps_lt (n : Nat) : ∀ r, r < 4294967296 → csteps n r < 4294967296 := by
  induction n with
  | zero => intro r h; exact h
  | succ n ih => intro r h; exact ih _ (cstep_lt h)
theorem cbyte_lt {r x : Nat} (h : r < 4294967296) (hx : x < 256) : cbyte r x < 4294967296 := csteps_lt 8 _ (xor_lt32 h (by omega))
theorem cadd_lt {bs : List Nat} (hb : ∀ x ∈ bs, x < 256) : ∀ r, r < 4294967296 → cadd r bs < 4294967296 := by
  induction bs with
  | nil => intro r h; exact h
  | cons x l ih => intro r h; exact ih (fun y hy => hb y (by simp [hy])) _ (cbyte_lt h (hb x (by simp)))
/-- A step is one to one at nought. -/
theorem cstep_ne {r : Nat} (h : r < 4294967296) (h0 : r ≠ 0) : cstep r ≠ 0 := by
  intro e
  unfold cstep at e
  split at e
  · have h1 : (r / 2) = 3988292384 := by
      have := congrArg (· ^^^ 3988292384) e
      simpa [Nat.xor_assoc] using this
    omega
  · simp at e; omega
theorem csteps_ne (n : Nat) : ∀ r, r < 4294967296 → r ≠ 0 → csteps n r ≠ 0 := by
  induction n with
  | zero => intro r _ h; exact h
  | succ n ih => intro r h h0; exact ih _ (cstep_lt h) (cstep_ne h h0)

theorem cadd_cons (r x : Nat) (l : List Nat) : cadd r (x :: l) = cadd (cbyte r x) l := rfl
theorem cadd_append (r : Nat) (a b : List Nat) : cadd r (a ++ b) = cadd (cadd r a) b := by unfold cadd; rw [List.foldl_append]
theorem add_shift_xor (x n : Nat) (hx : x < 256) : x + 256 * n = x ^^^ (2 ^ 8 * n) := by
  have h := Nat.two_pow_add_eq_or_of_lt (i := 8) (b := x) (by simpa using hx) n
  have : (2 ^ 8 * n) ||| x = x ^^^ (2 ^ 8 * n) := by
    apply Nat.eq_of_testBit_eq
    intro i
    rw [Nat.testBit_or, Nat.testBit_xor]
    by_cases hi : i < 8
    · have : (2 ^ 8 * n).testBit i = false := by rw [Nat.testBit_two_pow_mul]; simp; omega
      rw [this]; simp
    · have : x.testBit i = false := Nat.testBit_lt_two_pow (Nat.lt_of_lt_of_le (by simpa using hx) (Nat.pow_le_pow_right (n := 2) (by omega) (show 8 ≤ i by omega)))
      rw [this]; simp
  rw [← this, ← h]; simp; omega
/-- The register behind bytes: one great number, stepped. -/
theorem cadd_eq {bs : List Nat} (hb : ∀ x ∈ bs, x < 256) : ∀ r, cadd r bs = csteps (8 * bs.length) (r ^^^ cnum bs) := by
  induction bs with
  | nil => intro r; simp [cadd, cnum, csteps]
  | cons x l ih =>
    intro r
    rw [cadd_cons, ih (fun y hy => hb y (by simp [hy])), show 8 * (x :: l).length = 8 + 8 * l.length from by simp; omega, csteps_add]
    congr 1
    have hx := hb x (by simp)
    unfold cbyte
    rw [show cnum (x :: l) = x ^^^ (2 ^ 8 * cnum l) from add_shift_xor x _ hx, ← Nat.xor_assoc, csteps_xor 8 (r ^^^ x) (2 ^ 8 * cnum l), csteps_shift]
theorem cof_xor {bs : List Nat} (hb : ∀ x ∈ bs, x < 256) : cof bs = 4294967295 ^^^ cadd 4294967295 bs := by
  have h := cadd_lt hb 4294967295 (by decide)
  unfold cof
  generalize cadd 4294967295 bs = r at *
  have h1 : 4294967295 - r = (2 ^ 32 - 1 - r) := by simp
  rw [h1]
  apply Nat.eq_of_testBit_eq
  intro i
  have h2 := Nat.testBit_two_pow_sub_succ (x := r) (n := 32) (by simpa using h) i
  rw [show 2 ^ 32 - 1 - r = 2 ^ 32 - (r + 1) from by omega, h2, Nat.testBit_xor]
  by_cases hi : i < 32
  · have : Nat.testBit 4294967295 i = true := by
      have := Nat.testBit_two_pow_sub_one 32 i
      simpa [hi] using this
    rw [this]; simp [hi]
  · have e1 : Nat.testBit 4294967295 i = false := by
      have := Nat.testBit_two_pow_sub_one 32 i
      simpa [hi] using this
    have e2 : r.testBit i = false := Nat.testBit_lt_two_pow (Nat.lt_of_lt_of_le (show r < 2 ^ 32 by simpa using h) (Nat.pow_le_pow_right (n := 2) (by omega) (show 32 ≤ i by omega)))
    rw [e1, e2]; simp [hi]
theorem cof_lt (bs : List Nat) : cof bs < 4294967296 := by unfold cof; omega

/-! ### bytes that are turned -/
theorem mul_pow_xor (n a b : Nat) : 2 ^ n * (a ^^^ b) = 2 ^ n * a ^^^ 2 ^ n * b := by
  have := Nat.shiftLeft_xor_distrib (a := a) (b := b) (i := n)
  simp only [Nat.shiftLeft_eq] at this
  rw [Nat.mul_comm, this, Nat.mul_comm a, Nat.mul_comm b]
theorem cnum_cons {x : Nat} (hx : x < 256) (l : List Nat) : cnum (x :: l) = x ^^^ (2 ^ 8 * cnum l) := add_shift_xor x _ hx
theorem xor_byte {x y : Nat} (hx : x < 256) (hy : y < 256) : x ^^^ y < 256 := Nat.xor_lt_two_pow (n := 8) hx hy
theorem cnum_set {y : Nat} (hy : y < 256) : ∀ (cs : List Nat) (k : Nat), (∀ x ∈ cs, x < 256) → k < cs.length → cnum (cs.set k (cs.getD k 0 ^^^ y)) = cnum cs ^^^ (2 ^ (8 * k) * y)
  | [], k, _, h => by simp at h
  | x :: l, 0, hb, _ => by
    have hx := hb x (by simp)
    rw [show (x :: l).getD 0 0 = x from rfl, List.set_cons_zero, cnum_cons (xor_byte hx hy), cnum_cons hx]
    simp only [Nat.mul_zero, Nat.pow_zero, Nat.one_mul]
    rw [Nat.xor_assoc, Nat.xor_assoc, Nat.xor_comm y]
  | x :: l, k + 1, hb, h => by
    have hx := hb x (by simp)
    have ih := cnum_set hy l k (fun z hz => hb z (by simp [hz])) (by simpa using h)
    rw [show (x :: l).getD (k + 1) 0 = l.getD k 0 from rfl, List.set_cons_succ, cnum_cons hx, cnum_cons hx, ih, mul_pow_xor, ← Nat.xor_assoc]
    congr 1
    rw [← Nat.mul_assoc, ← Nat.pow_add]; congr 2; omega
theorem set_lt {cs : List Nat} {k z : Nat} (hb : ∀ x ∈ cs, x < 256) (hz : z < 256) : ∀ x ∈ cs.set k z, x < 256 := by
  intro x hx
  rcases List.mem_or_eq_of_mem_set hx with h | rfl
  · exact hb x h
  · exact hz
theorem cnum_zeros (m : Nat) : cnum (List.replicate m 0) = 0 := by
  induction m with
  | zero => rfl
  | succ m ih => rw [List.replicate_succ]; unfold cnum; rw [ih]
theorem csteps_mul {m k : Nat} (h : k ≤ m) (y : Nat) : csteps m (2 ^ k * y) = csteps (m - k) y := by
  have := csteps_add k (m - k) (2 ^ k * y)
  rw [show k + (m - k) = m from by omega, csteps_shift] at this
  exact this
/-- The sum of bytes whose great number is another by d. -/
theorem cof_turned {cs ds : List Nat} (hc : ∀ x ∈ cs, x < 256) (hd : ∀ x ∈ ds, x < 256) (hl : ds.length = cs.length) {d : Nat} (hn : cnum ds = cnum cs ^^^ d) : cof ds = cof cs ^^^ csteps (8 * cs.length) d := by
  rw [cof_xor hc, cof_xor hd, cadd_eq hc, cadd_eq hd, hl, hn, ← Nat.xor_assoc, csteps_xor _ _ d, Nat.xor_assoc]
theorem xor_eq_self {a b : Nat} : a ^^^ b = a ↔ b = 0 := by
  constructor
  · intro h
    have := congrArg (a ^^^ ·) h
    simpa [← Nat.xor_assoc] using this
  · rintro rfl; simp
end Go.Proofs.Ytjkgodhoonkinaa
