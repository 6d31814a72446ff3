/-
  Numbers of 128 bits, as lists of bits: the plain law.
-/
import Derived.Test.YtihalkpcddnikaaLib
namespace Go.Proofs.Ytihalkpcddnikaa
open Go.RowKit

def bitsN : Nat → Nat → List Nat
  | 0, _ => []
  | k + 1, n => n % 2 :: bitsN k (n / 2)
def numN : List Nat → Nat
  | [] => 0
  | d :: ds => d + 2 * numN ds
def Bits (ds : List Nat) : Prop := ∀ d ∈ ds, d < 2
theorem bitsN_length : ∀ k n, (bitsN k n).length = k
  | 0, _ => rfl
  | k + 1, n => by rw [bitsN, List.length_cons, bitsN_length]
theorem bitsN_bits : ∀ k n, Bits (bitsN k n)
  | 0, _, d, h => by cases h
  | k + 1, n, d, h => by
    rcases List.mem_cons.1 h with rfl | h
    · omega
    · exact bitsN_bits k _ d h
theorem numN_bitsN : ∀ k n, numN (bitsN k n) = n % 2 ^ k
  | 0, n => by simp [bitsN, numN, Nat.mod_one]
  | k + 1, n => by
    rw [bitsN, numN, numN_bitsN k, Nat.pow_succ, Nat.mul_comm (2 ^ k) 2, Nat.mod_mul]
theorem bitsN_end : ∀ k n, bitsN (k + 1) n = bitsN k n ++ [n / 2 ^ k % 2]
  | 0, n => by simp [bitsN]
  | k + 1, n => by
    rw [bitsN, bitsN_end k, bitsN, List.cons_append, Nat.div_div_eq_div_mul, Nat.pow_succ, Nat.mul_comm (2 ^ k) 2]
theorem bitsN_append : ∀ j k n, bitsN (j + k) n = bitsN j n ++ bitsN k (n / 2 ^ j)
  | 0, k, n => by simp [bitsN]
  | j + 1, k, n => by
    rw [show j + 1 + k = (j + k) + 1 by omega, bitsN, bitsN_append j k, bitsN, List.cons_append, Nat.div_div_eq_div_mul, Nat.pow_succ, Nat.mul_comm (2 ^ j) 2]
theorem bitsN_get : ∀ k n i, i < k → (bitsN k n).getD i 0 = n / 2 ^ i % 2
  | 0, _, _, h => absurd h (Nat.not_lt_zero _)
  | k + 1, n, 0, _ => by simp [bitsN]
  | k + 1, n, i + 1, h => by
    have := bitsN_get k (n / 2) i (by omega)
    rw [bitsN, List.getD_cons_succ, this, Nat.div_div_eq_div_mul, Nat.pow_succ, Nat.mul_comm (2 ^ i) 2]
theorem numN_append : ∀ (a b : List Nat), numN (a ++ b) = numN a + 2 ^ a.length * numN b
  | [], b => by simp [numN]
  | d :: a, b => by
    rw [List.cons_append, numN, numN_append a b, numN, List.length_cons, Nat.pow_succ, Nat.mul_add, ← Nat.mul_assoc, Nat.mul_comm 2 (2 ^ a.length)]
    omega
theorem numN_end (a : List Nat) (d : Nat) : numN (a ++ [d]) = numN a + 2 ^ a.length * d := by rw [numN_append]; simp [numN]
theorem numN_lt : ∀ {ds : List Nat}, Bits ds → numN ds < 2 ^ ds.length
  | [], _ => by simp [numN]
  | d :: ds, h => by
    have h1 := numN_lt (ds := ds) (fun x hx => h x (List.mem_cons_of_mem _ hx))
    have h2 := h d (List.mem_cons_self ..)
    rw [numN, List.length_cons, Nat.pow_succ]
    omega
theorem bitsN_numN : ∀ {ds : List Nat}, Bits ds → bitsN ds.length (numN ds) = ds
  | [], _ => rfl
  | d :: ds, h => by
    have h1 := bitsN_numN (ds := ds) (fun x hx => h x (List.mem_cons_of_mem _ hx))
    have h2 := h d (List.mem_cons_self ..)
    rw [List.length_cons, bitsN, numN, show (d + 2 * numN ds) % 2 = d by omega, show (d + 2 * numN ds) / 2 = numN ds by omega, h1]
theorem Bits.take {ds : List Nat} (h : Bits ds) (k : Nat) : Bits (ds.take k) := fun d hd => h d (List.mem_of_mem_take hd)
theorem Bits.drop {ds : List Nat} (h : Bits ds) (k : Nat) : Bits (ds.drop k) := fun d hd => h d (List.mem_of_mem_drop hd)
theorem Bits.get {ds : List Nat} (h : Bits ds) (k : Nat) : ds.getD k 0 < 2 := by
  rw [List.getD_eq_getElem?_getD]
  rcases Nat.lt_or_ge k ds.length with hk | hk
  · rw [List.getElem?_eq_getElem hk]; exact h _ (List.getElem_mem hk)
  · rw [List.getElem?_eq_none hk]; decide
theorem take_end (ds : List Nat) (k : Nat) (h : k < ds.length) : ds.take (k + 1) = ds.take k ++ [ds.getD k 0] := by
  rw [List.take_succ_eq_append_getElem h, List.getD_eq_getElem?_getD, List.getElem?_eq_getElem h]; rfl
theorem numN_take (ds : List Nat) (k : Nat) (h : k < ds.length) : numN (ds.take (k + 1)) = numN (ds.take k) + 2 ^ k * ds.getD k 0 := by
  rw [take_end ds k h, numN_end, List.length_take, Nat.min_eq_left (by omega)]
/-! ### as values -/
def hiV (n : Nat) : Int := wrap64 ((n / 18446744073709551616 % 18446744073709551616 : Nat) : Int)
def loV (n : Nat) : Int := ((n % 18446744073709551616 : Nat) : Int)
def wideV (n : Nat) : Value := .agg #[.int .i64 (hiV n), .int .u64 (loV n)]
/-- The number of 128 bits of a number with a sign. -/
def ofI (x : Int) : Nat := (x % 340282366920938463463374607431768211456).toNat
/-- The number with a sign of 128 bits. -/
def toI (n : Nat) : Int := if n < 170141183460469231731687303715884105728 then (n : Int) else (n : Int) - 340282366920938463463374607431768211456
theorem ofI_lt (x : Int) : ofI x < 340282366920938463463374607431768211456 := by unfold ofI; omega
theorem hiV_bd (n : Nat) : -9223372036854775808 ≤ hiV n ∧ hiV n ≤ 9223372036854775807 := by unfold hiV wrap64; omega
theorem hiV_mod (n : Nat) (h : n < 340282366920938463463374607431768211456) : (hiV n % 18446744073709551616).toNat = n / 18446744073709551616 := by unfold hiV wrap64; omega
theorem wide_eq (n : Nat) : n = n % 18446744073709551616 + 2 ^ 64 * (n / 18446744073709551616) := by omega
theorem toI_hi (n : Nat) (h : n < 340282366920938463463374607431768211456) : toI n = hiV n * 18446744073709551616 + loV n := by unfold toI hiV loV wrap64; split <;> omega
theorem toI_ofI {x : Int} (h1 : -170141183460469231731687303715884105728 ≤ x) (h2 : x < 170141183460469231731687303715884105728) : toI (ofI x) = x := by unfold toI ofI; split <;> omega
/-- Less, by the halves. -/
theorem lessW (n m : Nat) (hn : n < 340282366920938463463374607431768211456) (hm : m < 340282366920938463463374607431768211456) : (decide (hiV n < hiV m) || (decide (hiV n = hiV m) && decide (loV n < loV m))) = decide (toI n < toI m) := by
  rw [toI_hi n hn, toI_hi m hm]
  have h1 : 0 ≤ loV n ∧ loV n < 18446744073709551616 := by unfold loV; omega
  have h2 : 0 ≤ loV m ∧ loV m < 18446744073709551616 := by unfold loV; omega
  rw [Bool.eq_iff_iff]
  simp only [Bool.or_eq_true, Bool.and_eq_true, decide_eq_true_eq]
  constructor
  · rintro (h | ⟨h, k⟩) <;> omega
  · intro h
    by_cases hlt : hiV n < hiV m
    · exact .inl hlt
    · exact .inr (by omega)
/-- Clipped to 64 bits. -/
def clipV (x : Int) : Int := max (-9223372036854775808) (min 9223372036854775807 x)
def clipO (x : Int) : Bool := decide (x < -9223372036854775808 ∨ 9223372036854775807 < x)
theorem lo_clip (n : Nat) (hn : n < 340282366920938463463374607431768211456) (h1 : -9223372036854775808 ≤ toI n) (h2 : toI n ≤ 9223372036854775807) : wrap64 (loV n) = toI n := by
  unfold toI loV wrap64 at *
  split at h1 <;> rename_i hc
  · rw [if_pos hc] at h2 ⊢; omega
  · rw [if_neg hc] at h2 ⊢; omega
theorem ofI_add (a b : Int) : (ofI a + ofI b) % 340282366920938463463374607431768211456 = ofI (a + b) := by unfold ofI; omega
theorem ofI_neg (a : Int) : (340282366920938463463374607431768211456 - ofI a) % 340282366920938463463374607431768211456 = ofI (-a) := by unfold ofI; omega
theorem ofI_toI (n : Nat) (h : n < 340282366920938463463374607431768211456) : ofI (toI n) = n := by unfold ofI toI; split <;> omega
end Go.Proofs.Ytihalkpcddnikaa
