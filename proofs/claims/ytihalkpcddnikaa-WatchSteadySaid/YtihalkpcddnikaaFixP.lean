/-
  Signs of 64-bit sums without carry: the plain law under fix.Sub and fix.Add.
-/
import Derived.Test.YtihalkpcddnikaaLib
namespace Go.Proofs.Ytihalkpcddnikaa
open Go.RowKit

theorem wrap_toNat_neg (r : BitVec 64) : (IntKind.i64.wrap r.toNat < 0) ↔ r.msb = true := by
  rw [IntKind.wrap_i64, BitVec.msb_eq_decide]
  have := r.isLt
  simp only [decide_eq_true_eq]
  omega
theorem ofInt_msb {x : Int} (h1 : -9223372036854775808 ≤ x) (h2 : x ≤ 9223372036854775807) : (BitVec.ofInt 64 x).msb = decide (x < 0) := by
  rw [BitVec.msb_eq_decide, BitVec.toNat_ofInt]
  rw [decide_eq_decide]
  simp only [Nat.reducePow, Nat.reduceSub]
  omega
theorem ofInt_wrap (r : BitVec 64) : BitVec.ofInt 64 (IntKind.i64.wrap r.toNat) = r := by
  rw [IntKind.wrap_i64]
  apply BitVec.eq_of_toNat_eq
  rw [BitVec.toNat_ofInt]
  have := r.isLt
  simp only [Nat.reducePow]
  omega
theorem xor_i64 (x y : Int) : bits .xor .i64 x y = IntKind.i64.wrap (BitVec.ofInt 64 x ^^^ BitVec.ofInt 64 y).toNat := rfl
theorem and_i64 (x y : Int) : bits .and .i64 x y = IntKind.i64.wrap (BitVec.ofInt 64 x &&& BitVec.ofInt 64 y).toNat := rfl
/-- Do a and b differ in sign, and a and d too? -/
theorem signs {a b d : Int} (ha : -9223372036854775808 ≤ a) (ha' : a ≤ 9223372036854775807) (hb : -9223372036854775808 ≤ b) (hb' : b ≤ 9223372036854775807) (hd : -9223372036854775808 ≤ d) (hd' : d ≤ 9223372036854775807) :
    (0 ≤ bits .and .i64 (bits .xor .i64 a b) (bits .xor .i64 a d)) ↔ ¬ ((decide (a < 0) ≠ decide (b < 0)) ∧ (decide (a < 0) ≠ decide (d < 0))) := by
  rw [xor_i64, xor_i64, and_i64, ofInt_wrap, ofInt_wrap]
  have h := wrap_toNat_neg ((BitVec.ofInt 64 a ^^^ BitVec.ofInt 64 b) &&& (BitVec.ofInt 64 a ^^^ BitVec.ofInt 64 d))
  rw [BitVec.msb_and, BitVec.msb_xor, BitVec.msb_xor, ofInt_msb ha ha', ofInt_msb hb hb', ofInt_msb hd hd'] at h
  rw [← Int.not_lt, h]
  cases decide (a < 0) <;> cases decide (b < 0) <;> cases decide (d < 0) <;> simp
def subV (a b : Int) : Int := max (-9223372036854775808) (min 9223372036854775807 (a - b))
def subO (a b : Int) : Bool := decide (a - b < -9223372036854775808 ∨ 9223372036854775807 < a - b)
theorem wrap64_bd (n : Int) : -9223372036854775808 ≤ wrap64 n ∧ wrap64 n ≤ 9223372036854775807 := by unfold wrap64; omega
theorem sub_in {a b : Int} (ha : -9223372036854775808 ≤ a) (ha' : a ≤ 9223372036854775807) (hb : -9223372036854775808 ≤ b) (hb' : b ≤ 9223372036854775807)
    (h : 0 ≤ bits .and .i64 (bits .xor .i64 a b) (bits .xor .i64 a (wrap64 (a - b)))) : wrap64 (a - b) = subV a b ∧ subO a b = false := by
  obtain ⟨w1, w2⟩ := wrap64_bd (a - b)
  rw [signs ha ha' hb hb' w1 w2] at h
  have hh : -9223372036854775808 ≤ a - b ∧ a - b ≤ 9223372036854775807 := by
    by_cases h1 : a < 0 <;> by_cases h2 : b < 0 <;> by_cases h3 : wrap64 (a - b) < 0 <;> simp [h1, h2, h3] at h <;> unfold wrap64 at h3 <;> omega
  constructor
  · rw [IntWalk.wrap64_in _ hh]; unfold subV; omega
  · unfold subO; simp; omega
theorem sub_out {a b : Int} (ha : -9223372036854775808 ≤ a) (ha' : a ≤ 9223372036854775807) (hb : -9223372036854775808 ≤ b) (hb' : b ≤ 9223372036854775807)
    (h : bits .and .i64 (bits .xor .i64 a b) (bits .xor .i64 a (wrap64 (a - b))) < 0) : subV a b = (if a < 0 then -9223372036854775808 else 9223372036854775807) ∧ subO a b = true := by
  obtain ⟨w1, w2⟩ := wrap64_bd (a - b)
  have h' := (not_congr (signs ha ha' hb hb' w1 w2)).1 (Int.not_le.2 h)
  have hh : ¬ (-9223372036854775808 ≤ a - b ∧ a - b ≤ 9223372036854775807) ∧ ((a < 0) ↔ a - b < 0) := by
    by_cases h1 : a < 0 <;> by_cases h2 : b < 0 <;> by_cases h3 : wrap64 (a - b) < 0 <;> simp [h1, h2, h3] at h' <;> unfold wrap64 at h3 <;> omega
  constructor
  · unfold subV; split <;> omega
  · unfold subO; simp; omega
def absV (a : Int) : Int := if a < 0 then (if a = -9223372036854775808 then 9223372036854775807 else -a) else a
def absO (a : Int) : Bool := decide (a = -9223372036854775808)
theorem absV_bd {a : Int} (h : -9223372036854775808 ≤ a) (h' : a ≤ 9223372036854775807) : 0 ≤ absV a ∧ absV a ≤ 9223372036854775807 := by unfold absV; split <;> (try split) <;> omega
end Go.Proofs.Ytihalkpcddnikaa
