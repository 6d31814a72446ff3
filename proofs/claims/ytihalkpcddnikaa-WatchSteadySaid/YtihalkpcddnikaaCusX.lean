/-
  The complement of an int64.
-/
import Derived.Test.YtihalkpcddnikaaCusT
namespace Go.Proofs.Ytihalkpcddnikaa
open Go.RowKit
theorem xorM (r : Int) (h : I64 r) : bits .xor .i64 (if IntKind.i64.signed = true then -1 else 9223372036854775807) r = -1 - r := by
  have e : (if IntKind.i64.signed = true then (-1 : Int) else 9223372036854775807) = -1 := by rfl
  rw [e]
  unfold I64 at h
  show IntKind.i64.wrap ((BitVec.ofInt 64 (-1) ^^^ BitVec.ofInt 64 r).toNat : Int) = _
  have h1 : BitVec.ofInt 64 (-1) ^^^ BitVec.ofInt 64 r = ~~~ (BitVec.ofInt 64 r) := by
    rw [show BitVec.ofInt 64 (-1) = BitVec.allOnes 64 from by decide, BitVec.allOnes_xor]
  have h2 := BitVec.toNat_ofInt (n := 64) r
  rw [h1, BitVec.toNat_not, h2, IntKind.wrap_i64]
  omega
end Go.Proofs.Ytihalkpcddnikaa
