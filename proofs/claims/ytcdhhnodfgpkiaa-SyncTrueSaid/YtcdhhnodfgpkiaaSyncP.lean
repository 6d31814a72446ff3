/-
  The keeper of another clock: its state, as it lies in a block, and what it knows at a tick.
-/
import Derived.Test.YtcdhhnodfgpkiaaObj
import Derived.Test.YtcdhhnodfgpkiaaLib2
import Derived.Test.YtcdhhnodfgpkiaaBaseB
namespace Go.Proofs.Ytcdhhnodfgpkiaa
open Go.RowKit

structure SyncS where
  delay : Int
  rate : Int
  most : Int
  known : Bool
  lo : Int
  hi : Int
  at_ : Int
  odd : Int
def syncV (S : SyncS) (i : Nat) : Value :=
  if i = 0 then .int .i64 S.delay else if i = 1 then .int .i64 S.rate else if i = 2 then .int .i64 S.most else if i = 3 then .bool S.known
  else if i = 4 then .int .i64 S.lo else if i = 5 then .int .i64 S.hi else if i = 6 then .int .i64 S.at_ else .int .i64 S.odd
def SyncAt (w : World) (c : Nat) (S : SyncS) : Prop := Cells w c 8 (syncV S)
section
variable {w w' : World} {c : Nat} {S : SyncS}
theorem SyncAt.alloc {o : Obj} (h : SyncAt w c S) : SyncAt (w.alloc o) c S := Cells.alloc h
theorem SyncAt.up {x : World} (h : SyncAt w c S) : SyncAt (up w x) c S := Cells.up h
theorem SyncAt.drew (h : SyncAt w c S) : SyncAt w.drew c S := Cells.drew h
theorem SyncAt.below {B : Nat} (h : SyncAt w c S) (hb : Below B w w') (hc : c < B) : SyncAt w' c S := Cells.below h hb hc
theorem SyncAt.kept {row : Option Nat} (h : SyncAt w c S) (hg : w.grownBy w' row) (hne : some c ≠ row) : SyncAt w' c S := Cells.kept h hg hne
theorem SyncAt.cells (h : SyncAt w c S) : w.cell? ⟨c, 0, none⟩ = some (.int .i64 S.delay) ∧ w.cell? ⟨c, 1, none⟩ = some (.int .i64 S.rate) ∧ w.cell? ⟨c, 2, none⟩ = some (.int .i64 S.most) ∧ w.cell? ⟨c, 3, none⟩ = some (.bool S.known) ∧
    w.cell? ⟨c, 4, none⟩ = some (.int .i64 S.lo) ∧ w.cell? ⟨c, 5, none⟩ = some (.int .i64 S.hi) ∧ w.cell? ⟨c, 6, none⟩ = some (.int .i64 S.at_) ∧ w.cell? ⟨c, 7, none⟩ = some (.int .i64 S.odd) :=
  ⟨h.at_ 0 (by omega), h.at_ 1 (by omega), h.at_ 2 (by omega), h.at_ 3 (by omega), h.at_ 4 (by omega), h.at_ 5 (by omega), h.at_ 6 (by omega), h.at_ 7 (by omega)⟩
end

/-- What may be. -/
structure SyncOK (S : SyncS) : Prop where
  d0 : 0 ≤ S.delay
  d1 : S.delay ≤ 65535
  r0 : 0 ≤ S.rate
  r1 : S.rate ≤ 1048576
  m0 : 1 ≤ S.most
  m1 : S.most ≤ 100
  a0 : 0 ≤ S.at_
  a1 : S.at_ ≤ 1099511627776
  l0 : -1099511627776 ≤ S.lo
  lh : S.lo ≤ S.hi
  h1 : S.hi ≤ 1099511693311
  o0 : 0 ≤ S.odd
  o1 : S.odd < S.most

/-- The ticks that have gone by since. -/
def goneN (S : SyncS) (t : Int) : Int := if t < S.at_ then 0 else if t ≤ 1099511627776 then t - S.at_ else 1099511627776 - S.at_
def byN (S : SyncS) (t : Int) : Int := (goneN S t * S.rate + 1048575) / 1048576
theorem gone_bd {S : SyncS} (ok : SyncOK S) (t : Int) : 0 ≤ goneN S t ∧ goneN S t ≤ 1099511627776 := by
  have := ok.a0; have := ok.a1
  unfold goneN; split
  · omega
  · split <;> omega
theorem mul_bd {S : SyncS} (ok : SyncOK S) (t : Int) : 0 ≤ goneN S t * S.rate ∧ goneN S t * S.rate ≤ 1152921504606846976 := by
  obtain ⟨h1, h2⟩ := gone_bd ok t
  refine ⟨Int.mul_nonneg h1 ok.r0, ?_⟩
  have := Int.mul_le_mul h2 ok.r1 ok.r0 (by omega : (0 : Int) ≤ 1099511627776)
  simpa using this
theorem by_bd {S : SyncS} (ok : SyncOK S) (t : Int) : 0 ≤ byN S t ∧ byN S t ≤ 1099511627776 := by
  obtain ⟨h1, h2⟩ := mul_bd ok t
  unfold byN; omega
end Go.Proofs.Ytcdhhnodfgpkiaa
