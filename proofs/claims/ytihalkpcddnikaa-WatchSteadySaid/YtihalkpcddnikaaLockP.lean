/-
  The keeper of lock-outs: its state, as it lies in a block; what its calls do to it.
-/
import Derived.Test.YtihalkpcddnikaaObj
import Derived.Test.YtihalkpcddnikaaLib2
import Derived.Test.YtihalkpcddnikaaBaseB
namespace Go.Proofs.Ytihalkpcddnikaa.Q
open Go.RowKit

structure OneS where
  fails : Int
  total : Int
  til : Int
structure LockS where
  most : Int
  time : Int
  l : Nat → OneS
def OneS.zero : OneS := ⟨0, 0, 0⟩
def oneV (o : OneS) (r : Nat) : Value := .int .i64 (if r = 0 then o.fails else if r = 1 then o.total else o.til)
def lockV (S : LockS) (i : Nat) : Value := if i = 0 then .int .i64 S.most else if i = 1 then .int .i64 S.time else oneV (S.l ((i - 2) / 3)) ((i - 2) % 3)
def LockS.put (S : LockS) (j : Nat) (o : OneS) : LockS := ⟨S.most, S.time, fun k => if k = j then o else S.l k⟩
theorem LockS.put_same (S : LockS) (j : Nat) (o : OneS) : (S.put j o).l j = o := if_pos rfl
theorem LockS.put_other (S : LockS) {j k : Nat} (o : OneS) (h : k ≠ j) : (S.put j o).l k = S.l k := if_neg h
theorem lockV_at (S : LockS) (j r : Nat) (hr : r < 3) : lockV S (2 + j * 3 + r) = oneV (S.l j) r := by
  unfold lockV
  rw [if_neg (by omega), if_neg (by omega), show (2 + j * 3 + r - 2) / 3 = j by omega, show (2 + j * 3 + r - 2) % 3 = r by omega]
def LockAt (w : World) (c : Nat) (S : LockS) : Prop := Cells w c 26 (lockV S)
theorem LockAt.alloc {w : World} {o : Obj} {c : Nat} {S : LockS} (h : LockAt w c S) : LockAt (w.alloc o) c S := Cells.alloc h
theorem LockAt.up {w x : World} {c : Nat} {S : LockS} (h : LockAt w c S) : LockAt (up w x) c S := Cells.up h
theorem LockAt.drew {w : World} {c : Nat} {S : LockS} (h : LockAt w c S) : LockAt w.drew c S := Cells.drew h
theorem LockAt.below {w w' : World} {c B : Nat} {S : LockS} (h : LockAt w c S) (hb : Below B w w') (hc : c < B) : LockAt w' c S := Cells.below h hb hc
theorem LockAt.kept {w w' : World} {c : Nat} {row : Option Nat} {S : LockS} (h : LockAt w c S) (hg : w.grownBy w' row) (hne : some c ≠ row) : LockAt w' c S := Cells.kept h hg hne
theorem LockAt.most {w : World} {c : Nat} {S : LockS} (h : LockAt w c S) : w.cell? ⟨c, 0, none⟩ = some (.int .i64 S.most) := h.at_ 0 (by omega)
theorem LockAt.time {w : World} {c : Nat} {S : LockS} (h : LockAt w c S) : w.cell? ⟨c, 1, none⟩ = some (.int .i64 S.time) := h.at_ 1 (by omega)
theorem LockAt.fails {w : World} {c : Nat} {S : LockS} (h : LockAt w c S) (j : Nat) (hj : j < 8) : w.cell? ⟨c, 2 + j * 3, none⟩ = some (.int .i64 (S.l j).fails) := by
  have := h.at_ (2 + j * 3 + 0) (by omega); rwa [lockV_at S j 0 (by omega)] at this
theorem LockAt.total {w : World} {c : Nat} {S : LockS} (h : LockAt w c S) (j : Nat) (hj : j < 8) : w.cell? ⟨c, 2 + j * 3 + 1, none⟩ = some (.int .i64 (S.l j).total) := by
  have := h.at_ (2 + j * 3 + 1) (by omega); rwa [lockV_at S j 1 (by omega)] at this
theorem LockAt.til {w : World} {c : Nat} {S : LockS} (h : LockAt w c S) (j : Nat) (hj : j < 8) : w.cell? ⟨c, 2 + j * 3 + 2, none⟩ = some (.int .i64 (S.l j).til) := by
  have := h.at_ (2 + j * 3 + 2) (by omega); rwa [lockV_at S j 2 (by omega)] at this
theorem LockAt.setR {w : World} {c : Nat} {S : LockS} (h : LockAt w c S) (j r : Nat) (hj : j < 8) (hr : r < 3) (v : Value) (o : OneS) (h1 : v = oneV o r) (h2 : ∀ q, q < 3 → q ≠ r → oneV (S.l j) q = oneV o q) :
    LockAt (w.setCell ⟨c, 2 + j * 3 + r, none⟩ v) c (S.put j o) := by
  refine (Cells.set h (2 + j * 3 + r) (by omega) v).same (fun i hi => ?_)
  by_cases e : i = 2 + j * 3 + r
  · rw [if_pos e, e, lockV_at _ _ _ hr, LockS.put_same]; exact h1
  · rw [if_neg e]
    by_cases h0 : i = 0
    · subst h0; rfl
    · by_cases h1' : i = 1
      · subst h1'; rfl
      · obtain ⟨k, q, hq, rfl⟩ : ∃ k q, q < 3 ∧ i = 2 + k * 3 + q := ⟨(i - 2) / 3, (i - 2) % 3, by omega, by omega⟩
        rw [lockV_at _ _ _ hq, lockV_at _ _ _ hq]
        by_cases hk : k = j
        · subst hk; rw [LockS.put_same]; exact h2 q hq (by omega)
        · rw [LockS.put_other _ _ hk]
theorem LockAt.setFails {w : World} {c : Nat} {S : LockS} (h : LockAt w c S) (j : Nat) (hj : j < 8) (v : Int) : LockAt (w.setCell ⟨c, 2 + j * 3, none⟩ (.int .i64 v)) c (S.put j ⟨v, (S.l j).total, (S.l j).til⟩) :=
  h.setR j 0 hj (by omega) _ _ rfl (fun q hq hne => by unfold oneV; rw [if_neg hne, if_neg hne])
theorem LockAt.setTotal {w : World} {c : Nat} {S : LockS} (h : LockAt w c S) (j : Nat) (hj : j < 8) (v : Int) : LockAt (w.setCell ⟨c, 2 + j * 3 + 1, none⟩ (.int .i64 v)) c (S.put j ⟨(S.l j).fails, v, (S.l j).til⟩) :=
  h.setR j 1 hj (by omega) _ _ rfl (fun q hq hne => by unfold oneV; split <;> first | rfl | (rw [if_neg hne]; rfl))
theorem LockAt.setTil {w : World} {c : Nat} {S : LockS} (h : LockAt w c S) (j : Nat) (hj : j < 8) (v : Int) : LockAt (w.setCell ⟨c, 2 + j * 3 + 2, none⟩ (.int .i64 v)) c (S.put j ⟨(S.l j).fails, (S.l j).total, v⟩) :=
  h.setR j 2 hj (by omega) _ _ rfl (fun q hq hne => by unfold oneV; split; rfl; split; rfl; omega)
theorem LockS.put_put (S : LockS) (j : Nat) (o o' : OneS) : (S.put j o).put j o' = S.put j o' := by
  unfold LockS.put; congr 1; funext k; by_cases h : k = j <;> simp [h]

/-- What may be: so many failures at most. -/
structure LockOK (S : LockS) (n : Int) : Prop where
  m1 : 1 ≤ S.most
  m2 : S.most ≤ 1000
  t1 : 1 ≤ S.time
  t2 : S.time ≤ 65535
  f1 : ∀ j, 0 ≤ (S.l j).fails
  f2 : ∀ j, (S.l j).fails ≤ n
  o1 : ∀ j, 0 ≤ (S.l j).total
  o2 : ∀ j, (S.l j).total ≤ n
  u1 : ∀ j, 0 ≤ (S.l j).til
  u2 : ∀ j, (S.l j).til ≤ 1099511693311

def srcB (s : Int) : Bool := decide (0 ≤ s ∧ s < 8)
def tickB (t : Int) : Bool := decide (0 ≤ t ∧ t ≤ 1099511627776)
def openE (S : LockS) (s t : Int) : Int := if srcB s then (if tickB t then (if t < (S.l s.toNat).til then 180 else 0) else 2) else 2
def failO (S : LockS) (o : OneS) (t : Int) : OneS := if o.fails + 1 = S.most then ⟨0, o.total + 1, t + S.time⟩ else ⟨o.fails + 1, o.total + 1, o.til⟩
def failS (S : LockS) (s t : Int) : LockS := if openE S s t = 0 then S.put s.toNat (failO S (S.l s.toNat) t) else S
def goodE (s : Int) : Int := if srcB s then 0 else 2
def goodS (S : LockS) (s : Int) : LockS := if srcB s then S.put s.toNat ⟨0, (S.l s.toNat).total, (S.l s.toNat).til⟩ else S
def lookO (S : LockS) (s : Int) : OneS := if srcB s then S.l s.toNat else OneS.zero
theorem src_out {s : Int} (h : srcB s = false) : s < 0 ∨ 8 ≤ s := by simp [srcB] at h; omega
theorem src_in {s : Int} (h : srcB s = true) : ∃ j : Nat, j < 8 ∧ s = j := by simp [srcB] at h; exact ⟨s.toNat, by omega, by omega⟩
theorem tick_in {t : Int} (h : tickB t = true) : 0 ≤ t ∧ t ≤ 1099511627776 := by simpa [tickB] using h
theorem tick_out {t : Int} (h : tickB t = false) : t < 0 ∨ 1099511627776 < t := by simp [tickB] at h; omega
theorem LockOK.mono {S : LockS} {n m : Int} (h : LockOK S n) (hm : n ≤ m) : LockOK S m :=
  ⟨h.m1, h.m2, h.t1, h.t2, h.f1, fun j => Int.le_trans (h.f2 j) hm, h.o1, fun j => Int.le_trans (h.o2 j) hm, h.u1, h.u2⟩
theorem LockOK.put {S : LockS} {n : Int} (h : LockOK S n) (j : Nat) (o : OneS) (ho : 0 ≤ o.fails ∧ o.fails ≤ n ∧ 0 ≤ o.total ∧ o.total ≤ n ∧ 0 ≤ o.til ∧ o.til ≤ 1099511693311) : LockOK (S.put j o) n := by
  obtain ⟨a, b, c, d, e, f⟩ := ho
  refine ⟨h.m1, h.m2, h.t1, h.t2, fun k => ?_, fun k => ?_, fun k => ?_, fun k => ?_, fun k => ?_, fun k => ?_⟩
  all_goals (by_cases hk : k = j; (subst hk; rw [LockS.put_same]; assumption); rw [LockS.put_other _ _ hk])
  · exact h.f1 k
  · exact h.f2 k
  · exact h.o1 k
  · exact h.o2 k
  · exact h.u1 k
  · exact h.u2 k
theorem LockOK.fail {S : LockS} {n : Int} (h : LockOK S n) (s t : Int) : LockOK (failS S s t) (n + 1) := by
  unfold failS
  split
  · rename_i he
    have ht : tickB t = true := by
      unfold openE at he
      split at he
      · split at he
        · assumption
        · cases he
      · cases he
    obtain ⟨t1, t2⟩ := tick_in ht
    have := h.t1; have := h.t2; have := h.f1 s.toNat; have := h.f2 s.toNat; have := h.o1 s.toNat; have := h.o2 s.toNat; have := h.u1 s.toNat; have := h.u2 s.toNat
    refine (h.mono (by omega)).put _ _ ?_
    unfold failO
    split
    · exact ⟨by simp, by simp; omega, by simp; omega, by simp; omega, by simp; omega, by simp; omega⟩
    · exact ⟨by simp; omega, by simp; omega, by simp; omega, by simp; omega, by simp; omega, by simp; omega⟩
  · exact h.mono (by omega)
theorem LockOK.good {S : LockS} {n : Int} (h : LockOK S n) (hn : 0 ≤ n) (s : Int) : LockOK (goodS S s) n := by
  unfold goodS
  split
  · exact h.put _ _ ⟨by simp, by simpa using hn, h.o1 _, h.o2 _, h.u1 _, h.u2 _⟩
  · exact h
end Go.Proofs.Ytihalkpcddnikaa.Q
