/-
  The keeper of quarantines: its state, as it lies in a block; what its calls do to it.
-/
import Derived.Test.YtihalkpcddnikaaLockP
namespace Go.Proofs.Ytihalkpcddnikaa.Q
open Go.RowKit

structure QOne where
  st : Int
  bad : Int
  good : Int
  til : Int
  times : Int
structure QuarS where
  bad : Int
  hold : Int
  prove : Int
  l : Nat → QOne
def QOne.zero : QOne := ⟨0, 0, 0, 0, 0⟩
def qoneV (o : QOne) (r : Nat) : Value := .int .i64 (if r = 0 then o.st else if r = 1 then o.bad else if r = 2 then o.good else if r = 3 then o.til else o.times)
def quarV (S : QuarS) (i : Nat) : Value := if i = 0 then .int .i64 S.bad else if i = 1 then .int .i64 S.hold else if i = 2 then .int .i64 S.prove else qoneV (S.l ((i - 3) / 5)) ((i - 3) % 5)
def QuarS.put (S : QuarS) (j : Nat) (o : QOne) : QuarS := ⟨S.bad, S.hold, S.prove, fun k => if k = j then o else S.l k⟩
theorem QuarS.put_same (S : QuarS) (j : Nat) (o : QOne) : (S.put j o).l j = o := if_pos rfl
theorem QuarS.put_other (S : QuarS) {j k : Nat} (o : QOne) (h : k ≠ j) : (S.put j o).l k = S.l k := if_neg h
theorem QuarS.put_put (S : QuarS) (j : Nat) (o o' : QOne) : (S.put j o).put j o' = S.put j o' := by
  unfold QuarS.put; congr 1; funext k; by_cases h : k = j <;> simp [h]
theorem QuarS.put_self (S : QuarS) (j : Nat) : S.put j (S.l j) = S := by
  obtain ⟨a, b, c, l⟩ := S
  unfold QuarS.put; congr 1; funext k; by_cases h : k = j <;> simp [h]
theorem quarV_at (S : QuarS) (j r : Nat) (hr : r < 5) : quarV S (3 + j * 5 + r) = qoneV (S.l j) r := by
  unfold quarV
  rw [if_neg (by omega), if_neg (by omega), if_neg (by omega), show (3 + j * 5 + r - 3) / 5 = j by omega, show (3 + j * 5 + r - 3) % 5 = r by omega]
def QuarAt (w : World) (c : Nat) (S : QuarS) : Prop := Cells w c 43 (quarV S)
section
variable {w w' : World} {c : Nat} {S : QuarS}
theorem QuarAt.alloc {o : Obj} (h : QuarAt w c S) : QuarAt (w.alloc o) c S := Cells.alloc h
theorem QuarAt.up {x : World} (h : QuarAt w c S) : QuarAt (up w x) c S := Cells.up h
theorem QuarAt.drew (h : QuarAt w c S) : QuarAt w.drew c S := Cells.drew h
theorem QuarAt.below {B : Nat} (h : QuarAt w c S) (hb : Below B w w') (hc : c < B) : QuarAt w' c S := Cells.below h hb hc
theorem QuarAt.kept {row : Option Nat} (h : QuarAt w c S) (hg : w.grownBy w' row) (hne : some c ≠ row) : QuarAt w' c S := Cells.kept h hg hne
theorem QuarAt.c0 (h : QuarAt w c S) : w.cell? ⟨c, 0, none⟩ = some (.int .i64 S.bad) := h.at_ 0 (by omega)
theorem QuarAt.c1 (h : QuarAt w c S) : w.cell? ⟨c, 1, none⟩ = some (.int .i64 S.hold) := h.at_ 1 (by omega)
theorem QuarAt.c2 (h : QuarAt w c S) : w.cell? ⟨c, 2, none⟩ = some (.int .i64 S.prove) := h.at_ 2 (by omega)
theorem QuarAt.one (h : QuarAt w c S) (j : Nat) (hj : j < 8) :
    w.cell? ⟨c, 3 + j * 5, none⟩ = some (.int .i64 (S.l j).st) ∧ w.cell? ⟨c, 3 + j * 5 + 1, none⟩ = some (.int .i64 (S.l j).bad) ∧ w.cell? ⟨c, 3 + j * 5 + 2, none⟩ = some (.int .i64 (S.l j).good) ∧
    w.cell? ⟨c, 3 + j * 5 + 3, none⟩ = some (.int .i64 (S.l j).til) ∧ w.cell? ⟨c, 3 + j * 5 + 4, none⟩ = some (.int .i64 (S.l j).times) := by
  refine ⟨?_, ?_, ?_, ?_, ?_⟩
  · have := h.at_ (3 + j * 5 + 0) (by omega); rwa [quarV_at S j 0 (by omega)] at this
  · have := h.at_ (3 + j * 5 + 1) (by omega); rwa [quarV_at S j 1 (by omega)] at this
  · have := h.at_ (3 + j * 5 + 2) (by omega); rwa [quarV_at S j 2 (by omega)] at this
  · have := h.at_ (3 + j * 5 + 3) (by omega); rwa [quarV_at S j 3 (by omega)] at this
  · have := h.at_ (3 + j * 5 + 4) (by omega); rwa [quarV_at S j 4 (by omega)] at this
theorem QuarAt.setR (h : QuarAt w c S) (j r : Nat) (hj : j < 8) (hr : r < 5) (v : Value) (o : QOne) (h1 : v = qoneV o r) (h2 : ∀ q, q < 5 → q ≠ r → qoneV (S.l j) q = qoneV o q) :
    QuarAt (w.setCell ⟨c, 3 + j * 5 + r, none⟩ v) c (S.put j o) := by
  refine (Cells.set h (3 + j * 5 + r) (by omega) v).same (fun i hi => ?_)
  by_cases e : i = 3 + j * 5 + r
  · rw [if_pos e, e, quarV_at _ _ _ hr, QuarS.put_same]; exact h1
  · rw [if_neg e]
    by_cases h0 : i < 3
    · rcases i with _ | _ | _ | i <;> first | rfl | omega
    · obtain ⟨k, q, hq, rfl⟩ : ∃ k q, q < 5 ∧ i = 3 + k * 5 + q := ⟨(i - 3) / 5, (i - 3) % 5, by omega, by omega⟩
      rw [quarV_at _ _ _ hq, quarV_at _ _ _ hq]
      by_cases hk : k = j
      · subst hk; rw [QuarS.put_same]; exact h2 q hq (by omega)
      · rw [QuarS.put_other _ _ hk]
theorem QuarAt.set0 (h : QuarAt w c S) (j : Nat) (hj : j < 8) (v : Int) : QuarAt (w.setCell ⟨c, 3 + j * 5, none⟩ (.int .i64 v)) c (S.put j ⟨v, (S.l j).bad, (S.l j).good, (S.l j).til, (S.l j).times⟩) :=
  h.setR j 0 hj (by omega) _ _ rfl (fun q hq hne => by rcases q with _ | _ | _ | _ | _ | q <;> first | rfl | omega)
theorem QuarAt.set1 (h : QuarAt w c S) (j : Nat) (hj : j < 8) (v : Int) : QuarAt (w.setCell ⟨c, 3 + j * 5 + 1, none⟩ (.int .i64 v)) c (S.put j ⟨(S.l j).st, v, (S.l j).good, (S.l j).til, (S.l j).times⟩) :=
  h.setR j 1 hj (by omega) _ _ rfl (fun q hq hne => by rcases q with _ | _ | _ | _ | _ | q <;> first | rfl | omega)
theorem QuarAt.set2 (h : QuarAt w c S) (j : Nat) (hj : j < 8) (v : Int) : QuarAt (w.setCell ⟨c, 3 + j * 5 + 2, none⟩ (.int .i64 v)) c (S.put j ⟨(S.l j).st, (S.l j).bad, v, (S.l j).til, (S.l j).times⟩) :=
  h.setR j 2 hj (by omega) _ _ rfl (fun q hq hne => by rcases q with _ | _ | _ | _ | _ | q <;> first | rfl | omega)
theorem QuarAt.set3 (h : QuarAt w c S) (j : Nat) (hj : j < 8) (v : Int) : QuarAt (w.setCell ⟨c, 3 + j * 5 + 3, none⟩ (.int .i64 v)) c (S.put j ⟨(S.l j).st, (S.l j).bad, (S.l j).good, v, (S.l j).times⟩) :=
  h.setR j 3 hj (by omega) _ _ rfl (fun q hq hne => by rcases q with _ | _ | _ | _ | _ | q <;> first | rfl | omega)
theorem QuarAt.set4 (h : QuarAt w c S) (j : Nat) (hj : j < 8) (v : Int) : QuarAt (w.setCell ⟨c, 3 + j * 5 + 4, none⟩ (.int .i64 v)) c (S.put j ⟨(S.l j).st, (S.l j).bad, (S.l j).good, (S.l j).til, v⟩) :=
  h.setR j 4 hj (by omega) _ _ rfl (fun q hq hne => by rcases q with _ | _ | _ | _ | _ | q <;> first | rfl | omega)
theorem QuarAt.setAll (h : QuarAt w c S) (j : Nat) (hj : j < 8) (a b d e f : Int) :
    QuarAt (((((w.setCell ⟨c, 3 + j * 5, none⟩ (.int .i64 a)).setCell ⟨c, 3 + j * 5 + 1, none⟩ (.int .i64 b)).setCell ⟨c, 3 + j * 5 + 2, none⟩ (.int .i64 d)).setCell ⟨c, 3 + j * 5 + 3, none⟩ (.int .i64 e)).setCell ⟨c, 3 + j * 5 + 4, none⟩ (.int .i64 f)) c (S.put j ⟨a, b, d, e, f⟩) := by
  have L := ((((h.set0 j hj a).set1 j hj b).set2 j hj d).set3 j hj e).set4 j hj f
  simp only [QuarS.put_same, QuarS.put_put] at L
  exact L
end
theorem gr_to_drew {a b : World} {row : Option Nat} (h : a.grownBy b row) : a.grownBy b.drew row := gr_trans h ⟨rfl, rfl, rfl, Nat.le_refl _, fun _ _ _ => rfl⟩
theorem gr_to_drewN {a b : World} {row : Option Nat} (n : Nat) (h : a.grownBy b row) : a.grownBy (b.drewN n) row := gr_trans h ⟨rfl, rfl, rfl, Nat.le_refl _, fun _ _ _ => rfl⟩
theorem gr_to_set {a b : World} {c i : Nat} {v : Value} (h : a.grownBy b (some c)) : a.grownBy (b.setCell ⟨c, i, none⟩ v) (some c) := gr_trans h (gr_set b c i v)
theorem gr_to_up {a b : World} {row : Option Nat} (h : a.grownBy b row) (x : World) : a.grownBy (up b x) row := gr_trans h (gr_below _ (up_below b x))
theorem gr_to_alloc {a b : World} {o : Obj} {row : Option Nat} (h : a.grownBy b row) : a.grownBy (b.alloc o) row := gr_trans h (gr_below _ ((Below.refl _ b).alloc (Nat.le_refl _) o))

/-! ### What happens to one -/
def wakeO (o : QOne) (t : Int) : QOne := if o.st = 2 ∧ o.til ≤ t then ⟨3, o.bad, 0, 0, o.times⟩ else o
def awayO (S : QuarS) (o : QOne) (t : Int) : QOne := ⟨2, 0, 0, t + S.hold, o.times + 1⟩
def goodO (S : QuarS) (o : QOne) : QOne :=
  if o.st = 1 then ⟨0, 0, o.good, o.til, o.times⟩
  else if o.st = 3 then (if o.good + 1 = S.prove then ⟨0, o.bad, 0, o.til, o.times⟩ else ⟨o.st, o.bad, o.good + 1, o.til, o.times⟩) else o
def badO (S : QuarS) (o : QOne) (t : Int) : QOne := if o.st = 2 then o else if o.st ≠ 3 ∧ o.bad + 1 < S.bad then ⟨1, o.bad + 1, o.good, o.til, o.times⟩ else awayO S o t
def hapO (S : QuarS) (o : QOne) (t k : Int) : QOne :=
  if k = 1 then goodO S (wakeO o t) else if k = 2 then badO S (wakeO o t) t else if k = 3 then awayO S (wakeO o t) t else wakeO o t
structure OneOK (S : QuarS) (n : Int) (o : QOne) : Prop where
  s0 : 0 ≤ o.st
  s1 : o.st ≤ 3
  b0 : 0 ≤ o.bad
  b1 : o.bad < S.bad
  g0 : 0 ≤ o.good
  g1 : o.good < S.prove
  u0 : 0 ≤ o.til
  u1 : o.til ≤ 1099511693311
  t0 : 0 ≤ o.times
  t1 : o.times ≤ n
structure QuarOK (S : QuarS) (n : Int) : Prop where
  b1 : 1 ≤ S.bad
  b2 : S.bad ≤ 100
  h1 : 1 ≤ S.hold
  h2 : S.hold ≤ 65535
  p1 : 1 ≤ S.prove
  p2 : S.prove ≤ 100
  one : ∀ j, OneOK S n (S.l j)
theorem OneOK.mono {S : QuarS} {n m : Int} {o : QOne} (h : OneOK S n o) (hm : n ≤ m) : OneOK S m o := ⟨h.s0, h.s1, h.b0, h.b1, h.g0, h.g1, h.u0, h.u1, h.t0, Int.le_trans h.t1 hm⟩
theorem QuarOK.mono {S : QuarS} {n m : Int} (h : QuarOK S n) (hm : n ≤ m) : QuarOK S m := ⟨h.b1, h.b2, h.h1, h.h2, h.p1, h.p2, fun j => (h.one j).mono hm⟩
theorem OneOK.wake {S : QuarS} {n : Int} {o : QOne} (ok : QuarOK S n) (h : OneOK S n o) (t : Int) : OneOK S n (wakeO o t) := by
  have := ok.p1
  unfold wakeO; split
  · exact ⟨by simp, by simp, h.b0, h.b1, by simp, by simp; omega, by simp, by simp, h.t0, h.t1⟩
  · exact h
theorem OneOK.away {S : QuarS} {n : Int} {o : QOne} (ok : QuarOK S n) (h : OneOK S n o) {t : Int} (ht : 0 ≤ t ∧ t ≤ 1099511627776) : OneOK S (n + 1) (awayO S o t) := by
  have := ok.p1; have := ok.b1; have := ok.h1; have := ok.h2; have := h.t0; have := h.t1
  exact ⟨by simp [awayO], by simp [awayO], by simp [awayO], by simp [awayO]; omega, by simp [awayO], by simp [awayO]; omega, by simp [awayO]; omega, by simp [awayO]; omega, by simp [awayO]; omega, by simp [awayO]; omega⟩
theorem OneOK.hap {S : QuarS} {n : Int} {o : QOne} (ok : QuarOK S n) (h0 : OneOK S n o) {t : Int} (ht : 0 ≤ t ∧ t ≤ 1099511627776) (k : Int) : OneOK S (n + 1) (hapO S o t k) := by
  have h := h0.wake ok t
  have hb := ok.b1; have hp := ok.p1
  unfold hapO
  split
  · have := h.g1; have := h.g0; have := h.t1
    unfold goodO
    split
    · exact ⟨by simp, by simp, by simp, by simp; omega, h.g0, h.g1, h.u0, h.u1, h.t0, by simp; omega⟩
    · split
      · split
        · exact ⟨by simp, by simp, h.b0, h.b1, by simp, by simp; omega, h.u0, h.u1, h.t0, by simp; omega⟩
        · exact ⟨h.s0, h.s1, h.b0, h.b1, by simp; omega, by simp; omega, h.u0, h.u1, h.t0, by simp; omega⟩
      · exact h.mono (by omega)
  · split
    · have := h.b0
      unfold badO
      split
      · exact h.mono (by omega)
      · split
        · exact ⟨by simp, by simp, by simp; omega, by simp; omega, h.g0, h.g1, h.u0, h.u1, h.t0, (h.mono (show n ≤ n + 1 by omega)).t1⟩
        · exact h.away ok ht
    · split
      · exact h.away ok ht
      · exact h.mono (by omega)

def hapE (s t : Int) : Int := if srcB s then (if tickB t then 0 else 2) else 2
def hapS (S : QuarS) (s t k : Int) : QuarS := if hapE s t = 0 then S.put s.toNat (hapO S (S.l s.toNat) t k) else S
def hapN (S : QuarS) (s t k : Int) : Int := if hapE s t = 0 then (hapO S (S.l s.toNat) t k).st else 0
def qlookO (S : QuarS) (s : Int) : QOne := if srcB s then S.l s.toNat else QOne.zero
def kindV (d : Int) : Int := (amongV d 8 + 2) / 3
theorem kind_bd (d : Int) : 0 ≤ kindV d ∧ kindV d ≤ 3 := by have := amongV_bd d 8 (by omega); unfold kindV; omega
theorem hapE_cases (s t : Int) : (hapE s t = 0 ∧ srcB s = true ∧ tickB t = true) ∨ (hapE s t = 2 ∧ (srcB s = false ∨ (srcB s = true ∧ tickB t = false))) := by
  unfold hapE
  cases srcB s <;> cases tickB t <;> simp
theorem QuarOK.put {S : QuarS} {n : Int} (h : QuarOK S n) (j : Nat) (o : QOne) (ho : OneOK S n o) : QuarOK (S.put j o) n :=
  ⟨h.b1, h.b2, h.h1, h.h2, h.p1, h.p2, fun k => by
    by_cases hk : k = j
    · subst hk; rw [QuarS.put_same]; exact ⟨ho.s0, ho.s1, ho.b0, ho.b1, ho.g0, ho.g1, ho.u0, ho.u1, ho.t0, ho.t1⟩
    · rw [QuarS.put_other _ _ hk]; have ho := h.one k; exact ⟨ho.s0, ho.s1, ho.b0, ho.b1, ho.g0, ho.g1, ho.u0, ho.u1, ho.t0, ho.t1⟩⟩
theorem QuarOK.hap {S : QuarS} {n : Int} (h : QuarOK S n) (s t k : Int) : QuarOK (hapS S s t k) (n + 1) := by
  unfold hapS
  split
  · rename_i he
    rcases hapE_cases s t with ⟨_, _, ht⟩ | ⟨e2, _⟩
    · exact (h.mono (by omega)).put _ _ (((h.one _).hap h (tick_in ht) k))
    · omega
  · exact h.mono (by omega)
end Go.Proofs.Ytihalkpcddnikaa.Q
