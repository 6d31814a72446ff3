/-
  The plain law of WatchSteady.
-/
import Derived.Test.YtihalkpcddnikaaWatJ
namespace Go.Proofs.Ytihalkpcddnikaa
open Go.RowKit Go.Maps
set_option linter.unusedVariables false
set_option linter.unusedSimpArgs false

/-- A judge that has taken k steady readings of source 5, the last one at z. -/
structure SInv (x : Sp) (X : JS) (k : Nat) (z : Int) : Prop where
  o : X.o = x.o
  g : X.g = x.g
  m : X.m = x.m
  sl : X.slack = x.slack
  mo : X.most = x.most
  sa : X.same = x.same
  ra : X.rate = x.rate
  st : (X.Q.l 5).st = 0
  ti : (X.Q.l 5).times = 0
  G : ∀ j, X.G 5 j = Pr.zero
  F : (k = 0 ∧ z = 0 ∧ X.F 5 = none) ∨ (0 < k ∧ ∃ row, X.F 5 = some ⟨z, 0, 0, (k : Int) - 1, row⟩)
theorem SInv.new (x : Sp) : SInv x (JS.new x) 0 0 := ⟨rfl, rfl, rfl, rfl, rfl, rfl, rfl, rfl, rfl, fun _ => rfl, .inl ⟨rfl, rfl, rfl⟩⟩
theorem dr_zero {slack most : Int} {G : Int → Int → Pr} {s : Int} {x : Rd} (hm : 0 < most) (hz : ∀ j, G s j = Pr.zero) (hr : ∀ k, -slack ≤ x.of k ∧ x.of k ≤ slack) :
    ∀ n, (∀ j, drG slack G s x n s j = Pr.zero) ∧ drB slack most G s x n = false
  | 0 => ⟨hz, rfl⟩
  | n + 1 => by
    obtain ⟨h1, h2⟩ := dr_zero hm hz hr n
    have hs : stepP slack (drG slack G s x n s n) (x.of n) = Pr.zero := by
      have := hr n
      rw [h1 n]
      unfold stepP stepUp stepDn clipV Pr.zero
      dsimp only
      congr 1
      · omega
      · omega
    refine ⟨fun j => ?_, ?_⟩
    · unfold drG updC
      rw [hs]
      split
      · rfl
      · exact h1 j
    · unfold drB
      rw [h2, hs]
      simp [Pr.zero]
      omega
theorem far_not {lim : Int} {n : Nat} {f : Nat → Int} (h : ∀ k, absV (f k) ≤ lim) : far3 lim n f = false := by
  have h0 := h 0
  have h1 := h 1
  have h2 := h 2
  unfold far3
  rw [decide_eq_false (show ¬ lim < absV (f 0) by omega), decide_eq_false (show ¬ lim < absV (f 1) by omega), decide_eq_false (show ¬ lim < absV (f 2) by omega)]
  simp
theorem steady {x : Sp} (hg : x.good = true) (hx : x.OK) {X : JS} {k : Nat} {z inc : Int} (h : SInv x X k z) (hk : k ≤ 40) (hz0 : 0 ≤ z) (hz1 : z ≤ 1000000000) (hi : 1 ≤ inc) (hi2 : inc ≤ x.rate) (hi3 : inc ≤ 65536)
    {ax r0 r1 r2 : Int} (ha1 : 1 ≤ ax) (ha3 : ax ≤ 3) (h0 : (-x.slack ≤ r0 ∧ r0 ≤ x.slack) ∧ -x.o ≤ r0 ∧ r0 ≤ x.o) (h1 : (-x.slack ≤ r1 ∧ r1 ≤ x.slack) ∧ -x.o ≤ r1 ∧ r1 ≤ x.o) (h2 : (-x.slack ≤ r2 ∧ r2 ≤ x.slack) ∧ -x.o ≤ r2 ∧ r2 ≤ x.o) :
    (lookT X 5 ⟨ax, k, 0, z + inc, 0, 0, r0, r1, r2⟩).1 = 0 ∧ SInv x (lookT X 5 ⟨ax, k, 0, z + inc, 0, 0, r0, r1, r2⟩).2 (k + 1) (z + inc) := by
  unfold Sp.good at hg
  simp only [Bool.and_eq_true] at hg
  obtain ⟨g1, g2, g3, g4⟩ := hg
  obtain ⟨p1, p2, p3⟩ := G.gate_of g1
  have q2 : 0 ≤ x.slack ∧ 0 < x.most := by simpa [cnewB] using g2
  have q3 : 1 ≤ x.same ∧ x.same ≤ 1000 ∧ 0 ≤ x.rate := by simpa [stNewB] using g3
  have hlim := (G.lim_bd (a := 0) g1).1
  have hrt := hx.rate.2
  have hcut : (Rd.mk ax k 0 (z + inc) 0 0 r0 r1 r2).cut = ⟨ax, k, 0, z + inc, 0, 0, r0, r1, r2⟩ := by
    unfold Rd.cut
    dsimp only
    congr 1
    · split <;> rfl
    · split <;> rfl
  have hof : ∀ j, (-x.slack ≤ (Rd.mk ax k 0 (z + inc) 0 0 r0 r1 r2).of j ∧ (Rd.mk ax k 0 (z + inc) 0 0 r0 r1 r2).of j ≤ x.slack) ∧ absV ((Rd.mk ax k 0 (z + inc) 0 0 r0 r1 r2).of j) ≤ x.o := by
    intro j
    unfold Rd.of absV
    dsimp only
    split
    · exact ⟨h0.1, by split <;> omega⟩
    · split
      · exact ⟨h1.1, by split <;> omega⟩
      · split
        · exact ⟨h2.1, by split <;> omega⟩
        · exact ⟨by omega, by split <;> omega⟩
  have hlast : (lastO X.F 5).tk ≤ (k : Int) ∧ (k : Int) ≤ 1099511627776 ∧ nowRow X.F 5 (z + inc) 0 0 = 1 ∧ ((X.F 5).isSome && fastB ⟨z + inc, 0, 0, 0, 0⟩ (lastO X.F 5) (limV X.rate ((k : Int) - (lastO X.F 5).tk))) = false := by
    rcases h.F with ⟨hk0, hz, hf⟩ | ⟨hk0, row, hf⟩
    · have hl : lastO X.F 5 = StO.zero := by unfold lastO; rw [hf]; rfl
      refine ⟨by rw [hl]; simp [StO.zero], by omega, ?_, ?_⟩
      · unfold nowRow
        rw [hf]
        rfl
      · rw [hf]
        rfl
    · have hl : lastO X.F 5 = ⟨z, 0, 0, (k : Int) - 1, row⟩ := by unfold lastO; rw [hf]; rfl
      refine ⟨by rw [hl]; dsimp only; omega, by omega, ?_, ?_⟩
      · unfold nowRow sameV
        rw [hl]
        have : ¬ z = z + inc := by omega
        simp [this]
      · rw [hl, h.ra]
        have hm : limV x.rate ((k : Int) - ((k : Int) - 1)) = x.rate := by
          rw [show (k : Int) - ((k : Int) - 1) = 1 by omega]
          unfold limV
          rw [show min (max (1 : Int) 1) 65535 = 1 by omega, Int.ediv_one, if_neg (by omega), Int.mul_one]
        dsimp only
        rw [hm]
        unfold fastB farB subV absV
        dsimp only
        rw [hf]
        have e1 : max (-9223372036854775808) (min 9223372036854775807 (z + inc - z)) = inc := by omega
        have e2 : max (-9223372036854775808 : Int) (min 9223372036854775807 (0 - 0)) = 0 := by omega
        rw [e1, e2]
        have e3 : ¬ inc < 0 := by omega
        simp
        omega
  obtain ⟨t1, t2, t3, t4⟩ := hlast
  have he : tkE X.F 5 k = 0 := by
    unfold tkE
    rw [show srcB 5 = true from rfl, if_pos rfl, if_neg (by omega)]
  have hfl : tkFl X.same X.rate X.F 5 (z + inc) 0 0 k = 0 := by
    unfold tkFl
    rw [if_pos he, t3, t4, if_neg (by rw [h.sa]; omega)]
    rfl
  have hfar : far3 (G.limV X.o X.g X.m 0) ax.toNat (Rd.mk ax k 0 (z + inc) 0 0 r0 r1 r2).of = false := by
    rw [h.o, h.g, h.m]
    exact far_not (fun j => Int.le_trans (hof j).2 hlim)
  obtain ⟨d1, d2⟩ := dr_zero (slack := X.slack) (most := X.most) (x := Rd.mk ax k 0 (z + inc) 0 0 r0 r1 r2) (by rw [h.mo]; exact q2.2) h.G (by rw [h.sl]; exact fun j => (hof j).1) ax.toNat
  have hq : (Q.hapS X.Q 5 k 1).l 5 = Q.goodO X.Q (Q.wakeO (X.Q.l 5) k) := by
    have := (hapS_in (S := X.Q) (s := 5) (t := (k : Int)) 1 rfl (by omega) (by omega)).2
    rw [show (5 : Int).toNat = 5 from rfl] at this
    rw [this]
    rfl
  have hgo : Q.goodO X.Q (Q.wakeO (X.Q.l 5) k) = X.Q.l 5 := by
    have hs := h.st
    unfold Q.wakeO
    rw [if_neg (by omega)]
    unfold Q.goodO
    rw [if_neg (by omega), if_neg (by omega)]
  rw [hgo] at hq
  have hb : (Q.srcB 5 && decide ((Q.qlookO (Q.hapS X.Q 5 k 1) 5).st < 2)) = true := by
    have : Q.qlookO (Q.hapS X.Q 5 k 1) 5 = (Q.hapS X.Q 5 k 1).l 5 := by unfold Q.qlookO; rw [if_pos (show Q.srcB 5 = true from rfl)]; rfl
    rw [this, hq, h.st]
    rfl
  have hl2 := lookX_g (x := ⟨ax, k, 0, z + inc, 0, 0, r0, r1, r2⟩) he hfl hfar d2 hb
  have hlook : lookJ X 5 ⟨ax, k, 0, z + inc, 0, 0, r0, r1, r2⟩ = lookX X 5 ⟨ax, k, 0, z + inc, 0, 0, r0, r1, r2⟩ := by
    rw [lookJ_in (show 1 ≤ ax from ha1) (show ax ≤ 3 from ha3), hcut]
  unfold lookT
  rw [hlook, hl2]
  refine ⟨rfl, h.o, h.g, h.m, h.sl, h.mo, h.sa, h.ra, (congrArg Q.QOne.st hq).trans h.st, (congrArg Q.QOne.times hq).trans h.ti, d1, .inr ⟨by omega, 1, ?_⟩⟩
  show tkF X.F 5 (z + inc) 0 0 k 5 = _
  unfold tkF
  rw [if_pos he, updS_same, t3]
  congr 2
  omega
end Go.Proofs.Ytihalkpcddnikaa
