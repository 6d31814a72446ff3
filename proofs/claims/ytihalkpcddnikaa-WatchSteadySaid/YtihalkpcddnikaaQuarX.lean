/-
  The walks over the keeper of quarantines, continued: what happens.
-/
import Derived.Test.YtihalkpcddnikaaQuarW
namespace Go.Proofs.Ytihalkpcddnikaa.Q
open Go.RowKit
set_option linter.unusedVariables false

/-- Behind what happens. -/
def QuarR (w : World) (c : Nat) (n er : Int) (S : QuarS) (e : Ending) (w' : World) : Prop := e = .returned (.tuple #[.int .i64 n, .int .i64 er]) ∧ QuarAt w' c S ∧ w.grownBy w' (some c)
theorem QuarAt.woken {w : World} {c : Nat} {S : QuarS} (h : QuarAt w c S) (j : Nat) (hj : j < 8) :
    QuarAt (((w.setCell ⟨c, 3 + j * 5, none⟩ (.int .i64 3)).setCell ⟨c, 3 + j * 5 + 2, none⟩ (.int .i64 0)).setCell ⟨c, 3 + j * 5 + 3, none⟩ (.int .i64 0)) c (S.put j ⟨3, (S.l j).bad, 0, 0, (S.l j).times⟩) := by
  have L := ((h.set0 j hj 3).set2 j hj 0).set3 j hj 0
  simp only [QuarS.put_same, QuarS.put_put] at L
  exact L
set_option maxRecDepth 100000 in
theorem hap_sleep0 (c j : Nat) (t : Int) (S : QuarS) (n : Int) (w : World) (h : QuarAt w c S) (ok : QuarOK S n) (hn : n ≤ 1000000) (hj : j < 8) (ht : 0 ≤ t ∧ t ≤ 1099511627776) (hs : ¬ ((S.l j).st = 2 ∧ (S.l j).til ≤ t)) :
    Calls Try.prog 73 #[.pointer (some ⟨c, 0, none⟩), .int .i64 j, .int .i64 t, .int .i64 0] w (QuarR w c (S.l j).st 0 S) := by
  obtain ⟨t1, t2⟩ := ht
  have d1 : decide (t < 0) = false := by simp; omega
  have d2 : decide (1099511627776 < t) = false := by simp; omega
  have hC := Lib.hid (qlook_in c j S n w h ok hj)
  have H := Lib.hid h
  have a0 := h.c0
  have a1 := h.c1
  obtain ⟨c0, c1, c2, c3, c4⟩ := h.one j hj
  have z0 := h.free (3 + j * 5)
  have z1 := h.free (3 + j * 5 + 1)
  have z2 := h.free (3 + j * 5 + 2)
  have z3 := h.free (3 + j * 5 + 3)
  have z4 := h.free (3 + j * 5 + 4)
  have i1 := ok.h1
  have i2 := ok.h2
  have hm0 : (S.hold == 0) = false := by simp; omega
  have b0 := (ok.one j).b0
  have b1 := (ok.one j).b1
  have b2 := ok.b2
  have tm0 := (ok.one j).t0
  have tm1 := (ok.one j).t1
  have OK := Lib.hid ok
  clear h ok
  by_cases h2 : (S.l j).st = 2
  · have h3 : decide ((S.l j).til ≤ t) = false := by simp; omega
    rw [h2]
    rw [h2] at c0
    clear h2 hs
    go_enter Try.func73, Try.ntmps73
    go_wp2_with (go_at_call 66; with_reducible refine Calls.tells (hC.out) ?_)
    go_ret2
    exact ⟨rfl, H.out, gr_refl _ _⟩
  · have h2' : ((S.l j).st == 2) = false := by simpa using h2
    go_enter Try.func73, Try.ntmps73
    go_wp2_with (go_at_call 66; with_reducible refine Calls.tells (hC.out) ?_)
    go_ret2
    exact ⟨rfl, H.out, gr_refl _ _⟩
set_option maxRecDepth 100000 in
theorem hap_wake0 (c j : Nat) (t : Int) (S : QuarS) (n : Int) (w : World) (h : QuarAt w c S) (ok : QuarOK S n) (hn : n ≤ 1000000) (hj : j < 8) (ht : 0 ≤ t ∧ t ≤ 1099511627776) (h2 : (S.l j).st = 2) (h3 : (S.l j).til ≤ t) :
    Calls Try.prog 73 #[.pointer (some ⟨c, 0, none⟩), .int .i64 j, .int .i64 t, .int .i64 0] w (QuarR w c 3 0 (S.put j ⟨3, (S.l j).bad, 0, 0, (S.l j).times⟩)) := by
  obtain ⟨t1, t2⟩ := ht
  have d1 : decide (t < 0) = false := by simp; omega
  have d2 : decide (1099511627776 < t) = false := by simp; omega
  have hC := Lib.hid (qlook_in c j S n w h ok hj)
  have H := Lib.hid h
  have a0 := h.c0
  have a1 := h.c1
  obtain ⟨c0, c1, c2, c3, c4⟩ := h.one j hj
  have z0 := h.free (3 + j * 5)
  have z1 := h.free (3 + j * 5 + 1)
  have z2 := h.free (3 + j * 5 + 2)
  have z3 := h.free (3 + j * 5 + 3)
  have z4 := h.free (3 + j * 5 + 4)
  have i1 := ok.h1
  have i2 := ok.h2
  have hm0 : (S.hold == 0) = false := by simp; omega
  have b0 := (ok.one j).b0
  have b1 := (ok.one j).b1
  have b2 := ok.b2
  have tm0 := (ok.one j).t0
  have tm1 := (ok.one j).t1
  have OK := Lib.hid ok
  clear h ok
  rw [h2] at c0
  clear h2
  go_enter Try.func73, Try.ntmps73
  go_wp2_with (go_at_call 66; with_reducible refine Calls.tells (hC.out) ?_)
  go_ret2
  exact ⟨rfl, H.out.woken j hj, gr_to_set (gr_to_set (gr_set _ _ _ _))⟩
set_option maxRecDepth 100000 in
set_option maxHeartbeats 400000 in
theorem hap_sleep1 (c j : Nat) (t : Int) (S : QuarS) (n : Int) (w : World) (h : QuarAt w c S) (ok : QuarOK S n) (hn : n ≤ 1000000) (hj : j < 8) (ht : 0 ≤ t ∧ t ≤ 1099511627776) (hs : ¬ ((S.l j).st = 2 ∧ (S.l j).til ≤ t)) :
    Calls Try.prog 73 #[.pointer (some ⟨c, 0, none⟩), .int .i64 j, .int .i64 t, .int .i64 1] w (QuarR w c (goodO S (S.l j)).st 0 (S.put j (goodO S (S.l j)))) := by
  obtain ⟨t1, t2⟩ := ht
  have d1 : decide (t < 0) = false := by simp; omega
  have d2 : decide (1099511627776 < t) = false := by simp; omega
  have hC := Lib.hid (qlook_in c j S n w h ok hj)
  have H := Lib.hid h
  have a0 := h.c0
  have a1 := h.c1
  obtain ⟨c0, c1, c2, c3, c4⟩ := h.one j hj
  have z0 := h.free (3 + j * 5)
  have z1 := h.free (3 + j * 5 + 1)
  have z2 := h.free (3 + j * 5 + 2)
  have z3 := h.free (3 + j * 5 + 3)
  have z4 := h.free (3 + j * 5 + 4)
  have i1 := ok.h1
  have i2 := ok.h2
  have hm0 : (S.hold == 0) = false := by simp; omega
  have b0 := (ok.one j).b0
  have b1 := (ok.one j).b1
  have b2 := ok.b2
  have tm0 := (ok.one j).t0
  have tm1 := (ok.one j).t1
  have OK := Lib.hid ok
  clear h ok
  by_cases h2 : (S.l j).st = 2
  · have h3 : decide ((S.l j).til ≤ t) = false := by simp; omega
    rw [h2] at c0
    clear hs
    go_enter Try.func73, Try.ntmps73
    go_wp2_with (go_at_call 66; with_reducible refine Calls.tells (hC.out) ?_)
    refine (qgood_any c j S n _ H.out OK.out hj).mono ?_
    rintro e w6 ⟨rfl, hx6, hg6⟩
    have d0 := (hx6.one j hj).1
    rw [QuarS.put_same] at d0
    have HX := Lib.hid hx6
    clear hx6 c0 c1 c2 c3 c4
    go_wp2_with fail
    go_ret2
    exact ⟨rfl, HX.out, hg6⟩
  · have h2' : ((S.l j).st == 2) = false := by simpa using h2
    clear hs
    go_enter Try.func73, Try.ntmps73
    go_wp2_with (go_at_call 66; with_reducible refine Calls.tells (hC.out) ?_)
    refine (qgood_any c j S n _ H.out OK.out hj).mono ?_
    rintro e w6 ⟨rfl, hx6, hg6⟩
    have d0 := (hx6.one j hj).1
    rw [QuarS.put_same] at d0
    have HX := Lib.hid hx6
    clear hx6 c0 c1 c2 c3 c4
    go_wp2_with fail
    go_ret2
    exact ⟨rfl, HX.out, hg6⟩
set_option maxRecDepth 100000 in
set_option maxHeartbeats 400000 in
theorem hap_wake1 (c j : Nat) (t : Int) (S : QuarS) (n : Int) (w : World) (h : QuarAt w c S) (ok : QuarOK S n) (hn : n ≤ 1000000) (hj : j < 8) (ht : 0 ≤ t ∧ t ≤ 1099511627776) (h2 : (S.l j).st = 2) (h3 : (S.l j).til ≤ t) :
    Calls Try.prog 73 #[.pointer (some ⟨c, 0, none⟩), .int .i64 j, .int .i64 t, .int .i64 1] w (QuarR w c (goodO S (⟨3, (S.l j).bad, 0, 0, (S.l j).times⟩ : QOne)).st 0 (S.put j (goodO S (⟨3, (S.l j).bad, 0, 0, (S.l j).times⟩ : QOne)))) := by
  obtain ⟨t1, t2⟩ := ht
  have d1 : decide (t < 0) = false := by simp; omega
  have d2 : decide (1099511627776 < t) = false := by simp; omega
  have hC := Lib.hid (qlook_in c j S n w h ok hj)
  have H := Lib.hid h
  have a0 := h.c0
  have a1 := h.c1
  obtain ⟨c0, c1, c2, c3, c4⟩ := h.one j hj
  have z0 := h.free (3 + j * 5)
  have z1 := h.free (3 + j * 5 + 1)
  have z2 := h.free (3 + j * 5 + 2)
  have z3 := h.free (3 + j * 5 + 3)
  have z4 := h.free (3 + j * 5 + 4)
  have i1 := ok.h1
  have i2 := ok.h2
  have hm0 : (S.hold == 0) = false := by simp; omega
  have b0 := (ok.one j).b0
  have b1 := (ok.one j).b1
  have b2 := ok.b2
  have tm0 := (ok.one j).t0
  have tm1 := (ok.one j).t1
  have OK := Lib.hid ok
  clear h ok
  have hone : OneOK S n (⟨3, (S.l j).bad, 0, 0, (S.l j).times⟩ : QOne) := by
    have h := (OK.out.one j).wake OK.out t
    unfold wakeO at h
    rwa [if_pos ⟨h2, h3⟩] at h
  rw [h2] at c0
  clear h2
  go_enter Try.func73, Try.ntmps73
  go_wp2_with (go_at_call 66; with_reducible refine Calls.tells (hC.out) ?_)
  refine (qgood_any c j _ n _ (H.out.woken j hj) (OK.out.put j _ hone) hj).mono ?_
  rintro e w6 ⟨rfl, hx6, hg6⟩
  rw [QuarS.put_same, QuarS.put_put] at hx6
  have d0 := (hx6.one j hj).1
  rw [QuarS.put_same] at d0
  have HX := Lib.hid hx6
  have HG := Lib.hid (gr_trans (gr_to_set (gr_to_set (gr_set w c (3 + j * 5) (.int .i64 3)))) hg6)
  clear hx6 hg6 c0 c1 c2 c3 c4
  go_wp2_with fail
  go_ret2
  exact ⟨rfl, HX.out, HG.out⟩
set_option maxRecDepth 100000 in
set_option maxHeartbeats 400000 in
theorem hap_sleep3 (c j : Nat) (t : Int) (S : QuarS) (n : Int) (w : World) (h : QuarAt w c S) (ok : QuarOK S n) (hn : n ≤ 1000000) (hj : j < 8) (ht : 0 ≤ t ∧ t ≤ 1099511627776) (hs : ¬ ((S.l j).st = 2 ∧ (S.l j).til ≤ t)) :
    Calls Try.prog 73 #[.pointer (some ⟨c, 0, none⟩), .int .i64 j, .int .i64 t, .int .i64 3] w (QuarR w c 2 0 (S.put j (awayO S (S.l j) t))) := by
  obtain ⟨t1, t2⟩ := ht
  have d1 : decide (t < 0) = false := by simp; omega
  have d2 : decide (1099511627776 < t) = false := by simp; omega
  have hC := Lib.hid (qlook_in c j S n w h ok hj)
  have H := Lib.hid h
  have a0 := h.c0
  have a1 := h.c1
  obtain ⟨c0, c1, c2, c3, c4⟩ := h.one j hj
  have z0 := h.free (3 + j * 5)
  have z1 := h.free (3 + j * 5 + 1)
  have z2 := h.free (3 + j * 5 + 2)
  have z3 := h.free (3 + j * 5 + 3)
  have z4 := h.free (3 + j * 5 + 4)
  have i1 := ok.h1
  have i2 := ok.h2
  have hm0 : (S.hold == 0) = false := by simp; omega
  have b0 := (ok.one j).b0
  have b1 := (ok.one j).b1
  have b2 := ok.b2
  have tm0 := (ok.one j).t0
  have tm1 := (ok.one j).t1
  have OK := Lib.hid ok
  clear h ok
  by_cases h2 : (S.l j).st = 2
  · have h3 : decide ((S.l j).til ≤ t) = false := by simp; omega
    rw [h2] at c0
    clear hs
    go_enter Try.func73, Try.ntmps73
    go_wp2_with (go_at_call 66; with_reducible refine Calls.tells (hC.out) ?_)
    go_region
    go_wp2_with fail
    go_ret2
    exact ⟨rfl, (H.out.setAll j hj 2 0 0 (t + S.hold) ((S.l j).times + 1)).drew, gr_to_drew (gr_to_set (gr_to_set (gr_to_set (gr_to_set (gr_set _ _ _ _)))))⟩
  · have h2' : ((S.l j).st == 2) = false := by simpa using h2
    clear hs
    go_enter Try.func73, Try.ntmps73
    go_wp2_with (go_at_call 66; with_reducible refine Calls.tells (hC.out) ?_)
    go_region
    go_wp2_with fail
    go_ret2
    exact ⟨rfl, (H.out.setAll j hj 2 0 0 (t + S.hold) ((S.l j).times + 1)).drew, gr_to_drew (gr_to_set (gr_to_set (gr_to_set (gr_to_set (gr_set _ _ _ _)))))⟩
set_option maxRecDepth 100000 in
set_option maxHeartbeats 400000 in
theorem hap_wake3 (c j : Nat) (t : Int) (S : QuarS) (n : Int) (w : World) (h : QuarAt w c S) (ok : QuarOK S n) (hn : n ≤ 1000000) (hj : j < 8) (ht : 0 ≤ t ∧ t ≤ 1099511627776) (h2 : (S.l j).st = 2) (h3 : (S.l j).til ≤ t) :
    Calls Try.prog 73 #[.pointer (some ⟨c, 0, none⟩), .int .i64 j, .int .i64 t, .int .i64 3] w (QuarR w c 2 0 (S.put j (awayO S (S.l j) t))) := by
  obtain ⟨t1, t2⟩ := ht
  have d1 : decide (t < 0) = false := by simp; omega
  have d2 : decide (1099511627776 < t) = false := by simp; omega
  have hC := Lib.hid (qlook_in c j S n w h ok hj)
  have H := Lib.hid h
  have a0 := h.c0
  have a1 := h.c1
  obtain ⟨c0, c1, c2, c3, c4⟩ := h.one j hj
  have z0 := h.free (3 + j * 5)
  have z1 := h.free (3 + j * 5 + 1)
  have z2 := h.free (3 + j * 5 + 2)
  have z3 := h.free (3 + j * 5 + 3)
  have z4 := h.free (3 + j * 5 + 4)
  have i1 := ok.h1
  have i2 := ok.h2
  have hm0 : (S.hold == 0) = false := by simp; omega
  have b0 := (ok.one j).b0
  have b1 := (ok.one j).b1
  have b2 := ok.b2
  have tm0 := (ok.one j).t0
  have tm1 := (ok.one j).t1
  have OK := Lib.hid ok
  clear h ok
  rw [h2] at c0
  clear h2
  go_enter Try.func73, Try.ntmps73
  go_wp2_with (go_at_call 66; with_reducible refine Calls.tells (hC.out) ?_)
  go_region
  go_wp2_with fail
  go_ret2
  have L := ((H.out.woken j hj).setAll j hj 2 0 0 (t + S.hold) ((S.l j).times + 1)).drew
  rw [QuarS.put_put] at L
  exact ⟨rfl, L, gr_to_drew (gr_to_set (gr_to_set (gr_to_set (gr_to_set (gr_to_set (gr_to_set (gr_to_set (gr_set _ _ _ _))))))))⟩
set_option maxRecDepth 100000 in
set_option maxHeartbeats 400000 in
theorem hap_sleep2a (c j : Nat) (t : Int) (S : QuarS) (n : Int) (w : World) (h : QuarAt w c S) (ok : QuarOK S n) (hn : n ≤ 1000000) (hj : j < 8) (ht : 0 ≤ t ∧ t ≤ 1099511627776) (h2 : (S.l j).st = 2) (h3 : t < (S.l j).til) :
    Calls Try.prog 73 #[.pointer (some ⟨c, 0, none⟩), .int .i64 j, .int .i64 t, .int .i64 2] w (QuarR w c 2 0 (S)) := by
  obtain ⟨t1, t2⟩ := ht
  have d1 : decide (t < 0) = false := by simp; omega
  have d2 : decide (1099511627776 < t) = false := by simp; omega
  have hC := Lib.hid (qlook_in c j S n w h ok hj)
  have H := Lib.hid h
  have a0 := h.c0
  have a1 := h.c1
  obtain ⟨c0, c1, c2, c3, c4⟩ := h.one j hj
  have z0 := h.free (3 + j * 5)
  have z1 := h.free (3 + j * 5 + 1)
  have z2 := h.free (3 + j * 5 + 2)
  have z3 := h.free (3 + j * 5 + 3)
  have z4 := h.free (3 + j * 5 + 4)
  have i1 := ok.h1
  have i2 := ok.h2
  have hm0 : (S.hold == 0) = false := by simp; omega
  have b0 := (ok.one j).b0
  have b1 := (ok.one j).b1
  have b2 := ok.b2
  have tm0 := (ok.one j).t0
  have tm1 := (ok.one j).t1
  have OK := Lib.hid ok
  clear h ok
  have h3' : decide ((S.l j).til ≤ t) = false := by simp; omega
  rw [h2] at c0
  clear h2
  go_enter Try.func73, Try.ntmps73
  go_wp2_with (go_at_call 66; with_reducible refine Calls.tells (hC.out) ?_)
  go_ret2
  exact ⟨rfl, H.out, gr_refl _ _⟩
set_option maxRecDepth 100000 in
set_option maxHeartbeats 400000 in
theorem hap_sleep2b (c j : Nat) (t : Int) (S : QuarS) (n : Int) (w : World) (h : QuarAt w c S) (ok : QuarOK S n) (hn : n ≤ 1000000) (hj : j < 8) (ht : 0 ≤ t ∧ t ≤ 1099511627776) (h2 : (S.l j).st ≠ 2) (h3 : (S.l j).st ≠ 3) (h4 : (S.l j).bad + 1 < S.bad) :
    Calls Try.prog 73 #[.pointer (some ⟨c, 0, none⟩), .int .i64 j, .int .i64 t, .int .i64 2] w (QuarR w c 1 0 (S.put j ⟨1, (S.l j).bad + 1, (S.l j).good, (S.l j).til, (S.l j).times⟩)) := by
  obtain ⟨t1, t2⟩ := ht
  have d1 : decide (t < 0) = false := by simp; omega
  have d2 : decide (1099511627776 < t) = false := by simp; omega
  have hC := Lib.hid (qlook_in c j S n w h ok hj)
  have H := Lib.hid h
  have a0 := h.c0
  have a1 := h.c1
  obtain ⟨c0, c1, c2, c3, c4⟩ := h.one j hj
  have z0 := h.free (3 + j * 5)
  have z1 := h.free (3 + j * 5 + 1)
  have z2 := h.free (3 + j * 5 + 2)
  have z3 := h.free (3 + j * 5 + 3)
  have z4 := h.free (3 + j * 5 + 4)
  have i1 := ok.h1
  have i2 := ok.h2
  have hm0 : (S.hold == 0) = false := by simp; omega
  have b0 := (ok.one j).b0
  have b1 := (ok.one j).b1
  have b2 := ok.b2
  have tm0 := (ok.one j).t0
  have tm1 := (ok.one j).t1
  have OK := Lib.hid ok
  clear h ok
  have h2' : ((S.l j).st == 2) = false := by simpa using h2
  have h3' : ((S.l j).st == 3) = false := by simpa using h3
  have h3n : ((S.l j).st != 3) = true := by simpa using h3
  have L := Lib.hid ((H.out.set1 j hj ((S.l j).bad + 1)).drew.set0 j hj 1)
  simp only [QuarS.put_same, QuarS.put_put] at L
  have L' := Lib.hid ((H.out.set1 j hj ((S.l j).bad + 1)).set0 j hj 1).drew
  simp only [QuarS.put_same, QuarS.put_put] at L'
  go_enter Try.func73, Try.ntmps73
  go_wp2_with (go_at_call 66; with_reducible refine Calls.tells (hC.out) ?_)
  go_region
  go_wp2_with fail
  go_ret2
  first | exact ⟨rfl, L.out, gr_to_set (gr_to_drew (gr_set _ _ _ _))⟩ | exact ⟨rfl, L'.out, gr_to_drew (gr_to_set (gr_set _ _ _ _))⟩
end Go.Proofs.Ytihalkpcddnikaa.Q
