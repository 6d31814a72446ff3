/-
  The walks over the keeper of quarantines, continued: a bad one that quarantines.
-/
import Derived.Test.YtihalkpcddnikaaQuarX
namespace Go.Proofs.Ytihalkpcddnikaa.Q
open Go.RowKit
set_option linter.unusedVariables false

set_option maxRecDepth 100000 in
set_option maxHeartbeats 400000 in
theorem hap_sleep2c (c j : Nat) (t : Int) (S : QuarS) (n : Int) (w : World) (h : QuarAt w c S) (ok : QuarOK S n) (hn : n ≤ 1000000) (hj : j < 8) (ht : 0 ≤ t ∧ t ≤ 1099511627776) (h2 : (S.l j).st ≠ 2) (h3 : (S.l j).st ≠ 3) (h4 : ¬ (S.l j).bad + 1 < S.bad) :
    Calls Try.prog 73 #[.pointer (some ⟨c, 0, none⟩), .int .i64 j, .int .i64 t, .int .i64 2] w (QuarR w c 2 0 (S.put j (awayO S (S.l j) t))) := by
  obtain ⟨t1, t2⟩ := ht
  have d1 : decide (t < 0) = false := by simp; omega
  have d2 : decide (1099511627776 < t) = false := by simp; omega
  have hC := Lib.hid (qlook_in c j S n w h ok hj)
  have H := Lib.hid h
  have a0 := h.c0
  have a1 := h.c1
  obtain ⟨c0, c1, c2, c3, c4⟩ := h.one j hj
  have z0 := h.free (3 + j * 5)
  have z1 := h.free (3 + j * 5 + 1)
  have z2 := h.free (3 + j * 5 + 2)
  have z3 := h.free (3 + j * 5 + 3)
  have z4 := h.free (3 + j * 5 + 4)
  have i1 := ok.h1
  have i2 := ok.h2
  have hm0 : (S.hold == 0) = false := by simp; omega
  have b0 := (ok.one j).b0
  have b1 := (ok.one j).b1
  have b2 := ok.b2
  have tm0 := (ok.one j).t0
  have tm1 := (ok.one j).t1
  have OK := Lib.hid ok
  clear h ok
  have h2' : ((S.l j).st == 2) = false := by simpa using h2
  have h3' : ((S.l j).st == 3) = false := by simpa using h3
  have h3n : ((S.l j).st != 3) = true := by simpa using h3
  have L2 := Lib.hid (((H.out.set1 j hj ((S.l j).bad + 1)).setAll j hj 2 0 0 (t + S.hold) ((S.l j).times + 1)).drew.drew)
  rw [QuarS.put_put] at L2

  go_enter Try.func73, Try.ntmps73
  go_wp2_with (go_at_call 66; with_reducible refine Calls.tells (hC.out) ?_)
  go_region
  go_wp2_with fail
  go_region
  go_wp2_with fail
  go_ret2
  exact ⟨rfl, L2.out, by (repeat (first | (with_reducible exact gr_refl _ _) | (with_reducible assumption) | (with_reducible refine gr_to_drew ?_) | (with_reducible refine gr_to_drewN _ ?_) | (with_reducible refine gr_to_set ?_) | (with_reducible refine gr_to_up ?_ _) | (with_reducible refine gr_to_up ?_) | (with_reducible refine gr_to_alloc ?_)))⟩
set_option maxRecDepth 100000 in
set_option maxHeartbeats 400000 in
theorem hap_sleep2d (c j : Nat) (t : Int) (S : QuarS) (n : Int) (w : World) (h : QuarAt w c S) (ok : QuarOK S n) (hn : n ≤ 1000000) (hj : j < 8) (ht : 0 ≤ t ∧ t ≤ 1099511627776) (h3 : (S.l j).st = 3) :
    Calls Try.prog 73 #[.pointer (some ⟨c, 0, none⟩), .int .i64 j, .int .i64 t, .int .i64 2] w (QuarR w c 2 0 (S.put j (awayO S (S.l j) t))) := by
  obtain ⟨t1, t2⟩ := ht
  have d1 : decide (t < 0) = false := by simp; omega
  have d2 : decide (1099511627776 < t) = false := by simp; omega
  have hC := Lib.hid (qlook_in c j S n w h ok hj)
  have H := Lib.hid h
  have a0 := h.c0
  have a1 := h.c1
  obtain ⟨c0, c1, c2, c3, c4⟩ := h.one j hj
  have z0 := h.free (3 + j * 5)
  have z1 := h.free (3 + j * 5 + 1)
  have z2 := h.free (3 + j * 5 + 2)
  have z3 := h.free (3 + j * 5 + 3)
  have z4 := h.free (3 + j * 5 + 4)
  have i1 := ok.h1
  have i2 := ok.h2
  have hm0 : (S.hold == 0) = false := by simp; omega
  have b0 := (ok.one j).b0
  have b1 := (ok.one j).b1
  have b2 := ok.b2
  have tm0 := (ok.one j).t0
  have tm1 := (ok.one j).t1
  have OK := Lib.hid ok
  clear h ok
  rw [h3] at c0
  have L2 := Lib.hid (((H.out.set1 j hj ((S.l j).bad + 1)).setAll j hj 2 0 0 (t + S.hold) ((S.l j).times + 1)).drew.drew)
  rw [QuarS.put_put] at L2

  clear h3
  go_enter Try.func73, Try.ntmps73
  go_wp2_with (go_at_call 66; with_reducible refine Calls.tells (hC.out) ?_)
  go_region
  go_wp2_with fail
  go_region
  go_wp2_with fail
  go_ret2
  exact ⟨rfl, L2.out, by (repeat (first | (with_reducible exact gr_refl _ _) | (with_reducible assumption) | (with_reducible refine gr_to_drew ?_) | (with_reducible refine gr_to_drewN _ ?_) | (with_reducible refine gr_to_set ?_) | (with_reducible refine gr_to_up ?_ _) | (with_reducible refine gr_to_up ?_) | (with_reducible refine gr_to_alloc ?_)))⟩
set_option maxRecDepth 100000 in
set_option maxHeartbeats 400000 in
theorem hap_wake2 (c j : Nat) (t : Int) (S : QuarS) (n : Int) (w : World) (h : QuarAt w c S) (ok : QuarOK S n) (hn : n ≤ 1000000) (hj : j < 8) (ht : 0 ≤ t ∧ t ≤ 1099511627776) (h2 : (S.l j).st = 2) (h3 : (S.l j).til ≤ t) :
    Calls Try.prog 73 #[.pointer (some ⟨c, 0, none⟩), .int .i64 j, .int .i64 t, .int .i64 2] w (QuarR w c 2 0 (S.put j (awayO S (S.l j) t))) := by
  obtain ⟨t1, t2⟩ := ht
  have d1 : decide (t < 0) = false := by simp; omega
  have d2 : decide (1099511627776 < t) = false := by simp; omega
  have hC := Lib.hid (qlook_in c j S n w h ok hj)
  have H := Lib.hid h
  have a0 := h.c0
  have a1 := h.c1
  obtain ⟨c0, c1, c2, c3, c4⟩ := h.one j hj
  have z0 := h.free (3 + j * 5)
  have z1 := h.free (3 + j * 5 + 1)
  have z2 := h.free (3 + j * 5 + 2)
  have z3 := h.free (3 + j * 5 + 3)
  have z4 := h.free (3 + j * 5 + 4)
  have i1 := ok.h1
  have i2 := ok.h2
  have hm0 : (S.hold == 0) = false := by simp; omega
  have b0 := (ok.one j).b0
  have b1 := (ok.one j).b1
  have b2 := ok.b2
  have tm0 := (ok.one j).t0
  have tm1 := (ok.one j).t1
  have OK := Lib.hid ok
  clear h ok
  rw [h2] at c0
  have L2 := Lib.hid ((((H.out.woken j hj).set1 j hj ((S.l j).bad + 1)).setAll j hj 2 0 0 (t + S.hold) ((S.l j).times + 1)).drew.drew)
  simp only [QuarS.put_same, QuarS.put_put] at L2

  clear h2
  go_enter Try.func73, Try.ntmps73
  go_wp2_with (go_at_call 66; with_reducible refine Calls.tells (hC.out) ?_)
  go_region
  go_wp2_with fail
  go_region
  go_wp2_with fail
  go_ret2
  exact ⟨rfl, L2.out, by (repeat (first | (with_reducible exact gr_refl _ _) | (with_reducible assumption) | (with_reducible refine gr_to_drew ?_) | (with_reducible refine gr_to_drewN _ ?_) | (with_reducible refine gr_to_set ?_) | (with_reducible refine gr_to_up ?_ _) | (with_reducible refine gr_to_up ?_) | (with_reducible refine gr_to_alloc ?_)))⟩
end Go.Proofs.Ytihalkpcddnikaa.Q
