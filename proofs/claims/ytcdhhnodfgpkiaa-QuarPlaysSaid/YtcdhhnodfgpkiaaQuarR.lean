/-
  The walks over the reference's keeper of quarantines.
-/
import Derived.Test.YtcdhhnodfgpkiaaQuarV
import Derived.Test.YtcdhhnodfgpkiaaGen
import Derived.Deep.CutRange
namespace Go.Proofs.Ytcdhhnodfgpkiaa
open Go.RowKit
set_option linter.unusedVariables false

set_option maxRecDepth 100000 in
set_option maxHeartbeats 1600000 in
theorem rhap_w0 (c j : Nat) (t : Int) (S : QuarS) (n : Int) (w : World) (h : QuarAt w c S) (ok : QuarOK S n) (hn : n ≤ 1000000) (hj : j < 8) (ht : 0 ≤ t ∧ t ≤ 1099511627776) (h2 : (S.l j).st = 2) (h3 : (S.l j).til ≤ t) :
    Calls Try.prog 42 #[.pointer (some ⟨c, 0, none⟩), .int .i64 j, .int .i64 t, .int .i64 0] w (QuarR w c (3) 0 (S.put j ⟨3, (S.l j).bad, 0, 0, (S.l j).times⟩)) := by
  obtain ⟨t1, t2⟩ := ht
  have d1 : decide (t < 0) = false := by simp; omega
  have d2 : decide (1099511627776 < t) = false := by simp; omega
  have d3 : decide ((j : Int) < 0) = false := by simp
  have d4 : decide (7 < (j : Int)) = false := by simp; omega
  have hjI : (j : Int) < 8 := by omega
  have hjI0 : (0 : Int) ≤ (j : Int) := by omega
  have H := Lib.hid h
  haveI : LtSize c w := ⟨h.lt⟩
  have hcl := h.lt
  have hne : ¬ c = w.heap.size := by omega
  have hne' : ¬ w.heap.size = c := fun e => hne e.symm
  have a0 := h.c0
  have a1 := h.c1
  have a2 := h.c2
  obtain ⟨c0, c1, c2, c3, c4⟩ := h.one j hj
  have i1 := ok.h1
  have i2 := ok.h2
  have b0 := (ok.one j).b0
  have b1 := (ok.one j).b1
  have b2 := ok.b2
  have g0 := (ok.one j).g0
  have g1 := (ok.one j).g1
  have p2 := ok.p2
  have tm0 := (ok.one j).t0
  have tm1 := (ok.one j).t1
  clear h ok
  rw [h2] at c0
  clear h2
  go_enter Try.func42, Try.ntmps42
  go_upto_region 18 with fail
  refine wp_gen (fun W => Below w.heap.size w W ∧ W.cell? ⟨w.heap.size, 0, none⟩ = some (.int .i64 (3)) ∧ W.cell? ⟨w.heap.size, 1, none⟩ = some (.int .i64 ((S.l j).bad)) ∧ W.cell? ⟨w.heap.size, 2, none⟩ = some (.int .i64 (0)) ∧ W.cell? ⟨w.heap.size, 3, none⟩ = some (.int .i64 (0)) ∧ W.cell? ⟨w.heap.size, 4, none⟩ = some (.int .i64 ((S.l j).times))) ⟨by (repeat (first | (with_reducible exact Below.refl _ _) | (with_reducible assumption) | (with_reducible refine Below.alloc ?_ (by (repeat (first | (with_reducible exact Nat.le_refl _) | (with_reducible assumption) | (with_reducible refine le_up ?_) | (with_reducible refine le_alloc ?_) | (with_reducible refine le_setCell ?_) | (with_reducible refine le_drew ?_) | (with_reducible refine le_drewN ?_) | omega))) _) | (with_reducible refine Below.drew ?_) | (with_reducible refine Below.drewN ?_ _) | (with_reducible refine Below.setCell ?_ (by (repeat (first | (with_reducible exact Nat.le_refl _) | (with_reducible assumption) | (with_reducible refine le_up ?_) | (with_reducible refine le_alloc ?_) | (with_reducible refine le_setCell ?_) | (with_reducible refine le_drew ?_) | (with_reducible refine le_drewN ?_) | omega))) _) | (with_reducible refine Below.up ?_ (by (repeat (first | (with_reducible exact Nat.le_refl _) | (with_reducible assumption) | (with_reducible refine le_up ?_) | (with_reducible refine le_alloc ?_) | (with_reducible refine le_setCell ?_) | (with_reducible refine le_drew ?_) | (with_reducible refine le_drewN ?_) | omega)))))), by simp, by simp, by simp, by simp, by simp⟩ ?_
  rintro w5 ⟨hb5, p0, p1, p2, p3, p4⟩
  have L5 := H.out.below hb5 hcl
  clear c0 c1 c2 c3 c4 a0 a1 a2
  obtain ⟨c0, c1, c2, c3, c4⟩ := L5.one j hj
  have z0 := L5.free (3 + j * 5)
  have z1 := L5.free (3 + j * 5 + 1)
  have z2 := L5.free (3 + j * 5 + 2)
  have z3 := L5.free (3 + j * 5 + 3)
  have z4 := L5.free (3 + j * 5 + 4)
  have HL := Lib.hid L5
  have hg5 : w.grownBy w5 (some c) := gr_below _ hb5
  clear L5 hb5
  go_region
  go_wp2_with fail
  go_ret2
  exact ⟨rfl, (HL.out.setAll j hj _ _ _ _ _).drew, by (repeat (first | (with_reducible exact gr_refl _ _) | (with_reducible assumption) | (with_reducible refine gr_to_drew ?_) | (with_reducible refine gr_to_drewN _ ?_) | (with_reducible refine gr_to_set ?_) | (with_reducible refine gr_to_up ?_ _) | (with_reducible refine gr_to_alloc ?_)))⟩
set_option maxRecDepth 100000 in
set_option maxHeartbeats 1600000 in
theorem rhap_w1a (c j : Nat) (t : Int) (S : QuarS) (n : Int) (w : World) (h : QuarAt w c S) (ok : QuarOK S n) (hn : n ≤ 1000000) (hj : j < 8) (ht : 0 ≤ t ∧ t ≤ 1099511627776) (h2 : (S.l j).st = 2) (h3 : (S.l j).til ≤ t) (hp : S.prove = 1) :
    Calls Try.prog 42 #[.pointer (some ⟨c, 0, none⟩), .int .i64 j, .int .i64 t, .int .i64 1] w (QuarR w c (0) 0 (S.put j ⟨0, (S.l j).bad, 0, 0, (S.l j).times⟩)) := by
  obtain ⟨t1, t2⟩ := ht
  have d1 : decide (t < 0) = false := by simp; omega
  have d2 : decide (1099511627776 < t) = false := by simp; omega
  have d3 : decide ((j : Int) < 0) = false := by simp
  have d4 : decide (7 < (j : Int)) = false := by simp; omega
  have hjI : (j : Int) < 8 := by omega
  have hjI0 : (0 : Int) ≤ (j : Int) := by omega
  have H := Lib.hid h
  haveI : LtSize c w := ⟨h.lt⟩
  have hcl := h.lt
  have hne : ¬ c = w.heap.size := by omega
  have hne' : ¬ w.heap.size = c := fun e => hne e.symm
  have a0 := h.c0
  have a1 := h.c1
  have a2 := h.c2
  obtain ⟨c0, c1, c2, c3, c4⟩ := h.one j hj
  have i1 := ok.h1
  have i2 := ok.h2
  have b0 := (ok.one j).b0
  have b1 := (ok.one j).b1
  have b2 := ok.b2
  have g0 := (ok.one j).g0
  have g1 := (ok.one j).g1
  have p2 := ok.p2
  have tm0 := (ok.one j).t0
  have tm1 := (ok.one j).t1
  clear h ok
  rw [h2] at c0
  clear h2
  rw [hp] at a2
  go_enter Try.func42, Try.ntmps42
  go_upto_region 11 with fail
  go_region
  go_upto_region 18 with fail
  refine wp_gen (fun W => Below w.heap.size w W ∧ W.cell? ⟨w.heap.size, 0, none⟩ = some (.int .i64 (0)) ∧ W.cell? ⟨w.heap.size, 1, none⟩ = some (.int .i64 ((S.l j).bad)) ∧ W.cell? ⟨w.heap.size, 2, none⟩ = some (.int .i64 (0)) ∧ W.cell? ⟨w.heap.size, 3, none⟩ = some (.int .i64 (0)) ∧ W.cell? ⟨w.heap.size, 4, none⟩ = some (.int .i64 ((S.l j).times))) ⟨by (repeat (first | (with_reducible exact Below.refl _ _) | (with_reducible assumption) | (with_reducible refine Below.alloc ?_ (by (repeat (first | (with_reducible exact Nat.le_refl _) | (with_reducible assumption) | (with_reducible refine le_up ?_) | (with_reducible refine le_alloc ?_) | (with_reducible refine le_setCell ?_) | (with_reducible refine le_drew ?_) | (with_reducible refine le_drewN ?_) | omega))) _) | (with_reducible refine Below.drew ?_) | (with_reducible refine Below.drewN ?_ _) | (with_reducible refine Below.setCell ?_ (by (repeat (first | (with_reducible exact Nat.le_refl _) | (with_reducible assumption) | (with_reducible refine le_up ?_) | (with_reducible refine le_alloc ?_) | (with_reducible refine le_setCell ?_) | (with_reducible refine le_drew ?_) | (with_reducible refine le_drewN ?_) | omega))) _) | (with_reducible refine Below.up ?_ (by (repeat (first | (with_reducible exact Nat.le_refl _) | (with_reducible assumption) | (with_reducible refine le_up ?_) | (with_reducible refine le_alloc ?_) | (with_reducible refine le_setCell ?_) | (with_reducible refine le_drew ?_) | (with_reducible refine le_drewN ?_) | omega)))))), by simp, by simp, by simp, by simp, by simp⟩ ?_
  rintro w5 ⟨hb5, p0, p1, p2, p3, p4⟩
  have L5 := H.out.below hb5 hcl
  clear c0 c1 c2 c3 c4 a0 a1 a2
  obtain ⟨c0, c1, c2, c3, c4⟩ := L5.one j hj
  have z0 := L5.free (3 + j * 5)
  have z1 := L5.free (3 + j * 5 + 1)
  have z2 := L5.free (3 + j * 5 + 2)
  have z3 := L5.free (3 + j * 5 + 3)
  have z4 := L5.free (3 + j * 5 + 4)
  have HL := Lib.hid L5
  have hg5 : w.grownBy w5 (some c) := gr_below _ hb5
  clear L5 hb5
  go_region
  go_wp2_with fail
  go_ret2
  exact ⟨rfl, (HL.out.setAll j hj _ _ _ _ _).drew, by (repeat (first | (with_reducible exact gr_refl _ _) | (with_reducible assumption) | (with_reducible refine gr_to_drew ?_) | (with_reducible refine gr_to_drewN _ ?_) | (with_reducible refine gr_to_set ?_) | (with_reducible refine gr_to_up ?_ _) | (with_reducible refine gr_to_alloc ?_)))⟩
set_option maxRecDepth 100000 in
set_option maxHeartbeats 1600000 in
theorem rhap_w1b (c j : Nat) (t : Int) (S : QuarS) (n : Int) (w : World) (h : QuarAt w c S) (ok : QuarOK S n) (hn : n ≤ 1000000) (hj : j < 8) (ht : 0 ≤ t ∧ t ≤ 1099511627776) (h2 : (S.l j).st = 2) (h3 : (S.l j).til ≤ t) (hp : S.prove ≠ 1) :
    Calls Try.prog 42 #[.pointer (some ⟨c, 0, none⟩), .int .i64 j, .int .i64 t, .int .i64 1] w (QuarR w c (3) 0 (S.put j ⟨3, (S.l j).bad, 1, 0, (S.l j).times⟩)) := by
  obtain ⟨t1, t2⟩ := ht
  have d1 : decide (t < 0) = false := by simp; omega
  have d2 : decide (1099511627776 < t) = false := by simp; omega
  have d3 : decide ((j : Int) < 0) = false := by simp
  have d4 : decide (7 < (j : Int)) = false := by simp; omega
  have hjI : (j : Int) < 8 := by omega
  have hjI0 : (0 : Int) ≤ (j : Int) := by omega
  have H := Lib.hid h
  haveI : LtSize c w := ⟨h.lt⟩
  have hcl := h.lt
  have hne : ¬ c = w.heap.size := by omega
  have hne' : ¬ w.heap.size = c := fun e => hne e.symm
  have a0 := h.c0
  have a1 := h.c1
  have a2 := h.c2
  obtain ⟨c0, c1, c2, c3, c4⟩ := h.one j hj
  have i1 := ok.h1
  have i2 := ok.h2
  have b0 := (ok.one j).b0
  have b1 := (ok.one j).b1
  have b2 := ok.b2
  have g0 := (ok.one j).g0
  have g1 := (ok.one j).g1
  have p2 := ok.p2
  have tm0 := (ok.one j).t0
  have tm1 := (ok.one j).t1
  clear h ok
  rw [h2] at c0
  clear h2
  have hp1 : ((1 : Int) == S.prove) = false := by simp; omega
  go_enter Try.func42, Try.ntmps42
  go_upto_region 11 with fail
  go_region
  go_upto_region 18 with fail
  refine wp_gen (fun W => Below w.heap.size w W ∧ W.cell? ⟨w.heap.size, 0, none⟩ = some (.int .i64 (3)) ∧ W.cell? ⟨w.heap.size, 1, none⟩ = some (.int .i64 ((S.l j).bad)) ∧ W.cell? ⟨w.heap.size, 2, none⟩ = some (.int .i64 (1)) ∧ W.cell? ⟨w.heap.size, 3, none⟩ = some (.int .i64 (0)) ∧ W.cell? ⟨w.heap.size, 4, none⟩ = some (.int .i64 ((S.l j).times))) ⟨by (repeat (first | (with_reducible exact Below.refl _ _) | (with_reducible assumption) | (with_reducible refine Below.alloc ?_ (by (repeat (first | (with_reducible exact Nat.le_refl _) | (with_reducible assumption) | (with_reducible refine le_up ?_) | (with_reducible refine le_alloc ?_) | (with_reducible refine le_setCell ?_) | (with_reducible refine le_drew ?_) | (with_reducible refine le_drewN ?_) | omega))) _) | (with_reducible refine Below.drew ?_) | (with_reducible refine Below.drewN ?_ _) | (with_reducible refine Below.setCell ?_ (by (repeat (first | (with_reducible exact Nat.le_refl _) | (with_reducible assumption) | (with_reducible refine le_up ?_) | (with_reducible refine le_alloc ?_) | (with_reducible refine le_setCell ?_) | (with_reducible refine le_drew ?_) | (with_reducible refine le_drewN ?_) | omega))) _) | (with_reducible refine Below.up ?_ (by (repeat (first | (with_reducible exact Nat.le_refl _) | (with_reducible assumption) | (with_reducible refine le_up ?_) | (with_reducible refine le_alloc ?_) | (with_reducible refine le_setCell ?_) | (with_reducible refine le_drew ?_) | (with_reducible refine le_drewN ?_) | omega)))))), by simp, by simp, by simp, by simp, by simp⟩ ?_
  rintro w5 ⟨hb5, p0, p1, p2, p3, p4⟩
  have L5 := H.out.below hb5 hcl
  clear c0 c1 c2 c3 c4 a0 a1 a2
  obtain ⟨c0, c1, c2, c3, c4⟩ := L5.one j hj
  have z0 := L5.free (3 + j * 5)
  have z1 := L5.free (3 + j * 5 + 1)
  have z2 := L5.free (3 + j * 5 + 2)
  have z3 := L5.free (3 + j * 5 + 3)
  have z4 := L5.free (3 + j * 5 + 4)
  have HL := Lib.hid L5
  have hg5 : w.grownBy w5 (some c) := gr_below _ hb5
  clear L5 hb5
  go_region
  go_wp2_with fail
  go_ret2
  exact ⟨rfl, (HL.out.setAll j hj _ _ _ _ _).drew, by (repeat (first | (with_reducible exact gr_refl _ _) | (with_reducible assumption) | (with_reducible refine gr_to_drew ?_) | (with_reducible refine gr_to_drewN _ ?_) | (with_reducible refine gr_to_set ?_) | (with_reducible refine gr_to_up ?_ _) | (with_reducible refine gr_to_alloc ?_)))⟩
set_option maxRecDepth 100000 in
set_option maxHeartbeats 1600000 in
theorem rhap_w2 (c j : Nat) (t : Int) (S : QuarS) (n : Int) (w : World) (h : QuarAt w c S) (ok : QuarOK S n) (hn : n ≤ 1000000) (hj : j < 8) (ht : 0 ≤ t ∧ t ≤ 1099511627776) (h2 : (S.l j).st = 2) (h3 : (S.l j).til ≤ t) :
    Calls Try.prog 42 #[.pointer (some ⟨c, 0, none⟩), .int .i64 j, .int .i64 t, .int .i64 2] w (QuarR w c (2) 0 (S.put j ⟨2, 0, 0, t + S.hold, (S.l j).times + 1⟩)) := by
  obtain ⟨t1, t2⟩ := ht
  have d1 : decide (t < 0) = false := by simp; omega
  have d2 : decide (1099511627776 < t) = false := by simp; omega
  have d3 : decide ((j : Int) < 0) = false := by simp
  have d4 : decide (7 < (j : Int)) = false := by simp; omega
  have hjI : (j : Int) < 8 := by omega
  have hjI0 : (0 : Int) ≤ (j : Int) := by omega
  have H := Lib.hid h
  haveI : LtSize c w := ⟨h.lt⟩
  have hcl := h.lt
  have hne : ¬ c = w.heap.size := by omega
  have hne' : ¬ w.heap.size = c := fun e => hne e.symm
  have a0 := h.c0
  have a1 := h.c1
  have a2 := h.c2
  obtain ⟨c0, c1, c2, c3, c4⟩ := h.one j hj
  have i1 := ok.h1
  have i2 := ok.h2
  have b0 := (ok.one j).b0
  have b1 := (ok.one j).b1
  have b2 := ok.b2
  have g0 := (ok.one j).g0
  have g1 := (ok.one j).g1
  have p2 := ok.p2
  have tm0 := (ok.one j).t0
  have tm1 := (ok.one j).t1
  clear h ok
  rw [h2] at c0
  clear h2
  go_enter Try.func42, Try.ntmps42
  go_upto_region 17 with fail
  go_region
  go_upto_region 18 with fail
  refine wp_gen (fun W => Below w.heap.size w W ∧ W.cell? ⟨w.heap.size, 0, none⟩ = some (.int .i64 (2)) ∧ W.cell? ⟨w.heap.size, 1, none⟩ = some (.int .i64 (0)) ∧ W.cell? ⟨w.heap.size, 2, none⟩ = some (.int .i64 (0)) ∧ W.cell? ⟨w.heap.size, 3, none⟩ = some (.int .i64 (t + S.hold)) ∧ W.cell? ⟨w.heap.size, 4, none⟩ = some (.int .i64 ((S.l j).times + 1))) ⟨by (repeat (first | (with_reducible exact Below.refl _ _) | (with_reducible assumption) | (with_reducible refine Below.alloc ?_ (by (repeat (first | (with_reducible exact Nat.le_refl _) | (with_reducible assumption) | (with_reducible refine le_up ?_) | (with_reducible refine le_alloc ?_) | (with_reducible refine le_setCell ?_) | (with_reducible refine le_drew ?_) | (with_reducible refine le_drewN ?_) | omega))) _) | (with_reducible refine Below.drew ?_) | (with_reducible refine Below.drewN ?_ _) | (with_reducible refine Below.setCell ?_ (by (repeat (first | (with_reducible exact Nat.le_refl _) | (with_reducible assumption) | (with_reducible refine le_up ?_) | (with_reducible refine le_alloc ?_) | (with_reducible refine le_setCell ?_) | (with_reducible refine le_drew ?_) | (with_reducible refine le_drewN ?_) | omega))) _) | (with_reducible refine Below.up ?_ (by (repeat (first | (with_reducible exact Nat.le_refl _) | (with_reducible assumption) | (with_reducible refine le_up ?_) | (with_reducible refine le_alloc ?_) | (with_reducible refine le_setCell ?_) | (with_reducible refine le_drew ?_) | (with_reducible refine le_drewN ?_) | omega)))))), by simp, by simp, by simp, by simp, by simp⟩ ?_
  rintro w5 ⟨hb5, p0, p1, p2, p3, p4⟩
  have L5 := H.out.below hb5 hcl
  clear c0 c1 c2 c3 c4 a0 a1 a2
  obtain ⟨c0, c1, c2, c3, c4⟩ := L5.one j hj
  have z0 := L5.free (3 + j * 5)
  have z1 := L5.free (3 + j * 5 + 1)
  have z2 := L5.free (3 + j * 5 + 2)
  have z3 := L5.free (3 + j * 5 + 3)
  have z4 := L5.free (3 + j * 5 + 4)
  have HL := Lib.hid L5
  have hg5 : w.grownBy w5 (some c) := gr_below _ hb5
  clear L5 hb5
  go_region
  go_wp2_with fail
  go_ret2
  exact ⟨rfl, (HL.out.setAll j hj _ _ _ _ _).drew, by (repeat (first | (with_reducible exact gr_refl _ _) | (with_reducible assumption) | (with_reducible refine gr_to_drew ?_) | (with_reducible refine gr_to_drewN _ ?_) | (with_reducible refine gr_to_set ?_) | (with_reducible refine gr_to_up ?_ _) | (with_reducible refine gr_to_alloc ?_)))⟩
set_option maxRecDepth 100000 in
set_option maxHeartbeats 1600000 in
theorem rhap_w3 (c j : Nat) (t : Int) (S : QuarS) (n : Int) (w : World) (h : QuarAt w c S) (ok : QuarOK S n) (hn : n ≤ 1000000) (hj : j < 8) (ht : 0 ≤ t ∧ t ≤ 1099511627776) (h2 : (S.l j).st = 2) (h3 : (S.l j).til ≤ t) :
    Calls Try.prog 42 #[.pointer (some ⟨c, 0, none⟩), .int .i64 j, .int .i64 t, .int .i64 3] w (QuarR w c (2) 0 (S.put j ⟨2, 0, 0, t + S.hold, (S.l j).times + 1⟩)) := by
  obtain ⟨t1, t2⟩ := ht
  have d1 : decide (t < 0) = false := by simp; omega
  have d2 : decide (1099511627776 < t) = false := by simp; omega
  have d3 : decide ((j : Int) < 0) = false := by simp
  have d4 : decide (7 < (j : Int)) = false := by simp; omega
  have hjI : (j : Int) < 8 := by omega
  have hjI0 : (0 : Int) ≤ (j : Int) := by omega
  have H := Lib.hid h
  haveI : LtSize c w := ⟨h.lt⟩
  have hcl := h.lt
  have hne : ¬ c = w.heap.size := by omega
  have hne' : ¬ w.heap.size = c := fun e => hne e.symm
  have a0 := h.c0
  have a1 := h.c1
  have a2 := h.c2
  obtain ⟨c0, c1, c2, c3, c4⟩ := h.one j hj
  have i1 := ok.h1
  have i2 := ok.h2
  have b0 := (ok.one j).b0
  have b1 := (ok.one j).b1
  have b2 := ok.b2
  have g0 := (ok.one j).g0
  have g1 := (ok.one j).g1
  have p2 := ok.p2
  have tm0 := (ok.one j).t0
  have tm1 := (ok.one j).t1
  clear h ok
  rw [h2] at c0
  clear h2
  go_enter Try.func42, Try.ntmps42
  go_upto_region 17 with fail
  go_region
  go_upto_region 18 with fail
  refine wp_gen (fun W => Below w.heap.size w W ∧ W.cell? ⟨w.heap.size, 0, none⟩ = some (.int .i64 (2)) ∧ W.cell? ⟨w.heap.size, 1, none⟩ = some (.int .i64 (0)) ∧ W.cell? ⟨w.heap.size, 2, none⟩ = some (.int .i64 (0)) ∧ W.cell? ⟨w.heap.size, 3, none⟩ = some (.int .i64 (t + S.hold)) ∧ W.cell? ⟨w.heap.size, 4, none⟩ = some (.int .i64 ((S.l j).times + 1))) ⟨by (repeat (first | (with_reducible exact Below.refl _ _) | (with_reducible assumption) | (with_reducible refine Below.alloc ?_ (by (repeat (first | (with_reducible exact Nat.le_refl _) | (with_reducible assumption) | (with_reducible refine le_up ?_) | (with_reducible refine le_alloc ?_) | (with_reducible refine le_setCell ?_) | (with_reducible refine le_drew ?_) | (with_reducible refine le_drewN ?_) | omega))) _) | (with_reducible refine Below.drew ?_) | (with_reducible refine Below.drewN ?_ _) | (with_reducible refine Below.setCell ?_ (by (repeat (first | (with_reducible exact Nat.le_refl _) | (with_reducible assumption) | (with_reducible refine le_up ?_) | (with_reducible refine le_alloc ?_) | (with_reducible refine le_setCell ?_) | (with_reducible refine le_drew ?_) | (with_reducible refine le_drewN ?_) | omega))) _) | (with_reducible refine Below.up ?_ (by (repeat (first | (with_reducible exact Nat.le_refl _) | (with_reducible assumption) | (with_reducible refine le_up ?_) | (with_reducible refine le_alloc ?_) | (with_reducible refine le_setCell ?_) | (with_reducible refine le_drew ?_) | (with_reducible refine le_drewN ?_) | omega)))))), by simp, by simp, by simp, by simp, by simp⟩ ?_
  rintro w5 ⟨hb5, p0, p1, p2, p3, p4⟩
  have L5 := H.out.below hb5 hcl
  clear c0 c1 c2 c3 c4 a0 a1 a2
  obtain ⟨c0, c1, c2, c3, c4⟩ := L5.one j hj
  have z0 := L5.free (3 + j * 5)
  have z1 := L5.free (3 + j * 5 + 1)
  have z2 := L5.free (3 + j * 5 + 2)
  have z3 := L5.free (3 + j * 5 + 3)
  have z4 := L5.free (3 + j * 5 + 4)
  have HL := Lib.hid L5
  have hg5 : w.grownBy w5 (some c) := gr_below _ hb5
  clear L5 hb5
  go_region
  go_wp2_with fail
  go_ret2
  exact ⟨rfl, (HL.out.setAll j hj _ _ _ _ _).drew, by (repeat (first | (with_reducible exact gr_refl _ _) | (with_reducible assumption) | (with_reducible refine gr_to_drew ?_) | (with_reducible refine gr_to_drewN _ ?_) | (with_reducible refine gr_to_set ?_) | (with_reducible refine gr_to_up ?_ _) | (with_reducible refine gr_to_alloc ?_)))⟩
set_option maxRecDepth 100000 in
set_option maxHeartbeats 1600000 in
theorem rhap_q0 (c j : Nat) (t : Int) (S : QuarS) (n : Int) (w : World) (h : QuarAt w c S) (ok : QuarOK S n) (hn : n ≤ 1000000) (hj : j < 8) (ht : 0 ≤ t ∧ t ≤ 1099511627776) (h2 : (S.l j).st = 2) (h3 : t < (S.l j).til) :
    Calls Try.prog 42 #[.pointer (some ⟨c, 0, none⟩), .int .i64 j, .int .i64 t, .int .i64 0] w (QuarR w c (2) 0 (S.put j ⟨2, (S.l j).bad, (S.l j).good, (S.l j).til, (S.l j).times⟩)) := by
  obtain ⟨t1, t2⟩ := ht
  have d1 : decide (t < 0) = false := by simp; omega
  have d2 : decide (1099511627776 < t) = false := by simp; omega
  have d3 : decide ((j : Int) < 0) = false := by simp
  have d4 : decide (7 < (j : Int)) = false := by simp; omega
  have hjI : (j : Int) < 8 := by omega
  have hjI0 : (0 : Int) ≤ (j : Int) := by omega
  have H := Lib.hid h
  haveI : LtSize c w := ⟨h.lt⟩
  have hcl := h.lt
  have hne : ¬ c = w.heap.size := by omega
  have hne' : ¬ w.heap.size = c := fun e => hne e.symm
  have a0 := h.c0
  have a1 := h.c1
  have a2 := h.c2
  obtain ⟨c0, c1, c2, c3, c4⟩ := h.one j hj
  have i1 := ok.h1
  have i2 := ok.h2
  have b0 := (ok.one j).b0
  have b1 := (ok.one j).b1
  have b2 := ok.b2
  have g0 := (ok.one j).g0
  have g1 := (ok.one j).g1
  have p2 := ok.p2
  have tm0 := (ok.one j).t0
  have tm1 := (ok.one j).t1
  clear h ok
  rw [h2] at c0
  have hd : decide ((S.l j).til ≤ t) = false := by simp; omega
  clear h2
  go_enter Try.func42, Try.ntmps42
  go_upto_region 18 with fail
  refine wp_gen (fun W => Below w.heap.size w W ∧ W.cell? ⟨w.heap.size, 0, none⟩ = some (.int .i64 (2)) ∧ W.cell? ⟨w.heap.size, 1, none⟩ = some (.int .i64 ((S.l j).bad)) ∧ W.cell? ⟨w.heap.size, 2, none⟩ = some (.int .i64 ((S.l j).good)) ∧ W.cell? ⟨w.heap.size, 3, none⟩ = some (.int .i64 ((S.l j).til)) ∧ W.cell? ⟨w.heap.size, 4, none⟩ = some (.int .i64 ((S.l j).times))) ⟨by (repeat (first | (with_reducible exact Below.refl _ _) | (with_reducible assumption) | (with_reducible refine Below.alloc ?_ (by (repeat (first | (with_reducible exact Nat.le_refl _) | (with_reducible assumption) | (with_reducible refine le_up ?_) | (with_reducible refine le_alloc ?_) | (with_reducible refine le_setCell ?_) | (with_reducible refine le_drew ?_) | (with_reducible refine le_drewN ?_) | omega))) _) | (with_reducible refine Below.drew ?_) | (with_reducible refine Below.drewN ?_ _) | (with_reducible refine Below.setCell ?_ (by (repeat (first | (with_reducible exact Nat.le_refl _) | (with_reducible assumption) | (with_reducible refine le_up ?_) | (with_reducible refine le_alloc ?_) | (with_reducible refine le_setCell ?_) | (with_reducible refine le_drew ?_) | (with_reducible refine le_drewN ?_) | omega))) _) | (with_reducible refine Below.up ?_ (by (repeat (first | (with_reducible exact Nat.le_refl _) | (with_reducible assumption) | (with_reducible refine le_up ?_) | (with_reducible refine le_alloc ?_) | (with_reducible refine le_setCell ?_) | (with_reducible refine le_drew ?_) | (with_reducible refine le_drewN ?_) | omega)))))), by simp, by simp, by simp, by simp, by simp⟩ ?_
  rintro w5 ⟨hb5, p0, p1, p2, p3, p4⟩
  have L5 := H.out.below hb5 hcl
  clear c0 c1 c2 c3 c4 a0 a1 a2
  obtain ⟨c0, c1, c2, c3, c4⟩ := L5.one j hj
  have z0 := L5.free (3 + j * 5)
  have z1 := L5.free (3 + j * 5 + 1)
  have z2 := L5.free (3 + j * 5 + 2)
  have z3 := L5.free (3 + j * 5 + 3)
  have z4 := L5.free (3 + j * 5 + 4)
  have HL := Lib.hid L5
  have hg5 : w.grownBy w5 (some c) := gr_below _ hb5
  clear L5 hb5
  go_region
  go_wp2_with fail
  go_ret2
  exact ⟨rfl, (HL.out.setAll j hj _ _ _ _ _).drew, by (repeat (first | (with_reducible exact gr_refl _ _) | (with_reducible assumption) | (with_reducible refine gr_to_drew ?_) | (with_reducible refine gr_to_drewN _ ?_) | (with_reducible refine gr_to_set ?_) | (with_reducible refine gr_to_up ?_ _) | (with_reducible refine gr_to_alloc ?_)))⟩
set_option maxRecDepth 100000 in
set_option maxHeartbeats 1600000 in
theorem rhap_q1 (c j : Nat) (t : Int) (S : QuarS) (n : Int) (w : World) (h : QuarAt w c S) (ok : QuarOK S n) (hn : n ≤ 1000000) (hj : j < 8) (ht : 0 ≤ t ∧ t ≤ 1099511627776) (h2 : (S.l j).st = 2) (h3 : t < (S.l j).til) :
    Calls Try.prog 42 #[.pointer (some ⟨c, 0, none⟩), .int .i64 j, .int .i64 t, .int .i64 1] w (QuarR w c (2) 0 (S.put j ⟨2, (S.l j).bad, (S.l j).good, (S.l j).til, (S.l j).times⟩)) := by
  obtain ⟨t1, t2⟩ := ht
  have d1 : decide (t < 0) = false := by simp; omega
  have d2 : decide (1099511627776 < t) = false := by simp; omega
  have d3 : decide ((j : Int) < 0) = false := by simp
  have d4 : decide (7 < (j : Int)) = false := by simp; omega
  have hjI : (j : Int) < 8 := by omega
  have hjI0 : (0 : Int) ≤ (j : Int) := by omega
  have H := Lib.hid h
  haveI : LtSize c w := ⟨h.lt⟩
  have hcl := h.lt
  have hne : ¬ c = w.heap.size := by omega
  have hne' : ¬ w.heap.size = c := fun e => hne e.symm
  have a0 := h.c0
  have a1 := h.c1
  have a2 := h.c2
  obtain ⟨c0, c1, c2, c3, c4⟩ := h.one j hj
  have i1 := ok.h1
  have i2 := ok.h2
  have b0 := (ok.one j).b0
  have b1 := (ok.one j).b1
  have b2 := ok.b2
  have g0 := (ok.one j).g0
  have g1 := (ok.one j).g1
  have p2 := ok.p2
  have tm0 := (ok.one j).t0
  have tm1 := (ok.one j).t1
  clear h ok
  rw [h2] at c0
  have hd : decide ((S.l j).til ≤ t) = false := by simp; omega
  clear h2
  go_enter Try.func42, Try.ntmps42
  go_upto_region 18 with fail
  refine wp_gen (fun W => Below w.heap.size w W ∧ W.cell? ⟨w.heap.size, 0, none⟩ = some (.int .i64 (2)) ∧ W.cell? ⟨w.heap.size, 1, none⟩ = some (.int .i64 ((S.l j).bad)) ∧ W.cell? ⟨w.heap.size, 2, none⟩ = some (.int .i64 ((S.l j).good)) ∧ W.cell? ⟨w.heap.size, 3, none⟩ = some (.int .i64 ((S.l j).til)) ∧ W.cell? ⟨w.heap.size, 4, none⟩ = some (.int .i64 ((S.l j).times))) ⟨by (repeat (first | (with_reducible exact Below.refl _ _) | (with_reducible assumption) | (with_reducible refine Below.alloc ?_ (by (repeat (first | (with_reducible exact Nat.le_refl _) | (with_reducible assumption) | (with_reducible refine le_up ?_) | (with_reducible refine le_alloc ?_) | (with_reducible refine le_setCell ?_) | (with_reducible refine le_drew ?_) | (with_reducible refine le_drewN ?_) | omega))) _) | (with_reducible refine Below.drew ?_) | (with_reducible refine Below.drewN ?_ _) | (with_reducible refine Below.setCell ?_ (by (repeat (first | (with_reducible exact Nat.le_refl _) | (with_reducible assumption) | (with_reducible refine le_up ?_) | (with_reducible refine le_alloc ?_) | (with_reducible refine le_setCell ?_) | (with_reducible refine le_drew ?_) | (with_reducible refine le_drewN ?_) | omega))) _) | (with_reducible refine Below.up ?_ (by (repeat (first | (with_reducible exact Nat.le_refl _) | (with_reducible assumption) | (with_reducible refine le_up ?_) | (with_reducible refine le_alloc ?_) | (with_reducible refine le_setCell ?_) | (with_reducible refine le_drew ?_) | (with_reducible refine le_drewN ?_) | omega)))))), by simp, by simp, by simp, by simp, by simp⟩ ?_
  rintro w5 ⟨hb5, p0, p1, p2, p3, p4⟩
  have L5 := H.out.below hb5 hcl
  clear c0 c1 c2 c3 c4 a0 a1 a2
  obtain ⟨c0, c1, c2, c3, c4⟩ := L5.one j hj
  have z0 := L5.free (3 + j * 5)
  have z1 := L5.free (3 + j * 5 + 1)
  have z2 := L5.free (3 + j * 5 + 2)
  have z3 := L5.free (3 + j * 5 + 3)
  have z4 := L5.free (3 + j * 5 + 4)
  have HL := Lib.hid L5
  have hg5 : w.grownBy w5 (some c) := gr_below _ hb5
  clear L5 hb5
  go_region
  go_wp2_with fail
  go_ret2
  exact ⟨rfl, (HL.out.setAll j hj _ _ _ _ _).drew, by (repeat (first | (with_reducible exact gr_refl _ _) | (with_reducible assumption) | (with_reducible refine gr_to_drew ?_) | (with_reducible refine gr_to_drewN _ ?_) | (with_reducible refine gr_to_set ?_) | (with_reducible refine gr_to_up ?_ _) | (with_reducible refine gr_to_alloc ?_)))⟩
set_option maxRecDepth 100000 in
set_option maxHeartbeats 1600000 in
theorem rhap_q2 (c j : Nat) (t : Int) (S : QuarS) (n : Int) (w : World) (h : QuarAt w c S) (ok : QuarOK S n) (hn : n ≤ 1000000) (hj : j < 8) (ht : 0 ≤ t ∧ t ≤ 1099511627776) (h2 : (S.l j).st = 2) (h3 : t < (S.l j).til) :
    Calls Try.prog 42 #[.pointer (some ⟨c, 0, none⟩), .int .i64 j, .int .i64 t, .int .i64 2] w (QuarR w c (2) 0 (S.put j ⟨2, (S.l j).bad, (S.l j).good, (S.l j).til, (S.l j).times⟩)) := by
  obtain ⟨t1, t2⟩ := ht
  have d1 : decide (t < 0) = false := by simp; omega
  have d2 : decide (1099511627776 < t) = false := by simp; omega
  have d3 : decide ((j : Int) < 0) = false := by simp
  have d4 : decide (7 < (j : Int)) = false := by simp; omega
  have hjI : (j : Int) < 8 := by omega
  have hjI0 : (0 : Int) ≤ (j : Int) := by omega
  have H := Lib.hid h
  haveI : LtSize c w := ⟨h.lt⟩
  have hcl := h.lt
  have hne : ¬ c = w.heap.size := by omega
  have hne' : ¬ w.heap.size = c := fun e => hne e.symm
  have a0 := h.c0
  have a1 := h.c1
  have a2 := h.c2
  obtain ⟨c0, c1, c2, c3, c4⟩ := h.one j hj
  have i1 := ok.h1
  have i2 := ok.h2
  have b0 := (ok.one j).b0
  have b1 := (ok.one j).b1
  have b2 := ok.b2
  have g0 := (ok.one j).g0
  have g1 := (ok.one j).g1
  have p2 := ok.p2
  have tm0 := (ok.one j).t0
  have tm1 := (ok.one j).t1
  clear h ok
  rw [h2] at c0
  have hd : decide ((S.l j).til ≤ t) = false := by simp; omega
  clear h2
  go_enter Try.func42, Try.ntmps42
  go_upto_region 18 with fail
  refine wp_gen (fun W => Below w.heap.size w W ∧ W.cell? ⟨w.heap.size, 0, none⟩ = some (.int .i64 (2)) ∧ W.cell? ⟨w.heap.size, 1, none⟩ = some (.int .i64 ((S.l j).bad)) ∧ W.cell? ⟨w.heap.size, 2, none⟩ = some (.int .i64 ((S.l j).good)) ∧ W.cell? ⟨w.heap.size, 3, none⟩ = some (.int .i64 ((S.l j).til)) ∧ W.cell? ⟨w.heap.size, 4, none⟩ = some (.int .i64 ((S.l j).times))) ⟨by (repeat (first | (with_reducible exact Below.refl _ _) | (with_reducible assumption) | (with_reducible refine Below.alloc ?_ (by (repeat (first | (with_reducible exact Nat.le_refl _) | (with_reducible assumption) | (with_reducible refine le_up ?_) | (with_reducible refine le_alloc ?_) | (with_reducible refine le_setCell ?_) | (with_reducible refine le_drew ?_) | (with_reducible refine le_drewN ?_) | omega))) _) | (with_reducible refine Below.drew ?_) | (with_reducible refine Below.drewN ?_ _) | (with_reducible refine Below.setCell ?_ (by (repeat (first | (with_reducible exact Nat.le_refl _) | (with_reducible assumption) | (with_reducible refine le_up ?_) | (with_reducible refine le_alloc ?_) | (with_reducible refine le_setCell ?_) | (with_reducible refine le_drew ?_) | (with_reducible refine le_drewN ?_) | omega))) _) | (with_reducible refine Below.up ?_ (by (repeat (first | (with_reducible exact Nat.le_refl _) | (with_reducible assumption) | (with_reducible refine le_up ?_) | (with_reducible refine le_alloc ?_) | (with_reducible refine le_setCell ?_) | (with_reducible refine le_drew ?_) | (with_reducible refine le_drewN ?_) | omega)))))), by simp, by simp, by simp, by simp, by simp⟩ ?_
  rintro w5 ⟨hb5, p0, p1, p2, p3, p4⟩
  have L5 := H.out.below hb5 hcl
  clear c0 c1 c2 c3 c4 a0 a1 a2
  obtain ⟨c0, c1, c2, c3, c4⟩ := L5.one j hj
  have z0 := L5.free (3 + j * 5)
  have z1 := L5.free (3 + j * 5 + 1)
  have z2 := L5.free (3 + j * 5 + 2)
  have z3 := L5.free (3 + j * 5 + 3)
  have z4 := L5.free (3 + j * 5 + 4)
  have HL := Lib.hid L5
  have hg5 : w.grownBy w5 (some c) := gr_below _ hb5
  clear L5 hb5
  go_region
  go_wp2_with fail
  go_ret2
  exact ⟨rfl, (HL.out.setAll j hj _ _ _ _ _).drew, by (repeat (first | (with_reducible exact gr_refl _ _) | (with_reducible assumption) | (with_reducible refine gr_to_drew ?_) | (with_reducible refine gr_to_drewN _ ?_) | (with_reducible refine gr_to_set ?_) | (with_reducible refine gr_to_up ?_ _) | (with_reducible refine gr_to_alloc ?_)))⟩
set_option maxRecDepth 100000 in
set_option maxHeartbeats 1600000 in
theorem rhap_q3 (c j : Nat) (t : Int) (S : QuarS) (n : Int) (w : World) (h : QuarAt w c S) (ok : QuarOK S n) (hn : n ≤ 1000000) (hj : j < 8) (ht : 0 ≤ t ∧ t ≤ 1099511627776) (h2 : (S.l j).st = 2) (h3 : t < (S.l j).til) :
    Calls Try.prog 42 #[.pointer (some ⟨c, 0, none⟩), .int .i64 j, .int .i64 t, .int .i64 3] w (QuarR w c (2) 0 (S.put j ⟨2, 0, 0, t + S.hold, (S.l j).times + 1⟩)) := by
  obtain ⟨t1, t2⟩ := ht
  have d1 : decide (t < 0) = false := by simp; omega
  have d2 : decide (1099511627776 < t) = false := by simp; omega
  have d3 : decide ((j : Int) < 0) = false := by simp
  have d4 : decide (7 < (j : Int)) = false := by simp; omega
  have hjI : (j : Int) < 8 := by omega
  have hjI0 : (0 : Int) ≤ (j : Int) := by omega
  have H := Lib.hid h
  haveI : LtSize c w := ⟨h.lt⟩
  have hcl := h.lt
  have hne : ¬ c = w.heap.size := by omega
  have hne' : ¬ w.heap.size = c := fun e => hne e.symm
  have a0 := h.c0
  have a1 := h.c1
  have a2 := h.c2
  obtain ⟨c0, c1, c2, c3, c4⟩ := h.one j hj
  have i1 := ok.h1
  have i2 := ok.h2
  have b0 := (ok.one j).b0
  have b1 := (ok.one j).b1
  have b2 := ok.b2
  have g0 := (ok.one j).g0
  have g1 := (ok.one j).g1
  have p2 := ok.p2
  have tm0 := (ok.one j).t0
  have tm1 := (ok.one j).t1
  clear h ok
  rw [h2] at c0
  have hd : decide ((S.l j).til ≤ t) = false := by simp; omega
  clear h2
  go_enter Try.func42, Try.ntmps42
  go_upto_region 17 with fail
  go_region
  go_upto_region 18 with fail
  refine wp_gen (fun W => Below w.heap.size w W ∧ W.cell? ⟨w.heap.size, 0, none⟩ = some (.int .i64 (2)) ∧ W.cell? ⟨w.heap.size, 1, none⟩ = some (.int .i64 (0)) ∧ W.cell? ⟨w.heap.size, 2, none⟩ = some (.int .i64 (0)) ∧ W.cell? ⟨w.heap.size, 3, none⟩ = some (.int .i64 (t + S.hold)) ∧ W.cell? ⟨w.heap.size, 4, none⟩ = some (.int .i64 ((S.l j).times + 1))) ⟨by (repeat (first | (with_reducible exact Below.refl _ _) | (with_reducible assumption) | (with_reducible refine Below.alloc ?_ (by (repeat (first | (with_reducible exact Nat.le_refl _) | (with_reducible assumption) | (with_reducible refine le_up ?_) | (with_reducible refine le_alloc ?_) | (with_reducible refine le_setCell ?_) | (with_reducible refine le_drew ?_) | (with_reducible refine le_drewN ?_) | omega))) _) | (with_reducible refine Below.drew ?_) | (with_reducible refine Below.drewN ?_ _) | (with_reducible refine Below.setCell ?_ (by (repeat (first | (with_reducible exact Nat.le_refl _) | (with_reducible assumption) | (with_reducible refine le_up ?_) | (with_reducible refine le_alloc ?_) | (with_reducible refine le_setCell ?_) | (with_reducible refine le_drew ?_) | (with_reducible refine le_drewN ?_) | omega))) _) | (with_reducible refine Below.up ?_ (by (repeat (first | (with_reducible exact Nat.le_refl _) | (with_reducible assumption) | (with_reducible refine le_up ?_) | (with_reducible refine le_alloc ?_) | (with_reducible refine le_setCell ?_) | (with_reducible refine le_drew ?_) | (with_reducible refine le_drewN ?_) | omega)))))), by simp, by simp, by simp, by simp, by simp⟩ ?_
  rintro w5 ⟨hb5, p0, p1, p2, p3, p4⟩
  have L5 := H.out.below hb5 hcl
  clear c0 c1 c2 c3 c4 a0 a1 a2
  obtain ⟨c0, c1, c2, c3, c4⟩ := L5.one j hj
  have z0 := L5.free (3 + j * 5)
  have z1 := L5.free (3 + j * 5 + 1)
  have z2 := L5.free (3 + j * 5 + 2)
  have z3 := L5.free (3 + j * 5 + 3)
  have z4 := L5.free (3 + j * 5 + 4)
  have HL := Lib.hid L5
  have hg5 : w.grownBy w5 (some c) := gr_below _ hb5
  clear L5 hb5
  go_region
  go_wp2_with fail
  go_ret2
  exact ⟨rfl, (HL.out.setAll j hj _ _ _ _ _).drew, by (repeat (first | (with_reducible exact gr_refl _ _) | (with_reducible assumption) | (with_reducible refine gr_to_drew ?_) | (with_reducible refine gr_to_drewN _ ?_) | (with_reducible refine gr_to_set ?_) | (with_reducible refine gr_to_up ?_ _) | (with_reducible refine gr_to_alloc ?_)))⟩
set_option maxRecDepth 100000 in
set_option maxHeartbeats 1600000 in
theorem rhap_s0 (c j : Nat) (t : Int) (S : QuarS) (n : Int) (w : World) (h : QuarAt w c S) (ok : QuarOK S n) (hn : n ≤ 1000000) (hj : j < 8) (ht : 0 ≤ t ∧ t ≤ 1099511627776) (hn2 : (S.l j).st ≠ 2) :
    Calls Try.prog 42 #[.pointer (some ⟨c, 0, none⟩), .int .i64 j, .int .i64 t, .int .i64 0] w (QuarR w c ((S.l j).st) 0 (S.put j ⟨(S.l j).st, (S.l j).bad, (S.l j).good, (S.l j).til, (S.l j).times⟩)) := by
  obtain ⟨t1, t2⟩ := ht
  have d1 : decide (t < 0) = false := by simp; omega
  have d2 : decide (1099511627776 < t) = false := by simp; omega
  have d3 : decide ((j : Int) < 0) = false := by simp
  have d4 : decide (7 < (j : Int)) = false := by simp; omega
  have hjI : (j : Int) < 8 := by omega
  have hjI0 : (0 : Int) ≤ (j : Int) := by omega
  have H := Lib.hid h
  haveI : LtSize c w := ⟨h.lt⟩
  have hcl := h.lt
  have hne : ¬ c = w.heap.size := by omega
  have hne' : ¬ w.heap.size = c := fun e => hne e.symm
  have a0 := h.c0
  have a1 := h.c1
  have a2 := h.c2
  obtain ⟨c0, c1, c2, c3, c4⟩ := h.one j hj
  have i1 := ok.h1
  have i2 := ok.h2
  have b0 := (ok.one j).b0
  have b1 := (ok.one j).b1
  have b2 := ok.b2
  have g0 := (ok.one j).g0
  have g1 := (ok.one j).g1
  have p2 := ok.p2
  have tm0 := (ok.one j).t0
  have tm1 := (ok.one j).t1
  clear h ok
  have hs2 : ((S.l j).st == 2) = false := by simpa using hn2
  go_enter Try.func42, Try.ntmps42
  go_upto_region 18 with fail
  refine wp_gen (fun W => Below w.heap.size w W ∧ W.cell? ⟨w.heap.size, 0, none⟩ = some (.int .i64 ((S.l j).st)) ∧ W.cell? ⟨w.heap.size, 1, none⟩ = some (.int .i64 ((S.l j).bad)) ∧ W.cell? ⟨w.heap.size, 2, none⟩ = some (.int .i64 ((S.l j).good)) ∧ W.cell? ⟨w.heap.size, 3, none⟩ = some (.int .i64 ((S.l j).til)) ∧ W.cell? ⟨w.heap.size, 4, none⟩ = some (.int .i64 ((S.l j).times))) ⟨by (repeat (first | (with_reducible exact Below.refl _ _) | (with_reducible assumption) | (with_reducible refine Below.alloc ?_ (by (repeat (first | (with_reducible exact Nat.le_refl _) | (with_reducible assumption) | (with_reducible refine le_up ?_) | (with_reducible refine le_alloc ?_) | (with_reducible refine le_setCell ?_) | (with_reducible refine le_drew ?_) | (with_reducible refine le_drewN ?_) | omega))) _) | (with_reducible refine Below.drew ?_) | (with_reducible refine Below.drewN ?_ _) | (with_reducible refine Below.setCell ?_ (by (repeat (first | (with_reducible exact Nat.le_refl _) | (with_reducible assumption) | (with_reducible refine le_up ?_) | (with_reducible refine le_alloc ?_) | (with_reducible refine le_setCell ?_) | (with_reducible refine le_drew ?_) | (with_reducible refine le_drewN ?_) | omega))) _) | (with_reducible refine Below.up ?_ (by (repeat (first | (with_reducible exact Nat.le_refl _) | (with_reducible assumption) | (with_reducible refine le_up ?_) | (with_reducible refine le_alloc ?_) | (with_reducible refine le_setCell ?_) | (with_reducible refine le_drew ?_) | (with_reducible refine le_drewN ?_) | omega)))))), by simp, by simp, by simp, by simp, by simp⟩ ?_
  rintro w5 ⟨hb5, p0, p1, p2, p3, p4⟩
  have L5 := H.out.below hb5 hcl
  clear c0 c1 c2 c3 c4 a0 a1 a2
  obtain ⟨c0, c1, c2, c3, c4⟩ := L5.one j hj
  have z0 := L5.free (3 + j * 5)
  have z1 := L5.free (3 + j * 5 + 1)
  have z2 := L5.free (3 + j * 5 + 2)
  have z3 := L5.free (3 + j * 5 + 3)
  have z4 := L5.free (3 + j * 5 + 4)
  have HL := Lib.hid L5
  have hg5 : w.grownBy w5 (some c) := gr_below _ hb5
  clear L5 hb5
  go_region
  go_wp2_with fail
  go_ret2
  exact ⟨rfl, (HL.out.setAll j hj _ _ _ _ _).drew, by (repeat (first | (with_reducible exact gr_refl _ _) | (with_reducible assumption) | (with_reducible refine gr_to_drew ?_) | (with_reducible refine gr_to_drewN _ ?_) | (with_reducible refine gr_to_set ?_) | (with_reducible refine gr_to_up ?_ _) | (with_reducible refine gr_to_alloc ?_)))⟩
set_option maxRecDepth 100000 in
set_option maxHeartbeats 1600000 in
theorem rhap_s3 (c j : Nat) (t : Int) (S : QuarS) (n : Int) (w : World) (h : QuarAt w c S) (ok : QuarOK S n) (hn : n ≤ 1000000) (hj : j < 8) (ht : 0 ≤ t ∧ t ≤ 1099511627776) (hn2 : (S.l j).st ≠ 2) :
    Calls Try.prog 42 #[.pointer (some ⟨c, 0, none⟩), .int .i64 j, .int .i64 t, .int .i64 3] w (QuarR w c (2) 0 (S.put j ⟨2, 0, 0, t + S.hold, (S.l j).times + 1⟩)) := by
  obtain ⟨t1, t2⟩ := ht
  have d1 : decide (t < 0) = false := by simp; omega
  have d2 : decide (1099511627776 < t) = false := by simp; omega
  have d3 : decide ((j : Int) < 0) = false := by simp
  have d4 : decide (7 < (j : Int)) = false := by simp; omega
  have hjI : (j : Int) < 8 := by omega
  have hjI0 : (0 : Int) ≤ (j : Int) := by omega
  have H := Lib.hid h
  haveI : LtSize c w := ⟨h.lt⟩
  have hcl := h.lt
  have hne : ¬ c = w.heap.size := by omega
  have hne' : ¬ w.heap.size = c := fun e => hne e.symm
  have a0 := h.c0
  have a1 := h.c1
  have a2 := h.c2
  obtain ⟨c0, c1, c2, c3, c4⟩ := h.one j hj
  have i1 := ok.h1
  have i2 := ok.h2
  have b0 := (ok.one j).b0
  have b1 := (ok.one j).b1
  have b2 := ok.b2
  have g0 := (ok.one j).g0
  have g1 := (ok.one j).g1
  have p2 := ok.p2
  have tm0 := (ok.one j).t0
  have tm1 := (ok.one j).t1
  clear h ok
  have hs2 : ((S.l j).st == 2) = false := by simpa using hn2
  go_enter Try.func42, Try.ntmps42
  go_upto_region 17 with fail
  go_region
  go_upto_region 18 with fail
  refine wp_gen (fun W => Below w.heap.size w W ∧ W.cell? ⟨w.heap.size, 0, none⟩ = some (.int .i64 (2)) ∧ W.cell? ⟨w.heap.size, 1, none⟩ = some (.int .i64 (0)) ∧ W.cell? ⟨w.heap.size, 2, none⟩ = some (.int .i64 (0)) ∧ W.cell? ⟨w.heap.size, 3, none⟩ = some (.int .i64 (t + S.hold)) ∧ W.cell? ⟨w.heap.size, 4, none⟩ = some (.int .i64 ((S.l j).times + 1))) ⟨by (repeat (first | (with_reducible exact Below.refl _ _) | (with_reducible assumption) | (with_reducible refine Below.alloc ?_ (by (repeat (first | (with_reducible exact Nat.le_refl _) | (with_reducible assumption) | (with_reducible refine le_up ?_) | (with_reducible refine le_alloc ?_) | (with_reducible refine le_setCell ?_) | (with_reducible refine le_drew ?_) | (with_reducible refine le_drewN ?_) | omega))) _) | (with_reducible refine Below.drew ?_) | (with_reducible refine Below.drewN ?_ _) | (with_reducible refine Below.setCell ?_ (by (repeat (first | (with_reducible exact Nat.le_refl _) | (with_reducible assumption) | (with_reducible refine le_up ?_) | (with_reducible refine le_alloc ?_) | (with_reducible refine le_setCell ?_) | (with_reducible refine le_drew ?_) | (with_reducible refine le_drewN ?_) | omega))) _) | (with_reducible refine Below.up ?_ (by (repeat (first | (with_reducible exact Nat.le_refl _) | (with_reducible assumption) | (with_reducible refine le_up ?_) | (with_reducible refine le_alloc ?_) | (with_reducible refine le_setCell ?_) | (with_reducible refine le_drew ?_) | (with_reducible refine le_drewN ?_) | omega)))))), by simp, by simp, by simp, by simp, by simp⟩ ?_
  rintro w5 ⟨hb5, p0, p1, p2, p3, p4⟩
  have L5 := H.out.below hb5 hcl
  clear c0 c1 c2 c3 c4 a0 a1 a2
  obtain ⟨c0, c1, c2, c3, c4⟩ := L5.one j hj
  have z0 := L5.free (3 + j * 5)
  have z1 := L5.free (3 + j * 5 + 1)
  have z2 := L5.free (3 + j * 5 + 2)
  have z3 := L5.free (3 + j * 5 + 3)
  have z4 := L5.free (3 + j * 5 + 4)
  have HL := Lib.hid L5
  have hg5 : w.grownBy w5 (some c) := gr_below _ hb5
  clear L5 hb5
  go_region
  go_wp2_with fail
  go_ret2
  exact ⟨rfl, (HL.out.setAll j hj _ _ _ _ _).drew, by (repeat (first | (with_reducible exact gr_refl _ _) | (with_reducible assumption) | (with_reducible refine gr_to_drew ?_) | (with_reducible refine gr_to_drewN _ ?_) | (with_reducible refine gr_to_set ?_) | (with_reducible refine gr_to_up ?_ _) | (with_reducible refine gr_to_alloc ?_)))⟩
set_option maxRecDepth 100000 in
set_option maxHeartbeats 1600000 in
theorem rhap_s1a (c j : Nat) (t : Int) (S : QuarS) (n : Int) (w : World) (h : QuarAt w c S) (ok : QuarOK S n) (hn : n ≤ 1000000) (hj : j < 8) (ht : 0 ≤ t ∧ t ≤ 1099511627776) (h1 : (S.l j).st = 1) :
    Calls Try.prog 42 #[.pointer (some ⟨c, 0, none⟩), .int .i64 j, .int .i64 t, .int .i64 1] w (QuarR w c (0) 0 (S.put j ⟨0, 0, (S.l j).good, (S.l j).til, (S.l j).times⟩)) := by
  obtain ⟨t1, t2⟩ := ht
  have d1 : decide (t < 0) = false := by simp; omega
  have d2 : decide (1099511627776 < t) = false := by simp; omega
  have d3 : decide ((j : Int) < 0) = false := by simp
  have d4 : decide (7 < (j : Int)) = false := by simp; omega
  have hjI : (j : Int) < 8 := by omega
  have hjI0 : (0 : Int) ≤ (j : Int) := by omega
  have H := Lib.hid h
  haveI : LtSize c w := ⟨h.lt⟩
  have hcl := h.lt
  have hne : ¬ c = w.heap.size := by omega
  have hne' : ¬ w.heap.size = c := fun e => hne e.symm
  have a0 := h.c0
  have a1 := h.c1
  have a2 := h.c2
  obtain ⟨c0, c1, c2, c3, c4⟩ := h.one j hj
  have i1 := ok.h1
  have i2 := ok.h2
  have b0 := (ok.one j).b0
  have b1 := (ok.one j).b1
  have b2 := ok.b2
  have g0 := (ok.one j).g0
  have g1 := (ok.one j).g1
  have p2 := ok.p2
  have tm0 := (ok.one j).t0
  have tm1 := (ok.one j).t1
  clear h ok
  rw [h1] at c0
  clear h1
  go_enter Try.func42, Try.ntmps42
  go_upto_region 18 with fail
  refine wp_gen (fun W => Below w.heap.size w W ∧ W.cell? ⟨w.heap.size, 0, none⟩ = some (.int .i64 (0)) ∧ W.cell? ⟨w.heap.size, 1, none⟩ = some (.int .i64 (0)) ∧ W.cell? ⟨w.heap.size, 2, none⟩ = some (.int .i64 ((S.l j).good)) ∧ W.cell? ⟨w.heap.size, 3, none⟩ = some (.int .i64 ((S.l j).til)) ∧ W.cell? ⟨w.heap.size, 4, none⟩ = some (.int .i64 ((S.l j).times))) ⟨by (repeat (first | (with_reducible exact Below.refl _ _) | (with_reducible assumption) | (with_reducible refine Below.alloc ?_ (by (repeat (first | (with_reducible exact Nat.le_refl _) | (with_reducible assumption) | (with_reducible refine le_up ?_) | (with_reducible refine le_alloc ?_) | (with_reducible refine le_setCell ?_) | (with_reducible refine le_drew ?_) | (with_reducible refine le_drewN ?_) | omega))) _) | (with_reducible refine Below.drew ?_) | (with_reducible refine Below.drewN ?_ _) | (with_reducible refine Below.setCell ?_ (by (repeat (first | (with_reducible exact Nat.le_refl _) | (with_reducible assumption) | (with_reducible refine le_up ?_) | (with_reducible refine le_alloc ?_) | (with_reducible refine le_setCell ?_) | (with_reducible refine le_drew ?_) | (with_reducible refine le_drewN ?_) | omega))) _) | (with_reducible refine Below.up ?_ (by (repeat (first | (with_reducible exact Nat.le_refl _) | (with_reducible assumption) | (with_reducible refine le_up ?_) | (with_reducible refine le_alloc ?_) | (with_reducible refine le_setCell ?_) | (with_reducible refine le_drew ?_) | (with_reducible refine le_drewN ?_) | omega)))))), by simp, by simp, by simp, by simp, by simp⟩ ?_
  rintro w5 ⟨hb5, p0, p1, p2, p3, p4⟩
  have L5 := H.out.below hb5 hcl
  clear c0 c1 c2 c3 c4 a0 a1 a2
  obtain ⟨c0, c1, c2, c3, c4⟩ := L5.one j hj
  have z0 := L5.free (3 + j * 5)
  have z1 := L5.free (3 + j * 5 + 1)
  have z2 := L5.free (3 + j * 5 + 2)
  have z3 := L5.free (3 + j * 5 + 3)
  have z4 := L5.free (3 + j * 5 + 4)
  have HL := Lib.hid L5
  have hg5 : w.grownBy w5 (some c) := gr_below _ hb5
  clear L5 hb5
  go_region
  go_wp2_with fail
  go_ret2
  exact ⟨rfl, (HL.out.setAll j hj _ _ _ _ _).drew, by (repeat (first | (with_reducible exact gr_refl _ _) | (with_reducible assumption) | (with_reducible refine gr_to_drew ?_) | (with_reducible refine gr_to_drewN _ ?_) | (with_reducible refine gr_to_set ?_) | (with_reducible refine gr_to_up ?_ _) | (with_reducible refine gr_to_alloc ?_)))⟩
set_option maxRecDepth 100000 in
set_option maxHeartbeats 1600000 in
theorem rhap_s1b (c j : Nat) (t : Int) (S : QuarS) (n : Int) (w : World) (h : QuarAt w c S) (ok : QuarOK S n) (hn : n ≤ 1000000) (hj : j < 8) (ht : 0 ≤ t ∧ t ≤ 1099511627776) (h1 : (S.l j).st = 3) (hp : (S.l j).good + 1 = S.prove) :
    Calls Try.prog 42 #[.pointer (some ⟨c, 0, none⟩), .int .i64 j, .int .i64 t, .int .i64 1] w (QuarR w c (0) 0 (S.put j ⟨0, (S.l j).bad, 0, (S.l j).til, (S.l j).times⟩)) := by
  obtain ⟨t1, t2⟩ := ht
  have d1 : decide (t < 0) = false := by simp; omega
  have d2 : decide (1099511627776 < t) = false := by simp; omega
  have d3 : decide ((j : Int) < 0) = false := by simp
  have d4 : decide (7 < (j : Int)) = false := by simp; omega
  have hjI : (j : Int) < 8 := by omega
  have hjI0 : (0 : Int) ≤ (j : Int) := by omega
  have H := Lib.hid h
  haveI : LtSize c w := ⟨h.lt⟩
  have hcl := h.lt
  have hne : ¬ c = w.heap.size := by omega
  have hne' : ¬ w.heap.size = c := fun e => hne e.symm
  have a0 := h.c0
  have a1 := h.c1
  have a2 := h.c2
  obtain ⟨c0, c1, c2, c3, c4⟩ := h.one j hj
  have i1 := ok.h1
  have i2 := ok.h2
  have b0 := (ok.one j).b0
  have b1 := (ok.one j).b1
  have b2 := ok.b2
  have g0 := (ok.one j).g0
  have g1 := (ok.one j).g1
  have p2 := ok.p2
  have tm0 := (ok.one j).t0
  have tm1 := (ok.one j).t1
  clear h ok
  rw [h1] at c0
  clear h1
  go_enter Try.func42, Try.ntmps42
  go_upto_region 11 with fail
  go_region
  go_upto_region 18 with fail
  refine wp_gen (fun W => Below w.heap.size w W ∧ W.cell? ⟨w.heap.size, 0, none⟩ = some (.int .i64 (0)) ∧ W.cell? ⟨w.heap.size, 1, none⟩ = some (.int .i64 ((S.l j).bad)) ∧ W.cell? ⟨w.heap.size, 2, none⟩ = some (.int .i64 (0)) ∧ W.cell? ⟨w.heap.size, 3, none⟩ = some (.int .i64 ((S.l j).til)) ∧ W.cell? ⟨w.heap.size, 4, none⟩ = some (.int .i64 ((S.l j).times))) ⟨by (repeat (first | (with_reducible exact Below.refl _ _) | (with_reducible assumption) | (with_reducible refine Below.alloc ?_ (by (repeat (first | (with_reducible exact Nat.le_refl _) | (with_reducible assumption) | (with_reducible refine le_up ?_) | (with_reducible refine le_alloc ?_) | (with_reducible refine le_setCell ?_) | (with_reducible refine le_drew ?_) | (with_reducible refine le_drewN ?_) | omega))) _) | (with_reducible refine Below.drew ?_) | (with_reducible refine Below.drewN ?_ _) | (with_reducible refine Below.setCell ?_ (by (repeat (first | (with_reducible exact Nat.le_refl _) | (with_reducible assumption) | (with_reducible refine le_up ?_) | (with_reducible refine le_alloc ?_) | (with_reducible refine le_setCell ?_) | (with_reducible refine le_drew ?_) | (with_reducible refine le_drewN ?_) | omega))) _) | (with_reducible refine Below.up ?_ (by (repeat (first | (with_reducible exact Nat.le_refl _) | (with_reducible assumption) | (with_reducible refine le_up ?_) | (with_reducible refine le_alloc ?_) | (with_reducible refine le_setCell ?_) | (with_reducible refine le_drew ?_) | (with_reducible refine le_drewN ?_) | omega)))))), by simp, by simp, by simp, by simp, by simp⟩ ?_
  rintro w5 ⟨hb5, p0, p1, p2, p3, p4⟩
  have L5 := H.out.below hb5 hcl
  clear c0 c1 c2 c3 c4 a0 a1 a2
  obtain ⟨c0, c1, c2, c3, c4⟩ := L5.one j hj
  have z0 := L5.free (3 + j * 5)
  have z1 := L5.free (3 + j * 5 + 1)
  have z2 := L5.free (3 + j * 5 + 2)
  have z3 := L5.free (3 + j * 5 + 3)
  have z4 := L5.free (3 + j * 5 + 4)
  have HL := Lib.hid L5
  have hg5 : w.grownBy w5 (some c) := gr_below _ hb5
  clear L5 hb5
  go_region
  go_wp2_with fail
  go_ret2
  exact ⟨rfl, (HL.out.setAll j hj _ _ _ _ _).drew, by (repeat (first | (with_reducible exact gr_refl _ _) | (with_reducible assumption) | (with_reducible refine gr_to_drew ?_) | (with_reducible refine gr_to_drewN _ ?_) | (with_reducible refine gr_to_set ?_) | (with_reducible refine gr_to_up ?_ _) | (with_reducible refine gr_to_alloc ?_)))⟩
set_option maxRecDepth 100000 in
set_option maxHeartbeats 1600000 in
theorem rhap_s1c (c j : Nat) (t : Int) (S : QuarS) (n : Int) (w : World) (h : QuarAt w c S) (ok : QuarOK S n) (hn : n ≤ 1000000) (hj : j < 8) (ht : 0 ≤ t ∧ t ≤ 1099511627776) (h1 : (S.l j).st = 3) (hp : (S.l j).good + 1 ≠ S.prove) :
    Calls Try.prog 42 #[.pointer (some ⟨c, 0, none⟩), .int .i64 j, .int .i64 t, .int .i64 1] w (QuarR w c (3) 0 (S.put j ⟨3, (S.l j).bad, (S.l j).good + 1, (S.l j).til, (S.l j).times⟩)) := by
  obtain ⟨t1, t2⟩ := ht
  have d1 : decide (t < 0) = false := by simp; omega
  have d2 : decide (1099511627776 < t) = false := by simp; omega
  have d3 : decide ((j : Int) < 0) = false := by simp
  have d4 : decide (7 < (j : Int)) = false := by simp; omega
  have hjI : (j : Int) < 8 := by omega
  have hjI0 : (0 : Int) ≤ (j : Int) := by omega
  have H := Lib.hid h
  haveI : LtSize c w := ⟨h.lt⟩
  have hcl := h.lt
  have hne : ¬ c = w.heap.size := by omega
  have hne' : ¬ w.heap.size = c := fun e => hne e.symm
  have a0 := h.c0
  have a1 := h.c1
  have a2 := h.c2
  obtain ⟨c0, c1, c2, c3, c4⟩ := h.one j hj
  have i1 := ok.h1
  have i2 := ok.h2
  have b0 := (ok.one j).b0
  have b1 := (ok.one j).b1
  have b2 := ok.b2
  have g0 := (ok.one j).g0
  have g1 := (ok.one j).g1
  have p2 := ok.p2
  have tm0 := (ok.one j).t0
  have tm1 := (ok.one j).t1
  clear h ok
  rw [h1] at c0
  clear h1
  have hp1 : ((S.l j).good + 1 == S.prove) = false := by simpa using hp
  go_enter Try.func42, Try.ntmps42
  go_upto_region 11 with fail
  go_region
  go_upto_region 18 with fail
  refine wp_gen (fun W => Below w.heap.size w W ∧ W.cell? ⟨w.heap.size, 0, none⟩ = some (.int .i64 (3)) ∧ W.cell? ⟨w.heap.size, 1, none⟩ = some (.int .i64 ((S.l j).bad)) ∧ W.cell? ⟨w.heap.size, 2, none⟩ = some (.int .i64 ((S.l j).good + 1)) ∧ W.cell? ⟨w.heap.size, 3, none⟩ = some (.int .i64 ((S.l j).til)) ∧ W.cell? ⟨w.heap.size, 4, none⟩ = some (.int .i64 ((S.l j).times))) ⟨by (repeat (first | (with_reducible exact Below.refl _ _) | (with_reducible assumption) | (with_reducible refine Below.alloc ?_ (by (repeat (first | (with_reducible exact Nat.le_refl _) | (with_reducible assumption) | (with_reducible refine le_up ?_) | (with_reducible refine le_alloc ?_) | (with_reducible refine le_setCell ?_) | (with_reducible refine le_drew ?_) | (with_reducible refine le_drewN ?_) | omega))) _) | (with_reducible refine Below.drew ?_) | (with_reducible refine Below.drewN ?_ _) | (with_reducible refine Below.setCell ?_ (by (repeat (first | (with_reducible exact Nat.le_refl _) | (with_reducible assumption) | (with_reducible refine le_up ?_) | (with_reducible refine le_alloc ?_) | (with_reducible refine le_setCell ?_) | (with_reducible refine le_drew ?_) | (with_reducible refine le_drewN ?_) | omega))) _) | (with_reducible refine Below.up ?_ (by (repeat (first | (with_reducible exact Nat.le_refl _) | (with_reducible assumption) | (with_reducible refine le_up ?_) | (with_reducible refine le_alloc ?_) | (with_reducible refine le_setCell ?_) | (with_reducible refine le_drew ?_) | (with_reducible refine le_drewN ?_) | omega)))))), by simp, by simp, by simp, by simp, by simp⟩ ?_
  rintro w5 ⟨hb5, p0, p1, p2, p3, p4⟩
  have L5 := H.out.below hb5 hcl
  clear c0 c1 c2 c3 c4 a0 a1 a2
  obtain ⟨c0, c1, c2, c3, c4⟩ := L5.one j hj
  have z0 := L5.free (3 + j * 5)
  have z1 := L5.free (3 + j * 5 + 1)
  have z2 := L5.free (3 + j * 5 + 2)
  have z3 := L5.free (3 + j * 5 + 3)
  have z4 := L5.free (3 + j * 5 + 4)
  have HL := Lib.hid L5
  have hg5 : w.grownBy w5 (some c) := gr_below _ hb5
  clear L5 hb5
  go_region
  go_wp2_with fail
  go_ret2
  exact ⟨rfl, (HL.out.setAll j hj _ _ _ _ _).drew, by (repeat (first | (with_reducible exact gr_refl _ _) | (with_reducible assumption) | (with_reducible refine gr_to_drew ?_) | (with_reducible refine gr_to_drewN _ ?_) | (with_reducible refine gr_to_set ?_) | (with_reducible refine gr_to_up ?_ _) | (with_reducible refine gr_to_alloc ?_)))⟩
set_option maxRecDepth 100000 in
set_option maxHeartbeats 1600000 in
theorem rhap_s1d (c j : Nat) (t : Int) (S : QuarS) (n : Int) (w : World) (h : QuarAt w c S) (ok : QuarOK S n) (hn : n ≤ 1000000) (hj : j < 8) (ht : 0 ≤ t ∧ t ≤ 1099511627776) (h0 : (S.l j).st = 0) :
    Calls Try.prog 42 #[.pointer (some ⟨c, 0, none⟩), .int .i64 j, .int .i64 t, .int .i64 1] w (QuarR w c (0) 0 (S.put j ⟨0, (S.l j).bad, (S.l j).good, (S.l j).til, (S.l j).times⟩)) := by
  obtain ⟨t1, t2⟩ := ht
  have d1 : decide (t < 0) = false := by simp; omega
  have d2 : decide (1099511627776 < t) = false := by simp; omega
  have d3 : decide ((j : Int) < 0) = false := by simp
  have d4 : decide (7 < (j : Int)) = false := by simp; omega
  have hjI : (j : Int) < 8 := by omega
  have hjI0 : (0 : Int) ≤ (j : Int) := by omega
  have H := Lib.hid h
  haveI : LtSize c w := ⟨h.lt⟩
  have hcl := h.lt
  have hne : ¬ c = w.heap.size := by omega
  have hne' : ¬ w.heap.size = c := fun e => hne e.symm
  have a0 := h.c0
  have a1 := h.c1
  have a2 := h.c2
  obtain ⟨c0, c1, c2, c3, c4⟩ := h.one j hj
  have i1 := ok.h1
  have i2 := ok.h2
  have b0 := (ok.one j).b0
  have b1 := (ok.one j).b1
  have b2 := ok.b2
  have g0 := (ok.one j).g0
  have g1 := (ok.one j).g1
  have p2 := ok.p2
  have tm0 := (ok.one j).t0
  have tm1 := (ok.one j).t1
  clear h ok
  rw [h0] at c0
  clear h0
  go_enter Try.func42, Try.ntmps42
  go_upto_region 18 with fail
  refine wp_gen (fun W => Below w.heap.size w W ∧ W.cell? ⟨w.heap.size, 0, none⟩ = some (.int .i64 (0)) ∧ W.cell? ⟨w.heap.size, 1, none⟩ = some (.int .i64 ((S.l j).bad)) ∧ W.cell? ⟨w.heap.size, 2, none⟩ = some (.int .i64 ((S.l j).good)) ∧ W.cell? ⟨w.heap.size, 3, none⟩ = some (.int .i64 ((S.l j).til)) ∧ W.cell? ⟨w.heap.size, 4, none⟩ = some (.int .i64 ((S.l j).times))) ⟨by (repeat (first | (with_reducible exact Below.refl _ _) | (with_reducible assumption) | (with_reducible refine Below.alloc ?_ (by (repeat (first | (with_reducible exact Nat.le_refl _) | (with_reducible assumption) | (with_reducible refine le_up ?_) | (with_reducible refine le_alloc ?_) | (with_reducible refine le_setCell ?_) | (with_reducible refine le_drew ?_) | (with_reducible refine le_drewN ?_) | omega))) _) | (with_reducible refine Below.drew ?_) | (with_reducible refine Below.drewN ?_ _) | (with_reducible refine Below.setCell ?_ (by (repeat (first | (with_reducible exact Nat.le_refl _) | (with_reducible assumption) | (with_reducible refine le_up ?_) | (with_reducible refine le_alloc ?_) | (with_reducible refine le_setCell ?_) | (with_reducible refine le_drew ?_) | (with_reducible refine le_drewN ?_) | omega))) _) | (with_reducible refine Below.up ?_ (by (repeat (first | (with_reducible exact Nat.le_refl _) | (with_reducible assumption) | (with_reducible refine le_up ?_) | (with_reducible refine le_alloc ?_) | (with_reducible refine le_setCell ?_) | (with_reducible refine le_drew ?_) | (with_reducible refine le_drewN ?_) | omega)))))), by simp, by simp, by simp, by simp, by simp⟩ ?_
  rintro w5 ⟨hb5, p0, p1, p2, p3, p4⟩
  have L5 := H.out.below hb5 hcl
  clear c0 c1 c2 c3 c4 a0 a1 a2
  obtain ⟨c0, c1, c2, c3, c4⟩ := L5.one j hj
  have z0 := L5.free (3 + j * 5)
  have z1 := L5.free (3 + j * 5 + 1)
  have z2 := L5.free (3 + j * 5 + 2)
  have z3 := L5.free (3 + j * 5 + 3)
  have z4 := L5.free (3 + j * 5 + 4)
  have HL := Lib.hid L5
  have hg5 : w.grownBy w5 (some c) := gr_below _ hb5
  clear L5 hb5
  go_region
  go_wp2_with fail
  go_ret2
  exact ⟨rfl, (HL.out.setAll j hj _ _ _ _ _).drew, by (repeat (first | (with_reducible exact gr_refl _ _) | (with_reducible assumption) | (with_reducible refine gr_to_drew ?_) | (with_reducible refine gr_to_drewN _ ?_) | (with_reducible refine gr_to_set ?_) | (with_reducible refine gr_to_up ?_ _) | (with_reducible refine gr_to_alloc ?_)))⟩
set_option maxRecDepth 100000 in
set_option maxHeartbeats 1600000 in
theorem rhap_s20a (c j : Nat) (t : Int) (S : QuarS) (n : Int) (w : World) (h : QuarAt w c S) (ok : QuarOK S n) (hn : n ≤ 1000000) (hj : j < 8) (ht : 0 ≤ t ∧ t ≤ 1099511627776) (h0 : (S.l j).st = 0) (hb : (S.l j).bad + 1 = S.bad) :
    Calls Try.prog 42 #[.pointer (some ⟨c, 0, none⟩), .int .i64 j, .int .i64 t, .int .i64 2] w (QuarR w c (2) 0 (S.put j ⟨2, 0, 0, t + S.hold, (S.l j).times + 1⟩)) := by
  obtain ⟨t1, t2⟩ := ht
  have d1 : decide (t < 0) = false := by simp; omega
  have d2 : decide (1099511627776 < t) = false := by simp; omega
  have d3 : decide ((j : Int) < 0) = false := by simp
  have d4 : decide (7 < (j : Int)) = false := by simp; omega
  have hjI : (j : Int) < 8 := by omega
  have hjI0 : (0 : Int) ≤ (j : Int) := by omega
  have H := Lib.hid h
  haveI : LtSize c w := ⟨h.lt⟩
  have hcl := h.lt
  have hne : ¬ c = w.heap.size := by omega
  have hne' : ¬ w.heap.size = c := fun e => hne e.symm
  have a0 := h.c0
  have a1 := h.c1
  have a2 := h.c2
  obtain ⟨c0, c1, c2, c3, c4⟩ := h.one j hj
  have i1 := ok.h1
  have i2 := ok.h2
  have b0 := (ok.one j).b0
  have b1 := (ok.one j).b1
  have b2 := ok.b2
  have g0 := (ok.one j).g0
  have g1 := (ok.one j).g1
  have p2 := ok.p2
  have tm0 := (ok.one j).t0
  have tm1 := (ok.one j).t1
  clear h ok
  rw [h0] at c0
  clear h0
  go_enter Try.func42, Try.ntmps42
  go_upto_region 15 with fail
  go_region
  go_upto_region 17 with fail
  go_region
  go_upto_region 18 with fail
  refine wp_gen (fun W => Below w.heap.size w W ∧ W.cell? ⟨w.heap.size, 0, none⟩ = some (.int .i64 (2)) ∧ W.cell? ⟨w.heap.size, 1, none⟩ = some (.int .i64 (0)) ∧ W.cell? ⟨w.heap.size, 2, none⟩ = some (.int .i64 (0)) ∧ W.cell? ⟨w.heap.size, 3, none⟩ = some (.int .i64 (t + S.hold)) ∧ W.cell? ⟨w.heap.size, 4, none⟩ = some (.int .i64 ((S.l j).times + 1))) ⟨by (repeat (first | (with_reducible exact Below.refl _ _) | (with_reducible assumption) | (with_reducible refine Below.alloc ?_ (by (repeat (first | (with_reducible exact Nat.le_refl _) | (with_reducible assumption) | (with_reducible refine le_up ?_) | (with_reducible refine le_alloc ?_) | (with_reducible refine le_setCell ?_) | (with_reducible refine le_drew ?_) | (with_reducible refine le_drewN ?_) | omega))) _) | (with_reducible refine Below.drew ?_) | (with_reducible refine Below.drewN ?_ _) | (with_reducible refine Below.setCell ?_ (by (repeat (first | (with_reducible exact Nat.le_refl _) | (with_reducible assumption) | (with_reducible refine le_up ?_) | (with_reducible refine le_alloc ?_) | (with_reducible refine le_setCell ?_) | (with_reducible refine le_drew ?_) | (with_reducible refine le_drewN ?_) | omega))) _) | (with_reducible refine Below.up ?_ (by (repeat (first | (with_reducible exact Nat.le_refl _) | (with_reducible assumption) | (with_reducible refine le_up ?_) | (with_reducible refine le_alloc ?_) | (with_reducible refine le_setCell ?_) | (with_reducible refine le_drew ?_) | (with_reducible refine le_drewN ?_) | omega)))))), by simp, by simp, by simp, by simp, by simp⟩ ?_
  rintro w5 ⟨hb5, p0, p1, p2, p3, p4⟩
  have L5 := H.out.below hb5 hcl
  clear c0 c1 c2 c3 c4 a0 a1 a2
  obtain ⟨c0, c1, c2, c3, c4⟩ := L5.one j hj
  have z0 := L5.free (3 + j * 5)
  have z1 := L5.free (3 + j * 5 + 1)
  have z2 := L5.free (3 + j * 5 + 2)
  have z3 := L5.free (3 + j * 5 + 3)
  have z4 := L5.free (3 + j * 5 + 4)
  have HL := Lib.hid L5
  have hg5 : w.grownBy w5 (some c) := gr_below _ hb5
  clear L5 hb5
  go_region
  go_wp2_with fail
  go_ret2
  exact ⟨rfl, (HL.out.setAll j hj _ _ _ _ _).drew, by (repeat (first | (with_reducible exact gr_refl _ _) | (with_reducible assumption) | (with_reducible refine gr_to_drew ?_) | (with_reducible refine gr_to_drewN _ ?_) | (with_reducible refine gr_to_set ?_) | (with_reducible refine gr_to_up ?_ _) | (with_reducible refine gr_to_alloc ?_)))⟩
set_option maxRecDepth 100000 in
set_option maxHeartbeats 1600000 in
theorem rhap_s20b (c j : Nat) (t : Int) (S : QuarS) (n : Int) (w : World) (h : QuarAt w c S) (ok : QuarOK S n) (hn : n ≤ 1000000) (hj : j < 8) (ht : 0 ≤ t ∧ t ≤ 1099511627776) (h0 : (S.l j).st = 0) (hb : (S.l j).bad + 1 ≠ S.bad) :
    Calls Try.prog 42 #[.pointer (some ⟨c, 0, none⟩), .int .i64 j, .int .i64 t, .int .i64 2] w (QuarR w c (1) 0 (S.put j ⟨1, (S.l j).bad + 1, (S.l j).good, (S.l j).til, (S.l j).times⟩)) := by
  obtain ⟨t1, t2⟩ := ht
  have d1 : decide (t < 0) = false := by simp; omega
  have d2 : decide (1099511627776 < t) = false := by simp; omega
  have d3 : decide ((j : Int) < 0) = false := by simp
  have d4 : decide (7 < (j : Int)) = false := by simp; omega
  have hjI : (j : Int) < 8 := by omega
  have hjI0 : (0 : Int) ≤ (j : Int) := by omega
  have H := Lib.hid h
  haveI : LtSize c w := ⟨h.lt⟩
  have hcl := h.lt
  have hne : ¬ c = w.heap.size := by omega
  have hne' : ¬ w.heap.size = c := fun e => hne e.symm
  have a0 := h.c0
  have a1 := h.c1
  have a2 := h.c2
  obtain ⟨c0, c1, c2, c3, c4⟩ := h.one j hj
  have i1 := ok.h1
  have i2 := ok.h2
  have b0 := (ok.one j).b0
  have b1 := (ok.one j).b1
  have b2 := ok.b2
  have g0 := (ok.one j).g0
  have g1 := (ok.one j).g1
  have p2 := ok.p2
  have tm0 := (ok.one j).t0
  have tm1 := (ok.one j).t1
  clear h ok
  rw [h0] at c0
  clear h0
  have hb1 : ((S.l j).bad + 1 == S.bad) = false := by simpa using hb
  go_enter Try.func42, Try.ntmps42
  go_upto_region 15 with fail
  go_region
  go_upto_region 18 with fail
  refine wp_gen (fun W => Below w.heap.size w W ∧ W.cell? ⟨w.heap.size, 0, none⟩ = some (.int .i64 (1)) ∧ W.cell? ⟨w.heap.size, 1, none⟩ = some (.int .i64 ((S.l j).bad + 1)) ∧ W.cell? ⟨w.heap.size, 2, none⟩ = some (.int .i64 ((S.l j).good)) ∧ W.cell? ⟨w.heap.size, 3, none⟩ = some (.int .i64 ((S.l j).til)) ∧ W.cell? ⟨w.heap.size, 4, none⟩ = some (.int .i64 ((S.l j).times))) ⟨by (repeat (first | (with_reducible exact Below.refl _ _) | (with_reducible assumption) | (with_reducible refine Below.alloc ?_ (by (repeat (first | (with_reducible exact Nat.le_refl _) | (with_reducible assumption) | (with_reducible refine le_up ?_) | (with_reducible refine le_alloc ?_) | (with_reducible refine le_setCell ?_) | (with_reducible refine le_drew ?_) | (with_reducible refine le_drewN ?_) | omega))) _) | (with_reducible refine Below.drew ?_) | (with_reducible refine Below.drewN ?_ _) | (with_reducible refine Below.setCell ?_ (by (repeat (first | (with_reducible exact Nat.le_refl _) | (with_reducible assumption) | (with_reducible refine le_up ?_) | (with_reducible refine le_alloc ?_) | (with_reducible refine le_setCell ?_) | (with_reducible refine le_drew ?_) | (with_reducible refine le_drewN ?_) | omega))) _) | (with_reducible refine Below.up ?_ (by (repeat (first | (with_reducible exact Nat.le_refl _) | (with_reducible assumption) | (with_reducible refine le_up ?_) | (with_reducible refine le_alloc ?_) | (with_reducible refine le_setCell ?_) | (with_reducible refine le_drew ?_) | (with_reducible refine le_drewN ?_) | omega)))))), by simp, by simp, by simp, by simp, by simp⟩ ?_
  rintro w5 ⟨hb5, p0, p1, p2, p3, p4⟩
  have L5 := H.out.below hb5 hcl
  clear c0 c1 c2 c3 c4 a0 a1 a2
  obtain ⟨c0, c1, c2, c3, c4⟩ := L5.one j hj
  have z0 := L5.free (3 + j * 5)
  have z1 := L5.free (3 + j * 5 + 1)
  have z2 := L5.free (3 + j * 5 + 2)
  have z3 := L5.free (3 + j * 5 + 3)
  have z4 := L5.free (3 + j * 5 + 4)
  have HL := Lib.hid L5
  have hg5 : w.grownBy w5 (some c) := gr_below _ hb5
  clear L5 hb5
  go_region
  go_wp2_with fail
  go_ret2
  exact ⟨rfl, (HL.out.setAll j hj _ _ _ _ _).drew, by (repeat (first | (with_reducible exact gr_refl _ _) | (with_reducible assumption) | (with_reducible refine gr_to_drew ?_) | (with_reducible refine gr_to_drewN _ ?_) | (with_reducible refine gr_to_set ?_) | (with_reducible refine gr_to_up ?_ _) | (with_reducible refine gr_to_alloc ?_)))⟩
set_option maxRecDepth 100000 in
set_option maxHeartbeats 1600000 in
theorem rhap_s21a (c j : Nat) (t : Int) (S : QuarS) (n : Int) (w : World) (h : QuarAt w c S) (ok : QuarOK S n) (hn : n ≤ 1000000) (hj : j < 8) (ht : 0 ≤ t ∧ t ≤ 1099511627776) (h0 : (S.l j).st = 1) (hb : (S.l j).bad + 1 = S.bad) :
    Calls Try.prog 42 #[.pointer (some ⟨c, 0, none⟩), .int .i64 j, .int .i64 t, .int .i64 2] w (QuarR w c (2) 0 (S.put j ⟨2, 0, 0, t + S.hold, (S.l j).times + 1⟩)) := by
  obtain ⟨t1, t2⟩ := ht
  have d1 : decide (t < 0) = false := by simp; omega
  have d2 : decide (1099511627776 < t) = false := by simp; omega
  have d3 : decide ((j : Int) < 0) = false := by simp
  have d4 : decide (7 < (j : Int)) = false := by simp; omega
  have hjI : (j : Int) < 8 := by omega
  have hjI0 : (0 : Int) ≤ (j : Int) := by omega
  have H := Lib.hid h
  haveI : LtSize c w := ⟨h.lt⟩
  have hcl := h.lt
  have hne : ¬ c = w.heap.size := by omega
  have hne' : ¬ w.heap.size = c := fun e => hne e.symm
  have a0 := h.c0
  have a1 := h.c1
  have a2 := h.c2
  obtain ⟨c0, c1, c2, c3, c4⟩ := h.one j hj
  have i1 := ok.h1
  have i2 := ok.h2
  have b0 := (ok.one j).b0
  have b1 := (ok.one j).b1
  have b2 := ok.b2
  have g0 := (ok.one j).g0
  have g1 := (ok.one j).g1
  have p2 := ok.p2
  have tm0 := (ok.one j).t0
  have tm1 := (ok.one j).t1
  clear h ok
  rw [h0] at c0
  clear h0
  go_enter Try.func42, Try.ntmps42
  go_upto_region 15 with fail
  go_region
  go_upto_region 17 with fail
  go_region
  go_upto_region 18 with fail
  refine wp_gen (fun W => Below w.heap.size w W ∧ W.cell? ⟨w.heap.size, 0, none⟩ = some (.int .i64 (2)) ∧ W.cell? ⟨w.heap.size, 1, none⟩ = some (.int .i64 (0)) ∧ W.cell? ⟨w.heap.size, 2, none⟩ = some (.int .i64 (0)) ∧ W.cell? ⟨w.heap.size, 3, none⟩ = some (.int .i64 (t + S.hold)) ∧ W.cell? ⟨w.heap.size, 4, none⟩ = some (.int .i64 ((S.l j).times + 1))) ⟨by (repeat (first | (with_reducible exact Below.refl _ _) | (with_reducible assumption) | (with_reducible refine Below.alloc ?_ (by (repeat (first | (with_reducible exact Nat.le_refl _) | (with_reducible assumption) | (with_reducible refine le_up ?_) | (with_reducible refine le_alloc ?_) | (with_reducible refine le_setCell ?_) | (with_reducible refine le_drew ?_) | (with_reducible refine le_drewN ?_) | omega))) _) | (with_reducible refine Below.drew ?_) | (with_reducible refine Below.drewN ?_ _) | (with_reducible refine Below.setCell ?_ (by (repeat (first | (with_reducible exact Nat.le_refl _) | (with_reducible assumption) | (with_reducible refine le_up ?_) | (with_reducible refine le_alloc ?_) | (with_reducible refine le_setCell ?_) | (with_reducible refine le_drew ?_) | (with_reducible refine le_drewN ?_) | omega))) _) | (with_reducible refine Below.up ?_ (by (repeat (first | (with_reducible exact Nat.le_refl _) | (with_reducible assumption) | (with_reducible refine le_up ?_) | (with_reducible refine le_alloc ?_) | (with_reducible refine le_setCell ?_) | (with_reducible refine le_drew ?_) | (with_reducible refine le_drewN ?_) | omega)))))), by simp, by simp, by simp, by simp, by simp⟩ ?_
  rintro w5 ⟨hb5, p0, p1, p2, p3, p4⟩
  have L5 := H.out.below hb5 hcl
  clear c0 c1 c2 c3 c4 a0 a1 a2
  obtain ⟨c0, c1, c2, c3, c4⟩ := L5.one j hj
  have z0 := L5.free (3 + j * 5)
  have z1 := L5.free (3 + j * 5 + 1)
  have z2 := L5.free (3 + j * 5 + 2)
  have z3 := L5.free (3 + j * 5 + 3)
  have z4 := L5.free (3 + j * 5 + 4)
  have HL := Lib.hid L5
  have hg5 : w.grownBy w5 (some c) := gr_below _ hb5
  clear L5 hb5
  go_region
  go_wp2_with fail
  go_ret2
  exact ⟨rfl, (HL.out.setAll j hj _ _ _ _ _).drew, by (repeat (first | (with_reducible exact gr_refl _ _) | (with_reducible assumption) | (with_reducible refine gr_to_drew ?_) | (with_reducible refine gr_to_drewN _ ?_) | (with_reducible refine gr_to_set ?_) | (with_reducible refine gr_to_up ?_ _) | (with_reducible refine gr_to_alloc ?_)))⟩
set_option maxRecDepth 100000 in
set_option maxHeartbeats 1600000 in
theorem rhap_s21b (c j : Nat) (t : Int) (S : QuarS) (n : Int) (w : World) (h : QuarAt w c S) (ok : QuarOK S n) (hn : n ≤ 1000000) (hj : j < 8) (ht : 0 ≤ t ∧ t ≤ 1099511627776) (h0 : (S.l j).st = 1) (hb : (S.l j).bad + 1 ≠ S.bad) :
    Calls Try.prog 42 #[.pointer (some ⟨c, 0, none⟩), .int .i64 j, .int .i64 t, .int .i64 2] w (QuarR w c (1) 0 (S.put j ⟨1, (S.l j).bad + 1, (S.l j).good, (S.l j).til, (S.l j).times⟩)) := by
  obtain ⟨t1, t2⟩ := ht
  have d1 : decide (t < 0) = false := by simp; omega
  have d2 : decide (1099511627776 < t) = false := by simp; omega
  have d3 : decide ((j : Int) < 0) = false := by simp
  have d4 : decide (7 < (j : Int)) = false := by simp; omega
  have hjI : (j : Int) < 8 := by omega
  have hjI0 : (0 : Int) ≤ (j : Int) := by omega
  have H := Lib.hid h
  haveI : LtSize c w := ⟨h.lt⟩
  have hcl := h.lt
  have hne : ¬ c = w.heap.size := by omega
  have hne' : ¬ w.heap.size = c := fun e => hne e.symm
  have a0 := h.c0
  have a1 := h.c1
  have a2 := h.c2
  obtain ⟨c0, c1, c2, c3, c4⟩ := h.one j hj
  have i1 := ok.h1
  have i2 := ok.h2
  have b0 := (ok.one j).b0
  have b1 := (ok.one j).b1
  have b2 := ok.b2
  have g0 := (ok.one j).g0
  have g1 := (ok.one j).g1
  have p2 := ok.p2
  have tm0 := (ok.one j).t0
  have tm1 := (ok.one j).t1
  clear h ok
  rw [h0] at c0
  clear h0
  have hb1 : ((S.l j).bad + 1 == S.bad) = false := by simpa using hb
  go_enter Try.func42, Try.ntmps42
  go_upto_region 15 with fail
  go_region
  go_upto_region 18 with fail
  refine wp_gen (fun W => Below w.heap.size w W ∧ W.cell? ⟨w.heap.size, 0, none⟩ = some (.int .i64 (1)) ∧ W.cell? ⟨w.heap.size, 1, none⟩ = some (.int .i64 ((S.l j).bad + 1)) ∧ W.cell? ⟨w.heap.size, 2, none⟩ = some (.int .i64 ((S.l j).good)) ∧ W.cell? ⟨w.heap.size, 3, none⟩ = some (.int .i64 ((S.l j).til)) ∧ W.cell? ⟨w.heap.size, 4, none⟩ = some (.int .i64 ((S.l j).times))) ⟨by (repeat (first | (with_reducible exact Below.refl _ _) | (with_reducible assumption) | (with_reducible refine Below.alloc ?_ (by (repeat (first | (with_reducible exact Nat.le_refl _) | (with_reducible assumption) | (with_reducible refine le_up ?_) | (with_reducible refine le_alloc ?_) | (with_reducible refine le_setCell ?_) | (with_reducible refine le_drew ?_) | (with_reducible refine le_drewN ?_) | omega))) _) | (with_reducible refine Below.drew ?_) | (with_reducible refine Below.drewN ?_ _) | (with_reducible refine Below.setCell ?_ (by (repeat (first | (with_reducible exact Nat.le_refl _) | (with_reducible assumption) | (with_reducible refine le_up ?_) | (with_reducible refine le_alloc ?_) | (with_reducible refine le_setCell ?_) | (with_reducible refine le_drew ?_) | (with_reducible refine le_drewN ?_) | omega))) _) | (with_reducible refine Below.up ?_ (by (repeat (first | (with_reducible exact Nat.le_refl _) | (with_reducible assumption) | (with_reducible refine le_up ?_) | (with_reducible refine le_alloc ?_) | (with_reducible refine le_setCell ?_) | (with_reducible refine le_drew ?_) | (with_reducible refine le_drewN ?_) | omega)))))), by simp, by simp, by simp, by simp, by simp⟩ ?_
  rintro w5 ⟨hb5, p0, p1, p2, p3, p4⟩
  have L5 := H.out.below hb5 hcl
  clear c0 c1 c2 c3 c4 a0 a1 a2
  obtain ⟨c0, c1, c2, c3, c4⟩ := L5.one j hj
  have z0 := L5.free (3 + j * 5)
  have z1 := L5.free (3 + j * 5 + 1)
  have z2 := L5.free (3 + j * 5 + 2)
  have z3 := L5.free (3 + j * 5 + 3)
  have z4 := L5.free (3 + j * 5 + 4)
  have HL := Lib.hid L5
  have hg5 : w.grownBy w5 (some c) := gr_below _ hb5
  clear L5 hb5
  go_region
  go_wp2_with fail
  go_ret2
  exact ⟨rfl, (HL.out.setAll j hj _ _ _ _ _).drew, by (repeat (first | (with_reducible exact gr_refl _ _) | (with_reducible assumption) | (with_reducible refine gr_to_drew ?_) | (with_reducible refine gr_to_drewN _ ?_) | (with_reducible refine gr_to_set ?_) | (with_reducible refine gr_to_up ?_ _) | (with_reducible refine gr_to_alloc ?_)))⟩
set_option maxRecDepth 100000 in
set_option maxHeartbeats 1600000 in
theorem rhap_s2c (c j : Nat) (t : Int) (S : QuarS) (n : Int) (w : World) (h : QuarAt w c S) (ok : QuarOK S n) (hn : n ≤ 1000000) (hj : j < 8) (ht : 0 ≤ t ∧ t ≤ 1099511627776) (h0 : (S.l j).st = 3) :
    Calls Try.prog 42 #[.pointer (some ⟨c, 0, none⟩), .int .i64 j, .int .i64 t, .int .i64 2] w (QuarR w c (2) 0 (S.put j ⟨2, 0, 0, t + S.hold, (S.l j).times + 1⟩)) := by
  obtain ⟨t1, t2⟩ := ht
  have d1 : decide (t < 0) = false := by simp; omega
  have d2 : decide (1099511627776 < t) = false := by simp; omega
  have d3 : decide ((j : Int) < 0) = false := by simp
  have d4 : decide (7 < (j : Int)) = false := by simp; omega
  have hjI : (j : Int) < 8 := by omega
  have hjI0 : (0 : Int) ≤ (j : Int) := by omega
  have H := Lib.hid h
  haveI : LtSize c w := ⟨h.lt⟩
  have hcl := h.lt
  have hne : ¬ c = w.heap.size := by omega
  have hne' : ¬ w.heap.size = c := fun e => hne e.symm
  have a0 := h.c0
  have a1 := h.c1
  have a2 := h.c2
  obtain ⟨c0, c1, c2, c3, c4⟩ := h.one j hj
  have i1 := ok.h1
  have i2 := ok.h2
  have b0 := (ok.one j).b0
  have b1 := (ok.one j).b1
  have b2 := ok.b2
  have g0 := (ok.one j).g0
  have g1 := (ok.one j).g1
  have p2 := ok.p2
  have tm0 := (ok.one j).t0
  have tm1 := (ok.one j).t1
  clear h ok
  rw [h0] at c0
  clear h0
  go_enter Try.func42, Try.ntmps42
  go_upto_region 17 with fail
  go_region
  go_upto_region 18 with fail
  refine wp_gen (fun W => Below w.heap.size w W ∧ W.cell? ⟨w.heap.size, 0, none⟩ = some (.int .i64 (2)) ∧ W.cell? ⟨w.heap.size, 1, none⟩ = some (.int .i64 (0)) ∧ W.cell? ⟨w.heap.size, 2, none⟩ = some (.int .i64 (0)) ∧ W.cell? ⟨w.heap.size, 3, none⟩ = some (.int .i64 (t + S.hold)) ∧ W.cell? ⟨w.heap.size, 4, none⟩ = some (.int .i64 ((S.l j).times + 1))) ⟨by (repeat (first | (with_reducible exact Below.refl _ _) | (with_reducible assumption) | (with_reducible refine Below.alloc ?_ (by (repeat (first | (with_reducible exact Nat.le_refl _) | (with_reducible assumption) | (with_reducible refine le_up ?_) | (with_reducible refine le_alloc ?_) | (with_reducible refine le_setCell ?_) | (with_reducible refine le_drew ?_) | (with_reducible refine le_drewN ?_) | omega))) _) | (with_reducible refine Below.drew ?_) | (with_reducible refine Below.drewN ?_ _) | (with_reducible refine Below.setCell ?_ (by (repeat (first | (with_reducible exact Nat.le_refl _) | (with_reducible assumption) | (with_reducible refine le_up ?_) | (with_reducible refine le_alloc ?_) | (with_reducible refine le_setCell ?_) | (with_reducible refine le_drew ?_) | (with_reducible refine le_drewN ?_) | omega))) _) | (with_reducible refine Below.up ?_ (by (repeat (first | (with_reducible exact Nat.le_refl _) | (with_reducible assumption) | (with_reducible refine le_up ?_) | (with_reducible refine le_alloc ?_) | (with_reducible refine le_setCell ?_) | (with_reducible refine le_drew ?_) | (with_reducible refine le_drewN ?_) | omega)))))), by simp, by simp, by simp, by simp, by simp⟩ ?_
  rintro w5 ⟨hb5, p0, p1, p2, p3, p4⟩
  have L5 := H.out.below hb5 hcl
  clear c0 c1 c2 c3 c4 a0 a1 a2
  obtain ⟨c0, c1, c2, c3, c4⟩ := L5.one j hj
  have z0 := L5.free (3 + j * 5)
  have z1 := L5.free (3 + j * 5 + 1)
  have z2 := L5.free (3 + j * 5 + 2)
  have z3 := L5.free (3 + j * 5 + 3)
  have z4 := L5.free (3 + j * 5 + 4)
  have HL := Lib.hid L5
  have hg5 : w.grownBy w5 (some c) := gr_below _ hb5
  clear L5 hb5
  go_region
  go_wp2_with fail
  go_ret2
  exact ⟨rfl, (HL.out.setAll j hj _ _ _ _ _).drew, by (repeat (first | (with_reducible exact gr_refl _ _) | (with_reducible assumption) | (with_reducible refine gr_to_drew ?_) | (with_reducible refine gr_to_drewN _ ?_) | (with_reducible refine gr_to_set ?_) | (with_reducible refine gr_to_up ?_ _) | (with_reducible refine gr_to_alloc ?_)))⟩
end Go.Proofs.Ytcdhhnodfgpkiaa
