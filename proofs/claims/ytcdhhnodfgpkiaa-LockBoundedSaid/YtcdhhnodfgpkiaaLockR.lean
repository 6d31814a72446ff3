/-
  The walks over the reference's keeper of lock-outs; an act, done to both.
-/
import Derived.Test.YtcdhhnodfgpkiaaLockV
import Derived.Deep.RegionHeld3
namespace Go.Proofs.Ytcdhhnodfgpkiaa
open Go.RowKit

theorem rMay_any (c : Nat) (s t : Int) (S : LockS) (w : World) (h : LockAt w c S) :
    Calls Try.prog 44 #[.pointer (some ⟨c, 0, none⟩), .int .i64 s, .int .i64 t] w (Tells w (.int .i64 (openE S s t))) := by
  have H := Lib.hid h
  cases hs : srcB s
  · have e : openE S s t = 2 := by simp [openE, hs]
    rw [e]
    clear h
    rcases src_out hs with h1 | h1
    · go_enter Try.func44, Try.ntmps44
      go_wp2_with fail
      go_ret
      exact Tells.mk rfl
    · have d1 : decide (s < 0) = false := by simp; omega
      have h2 : 7 < s := by omega
      go_enter Try.func44, Try.ntmps44
      go_wp2_with fail
      go_ret
      exact Tells.mk rfl
  · obtain ⟨j, hj, rfl⟩ := src_in hs
    have ct := h.til j hj
    have d0 : decide ((j : Int) < 0) = false := by simp
    have d00 : decide (7 < (j : Int)) = false := by simp; omega
    clear h
    cases ht : tickB t
    · have e : openE S j t = 2 := by simp [openE, hs, ht]
      rw [e]
      rcases tick_out ht with h1 | h1
      · go_enter Try.func44, Try.ntmps44
        go_wp2_with fail
        go_ret
        exact Tells.mk rfl
      · have d1 : decide (t < 0) = false := by simp; omega
        go_enter Try.func44, Try.ntmps44
        go_wp2_with fail
        go_ret
        exact Tells.mk rfl
    · obtain ⟨h1, h2⟩ := tick_in ht
      have d1 : decide (t < 0) = false := by simp; omega
      have d2 : decide (1099511627776 < t) = false := by simp; omega
      by_cases h3 : t < (S.l j).til
      · have e : openE S j t = 180 := by simp [openE, hs, ht, h3]
        rw [e]
        go_enter Try.func44, Try.ntmps44
        go_wp2_with fail
        go_ret
        exact Tells.mk rfl
      · have e : openE S j t = 0 := by simp [openE, hs, ht, h3]
        rw [e]
        go_enter Try.func44, Try.ntmps44
        go_wp2_with fail
        go_ret
        exact Tells.mk rfl
theorem rGood_any (c : Nat) (s : Int) (S : LockS) (w : World) (h : LockAt w c S) :
    Calls Try.prog 45 #[.pointer (some ⟨c, 0, none⟩), .int .i64 s] w (LockR w c (goodE s) (goodS S s)) := by
  have H := Lib.hid h
  cases hs : srcB s
  · rw [show goodE s = 2 by simp [goodE, hs], show goodS S s = S by simp [goodS, hs]]
    clear h
    rcases src_out hs with h1 | h1
    · go_enter Try.func45, Try.ntmps45
      go_wp2_with fail
      go_ret
      exact ⟨rfl, H.out, gr_refl _ _⟩
    · have d1 : decide (s < 0) = false := by simp; omega
      have h2 : 7 < s := by omega
      go_enter Try.func45, Try.ntmps45
      go_wp2_with fail
      go_ret
      exact ⟨rfl, H.out, gr_refl _ _⟩
  · rw [show goodE s = 0 by simp [goodE, hs], show goodS S s = S.put s.toNat ⟨0, (S.l s.toNat).total, (S.l s.toNat).til⟩ by simp [goodS, hs]]
    obtain ⟨j, hj, rfl⟩ := src_in hs
    simp only [Int.toNat_natCast] at *
    have c2 := h.fails j hj
    have z2 := h.free (2 + j * 3)
    have d0 : decide ((j : Int) < 0) = false := by simp
    have d00 : decide (7 < (j : Int)) = false := by simp; omega
    clear h
    go_enter Try.func45, Try.ntmps45
    go_wp2_with fail
    go_ret
    exact ⟨rfl, H.out.setFails j hj 0, gr_set _ _ _ _⟩
theorem LockAt.setAll {w : World} {c : Nat} {S : LockS} (h : LockAt w c S) (j : Nat) (hj : j < 8) (a b d : Int) :
    LockAt (((w.setCell ⟨c, 2 + j * 3, none⟩ (.int .i64 a)).setCell ⟨c, 2 + j * 3 + 1, none⟩ (.int .i64 b)).setCell ⟨c, 2 + j * 3 + 2, none⟩ (.int .i64 d)) c (S.put j ⟨a, b, d⟩) := by
  have L := ((h.setFails j hj a).setTotal j hj b).setTil j hj d
  simp only [LockS.put_same, LockS.put_put] at L
  exact L
theorem set02 {X : World} {g : Nat} {a b d : Value} (x y : Value) (h0 : X.cell? ⟨g, 0, none⟩ = some a) (h1 : X.cell? ⟨g, 1, none⟩ = some b) (h2 : X.cell? ⟨g, 2, none⟩ = some d) :
    (((X.setCell ⟨g, 0, none⟩ x).setCell ⟨g, 2, none⟩ y).drew).cell? ⟨g, 0, none⟩ = some x ∧ (((X.setCell ⟨g, 0, none⟩ x).setCell ⟨g, 2, none⟩ y).drew).cell? ⟨g, 1, none⟩ = some b ∧ (((X.setCell ⟨g, 0, none⟩ x).setCell ⟨g, 2, none⟩ y).drew).cell? ⟨g, 2, none⟩ = some y := by
  have h2' : (X.setCell ⟨g, 0, none⟩ x).cell? ⟨g, 2, none⟩ = some d := by rw [World.cell?_setCell_other _ _ _ _ (by simp)]; exact h2
  refine ⟨?_, ?_, ?_⟩
  · show ((X.setCell ⟨g, 0, none⟩ x).setCell ⟨g, 2, none⟩ y).cell? ⟨g, 0, none⟩ = _
    rw [World.cell?_setCell_other _ _ _ _ (by simp), World.cell?_setCell_same _ _ _ h0]
  · show ((X.setCell ⟨g, 0, none⟩ x).setCell ⟨g, 2, none⟩ y).cell? ⟨g, 1, none⟩ = _
    rw [World.cell?_setCell_other _ _ _ _ (by simp), World.cell?_setCell_other _ _ _ _ (by simp)]; exact h1
  · show ((X.setCell ⟨g, 0, none⟩ x).setCell ⟨g, 2, none⟩ y).cell? ⟨g, 2, none⟩ = _
    rw [World.cell?_setCell_same _ _ _ h2']
set_option maxRecDepth 100000 in
set_option maxHeartbeats 1600000 in
theorem rFail_any (c : Nat) (s t : Int) (S : LockS) (n : Int) (w : World) (h : LockAt w c S) (ok : LockOK S n) (hn : n < 1000000) :
    Calls Try.prog 46 #[.pointer (some ⟨c, 0, none⟩), .int .i64 s, .int .i64 t] w (LockR w c (openE S s t) (failS S s t)) := by
  have H := Lib.hid h
  haveI : LtSize c w := ⟨h.lt⟩
  by_cases he : openE S s t = 0
  · have hs : srcB s = true := by
      cases hs : srcB s
      · simp [openE, hs] at he
      · rfl
    have ht : tickB t = true := by
      cases ht : tickB t
      · simp [openE, hs, ht] at he
      · rfl
    have hS : failS S s t = S.put s.toNat (failO S (S.l s.toNat) t) := if_pos he
    obtain ⟨j, hj, rfl⟩ := src_in hs
    obtain ⟨t1, t2⟩ := tick_in ht
    have hC := Lib.hid (rMay_any c j t S w h)
    rw [he] at hC
    rw [hS, he]
    simp only [Int.toNat_natCast] at *
    have c0 := h.most
    have c1 := h.time
    have c2 := h.fails j hj
    have c3 := h.total j hj
    have c4 := h.til j hj
    have z2 := h.free (2 + j * 3)
    have z3 := h.free (2 + j * 3 + 1)
    have z4 := h.free (2 + j * 3 + 2)
    have b1 := ok.f1 j
    have b2 := ok.f2 j
    have b3 := ok.o1 j
    have b4 := ok.o2 j
    have b5 := ok.t1
    have b6 := ok.t2
    have b7 := ok.m1
    have b8 := ok.m2
    have hcl := h.lt
    have hne : ¬ c = w.heap.size := by omega
    have hne' : ¬ w.heap.size = c := fun e => hne e.symm
    have hjI : (j : Int) < 8 := by omega
    have hjI0 : (0 : Int) ≤ (j : Int) := by omega
    clear h ok hS
    by_cases hm : (S.l j).fails + 1 = S.most
    · have hO : failO S (S.l j) t = ⟨0, (S.l j).total + 1, t + S.time⟩ := if_pos hm
      rw [hO]
      go_enter Try.func46, Try.ntmps46
      go_wp2_with (go_at_call 44; with_reducible refine Calls.tells (hC.out) ?_)
      (refine wp_region_up (by kernel_rfl) (by kernel_rfl) ?_; (repeat (go_big_quiet_step (fail))); refine wpQuiet_nil ?_; intro _ hw'; obtain ⟨xq, hw''⟩ := hw'; subst hw'')
      go_wp2_with fail
      go_region
      go_wp2_with fail
      have hbel : Below w.heap.size w ((((up (w.alloc (Obj.cells #[Value.int IntKind.i64 S.most, Value.int IntKind.i64 ((S.l j).total + 1), Value.int IntKind.i64 (S.l j).til] 34)) xq).setCell { block := w.heap.size, off := 0 } (Value.int IntKind.i64 0)).setCell { block := w.heap.size, off := 2 } (Value.int IntKind.i64 (t + S.time))).drew) := by (repeat (first | (with_reducible exact Below.refl _ _) | (with_reducible assumption) | (with_reducible refine Below.alloc ?_ (by (repeat (first | (with_reducible exact Nat.le_refl _) | (with_reducible assumption) | (with_reducible refine le_up ?_) | (with_reducible refine le_alloc ?_) | (with_reducible refine le_setCell ?_) | (with_reducible refine le_drew ?_) | (with_reducible refine le_drewN ?_) | omega))) _) | (with_reducible refine Below.drew ?_) | (with_reducible refine Below.drewN ?_ _) | (with_reducible refine Below.setCell ?_ (by (repeat (first | (with_reducible exact Nat.le_refl _) | (with_reducible assumption) | (with_reducible refine le_up ?_) | (with_reducible refine le_alloc ?_) | (with_reducible refine le_setCell ?_) | (with_reducible refine le_drew ?_) | (with_reducible refine le_drewN ?_) | omega))) _) | (with_reducible refine Below.up ?_ (by (repeat (first | (with_reducible exact Nat.le_refl _) | (with_reducible assumption) | (with_reducible refine le_up ?_) | (with_reducible refine le_alloc ?_) | (with_reducible refine le_setCell ?_) | (with_reducible refine le_drew ?_) | (with_reducible refine le_drewN ?_) | omega))))))
      obtain ⟨p0, p1, p2⟩ := set02 (X := (up (w.alloc (Obj.cells #[Value.int IntKind.i64 S.most, Value.int IntKind.i64 ((S.l j).total + 1), Value.int IntKind.i64 (S.l j).til] 34)) xq)) (g := w.heap.size) (a := .int .i64 S.most) (b := .int .i64 ((S.l j).total + 1)) (d := .int .i64 (S.l j).til) (.int .i64 0) (.int .i64 (t + S.time)) (by simp) (by simp) (by simp)
      clear c0 c1 c2 c3 c4 z2 z3 z4 b1 b2 b3 b4 b5 b6 b7 b8 hC hm he ht t1 t2
      generalize (((up (w.alloc (Obj.cells #[Value.int IntKind.i64 S.most, Value.int IntKind.i64 ((S.l j).total + 1), Value.int IntKind.i64 (S.l j).til] 34)) xq).setCell { block := w.heap.size, off := 0 } (Value.int IntKind.i64 0)).setCell { block := w.heap.size, off := 2 } (Value.int IntKind.i64 (t + S.time))).drew = w5 at *
      have L5 := H.out.below hbel (by omega)
      have c2 := L5.fails j hj
      have c3 := L5.total j hj
      have c4 := L5.til j hj
      have z2 := L5.free (2 + j * 3)
      have z3 := L5.free (2 + j * 3 + 1)
      have z4 := L5.free (2 + j * 3 + 2)
      have HL := Lib.hid L5
      have HB := Lib.hid hbel
      clear L5 hbel this
      go_region
      go_wp2_with fail
      go_ret
      exact ⟨rfl, (HL.out.setAll j hj _ _ _).drew, gr_trans (gr_trans (gr_trans (gr_trans (gr_below _ HB.out) (gr_set _ c _ _)) (gr_set _ c _ _)) (gr_set _ c _ _)) ⟨rfl, rfl, rfl, Nat.le_refl _, fun _ _ _ => rfl⟩⟩
    · have hO : failO S (S.l j) t = ⟨(S.l j).fails + 1, (S.l j).total + 1, (S.l j).til⟩ := if_neg hm
      rw [hO]
      have hm' : ((S.l j).fails + 1 == S.most) = false := by simpa using hm
      go_enter Try.func46, Try.ntmps46
      go_wp2_with (go_at_call 44; with_reducible refine Calls.tells (hC.out) ?_)
      (refine wp_region_up (by kernel_rfl) (by kernel_rfl) ?_; (repeat (go_big_quiet_step (fail))); refine wpQuiet_nil ?_; intro _ hw'; obtain ⟨xq, hw''⟩ := hw'; subst hw'')
      go_wp2_with fail
      have hbel : Below w.heap.size w (up (w.alloc (Obj.cells #[Value.int IntKind.i64 ((S.l j).fails + 1), Value.int IntKind.i64 ((S.l j).total + 1), Value.int IntKind.i64 (S.l j).til] 34)) xq) := by (repeat (first | (with_reducible exact Below.refl _ _) | (with_reducible assumption) | (with_reducible refine Below.alloc ?_ (by (repeat (first | (with_reducible exact Nat.le_refl _) | (with_reducible assumption) | (with_reducible refine le_up ?_) | (with_reducible refine le_alloc ?_) | (with_reducible refine le_setCell ?_) | (with_reducible refine le_drew ?_) | (with_reducible refine le_drewN ?_) | omega))) _) | (with_reducible refine Below.drew ?_) | (with_reducible refine Below.drewN ?_ _) | (with_reducible refine Below.setCell ?_ (by (repeat (first | (with_reducible exact Nat.le_refl _) | (with_reducible assumption) | (with_reducible refine le_up ?_) | (with_reducible refine le_alloc ?_) | (with_reducible refine le_setCell ?_) | (with_reducible refine le_drew ?_) | (with_reducible refine le_drewN ?_) | omega))) _) | (with_reducible refine Below.up ?_ (by (repeat (first | (with_reducible exact Nat.le_refl _) | (with_reducible assumption) | (with_reducible refine le_up ?_) | (with_reducible refine le_alloc ?_) | (with_reducible refine le_setCell ?_) | (with_reducible refine le_drew ?_) | (with_reducible refine le_drewN ?_) | omega))))))
      have p0 : (up (w.alloc (Obj.cells #[Value.int IntKind.i64 ((S.l j).fails + 1), Value.int IntKind.i64 ((S.l j).total + 1), Value.int IntKind.i64 (S.l j).til] 34)) xq).cell? ⟨w.heap.size, 0, none⟩ = some (.int .i64 ((S.l j).fails + 1)) := by simp
      have p1 : (up (w.alloc (Obj.cells #[Value.int IntKind.i64 ((S.l j).fails + 1), Value.int IntKind.i64 ((S.l j).total + 1), Value.int IntKind.i64 (S.l j).til] 34)) xq).cell? ⟨w.heap.size, 1, none⟩ = some (.int .i64 ((S.l j).total + 1)) := by simp
      have p2 : (up (w.alloc (Obj.cells #[Value.int IntKind.i64 ((S.l j).fails + 1), Value.int IntKind.i64 ((S.l j).total + 1), Value.int IntKind.i64 (S.l j).til] 34)) xq).cell? ⟨w.heap.size, 2, none⟩ = some (.int .i64 ((S.l j).til)) := by simp
      clear hm' c0 c1 c2 c3 c4 z2 z3 z4 b1 b2 b3 b4 b5 b6 b7 b8 hC hm he ht t1 t2
      generalize up (w.alloc (Obj.cells #[Value.int IntKind.i64 ((S.l j).fails + 1), Value.int IntKind.i64 ((S.l j).total + 1), Value.int IntKind.i64 (S.l j).til] 34)) xq = w5 at *
      have L5 := H.out.below hbel (by omega)
      have c2 := L5.fails j hj
      have c3 := L5.total j hj
      have c4 := L5.til j hj
      have z2 := L5.free (2 + j * 3)
      have z3 := L5.free (2 + j * 3 + 1)
      have z4 := L5.free (2 + j * 3 + 2)
      have HL := Lib.hid L5
      have HB := Lib.hid hbel
      clear L5 hbel this
      go_region
      go_wp2_with fail
      go_ret
      exact ⟨rfl, (HL.out.setAll j hj _ _ _).drew, gr_trans (gr_trans (gr_trans (gr_trans (gr_below _ HB.out) (gr_set _ c _ _)) (gr_set _ c _ _)) (gr_set _ c _ _)) ⟨rfl, rfl, rfl, Nat.le_refl _, fun _ _ _ => rfl⟩⟩
  · have hS : failS S s t = S := if_neg he
    have hC := Lib.hid (rMay_any c s t S w h)
    rw [hS]
    have he' : (openE S s t == 0) = false := by simpa using he
    clear h ok
    go_enter Try.func46, Try.ntmps46
    go_wp2_with (go_at_call 44; with_reducible refine Calls.tells (hC.out) ?_)
    go_ret
    exact ⟨rfl, H.out, gr_refl _ _⟩
end Go.Proofs.Ytcdhhnodfgpkiaa
