/-
  The walks over the keeper of lock-outs.
-/
import Derived.Test.YtcdhhnodfgpkiaaLockP
namespace Go.Proofs.Ytcdhhnodfgpkiaa
open Go.RowKit

/-- A pointer to source j of a keeper, or none. -/
def oneP (c : Nat) (s : Int) (e : Int) : Value := if e = 0 then .pointer (some ⟨c, 2 + s.toNat * 3, none⟩) else .pointer none

theorem find_in (c j : Nat) (S : LockS) (n : Int) (w : World) (h : LockAt w c S) (ok : LockOK S n) (hj : j < 8) :
    Calls Try.prog 48 #[.pointer (some ⟨c, 0, none⟩), .int .i64 j] w (Tells w (.tuple #[.pointer (some ⟨c, 2 + j * 3, none⟩), .int .i64 0])) := by
  have c0 := h.most
  have hm := ok.m1
  have hm0 : (S.most == 0) = false := by simp; omega
  have d1 : decide ((j : Int) < 0) = false := by simp
  clear h
  go_enter Try.func48, Try.ntmps48
  go_wp2
  go_ret2
  exact Tells.mk rfl
theorem find_out (c : Nat) (s : Int) (S : LockS) (n : Int) (w : World) (h : LockAt w c S) (ok : LockOK S n) (hs : srcB s = false) :
    Calls Try.prog 48 #[.pointer (some ⟨c, 0, none⟩), .int .i64 s] w (Tells w (.tuple #[.pointer none, .int .i64 2])) := by
  have c0 := h.most
  have hm := ok.m1
  have hm0 : (S.most == 0) = false := by simp; omega
  clear h
  rcases src_out hs with h1 | h1
  · go_enter Try.func48, Try.ntmps48
    go_wp2
    go_ret2
    exact Tells.mk rfl
  · have d1 : decide (s < 0) = false := by simp; omega
    go_enter Try.func48, Try.ntmps48
    go_wp2
    go_ret2
    exact Tells.mk rfl
theorem find_nil (s : Int) (w : World) :
    Calls Try.prog 48 #[.pointer none, .int .i64 s] w (Tells w (.tuple #[.pointer none, .int .i64 1])) := by
  go_enter Try.func48, Try.ntmps48
  go_wp2
  go_ret2
  exact Tells.mk rfl
theorem find_void (c : Nat) (s : Int) (w : World) (hc : w.cell? ⟨c, 0, none⟩ = some (.int .i64 0)) :
    Calls Try.prog 48 #[.pointer (some ⟨c, 0, none⟩), .int .i64 s] w (Tells w (.tuple #[.pointer none, .int .i64 1])) := by
  go_enter Try.func48, Try.ntmps48
  go_wp2
  go_ret2
  exact Tells.mk rfl

theorem open_any (c : Nat) (s t : Int) (S : LockS) (n : Int) (w : World) (h : LockAt w c S) (ok : LockOK S n) :
    Calls Try.prog 49 #[.pointer (some ⟨c, 0, none⟩), .int .i64 s, .int .i64 t] w (Tells w (.tuple #[oneP c s (openE S s t), .int .i64 (openE S s t)])) := by
  have H := Lib.hid h
  cases hs : srcB s
  · have e : openE S s t = 2 := by simp [openE, hs]
    rw [e]
    go_enter Try.func49, Try.ntmps49
    go_wp2_with (go_at_call 48; with_reducible refine Calls.tells (find_out c s S n _ H.out ok hs) ?_)
    go_ret2
    exact Tells.mk rfl
  · obtain ⟨j, hj, rfl⟩ := src_in hs
    have ct := h.til j hj
    clear h
    cases ht : tickB t
    · have e : openE S j t = 2 := by simp [openE, hs, ht]
      rw [e]
      rcases tick_out ht with h1 | h1
      · go_enter Try.func49, Try.ntmps49
        go_wp2_with (go_at_call 48; with_reducible refine Calls.tells (find_in c j S n _ H.out ok hj) ?_)
        go_ret2
        exact Tells.mk rfl
      · have d1 : decide (t < 0) = false := by simp; omega
        go_enter Try.func49, Try.ntmps49
        go_wp2_with (go_at_call 48; with_reducible refine Calls.tells (find_in c j S n _ H.out ok hj) ?_)
        go_ret2
        exact Tells.mk rfl
    · obtain ⟨h1, h2⟩ := tick_in ht
      have d1 : decide (t < 0) = false := by simp; omega
      have d2 : decide (1099511627776 < t) = false := by simp; omega
      by_cases h3 : t < (S.l j).til
      · have e : openE S j t = 180 := by simp [openE, hs, ht, h3]
        rw [e]
        go_enter Try.func49, Try.ntmps49
        go_wp2_with (go_at_call 48; with_reducible refine Calls.tells (find_in c j S n _ H.out ok hj) ?_)
        go_ret2
        exact Tells.mk rfl
      · have e : openE S j t = 0 := by simp [openE, hs, ht, h3]
        rw [e]
        go_enter Try.func49, Try.ntmps49
        go_wp2_with (go_at_call 48; with_reducible refine Calls.tells (find_in c j S n _ H.out ok hj) ?_)
        go_ret2
        exact Tells.mk rfl
theorem May_any (c : Nat) (s t : Int) (S : LockS) (n : Int) (w : World) (h : LockAt w c S) (ok : LockOK S n) :
    Calls Try.prog 23 #[.pointer (some ⟨c, 0, none⟩), .int .i64 s, .int .i64 t] w (Tells w (.int .i64 (openE S s t))) := by
  have H := Lib.hid h
  clear h
  go_enter Try.func23, Try.ntmps23
  go_wp2_with (go_at_call 49; with_reducible refine Calls.tells (open_any c s t S n _ H.out ok) ?_)
  go_ret
  exact Tells.mk rfl

/-- Behind a call that turns the keeper. -/
def LockR (w : World) (c : Nat) (code : Int) (S : LockS) (e : Ending) (w' : World) : Prop := e = .returned (.int .i64 code) ∧ LockAt w' c S ∧ w.grownBy w' (some c)
theorem Fail_any (c : Nat) (s t : Int) (S : LockS) (n : Int) (w : World) (h : LockAt w c S) (ok : LockOK S n) (hn : n < 1000000) :
    Calls Try.prog 22 #[.pointer (some ⟨c, 0, none⟩), .int .i64 s, .int .i64 t] w (LockR w c (openE S s t) (failS S s t)) := by
  have H := Lib.hid h
  haveI : LtSize c w := ⟨h.lt⟩
  by_cases he : openE S s t = 0
  · have hs : srcB s = true := by
      cases hs : srcB s
      · simp [openE, hs] at he
      · rfl
    have ht : tickB t = true := by
      cases ht : tickB t
      · simp [openE, hs, ht] at he
      · rfl
    have hS : failS S s t = S.put s.toNat (failO S (S.l s.toNat) t) := if_pos he
    obtain ⟨j, hj, rfl⟩ := src_in hs
    obtain ⟨t1, t2⟩ := tick_in ht
    have hC := Lib.hid (open_any c j t S n w h ok)
    rw [he, show oneP c (j : Int) 0 = .pointer (some ⟨c, 2 + j * 3, none⟩) by simp [oneP]] at hC
    rw [hS, he]
    simp only [Int.toNat_natCast] at *
    have c0 := h.most
    have c1 := h.time
    have c2 := h.fails j hj
    have c3 := h.total j hj
    have c4 := h.til j hj
    have z2 := h.free (2 + j * 3)
    have z3 := h.free (2 + j * 3 + 1)
    have z4 := h.free (2 + j * 3 + 2)
    have b1 := ok.f1 j
    have b2 := ok.f2 j
    have b3 := ok.o1 j
    have b4 := ok.o2 j
    have b5 := ok.t1
    have b6 := ok.t2
    have b7 := ok.m1
    have b8 := ok.m2
    clear h ok hS
    by_cases hm : (S.l j).fails + 1 = S.most
    · have hO : failO S (S.l j) t = ⟨0, (S.l j).total + 1, t + S.time⟩ := if_pos hm
      rw [hO]
      go_enter Try.func22, Try.ntmps22
      go_wp2_with (go_at_call 49; with_reducible refine Calls.tells (hC.out) ?_)
      (refine wp_region_up (by kernel_rfl) (by kernel_rfl) ?_; (repeat (go_big_quiet_step (fail))); refine wpQuiet_nil ?_; intro _ hw'; obtain ⟨xq, hw''⟩ := hw'; subst hw'')
      go_wp2_with fail
      go_ret
      have L := LockAt.setTil (LockAt.setFails (Cells.up (x := xq) (LockAt.setTotal (H.out.setFails j hj S.most) j hj ((S.l j).total + 1))) j hj 0) j hj (t + S.time)
      simp only [LockS.put_same, LockS.put_put] at L
      exact ⟨rfl, L, gr_trans (gr_trans (gr_trans (gr_trans (gr_set w c _ _) (gr_set _ c _ _)) (gr_below _ (up_below _ xq))) (gr_set _ c _ _)) (gr_set _ c _ _)⟩
    · have hO : failO S (S.l j) t = ⟨(S.l j).fails + 1, (S.l j).total + 1, (S.l j).til⟩ := if_neg hm
      rw [hO]
      have hm' : ((S.l j).fails + 1 == S.most) = false := by simpa using hm
      go_enter Try.func22, Try.ntmps22
      go_wp2_with (go_at_call 49; with_reducible refine Calls.tells (hC.out) ?_)
      (refine wp_region_up (by kernel_rfl) (by kernel_rfl) ?_; (repeat (go_big_quiet_step (fail))); refine wpQuiet_nil ?_; intro _ hw'; obtain ⟨xq, hw''⟩ := hw'; subst hw'')
      go_wp2_with fail
      go_ret
      have L := Cells.up (x := xq) (LockAt.setTotal (H.out.setFails j hj ((S.l j).fails + 1)) j hj ((S.l j).total + 1))
      simp only [LockS.put_same, LockS.put_put] at L
      exact ⟨rfl, L, gr_trans (gr_trans (gr_set w c _ _) (gr_set _ c _ _)) (gr_below _ (up_below _ xq))⟩
  · have hS : failS S s t = S := if_neg he
    have hC := Lib.hid (open_any c s t S n w h ok)
    have hp : oneP c s (openE S s t) = .pointer none := if_neg he
    rw [hp] at hC
    rw [hS]
    have he' : (openE S s t == 0) = false := by simpa using he
    clear h ok
    go_enter Try.func22, Try.ntmps22
    go_wp2_with (go_at_call 49; with_reducible refine Calls.tells (hC.out) ?_)
    go_ret
    exact ⟨rfl, H.out, gr_refl _ _⟩
theorem Good_any (c : Nat) (s : Int) (S : LockS) (n : Int) (w : World) (h : LockAt w c S) (ok : LockOK S n) :
    Calls Try.prog 21 #[.pointer (some ⟨c, 0, none⟩), .int .i64 s] w (LockR w c (goodE s) (goodS S s)) := by
  have H := Lib.hid h
  cases hs : srcB s
  · rw [show goodE s = 2 by simp [goodE, hs], show goodS S s = S by simp [goodS, hs]]
    have hC := Lib.hid (find_out c s S n w h ok hs)
    clear h ok
    go_enter Try.func21, Try.ntmps21
    go_wp2_with (go_at_call 48; with_reducible refine Calls.tells (hC.out) ?_)
    go_ret
    exact ⟨rfl, H.out, gr_refl _ _⟩
  · rw [show goodE s = 0 by simp [goodE, hs], show goodS S s = S.put s.toNat ⟨0, (S.l s.toNat).total, (S.l s.toNat).til⟩ by simp [goodS, hs]]
    obtain ⟨j, hj, rfl⟩ := src_in hs
    simp only [Int.toNat_natCast] at *
    have hC := Lib.hid (find_in c j S n w h ok hj)
    have c2 := h.fails j hj
    have z2 := h.free (2 + j * 3)
    clear h ok
    go_enter Try.func21, Try.ntmps21
    go_wp2_with (go_at_call 48; with_reducible refine Calls.tells (hC.out) ?_)
    go_ret
    exact ⟨rfl, H.out.setFails j hj 0, gr_set _ _ _ _⟩
end Go.Proofs.Ytcdhhnodfgpkiaa
