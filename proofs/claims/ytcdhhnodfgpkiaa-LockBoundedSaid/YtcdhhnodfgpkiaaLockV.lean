/-
  The example of the keeper of lock-outs; keepers that no call made: the law LockVoid, walked.
-/
import Derived.Test.YtcdhhnodfgpkiaaLockX
namespace Go.Proofs.Ytcdhhnodfgpkiaa
open Go.RowKit

theorem May_is {c : Nat} {s t : Int} {S : LockS} {n r : Int} {w : World} (h : LockAt w c S) (ok : LockOK S n) (e : openE S s t = r) :
    Calls Try.prog 23 #[.pointer (some ⟨c, 0, none⟩), .int .i64 s, .int .i64 t] w (Tells w (.int .i64 r)) := by rw [← e]; exact May_any c s t S n w h ok
theorem Total_is {c : Nat} {s : Int} {S : LockS} {n r : Int} {w : World} (h : LockAt w c S) (ok : LockOK S n) (e : (lookO S s).total = r) :
    Calls Try.prog 17 #[.pointer (some ⟨c, 0, none⟩), .int .i64 s] w (Gives w (.int .i64 r)) := by rw [← e]; exact Total_any c s S n w h ok
theorem works18 (w : World) : Calls Try.prog 19 #[] w (Gives w (.bool true)) := by
  have ok0 := LockOK.new (most := 2) (time := 10) rfl
  have ok1 := ok0.fail 1 5
  have ok2 := ok1.fail 1 5
  have e0 : openE (LockS.new 2 10) 1 5 = 0 := rfl
  have e1 : openE (failS (LockS.new 2 10) 1 5) 1 5 = 0 := rfl
  have e2 : openE (failS (failS (LockS.new 2 10) 1 5) 1 5) 1 14 = 180 := rfl
  have e3 : openE (failS (failS (LockS.new 2 10) 1 5) 1 5) 1 15 = 0 := rfl
  have e4 : (lookO (failS (failS (LockS.new 2 10) 1 5) 1 5) 1).total = 2 := rfl
  go_enter Try.func19, Try.ntmps19
  go_wp2_with fail
  refine (New_good (most := 2) (time := 10) _ rfl).mono ?_
  rintro e w1 ⟨c, rfl, hc, h1, b1⟩
  have H1 := Lib.hid h1
  have B1 := Lib.hid b1
  clear h1 b1
  go_wp2_with fail
  refine (Fail_any c 1 5 _ 0 _ H1.out ok0 (by omega)).mono ?_
  rintro e w2 ⟨he, h2, g2⟩
  rw [e0] at he
  subst he
  have H2 := Lib.hid h2
  have G2 := Lib.hid g2
  clear h2 g2
  go_wp2_with fail
  refine (Fail_any c 1 5 _ _ _ H2.out ok1 (by omega)).mono ?_
  rintro e w3 ⟨he, h3, g3⟩
  rw [e1] at he
  subst he
  have H3 := Lib.hid h3
  have hb3 : Below w.heap.size w w3 := below_gr (below_gr B1.out G2.out B1.out.size hc) g3 (Nat.le_trans B1.out.size G2.out.size) hc
  clear h3 g3 e0 e1 ok0 ok1
  generalize failS (failS (LockS.new 2 10) 1 5) 1 5 = S2 at *
  go_wp2_with (first | (go_at_call 23; with_reducible refine Calls.tells (May_is H3.out ok2 e2) ?_) | (go_at_call 23; with_reducible refine Calls.tells (May_is H3.out ok2 e3) ?_) | (go_at_call 17; (first | with_reducible refine Calls.fold (Total_is H3.out ok2 e4) ?_ | with_reducible refine Calls.fresh (Total_is H3.out ok2 e4) ?_); intro x1))
  go_ret
  exact Gives.mk rfl (below_up hb3 hb3.size _)

theorem open_nil (s t : Int) (w : World) :
    Calls Try.prog 49 #[.pointer none, .int .i64 s, .int .i64 t] w (Tells w (.tuple #[.pointer none, .int .i64 1])) := by
  go_enter Try.func49, Try.ntmps49
  go_wp2_with (go_at_call 48; with_reducible refine Calls.tells (find_nil s _) ?_)
  go_ret2
  exact Tells.mk rfl
theorem open_void (c : Nat) (s t : Int) (w : World) (hc : w.cell? ⟨c, 0, none⟩ = some (.int .i64 0)) :
    Calls Try.prog 49 #[.pointer (some ⟨c, 0, none⟩), .int .i64 s, .int .i64 t] w (Tells w (.tuple #[.pointer none, .int .i64 1])) := by
  go_enter Try.func49, Try.ntmps49
  go_wp2_with (go_at_call 48; with_reducible refine Calls.tells (find_void c s _ hc) ?_)
  go_ret2
  exact Tells.mk rfl
theorem May_nil (s t : Int) (w : World) :
    Calls Try.prog 23 #[.pointer none, .int .i64 s, .int .i64 t] w (Tells w (.int .i64 1)) := by
  go_enter Try.func23, Try.ntmps23
  go_wp2_with (go_at_call 49; with_reducible refine Calls.tells (open_nil s t _) ?_)
  go_ret
  exact Tells.mk rfl
theorem May_void (c : Nat) (s t : Int) (w : World) (hc : w.cell? ⟨c, 0, none⟩ = some (.int .i64 0)) :
    Calls Try.prog 23 #[.pointer (some ⟨c, 0, none⟩), .int .i64 s, .int .i64 t] w (Tells w (.int .i64 1)) := by
  go_enter Try.func23, Try.ntmps23
  go_wp2_with (go_at_call 49; with_reducible refine Calls.tells (open_void c s t _ hc) ?_)
  go_ret
  exact Tells.mk rfl
theorem Fail_nil (s t : Int) (w : World) :
    Calls Try.prog 22 #[.pointer none, .int .i64 s, .int .i64 t] w (Tells w (.int .i64 1)) := by
  go_enter Try.func22, Try.ntmps22
  go_wp2_with (go_at_call 49; with_reducible refine Calls.tells (open_nil s t _) ?_)
  go_ret
  exact Tells.mk rfl
theorem Good_void (c : Nat) (s : Int) (w : World) (hc : w.cell? ⟨c, 0, none⟩ = some (.int .i64 0)) :
    Calls Try.prog 21 #[.pointer (some ⟨c, 0, none⟩), .int .i64 s] w (Tells w (.int .i64 1)) := by
  go_enter Try.func21, Try.ntmps21
  go_wp2_with (go_at_call 48; with_reducible refine Calls.tells (find_void c s _ hc) ?_)
  go_ret
  exact Tells.mk rfl
set_option maxRecDepth 100000 in
theorem LockVoid_any (s t : Int) (w : World) : Calls Try.prog 5 #[.int .i64 s, .int .i64 t] w (Gives w (.bool true)) := by
  go_enter Try.func5, Try.ntmps5
  go_wp2_with (first
    | (go_at_call 19; (first | with_reducible refine Calls.fold (works18 _) ?_ | with_reducible refine Calls.fresh (works18 _) ?_); intro x1)
    | (go_at_call 23; with_reducible refine Calls.tells (May_nil s t _) ?_)
    | (go_at_call 23; with_reducible refine Calls.tells (May_void _ s t _ (by simp)) ?_)
    | (go_at_call 22; with_reducible refine Calls.tells (Fail_nil s t _) ?_)
    | (go_at_call 21; with_reducible refine Calls.tells (Good_void _ s _ (by simp)) ?_)
    | (go_at_call 16; (first | with_reducible refine Calls.fold (Fails_nil s _) ?_ | with_reducible refine Calls.fresh (Fails_nil s _) ?_); intro x1)
    | (go_at_call 18; (first | with_reducible refine Calls.fold (Until_void _ s _ (by simp)) ?_ | with_reducible refine Calls.fresh (Until_void _ s _ (by simp)) ?_); intro x1)
    | (go_at_call 17; (first | with_reducible refine Calls.fold (Total_nil s _) ?_ | with_reducible refine Calls.fresh (Total_nil s _) ?_); intro x1)
    | (go_at_call 17; (first | with_reducible refine Calls.fold (Total_void _ s _ (by simp)) ?_ | with_reducible refine Calls.fresh (Total_void _ s _ (by simp)) ?_); intro x1))
  go_ret
  exact Gives.mk rfl (by (repeat (first | (with_reducible exact Below.refl _ _) | (with_reducible assumption) | (with_reducible refine Below.alloc ?_ (by (repeat (first | (with_reducible exact Nat.le_refl _) | (with_reducible assumption) | (with_reducible refine le_up ?_) | (with_reducible refine le_alloc ?_) | (with_reducible refine le_setCell ?_) | (with_reducible refine le_drew ?_) | (with_reducible refine le_drewN ?_) | omega))) _) | (with_reducible refine Below.drew ?_) | (with_reducible refine Below.drewN ?_ _) | (with_reducible refine Below.setCell ?_ (by (repeat (first | (with_reducible exact Nat.le_refl _) | (with_reducible assumption) | (with_reducible refine le_up ?_) | (with_reducible refine le_alloc ?_) | (with_reducible refine le_setCell ?_) | (with_reducible refine le_drew ?_) | (with_reducible refine le_drewN ?_) | omega))) _) | (with_reducible refine Below.up ?_ (by (repeat (first | (with_reducible exact Nat.le_refl _) | (with_reducible assumption) | (with_reducible refine le_up ?_) | (with_reducible refine le_alloc ?_) | (with_reducible refine le_setCell ?_) | (with_reducible refine le_drew ?_) | (with_reducible refine le_drewN ?_) | omega)))))))
end Go.Proofs.Ytcdhhnodfgpkiaa
