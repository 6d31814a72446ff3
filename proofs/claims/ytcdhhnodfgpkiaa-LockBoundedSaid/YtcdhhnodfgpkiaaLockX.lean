/-
  The walks over the keeper of lock-outs, continued: what it shows; keepers that no call made; the example.
-/
import Derived.Test.YtcdhhnodfgpkiaaLockW
namespace Go.Proofs.Ytcdhhnodfgpkiaa
open Go.RowKit

def oneA (o : OneS) : Value := .agg #[.int .i64 o.fails, .int .i64 o.total, .int .i64 o.til]
theorem look_any (c : Nat) (s : Int) (S : LockS) (n : Int) (w : World) (h : LockAt w c S) (ok : LockOK S n) :
    Calls Try.prog 47 #[.pointer (some ⟨c, 0, none⟩), .int .i64 s] w (Gives w (.agg #[.int .i64 (lookO S s).fails, .int .i64 (lookO S s).total, .int .i64 (lookO S s).til])) := by
  have H := Lib.hid h
  haveI : LtSize c w := ⟨h.lt⟩
  have hne : ¬ c = w.heap.size := by have := h.lt; omega
  cases hs : srcB s
  · rw [show lookO S s = OneS.zero by simp [lookO, hs]]
    clear h
    go_enter Try.func47, Try.ntmps47
    go_wp2_with (go_at_call 48; with_reducible refine Calls.tells (find_out c s S n _ H.out.alloc ok hs) ?_)
    (try simp only [Exit.inBlock, Exit.then])
    refine bodyPost_ret (v := .agg #[.int .i64 0, .int .i64 0, .int .i64 0]) ?_ rfl (Gives.mk rfl (by (repeat (first | (with_reducible exact Below.refl _ _) | (with_reducible assumption) | (with_reducible refine Below.alloc ?_ (by (repeat (first | (with_reducible exact Nat.le_refl _) | (with_reducible assumption) | (with_reducible refine le_up ?_) | (with_reducible refine le_alloc ?_) | (with_reducible refine le_setCell ?_) | (with_reducible refine le_drew ?_) | (with_reducible refine le_drewN ?_) | omega))) _) | (with_reducible refine Below.drew ?_) | (with_reducible refine Below.drewN ?_ _) | (with_reducible refine Below.setCell ?_ (by (repeat (first | (with_reducible exact Nat.le_refl _) | (with_reducible assumption) | (with_reducible refine le_up ?_) | (with_reducible refine le_alloc ?_) | (with_reducible refine le_setCell ?_) | (with_reducible refine le_drew ?_) | (with_reducible refine le_drewN ?_) | omega))) _) | (with_reducible refine Below.up ?_ (by (repeat (first | (with_reducible exact Nat.le_refl _) | (with_reducible assumption) | (with_reducible refine le_up ?_) | (with_reducible refine le_alloc ?_) | (with_reducible refine le_setCell ?_) | (with_reducible refine le_drew ?_) | (with_reducible refine le_drewN ?_) | omega))))))))
    (simp only [results, show Try.f47.results = #[ResultVar.cell 4 46] from rfl]; go_simp)
  · rw [show lookO S s = S.l s.toNat by simp [lookO, hs]]
    obtain ⟨j, hj, rfl⟩ := src_in hs
    simp only [Int.toNat_natCast] at *
    have c2 := h.fails j hj
    have c3 := h.total j hj
    have c4 := h.til j hj
    clear h
    go_enter Try.func47, Try.ntmps47
    go_wp2_with (go_at_call 48; with_reducible refine Calls.tells (find_in c j S n _ H.out.alloc ok hj) ?_)
    (try simp only [Exit.inBlock, Exit.then])
    refine bodyPost_ret (v := .agg #[.int .i64 (S.l j).fails, .int .i64 (S.l j).total, .int .i64 (S.l j).til]) ?_ rfl (Gives.mk rfl (by (repeat (first | (with_reducible exact Below.refl _ _) | (with_reducible assumption) | (with_reducible refine Below.alloc ?_ (by (repeat (first | (with_reducible exact Nat.le_refl _) | (with_reducible assumption) | (with_reducible refine le_up ?_) | (with_reducible refine le_alloc ?_) | (with_reducible refine le_setCell ?_) | (with_reducible refine le_drew ?_) | (with_reducible refine le_drewN ?_) | omega))) _) | (with_reducible refine Below.drew ?_) | (with_reducible refine Below.drewN ?_ _) | (with_reducible refine Below.setCell ?_ (by (repeat (first | (with_reducible exact Nat.le_refl _) | (with_reducible assumption) | (with_reducible refine le_up ?_) | (with_reducible refine le_alloc ?_) | (with_reducible refine le_setCell ?_) | (with_reducible refine le_drew ?_) | (with_reducible refine le_drewN ?_) | omega))) _) | (with_reducible refine Below.up ?_ (by (repeat (first | (with_reducible exact Nat.le_refl _) | (with_reducible assumption) | (with_reducible refine le_up ?_) | (with_reducible refine le_alloc ?_) | (with_reducible refine le_setCell ?_) | (with_reducible refine le_drew ?_) | (with_reducible refine le_drewN ?_) | omega))))))))
    (simp only [results, show Try.f47.results = #[ResultVar.cell 4 46] from rfl]; go_simp)
theorem look_nil (s : Int) (w : World) :
    Calls Try.prog 47 #[.pointer none, .int .i64 s] w (Gives w (.agg #[.int .i64 0, .int .i64 0, .int .i64 0])) := by
  go_enter Try.func47, Try.ntmps47
  go_wp2_with (go_at_call 48; with_reducible refine Calls.tells (find_nil s _) ?_)
  (try simp only [Exit.inBlock, Exit.then])
  refine bodyPost_ret (v := .agg #[.int .i64 0, .int .i64 0, .int .i64 0]) ?_ rfl (Gives.mk rfl (by (repeat (first | (with_reducible exact Below.refl _ _) | (with_reducible assumption) | (with_reducible refine Below.alloc ?_ (by (repeat (first | (with_reducible exact Nat.le_refl _) | (with_reducible assumption) | (with_reducible refine le_up ?_) | (with_reducible refine le_alloc ?_) | (with_reducible refine le_setCell ?_) | (with_reducible refine le_drew ?_) | (with_reducible refine le_drewN ?_) | omega))) _) | (with_reducible refine Below.drew ?_) | (with_reducible refine Below.drewN ?_ _) | (with_reducible refine Below.setCell ?_ (by (repeat (first | (with_reducible exact Nat.le_refl _) | (with_reducible assumption) | (with_reducible refine le_up ?_) | (with_reducible refine le_alloc ?_) | (with_reducible refine le_setCell ?_) | (with_reducible refine le_drew ?_) | (with_reducible refine le_drewN ?_) | omega))) _) | (with_reducible refine Below.up ?_ (by (repeat (first | (with_reducible exact Nat.le_refl _) | (with_reducible assumption) | (with_reducible refine le_up ?_) | (with_reducible refine le_alloc ?_) | (with_reducible refine le_setCell ?_) | (with_reducible refine le_drew ?_) | (with_reducible refine le_drewN ?_) | omega))))))))
  (simp only [results, show Try.f47.results = #[ResultVar.cell 4 46] from rfl]; go_simp)
theorem look_void (c : Nat) (s : Int) (w : World) [LtSize c w] (hc : w.cell? ⟨c, 0, none⟩ = some (.int .i64 0)) :
    Calls Try.prog 47 #[.pointer (some ⟨c, 0, none⟩), .int .i64 s] w (Gives w (.agg #[.int .i64 0, .int .i64 0, .int .i64 0])) := by
  go_enter Try.func47, Try.ntmps47
  go_wp2_with (go_at_call 48; with_reducible refine Calls.tells (find_void c s _ (by simp [hc])) ?_)
  (try simp only [Exit.inBlock, Exit.then])
  refine bodyPost_ret (v := .agg #[.int .i64 0, .int .i64 0, .int .i64 0]) ?_ rfl (Gives.mk rfl (by (repeat (first | (with_reducible exact Below.refl _ _) | (with_reducible assumption) | (with_reducible refine Below.alloc ?_ (by (repeat (first | (with_reducible exact Nat.le_refl _) | (with_reducible assumption) | (with_reducible refine le_up ?_) | (with_reducible refine le_alloc ?_) | (with_reducible refine le_setCell ?_) | (with_reducible refine le_drew ?_) | (with_reducible refine le_drewN ?_) | omega))) _) | (with_reducible refine Below.drew ?_) | (with_reducible refine Below.drewN ?_ _) | (with_reducible refine Below.setCell ?_ (by (repeat (first | (with_reducible exact Nat.le_refl _) | (with_reducible assumption) | (with_reducible refine le_up ?_) | (with_reducible refine le_alloc ?_) | (with_reducible refine le_setCell ?_) | (with_reducible refine le_drew ?_) | (with_reducible refine le_drewN ?_) | omega))) _) | (with_reducible refine Below.up ?_ (by (repeat (first | (with_reducible exact Nat.le_refl _) | (with_reducible assumption) | (with_reducible refine le_up ?_) | (with_reducible refine le_alloc ?_) | (with_reducible refine le_setCell ?_) | (with_reducible refine le_drew ?_) | (with_reducible refine le_drewN ?_) | omega))))))))
  (simp only [results, show Try.f47.results = #[ResultVar.cell 4 46] from rfl]; go_simp)
theorem run_f0 (a b c : Int) (W : World) : (Instr.field 46 (.agg #[.int .i64 a, .int .i64 b, .int .i64 c]) 0).run Try.prog W = .ok (.int .i64 a) W := by kernel_rfl
theorem run_f1 (a b c : Int) (W : World) : (Instr.field 46 (.agg #[.int .i64 a, .int .i64 b, .int .i64 c]) 1).run Try.prog W = .ok (.int .i64 b) W := by kernel_rfl
theorem run_f2 (a b c : Int) (W : World) : (Instr.field 46 (.agg #[.int .i64 a, .int .i64 b, .int .i64 c]) 2).run Try.prog W = .ok (.int .i64 c) W := by kernel_rfl
set_option maxRecDepth 100000 in
theorem Fails_any (c : Nat) (s : Int) (S : LockS) (n : Int) (w : World) (h : LockAt w c S) (ok : LockOK S n) :
    Calls Try.prog 16 #[.pointer (some ⟨c, 0, none⟩), .int .i64 s] w (Gives w (.int .i64 (lookO S s).fails)) := by
  have H := Lib.hid h
  clear h
  have hrf := run_f0
  go_enter Try.func16, Try.ntmps16
  go_wp2_with (go_at_call 47; (first | with_reducible refine Calls.fold (look_any c s S n _ H.out ok) ?_ | with_reducible refine Calls.fresh (look_any c s S n _ H.out ok) ?_); intro x1)
  go_ret
  exact Gives.mk rfl (by (repeat (first | (with_reducible exact Below.refl _ _) | (with_reducible assumption) | (with_reducible refine Below.alloc ?_ (by (repeat (first | (with_reducible exact Nat.le_refl _) | (with_reducible assumption) | (with_reducible refine le_up ?_) | (with_reducible refine le_alloc ?_) | (with_reducible refine le_setCell ?_) | (with_reducible refine le_drew ?_) | (with_reducible refine le_drewN ?_) | omega))) _) | (with_reducible refine Below.drew ?_) | (with_reducible refine Below.drewN ?_ _) | (with_reducible refine Below.setCell ?_ (by (repeat (first | (with_reducible exact Nat.le_refl _) | (with_reducible assumption) | (with_reducible refine le_up ?_) | (with_reducible refine le_alloc ?_) | (with_reducible refine le_setCell ?_) | (with_reducible refine le_drew ?_) | (with_reducible refine le_drewN ?_) | omega))) _) | (with_reducible refine Below.up ?_ (by (repeat (first | (with_reducible exact Nat.le_refl _) | (with_reducible assumption) | (with_reducible refine le_up ?_) | (with_reducible refine le_alloc ?_) | (with_reducible refine le_setCell ?_) | (with_reducible refine le_drew ?_) | (with_reducible refine le_drewN ?_) | omega)))))))
set_option maxRecDepth 100000 in
theorem Fails_nil (s : Int) (w : World) :
    Calls Try.prog 16 #[.pointer none, .int .i64 s] w (Gives w (.int .i64 0)) := by
  have hrf := run_f0
  go_enter Try.func16, Try.ntmps16
  go_wp2_with (go_at_call 47; (first | with_reducible refine Calls.fold (look_nil s _) ?_ | with_reducible refine Calls.fresh (look_nil s _) ?_); intro x1)
  go_ret
  exact Gives.mk rfl (by (repeat (first | (with_reducible exact Below.refl _ _) | (with_reducible assumption) | (with_reducible refine Below.alloc ?_ (by (repeat (first | (with_reducible exact Nat.le_refl _) | (with_reducible assumption) | (with_reducible refine le_up ?_) | (with_reducible refine le_alloc ?_) | (with_reducible refine le_setCell ?_) | (with_reducible refine le_drew ?_) | (with_reducible refine le_drewN ?_) | omega))) _) | (with_reducible refine Below.drew ?_) | (with_reducible refine Below.drewN ?_ _) | (with_reducible refine Below.setCell ?_ (by (repeat (first | (with_reducible exact Nat.le_refl _) | (with_reducible assumption) | (with_reducible refine le_up ?_) | (with_reducible refine le_alloc ?_) | (with_reducible refine le_setCell ?_) | (with_reducible refine le_drew ?_) | (with_reducible refine le_drewN ?_) | omega))) _) | (with_reducible refine Below.up ?_ (by (repeat (first | (with_reducible exact Nat.le_refl _) | (with_reducible assumption) | (with_reducible refine le_up ?_) | (with_reducible refine le_alloc ?_) | (with_reducible refine le_setCell ?_) | (with_reducible refine le_drew ?_) | (with_reducible refine le_drewN ?_) | omega)))))))
set_option maxRecDepth 100000 in
theorem Fails_void (c : Nat) (s : Int) (w : World) [LtSize c w] (hc : w.cell? ⟨c, 0, none⟩ = some (.int .i64 0)) :
    Calls Try.prog 16 #[.pointer (some ⟨c, 0, none⟩), .int .i64 s] w (Gives w (.int .i64 0)) := by
  have hrf := run_f0
  go_enter Try.func16, Try.ntmps16
  go_wp2_with (go_at_call 47; (first | with_reducible refine Calls.fold (look_void c s _ hc) ?_ | with_reducible refine Calls.fresh (look_void c s _ hc) ?_); intro x1)
  go_ret
  exact Gives.mk rfl (by (repeat (first | (with_reducible exact Below.refl _ _) | (with_reducible assumption) | (with_reducible refine Below.alloc ?_ (by (repeat (first | (with_reducible exact Nat.le_refl _) | (with_reducible assumption) | (with_reducible refine le_up ?_) | (with_reducible refine le_alloc ?_) | (with_reducible refine le_setCell ?_) | (with_reducible refine le_drew ?_) | (with_reducible refine le_drewN ?_) | omega))) _) | (with_reducible refine Below.drew ?_) | (with_reducible refine Below.drewN ?_ _) | (with_reducible refine Below.setCell ?_ (by (repeat (first | (with_reducible exact Nat.le_refl _) | (with_reducible assumption) | (with_reducible refine le_up ?_) | (with_reducible refine le_alloc ?_) | (with_reducible refine le_setCell ?_) | (with_reducible refine le_drew ?_) | (with_reducible refine le_drewN ?_) | omega))) _) | (with_reducible refine Below.up ?_ (by (repeat (first | (with_reducible exact Nat.le_refl _) | (with_reducible assumption) | (with_reducible refine le_up ?_) | (with_reducible refine le_alloc ?_) | (with_reducible refine le_setCell ?_) | (with_reducible refine le_drew ?_) | (with_reducible refine le_drewN ?_) | omega)))))))
set_option maxRecDepth 100000 in
theorem Total_any (c : Nat) (s : Int) (S : LockS) (n : Int) (w : World) (h : LockAt w c S) (ok : LockOK S n) :
    Calls Try.prog 17 #[.pointer (some ⟨c, 0, none⟩), .int .i64 s] w (Gives w (.int .i64 (lookO S s).total)) := by
  have H := Lib.hid h
  clear h
  have hrf := run_f1
  go_enter Try.func17, Try.ntmps17
  go_wp2_with (go_at_call 47; (first | with_reducible refine Calls.fold (look_any c s S n _ H.out ok) ?_ | with_reducible refine Calls.fresh (look_any c s S n _ H.out ok) ?_); intro x1)
  go_ret
  exact Gives.mk rfl (by (repeat (first | (with_reducible exact Below.refl _ _) | (with_reducible assumption) | (with_reducible refine Below.alloc ?_ (by (repeat (first | (with_reducible exact Nat.le_refl _) | (with_reducible assumption) | (with_reducible refine le_up ?_) | (with_reducible refine le_alloc ?_) | (with_reducible refine le_setCell ?_) | (with_reducible refine le_drew ?_) | (with_reducible refine le_drewN ?_) | omega))) _) | (with_reducible refine Below.drew ?_) | (with_reducible refine Below.drewN ?_ _) | (with_reducible refine Below.setCell ?_ (by (repeat (first | (with_reducible exact Nat.le_refl _) | (with_reducible assumption) | (with_reducible refine le_up ?_) | (with_reducible refine le_alloc ?_) | (with_reducible refine le_setCell ?_) | (with_reducible refine le_drew ?_) | (with_reducible refine le_drewN ?_) | omega))) _) | (with_reducible refine Below.up ?_ (by (repeat (first | (with_reducible exact Nat.le_refl _) | (with_reducible assumption) | (with_reducible refine le_up ?_) | (with_reducible refine le_alloc ?_) | (with_reducible refine le_setCell ?_) | (with_reducible refine le_drew ?_) | (with_reducible refine le_drewN ?_) | omega)))))))
set_option maxRecDepth 100000 in
theorem Total_nil (s : Int) (w : World) :
    Calls Try.prog 17 #[.pointer none, .int .i64 s] w (Gives w (.int .i64 0)) := by
  have hrf := run_f1
  go_enter Try.func17, Try.ntmps17
  go_wp2_with (go_at_call 47; (first | with_reducible refine Calls.fold (look_nil s _) ?_ | with_reducible refine Calls.fresh (look_nil s _) ?_); intro x1)
  go_ret
  exact Gives.mk rfl (by (repeat (first | (with_reducible exact Below.refl _ _) | (with_reducible assumption) | (with_reducible refine Below.alloc ?_ (by (repeat (first | (with_reducible exact Nat.le_refl _) | (with_reducible assumption) | (with_reducible refine le_up ?_) | (with_reducible refine le_alloc ?_) | (with_reducible refine le_setCell ?_) | (with_reducible refine le_drew ?_) | (with_reducible refine le_drewN ?_) | omega))) _) | (with_reducible refine Below.drew ?_) | (with_reducible refine Below.drewN ?_ _) | (with_reducible refine Below.setCell ?_ (by (repeat (first | (with_reducible exact Nat.le_refl _) | (with_reducible assumption) | (with_reducible refine le_up ?_) | (with_reducible refine le_alloc ?_) | (with_reducible refine le_setCell ?_) | (with_reducible refine le_drew ?_) | (with_reducible refine le_drewN ?_) | omega))) _) | (with_reducible refine Below.up ?_ (by (repeat (first | (with_reducible exact Nat.le_refl _) | (with_reducible assumption) | (with_reducible refine le_up ?_) | (with_reducible refine le_alloc ?_) | (with_reducible refine le_setCell ?_) | (with_reducible refine le_drew ?_) | (with_reducible refine le_drewN ?_) | omega)))))))
set_option maxRecDepth 100000 in
theorem Total_void (c : Nat) (s : Int) (w : World) [LtSize c w] (hc : w.cell? ⟨c, 0, none⟩ = some (.int .i64 0)) :
    Calls Try.prog 17 #[.pointer (some ⟨c, 0, none⟩), .int .i64 s] w (Gives w (.int .i64 0)) := by
  have hrf := run_f1
  go_enter Try.func17, Try.ntmps17
  go_wp2_with (go_at_call 47; (first | with_reducible refine Calls.fold (look_void c s _ hc) ?_ | with_reducible refine Calls.fresh (look_void c s _ hc) ?_); intro x1)
  go_ret
  exact Gives.mk rfl (by (repeat (first | (with_reducible exact Below.refl _ _) | (with_reducible assumption) | (with_reducible refine Below.alloc ?_ (by (repeat (first | (with_reducible exact Nat.le_refl _) | (with_reducible assumption) | (with_reducible refine le_up ?_) | (with_reducible refine le_alloc ?_) | (with_reducible refine le_setCell ?_) | (with_reducible refine le_drew ?_) | (with_reducible refine le_drewN ?_) | omega))) _) | (with_reducible refine Below.drew ?_) | (with_reducible refine Below.drewN ?_ _) | (with_reducible refine Below.setCell ?_ (by (repeat (first | (with_reducible exact Nat.le_refl _) | (with_reducible assumption) | (with_reducible refine le_up ?_) | (with_reducible refine le_alloc ?_) | (with_reducible refine le_setCell ?_) | (with_reducible refine le_drew ?_) | (with_reducible refine le_drewN ?_) | omega))) _) | (with_reducible refine Below.up ?_ (by (repeat (first | (with_reducible exact Nat.le_refl _) | (with_reducible assumption) | (with_reducible refine le_up ?_) | (with_reducible refine le_alloc ?_) | (with_reducible refine le_setCell ?_) | (with_reducible refine le_drew ?_) | (with_reducible refine le_drewN ?_) | omega)))))))
set_option maxRecDepth 100000 in
theorem Until_any (c : Nat) (s : Int) (S : LockS) (n : Int) (w : World) (h : LockAt w c S) (ok : LockOK S n) :
    Calls Try.prog 18 #[.pointer (some ⟨c, 0, none⟩), .int .i64 s] w (Gives w (.int .i64 (lookO S s).til)) := by
  have H := Lib.hid h
  clear h
  have hrf := run_f2
  go_enter Try.func18, Try.ntmps18
  go_wp2_with (go_at_call 47; (first | with_reducible refine Calls.fold (look_any c s S n _ H.out ok) ?_ | with_reducible refine Calls.fresh (look_any c s S n _ H.out ok) ?_); intro x1)
  go_ret
  exact Gives.mk rfl (by (repeat (first | (with_reducible exact Below.refl _ _) | (with_reducible assumption) | (with_reducible refine Below.alloc ?_ (by (repeat (first | (with_reducible exact Nat.le_refl _) | (with_reducible assumption) | (with_reducible refine le_up ?_) | (with_reducible refine le_alloc ?_) | (with_reducible refine le_setCell ?_) | (with_reducible refine le_drew ?_) | (with_reducible refine le_drewN ?_) | omega))) _) | (with_reducible refine Below.drew ?_) | (with_reducible refine Below.drewN ?_ _) | (with_reducible refine Below.setCell ?_ (by (repeat (first | (with_reducible exact Nat.le_refl _) | (with_reducible assumption) | (with_reducible refine le_up ?_) | (with_reducible refine le_alloc ?_) | (with_reducible refine le_setCell ?_) | (with_reducible refine le_drew ?_) | (with_reducible refine le_drewN ?_) | omega))) _) | (with_reducible refine Below.up ?_ (by (repeat (first | (with_reducible exact Nat.le_refl _) | (with_reducible assumption) | (with_reducible refine le_up ?_) | (with_reducible refine le_alloc ?_) | (with_reducible refine le_setCell ?_) | (with_reducible refine le_drew ?_) | (with_reducible refine le_drewN ?_) | omega)))))))
set_option maxRecDepth 100000 in
theorem Until_nil (s : Int) (w : World) :
    Calls Try.prog 18 #[.pointer none, .int .i64 s] w (Gives w (.int .i64 0)) := by
  have hrf := run_f2
  go_enter Try.func18, Try.ntmps18
  go_wp2_with (go_at_call 47; (first | with_reducible refine Calls.fold (look_nil s _) ?_ | with_reducible refine Calls.fresh (look_nil s _) ?_); intro x1)
  go_ret
  exact Gives.mk rfl (by (repeat (first | (with_reducible exact Below.refl _ _) | (with_reducible assumption) | (with_reducible refine Below.alloc ?_ (by (repeat (first | (with_reducible exact Nat.le_refl _) | (with_reducible assumption) | (with_reducible refine le_up ?_) | (with_reducible refine le_alloc ?_) | (with_reducible refine le_setCell ?_) | (with_reducible refine le_drew ?_) | (with_reducible refine le_drewN ?_) | omega))) _) | (with_reducible refine Below.drew ?_) | (with_reducible refine Below.drewN ?_ _) | (with_reducible refine Below.setCell ?_ (by (repeat (first | (with_reducible exact Nat.le_refl _) | (with_reducible assumption) | (with_reducible refine le_up ?_) | (with_reducible refine le_alloc ?_) | (with_reducible refine le_setCell ?_) | (with_reducible refine le_drew ?_) | (with_reducible refine le_drewN ?_) | omega))) _) | (with_reducible refine Below.up ?_ (by (repeat (first | (with_reducible exact Nat.le_refl _) | (with_reducible assumption) | (with_reducible refine le_up ?_) | (with_reducible refine le_alloc ?_) | (with_reducible refine le_setCell ?_) | (with_reducible refine le_drew ?_) | (with_reducible refine le_drewN ?_) | omega)))))))
set_option maxRecDepth 100000 in
theorem Until_void (c : Nat) (s : Int) (w : World) [LtSize c w] (hc : w.cell? ⟨c, 0, none⟩ = some (.int .i64 0)) :
    Calls Try.prog 18 #[.pointer (some ⟨c, 0, none⟩), .int .i64 s] w (Gives w (.int .i64 0)) := by
  have hrf := run_f2
  go_enter Try.func18, Try.ntmps18
  go_wp2_with (go_at_call 47; (first | with_reducible refine Calls.fold (look_void c s _ hc) ?_ | with_reducible refine Calls.fresh (look_void c s _ hc) ?_); intro x1)
  go_ret
  exact Gives.mk rfl (by (repeat (first | (with_reducible exact Below.refl _ _) | (with_reducible assumption) | (with_reducible refine Below.alloc ?_ (by (repeat (first | (with_reducible exact Nat.le_refl _) | (with_reducible assumption) | (with_reducible refine le_up ?_) | (with_reducible refine le_alloc ?_) | (with_reducible refine le_setCell ?_) | (with_reducible refine le_drew ?_) | (with_reducible refine le_drewN ?_) | omega))) _) | (with_reducible refine Below.drew ?_) | (with_reducible refine Below.drewN ?_ _) | (with_reducible refine Below.setCell ?_ (by (repeat (first | (with_reducible exact Nat.le_refl _) | (with_reducible assumption) | (with_reducible refine le_up ?_) | (with_reducible refine le_alloc ?_) | (with_reducible refine le_setCell ?_) | (with_reducible refine le_drew ?_) | (with_reducible refine le_drewN ?_) | omega))) _) | (with_reducible refine Below.up ?_ (by (repeat (first | (with_reducible exact Nat.le_refl _) | (with_reducible assumption) | (with_reducible refine le_up ?_) | (with_reducible refine le_alloc ?_) | (with_reducible refine le_setCell ?_) | (with_reducible refine le_drew ?_) | (with_reducible refine le_drewN ?_) | omega)))))))

def newB (most time : Int) : Bool := decide (1 ≤ most ∧ most ≤ 1000 ∧ 1 ≤ time ∧ time ≤ 65535)
def LockS.new (most time : Int) : LockS := ⟨most, time, fun _ => OneS.zero⟩
theorem LockOK.new {most time : Int} (h : newB most time = true) : LockOK (LockS.new most time) 0 := by
  simp [newB] at h
  exact ⟨h.1, h.2.1, h.2.2.1, h.2.2.2, fun _ => by simp [LockS.new, OneS.zero], fun _ => by simp [LockS.new, OneS.zero], fun _ => by simp [LockS.new, OneS.zero], fun _ => by simp [LockS.new, OneS.zero], fun _ => by simp [LockS.new, OneS.zero], fun _ => by simp [LockS.new, OneS.zero]⟩
def zeros : Nat → List Value
  | 0 => []
  | n + 1 => .int .i64 0 :: zeros n
theorem LockAt.new (w : World) (t : TypeId) (most time : Int) (cs : Array Value) (hcs : cs = (.int .i64 most :: .int .i64 time :: zeros 24).toArray) : LockAt (w.alloc (.cells cs t)) w.heap.size (LockS.new most time) := by
  subst hcs
  refine ⟨by simp, fun i hi => ?_, fun o => by simp⟩
  rcases i with _ | _ | i
  · simp [lockV, LockS.new]
  · simp [lockV, LockS.new]
  · have hz : (zeros 24)[i]? = some (.int .i64 0) := by
      rcases i with _ | _ | _ | _ | _ | _ | _ | _ | _ | _ | _ | _ | _ | _ | _ | _ | _ | _ | _ | _ | _ | _ | _ | _ | i <;> first | rfl | omega
    simp [lockV, LockS.new, oneV, OneS.zero, hz]
theorem New_bad {most time : Int} (w : World) (h : newB most time = false) :
    Calls Try.prog 13 #[.int .i64 most, .int .i64 time] w (Tells w (.tuple #[.pointer none, .int .i64 2])) := by
  have h' : most < 1 ∨ (¬ most < 1 ∧ 1000 < most) ∨ (¬ most < 1 ∧ ¬ 1000 < most ∧ time < 1) ∨ (¬ most < 1 ∧ ¬ 1000 < most ∧ ¬ time < 1 ∧ 65535 < time) := by simp [newB] at h; omega
  clear h
  rcases h' with h1 | ⟨h1, h2⟩ | ⟨h1, h2, h3⟩ | ⟨h1, h2, h3, h4⟩
  all_goals
    go_enter Try.func13, Try.ntmps13
    go_wp2
    go_ret2
    exact Tells.mk rfl
theorem New_good {most time : Int} (w : World) (h : newB most time = true) :
    Calls Try.prog 13 #[.int .i64 most, .int .i64 time] w fun e w' => ∃ c, e = .returned (.tuple #[.pointer (some ⟨c, 0, none⟩), .int .i64 0]) ∧ w.heap.size ≤ c ∧ LockAt w' c (LockS.new most time) ∧ Below w.heap.size w w' := by
  have h' : ¬ most < 1 ∧ ¬ 1000 < most ∧ ¬ time < 1 ∧ ¬ 65535 < time := by simp [newB] at h; omega
  clear h
  obtain ⟨h1, h2, h3, h4⟩ := h'
  go_enter Try.func13, Try.ntmps13
  go_wp2
  go_ret2
  exact ⟨_, rfl, Nat.le_refl _, LockAt.new w _ most time _ rfl, by (repeat (first | (with_reducible exact Below.refl _ _) | (with_reducible assumption) | (with_reducible refine Below.alloc ?_ (by (repeat (first | (with_reducible exact Nat.le_refl _) | (with_reducible assumption) | (with_reducible refine le_up ?_) | (with_reducible refine le_alloc ?_) | (with_reducible refine le_setCell ?_) | (with_reducible refine le_drew ?_) | (with_reducible refine le_drewN ?_) | omega))) _) | (with_reducible refine Below.drew ?_) | (with_reducible refine Below.drewN ?_ _) | (with_reducible refine Below.setCell ?_ (by (repeat (first | (with_reducible exact Nat.le_refl _) | (with_reducible assumption) | (with_reducible refine le_up ?_) | (with_reducible refine le_alloc ?_) | (with_reducible refine le_setCell ?_) | (with_reducible refine le_drew ?_) | (with_reducible refine le_drewN ?_) | omega))) _) | (with_reducible refine Below.up ?_ (by (repeat (first | (with_reducible exact Nat.le_refl _) | (with_reducible assumption) | (with_reducible refine le_up ?_) | (with_reducible refine le_alloc ?_) | (with_reducible refine le_setCell ?_) | (with_reducible refine le_drew ?_) | (with_reducible refine le_drewN ?_) | omega))))))⟩
theorem rNew_bad {most time : Int} (w : World) (h : newB most time = false) :
    Calls Try.prog 14 #[.int .i64 most, .int .i64 time] w (Tells w (.tuple #[.pointer none, .int .i64 2])) := by
  have h' : most < 1 ∨ (¬ most < 1 ∧ 1000 < most) ∨ (¬ most < 1 ∧ ¬ 1000 < most ∧ time < 1) ∨ (¬ most < 1 ∧ ¬ 1000 < most ∧ ¬ time < 1 ∧ 65535 < time) := by simp [newB] at h; omega
  clear h
  rcases h' with h1 | ⟨h1, h2⟩ | ⟨h1, h2, h3⟩ | ⟨h1, h2, h3, h4⟩
  all_goals
    go_enter Try.func14, Try.ntmps14
    go_wp2
    go_ret2
    exact Tells.mk rfl
theorem rNew_good {most time : Int} (w : World) (h : newB most time = true) :
    Calls Try.prog 14 #[.int .i64 most, .int .i64 time] w fun e w' => ∃ c, e = .returned (.tuple #[.pointer (some ⟨c, 0, none⟩), .int .i64 0]) ∧ w.heap.size ≤ c ∧ LockAt w' c (LockS.new most time) ∧ Below w.heap.size w w' := by
  have h' : ¬ most < 1 ∧ ¬ 1000 < most ∧ ¬ time < 1 ∧ ¬ 65535 < time := by simp [newB] at h; omega
  clear h
  obtain ⟨h1, h2, h3, h4⟩ := h'
  go_enter Try.func14, Try.ntmps14
  go_wp2
  go_ret2
  exact ⟨_, rfl, Nat.le_refl _, LockAt.new w _ most time _ rfl, by (repeat (first | (with_reducible exact Below.refl _ _) | (with_reducible assumption) | (with_reducible refine Below.alloc ?_ (by (repeat (first | (with_reducible exact Nat.le_refl _) | (with_reducible assumption) | (with_reducible refine le_up ?_) | (with_reducible refine le_alloc ?_) | (with_reducible refine le_setCell ?_) | (with_reducible refine le_drew ?_) | (with_reducible refine le_drewN ?_) | omega))) _) | (with_reducible refine Below.drew ?_) | (with_reducible refine Below.drewN ?_ _) | (with_reducible refine Below.setCell ?_ (by (repeat (first | (with_reducible exact Nat.le_refl _) | (with_reducible assumption) | (with_reducible refine le_up ?_) | (with_reducible refine le_alloc ?_) | (with_reducible refine le_setCell ?_) | (with_reducible refine le_drew ?_) | (with_reducible refine le_drewN ?_) | omega))) _) | (with_reducible refine Below.up ?_ (by (repeat (first | (with_reducible exact Nat.le_refl _) | (with_reducible assumption) | (with_reducible refine le_up ?_) | (with_reducible refine le_alloc ?_) | (with_reducible refine le_setCell ?_) | (with_reducible refine le_drew ?_) | (with_reducible refine le_drewN ?_) | omega))))))⟩
end Go.Proofs.Ytcdhhnodfgpkiaa
