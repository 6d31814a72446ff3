/-
  The walks over the keeper of another clock, continued: keepers that no call made.
-/
import Derived.Test.YtcdhhnodfgpkiaaSyncX
import Derived.ScopeJumps
import Derived.WalkMore
namespace Go.Proofs.Ytcdhhnodfgpkiaa
open Go.RowKit

/-- A scope that is left by one goto at most: behind the jump the rest is walked on. -/
theorem wp_scope_once {P : Program} {c rest : Code} {a : Act} {w : World} {Q : Exit → Act → World → Prop} (l : Nat) (hf : findLabel c l = some rest)
    (h : c.wp P (Exit.jump l (fun a' w' => rest.wp P (Exit.noGoto Q) a' w') Q) a w) : (Code.scope c).wp P Q a w := by
  refine wp_scope_jumps l _ (fun _ _ => 0) hf h (fun a' w' hJ => Code.wp_mono (fun e a'' w'' hq => ?_) hJ)
  cases e <;> first | exact hq | exact absurd hq (by simp [Exit.noGoto])
set_option maxRecDepth 100000 in
theorem Beacon_nil (t u : Int) (w : World) :
    Calls Try.prog 27 #[.pointer none, .int .i64 t, .int .u64 u] w (Gives w (.int .i64 1)) := by
  go_enter Try.func27, Try.ntmps27
  go_wp2
  refine wp_scope_once 0 rfl ?_
  go_wp2_with (go_at_call 50; with_reducible refine Calls.tells (sis_nil _) ?_)
  go_step3
  refine ⟨rfl, ?_⟩
  go_wp2
  (try go_step3)
  go_wp2
  (try rw [Exit.noGoto_ret])
  go_ret
  exact Gives.mk rfl (by (repeat (first | (with_reducible exact Below.refl _ _) | (with_reducible assumption) | (with_reducible refine Below.alloc ?_ (by (repeat (first | (with_reducible exact Nat.le_refl _) | (with_reducible assumption) | (with_reducible refine le_up ?_) | (with_reducible refine le_alloc ?_) | (with_reducible refine le_setCell ?_) | (with_reducible refine le_drew ?_) | (with_reducible refine le_drewN ?_) | omega))) _) | (with_reducible refine Below.drew ?_) | (with_reducible refine Below.drewN ?_ _) | (with_reducible refine Below.setCell ?_ (by (repeat (first | (with_reducible exact Nat.le_refl _) | (with_reducible assumption) | (with_reducible refine le_up ?_) | (with_reducible refine le_alloc ?_) | (with_reducible refine le_setCell ?_) | (with_reducible refine le_drew ?_) | (with_reducible refine le_drewN ?_) | omega))) _) | (with_reducible refine Below.up ?_ (by (repeat (first | (with_reducible exact Nat.le_refl _) | (with_reducible assumption) | (with_reducible refine le_up ?_) | (with_reducible refine le_alloc ?_) | (with_reducible refine le_setCell ?_) | (with_reducible refine le_drew ?_) | (with_reducible refine le_drewN ?_) | omega)))))))
set_option maxRecDepth 100000 in
theorem Beacon_void (c : Nat) (t u : Int) (w : World) [LtSize c w] (hc : w.cell? ⟨c, 2, none⟩ = some (.int .i64 0)) :
    Calls Try.prog 27 #[.pointer (some ⟨c, 0, none⟩), .int .i64 t, .int .u64 u] w (Gives w (.int .i64 1)) := by
  have hC := Lib.hid (sis_void c ((w.alloc (Obj.cells #[.int .i64 0, .int .i64 0] 85)).alloc (Obj.cells #[.int .i64 0, .int .i64 0] 85)) (by simp [hc]))
  go_enter Try.func27, Try.ntmps27
  go_wp2
  refine wp_scope_once 0 rfl ?_
  go_wp2_with (go_at_call 50; with_reducible refine Calls.tells (hC.out) ?_)
  go_step3
  refine ⟨rfl, ?_⟩
  go_wp2
  (try go_step3)
  go_wp2
  (try rw [Exit.noGoto_ret])
  go_ret
  exact Gives.mk rfl (by (repeat (first | (with_reducible exact Below.refl _ _) | (with_reducible assumption) | (with_reducible refine Below.alloc ?_ (by (repeat (first | (with_reducible exact Nat.le_refl _) | (with_reducible assumption) | (with_reducible refine le_up ?_) | (with_reducible refine le_alloc ?_) | (with_reducible refine le_setCell ?_) | (with_reducible refine le_drew ?_) | (with_reducible refine le_drewN ?_) | omega))) _) | (with_reducible refine Below.drew ?_) | (with_reducible refine Below.drewN ?_ _) | (with_reducible refine Below.setCell ?_ (by (repeat (first | (with_reducible exact Nat.le_refl _) | (with_reducible assumption) | (with_reducible refine le_up ?_) | (with_reducible refine le_alloc ?_) | (with_reducible refine le_setCell ?_) | (with_reducible refine le_drew ?_) | (with_reducible refine le_drewN ?_) | omega))) _) | (with_reducible refine Below.up ?_ (by (repeat (first | (with_reducible exact Nat.le_refl _) | (with_reducible assumption) | (with_reducible refine le_up ?_) | (with_reducible refine le_alloc ?_) | (with_reducible refine le_setCell ?_) | (with_reducible refine le_drew ?_) | (with_reducible refine le_drewN ?_) | omega)))))))
theorem Bounds_nil (t : Int) (w : World) : Calls Try.prog 26 #[.pointer none, .int .i64 t] w (Tells w (.tuple #[.int .i64 0, .int .i64 0, .bool false])) := by
  go_enter Try.func26, Try.ntmps26
  go_wp2_with (go_at_call 50; with_reducible refine Calls.tells (sis_nil _) ?_)
  go_ret3
  exact Tells.mk rfl
theorem Odd_nil (w : World) : Calls Try.prog 28 #[.pointer none] w (Tells w (.int .i64 0)) := by
  go_enter Try.func28, Try.ntmps28
  go_wp2_with (go_at_call 50; with_reducible refine Calls.tells (sis_nil _) ?_)
  go_ret
  exact Tells.mk rfl
theorem Sure_nil (t o : Int) (w : World) : Calls Try.prog 38 #[.pointer none, .int .i64 t, .int .i64 o] w (Tells w (.bool false)) := by
  go_enter Try.func38, Try.ntmps38
  go_wp2_with (go_at_call 50; with_reducible refine Calls.tells (sis_nil _) ?_)
  go_ret
  exact Tells.mk rfl
theorem Bounds_void (c : Nat) (t : Int) (w : World) (hc : w.cell? ⟨c, 2, none⟩ = some (.int .i64 0)) : Calls Try.prog 26 #[.pointer (some ⟨c, 0, none⟩), .int .i64 t] w (Tells w (.tuple #[.int .i64 0, .int .i64 0, .bool false])) := by
  go_enter Try.func26, Try.ntmps26
  go_wp2_with (go_at_call 50; with_reducible refine Calls.tells (sis_void c _ hc) ?_)
  go_ret3
  exact Tells.mk rfl
theorem Odd_void (c : Nat) (w : World) (hc : w.cell? ⟨c, 2, none⟩ = some (.int .i64 0)) : Calls Try.prog 28 #[.pointer (some ⟨c, 0, none⟩)] w (Tells w (.int .i64 0)) := by
  go_enter Try.func28, Try.ntmps28
  go_wp2_with (go_at_call 50; with_reducible refine Calls.tells (sis_void c _ hc) ?_)
  go_ret
  exact Tells.mk rfl
theorem Sure_void (c : Nat) (t o : Int) (w : World) (hc : w.cell? ⟨c, 2, none⟩ = some (.int .i64 0)) : Calls Try.prog 38 #[.pointer (some ⟨c, 0, none⟩), .int .i64 t, .int .i64 o] w (Tells w (.bool false)) := by
  go_enter Try.func38, Try.ntmps38
  go_wp2_with (go_at_call 50; with_reducible refine Calls.tells (sis_void c _ hc) ?_)
  go_ret
  exact Tells.mk rfl
end Go.Proofs.Ytcdhhnodfgpkiaa
