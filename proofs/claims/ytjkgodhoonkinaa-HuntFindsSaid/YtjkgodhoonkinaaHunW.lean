/-
  The walks over a hunter's small methods.
-/
import Derived.Test.YtjkgodhoonkinaaHunP
import Derived.Test.YtjkgodhoonkinaaFrmB
import Derived.Test.YtjkgodhoonkinaaSlim
namespace Go.Proofs.Ytjkgodhoonkinaa
open Go.RowKit
set_option linter.unusedVariables false
set_option linter.unusedSimpArgs false

/-- Block h is a hunter: what waits, the noise, the bad sums, made. -/
def HunV (hb : Value) (noise sums : Int) (made : Bool) : Nat → Value
  | 0 => hb
  | 1 => .int .i64 noise
  | 2 => .int .i64 sums
  | _ => .bool made
abbrev HunAt (w : World) (h : Nat) (hb : Value) (noise sums : Int) (made : Bool) : Prop := Cells w h 4 (HunV hb noise sums made)
theorem is_made (w : World) (h : Nat) (hb : Value) (noise sums : Int) (made : Bool) (H : HunAt w h hb noise sums made) :
    Calls Try.prog 73 #[.pointer (some ⟨h, 0, none⟩)] w (Tells w (.bool made)) := by
  have c3 : w.cell? ⟨h, 3, none⟩ = some (.bool made) := H.at_ 3 (by omega)
  clear H
  go_enter Try.func73, Try.ntmps73
  go_wp2
  go_ret
  exact Tells.mk rfl
theorem is_nil (w : World) : Calls Try.prog 73 #[.pointer none] w (Tells w (.bool false)) := by
  go_enter Try.func73, Try.ntmps73
  go_wp2
  go_ret
  exact Tells.mk rfl
theorem Noise_made (w : World) (h : Nat) (hb : Value) (noise sums : Int) (H : HunAt w h hb noise sums true) :
    Calls Try.prog 36 #[.pointer (some ⟨h, 0, none⟩)] w (Tells w (.int .i64 noise)) := by
  have HH := Lib.hid H
  have c1 : w.cell? ⟨h, 1, none⟩ = some (.int .i64 noise) := H.at_ 1 (by omega)
  clear H
  go_enter Try.func36, Try.ntmps36
  go_wp2_with (go_at_call 73; with_reducible refine Calls.tells (is_made _ _ _ _ _ _ HH.out) ?_)
  go_ret
  exact Tells.mk rfl
theorem Sums_made (w : World) (h : Nat) (hb : Value) (noise sums : Int) (H : HunAt w h hb noise sums true) :
    Calls Try.prog 37 #[.pointer (some ⟨h, 0, none⟩)] w (Tells w (.int .i64 sums)) := by
  have HH := Lib.hid H
  have c2 : w.cell? ⟨h, 2, none⟩ = some (.int .i64 sums) := H.at_ 2 (by omega)
  clear H
  go_enter Try.func37, Try.ntmps37
  go_wp2_with (go_at_call 73; with_reducible refine Calls.tells (is_made _ _ _ _ _ _ HH.out) ?_)
  go_ret
  exact Tells.mk rfl
theorem Held_made (w : World) (h : Nat) (a : Option Addr) (n c : Nat) (noise sums : Int) (H : HunAt w h (.slice a n c) noise sums true) :
    Calls Try.prog 38 #[.pointer (some ⟨h, 0, none⟩)] w (Tells w (.int .i64 (n : Int))) := by
  have HH := Lib.hid H
  have c0 : w.cell? ⟨h, 0, none⟩ = some (.slice a n c) := H.at_ 0 (by omega)
  clear H
  go_enter Try.func38, Try.ntmps38
  go_wp2_with (go_at_call 73; with_reducible refine Calls.tells (is_made _ _ _ _ _ _ HH.out) ?_)
  go_ret
  exact Tells.mk rfl
theorem hunt_no (w : World) (p : Option Addr) (f : FuncId) (hf : f = 36 ∨ f = 37 ∨ f = 38) (H : Calls Try.prog 73 #[.pointer p] w (Tells w (.bool false))) :
    Calls Try.prog f #[.pointer p] w (Tells w (.int .i64 0)) := by
  have HH := Lib.hid H
  clear H
  rcases hf with rfl | rfl | rfl
  · go_enter Try.func36, Try.ntmps36
    go_wp2_with (go_at_call 73; with_reducible refine Calls.tells (HH.out) ?_)
    go_ret
    exact Tells.mk rfl
  · go_enter Try.func37, Try.ntmps37
    go_wp2_with (go_at_call 73; with_reducible refine Calls.tells (HH.out) ?_)
    go_ret
    exact Tells.mk rfl
  · go_enter Try.func38, Try.ntmps38
    go_wp2_with (go_at_call 73; with_reducible refine Calls.tells (HH.out) ?_)
    go_ret
    exact Tells.mk rfl
/-- hunt.New: a hunter to whom nothing came. -/
theorem HNew_any (w : World) : Calls Try.prog 33 #[] w (fun e w' => e = .returned (.pointer (some ⟨w.heap.size, 0, none⟩)) ∧ Below w.heap.size w w' ∧ HunAt w' w.heap.size (.slice none 0 0) 0 0 true ∧ w.heap.size < w'.heap.size) := by
  go_enter Try.func33, Try.ntmps33
  go_wp2
  go_ret
  refine ⟨rfl, by (repeat (first | (with_reducible exact Below.refl _ _) | (with_reducible assumption) | (with_reducible refine Below.alloc ?_ (by (repeat (first | (with_reducible exact Nat.le_refl _) | (with_reducible assumption) | (with_reducible refine le_up ?_) | (with_reducible refine le_alloc ?_) | (with_reducible refine le_setCell ?_) | (with_reducible refine le_drew ?_) | (with_reducible refine le_drewN ?_) | omega))) _) | (with_reducible refine Below.drew ?_) | (with_reducible refine Below.drewN ?_ _) | (with_reducible refine Below.setCell ?_ (by (repeat (first | (with_reducible exact Nat.le_refl _) | (with_reducible assumption) | (with_reducible refine le_up ?_) | (with_reducible refine le_alloc ?_) | (with_reducible refine le_setCell ?_) | (with_reducible refine le_drew ?_) | (with_reducible refine le_drewN ?_) | omega))) _) | (with_reducible refine Below.up ?_ (by (repeat (first | (with_reducible exact Nat.le_refl _) | (with_reducible assumption) | (with_reducible refine le_up ?_) | (with_reducible refine le_alloc ?_) | (with_reducible refine le_setCell ?_) | (with_reducible refine le_drew ?_) | (with_reducible refine le_drewN ?_) | omega)))))), ⟨by simp, fun i hi => ?_, fun i => World.frozen?_alloc_new _ _ _ _⟩, by simp⟩
  have : i = 0 ∨ i = 1 ∨ i = 2 ∨ i = 3 := by omega
  rcases this with rfl | rfl | rfl | rfl <;> simp [HunV]
theorem Drop_no (w : World) (p : Option Addr) (H : Calls Try.prog 73 #[.pointer p] w (Tells w (.bool false))) :
    Calls Try.prog 46 #[.pointer p] w (fun e w' => (∃ v, e = .returned v) ∧ w = w') := by
  have HH := Lib.hid H
  clear H
  go_enter Try.func46, Try.ntmps46
  go_wp2_with (go_at_call 73; with_reducible refine Calls.tells (HH.out) ?_)
  go_end0
  exact ⟨⟨_, rfl⟩, rfl⟩
end Go.Proofs.Ytjkgodhoonkinaa
