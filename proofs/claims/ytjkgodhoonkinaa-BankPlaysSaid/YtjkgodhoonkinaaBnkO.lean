/-
  A bank spoilt; are both banks empty?
-/
import Derived.Test.YtjkgodhoonkinaaBnkN
namespace Go.Proofs.Ytjkgodhoonkinaa
open Go.RowKit
set_option linter.unusedVariables false
set_option linter.unusedSimpArgs false

set_option maxRecDepth 100000 in
theorem Spoil_out (w : World) (s : Nat) (v0 v1 : Value) (bg k at_ by_ : Int) (H : StoAt w s v0 v1 bg true) (hk : k < 0 ∨ 2 ≤ k) :
    Calls Try.prog 53 #[.pointer (some ⟨s, 0, none⟩), .int .i64 k, .int .i64 at_, .int .u8 by_] w (Tells w (.int .i64 2)) := by
  have HH := Lib.hid H
  clear H
  rcases Int.lt_or_le k 0 with h | h
  · clear hk
    go_enter Try.func53, Try.ntmps53
    go_wp2_with (go_at_call 76; with_reducible refine Calls.tells (bis_made _ _ _ _ _ _ HH.out) ?_)
    go_ret
    exact Tells.mk rfl
  · have h2 : 2 ≤ k := by omega
    have h3 : ¬ k < 0 := by omega
    clear hk h
    go_enter Try.func53, Try.ntmps53
    go_wp2_with (go_at_call 76; with_reducible refine Calls.tells (bis_made _ _ _ _ _ _ HH.out) ?_)
    go_ret
    exact Tells.mk rfl
set_option maxRecDepth 100000 in
theorem Spoil_place (w : World) (s k vn vc : Nat) (va : Option Addr) (v0 v1 : Value) (bg at_ by_ : Int) (H : StoAt w s v0 v1 bg true) (hk : k ≤ 1) (hc : w.cell? ⟨s, k, none⟩ = some (.slice va vn vc)) (ha : at_ < 0 ∨ (vn : Int) ≤ at_) :
    Calls Try.prog 53 #[.pointer (some ⟨s, 0, none⟩), .int .i64 (k : Int), .int .i64 at_, .int .u8 by_] w (Tells w (.int .i64 2)) := by
  have HH := Lib.hid H
  have k1 : ¬ (k : Int) < 0 := by omega
  have k2 : (k : Int) < 2 := by omega
  have k3 : ¬ (2 : Int) ≤ (k : Int) := by omega
  have k4 : (0 : Int) ≤ (k : Int) := by omega
  haveI : LtSize s w := ⟨H.lt⟩
  clear H hk
  rcases Int.lt_or_le at_ 0 with h | h
  · clear ha
    go_enter Try.func53, Try.ntmps53
    go_wp2_with (go_at_call 76; with_reducible refine Calls.tells (bis_made _ _ _ _ _ _ HH.out) ?_)
    go_ret
    exact Tells.mk rfl
  · have h2 : (vn : Int) ≤ at_ := by omega
    have h3 : ¬ at_ < 0 := by omega
    clear ha h
    go_enter Try.func53, Try.ntmps53
    go_wp2_with (go_at_call 76; with_reducible refine Calls.tells (bis_made _ _ _ _ _ _ HH.out) ?_)
    go_ret
    exact Tells.mk rfl
set_option maxRecDepth 100000 in
theorem Spoil_in (w : World) (s k g n cap i y b : Nat) (v0 v1 : Value) (bg : Int) (H : StoAt w s v0 v1 bg true) (hk : k ≤ 1) (hc : w.cell? ⟨s, k, none⟩ = some (.slice (some ⟨g, 0, none⟩) n cap)) (hi : i < n)
    (hy : w.cell? ⟨g, i, none⟩ = some (.int .u8 (y : Int))) (hf : w.frozen? ⟨g, i, none⟩ = false) (hy256 : y < 256) (hb : b < 256) :
    Calls Try.prog 53 #[.pointer (some ⟨s, 0, none⟩), .int .i64 (k : Int), .int .i64 (i : Int), .int .u8 (b : Int)] w (fun e w' => e = .returned (.int .i64 0) ∧ w' = w.setCell ⟨g, i, none⟩ (.int .u8 ((y ^^^ b : Nat) : Int))) := by
  have HH := Lib.hid H
  have k1 : ¬ (k : Int) < 0 := by omega
  have k2 : (k : Int) < 2 := by omega
  have k3 : ¬ (2 : Int) ≤ (k : Int) := by omega
  have k4 : (0 : Int) ≤ (k : Int) := by omega
  have i1 : ¬ (i : Int) < 0 := by omega
  have i2 : (i : Int) < (n : Int) := by omega
  have i3 : ¬ (n : Int) ≤ (i : Int) := by omega
  have i4 : (0 : Int) ≤ (i : Int) := by omega
  have hx := u8_xor_nat y b hy256 hb
  haveI : LtSize s w := ⟨H.lt⟩
  clear H hk
  go_enter Try.func53, Try.ntmps53
  go_wp2_with (go_at_call 76; with_reducible refine Calls.tells (bis_made _ _ _ _ _ _ HH.out) ?_)
  go_ret
  exact ⟨rfl, rfl⟩
set_option maxRecDepth 100000 in
theorem Empty_made (w : World) (s : Nat) (v0 v1 : Value) (x0 x1 : List Nat) (bg : Int) (H : StoAt w s v0 v1 bg true) (h0 : Bts w v0 x0) (h1 : Bts w v1 x1) (l0 : x0.length ≤ 141) (l1 : x1.length ≤ 141) :
    Calls Try.prog 57 #[.pointer (some ⟨s, 0, none⟩)] w (Gives w (.bool (decide ((x0.length : Int) + (x1.length : Int) = 0)))) := by
  obtain ⟨a0, n0, c0, rfl⟩ := h0.slice
  obtain ⟨a1, n1, c1, rfl⟩ := h1.slice
  have e0 := h0.len
  have e1 := h1.len
  subst e0
  subst e1
  have z0 : w.cell? ⟨s, 0, none⟩ = some (.slice a0 x0.length c0) := H.at_ 0 (by omega)
  have z1 : w.cell? ⟨s, 1, none⟩ = some (.slice a1 x1.length c1) := H.at_ 1 (by omega)
  have HH := Lib.hid H
  haveI : LtSize s w := ⟨H.lt⟩
  clear H h0 h1
  generalize x0.length = m0 at *
  generalize x1.length = m1 at *
  have hw : IntKind.i64.wrap ((m0 : Int) + (m1 : Int)) = (m0 : Int) + (m1 : Int) := by rw [IntKind.wrap_i64]; omega
  go_enter Try.func57, Try.ntmps57
  go_wp2_with (refine wp_region_up (by kernel_rfl) (by kernel_rfl) ?_; (repeat (go_big_quiet_step ((go_at_call 76; exact Calls.up_tells (bis_made _ _ _ _ _ _ HH.out.up))))); refine wpQuiet_nil ?_; intro _ hw'; obtain ⟨xq, hw''⟩ := hw'; subst hw'')
  go_ret
  exact Gives.mk rfl (by (repeat (first | (with_reducible exact Below.refl _ _) | (with_reducible assumption) | (with_reducible refine Below.alloc ?_ (by (repeat (first | (with_reducible exact Nat.le_refl _) | (with_reducible assumption) | (with_reducible refine le_up ?_) | (with_reducible refine le_alloc ?_) | (with_reducible refine le_setCell ?_) | (with_reducible refine le_drew ?_) | (with_reducible refine le_drewN ?_) | omega))) _) | (with_reducible refine Below.drew ?_) | (with_reducible refine Below.drewN ?_ _) | (with_reducible refine Below.setCell ?_ (by (repeat (first | (with_reducible exact Nat.le_refl _) | (with_reducible assumption) | (with_reducible refine le_up ?_) | (with_reducible refine le_alloc ?_) | (with_reducible refine le_setCell ?_) | (with_reducible refine le_drew ?_) | (with_reducible refine le_drewN ?_) | omega))) _) | (with_reducible refine Below.up ?_ (by (repeat (first | (with_reducible exact Nat.le_refl _) | (with_reducible assumption) | (with_reducible refine le_up ?_) | (with_reducible refine le_alloc ?_) | (with_reducible refine le_setCell ?_) | (with_reducible refine le_drew ?_) | (with_reducible refine le_drewN ?_) | omega)))))))
end Go.Proofs.Ytjkgodhoonkinaa
