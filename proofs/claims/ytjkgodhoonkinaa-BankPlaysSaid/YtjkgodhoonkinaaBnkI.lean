/-
  A store's banks, as the laws see them.
-/
import Derived.Test.YtjkgodhoonkinaaBnkH
namespace Go.Proofs.Ytjkgodhoonkinaa
open Go.RowKit
set_option linter.unusedVariables false
set_option linter.unusedSimpArgs false

def CopyB (w : World) (bs : List Nat) (e : Ending) (w' : World) : Prop := ∃ v, e = .returned v ∧ Bts w' v bs ∧ Below w.heap.size w w'
set_option maxRecDepth 100000 in
theorem Clone_nul (w : World) : Calls Try.prog 61 #[.slice none 0 0] w (CopyB w []) := by
  have hnil := fun (W : World) => Lib.run_eql_slice_nil (P := Try.prog) W
  go_enter Try.func61, Try.ntmps61
  go_wp2
  go_ret
  exact ⟨_, rfl, nil_bts0 _, Below.refl _ _⟩
theorem Clone_all (v : Value) (bs : List Nat) (w : World) (hv : Bts w v bs) (hn : bs.length ≤ 140737488355328) : Calls Try.prog 61 #[v] w (CopyB w bs) := by
  by_cases h : v = .slice none 0 0
  · subst h
    have : bs = [] := List.length_eq_zero_iff.1 hv.len.symm
    subst this
    exact Clone_nul w
  · refine (Clone_any v bs w hv h hn).mono ?_
    rintro e w' ⟨g, cap, rfl, _, _, ho, hb⟩
    exact ⟨_, rfl, ho.bts, hb⟩
def CopyT (w : World) (bs : List Nat) (er : Int) (e : Ending) (w' : World) : Prop := ∃ v, e = .returned (.tuple #[v, .int .i64 er]) ∧ Bts w' v bs ∧ Below w.heap.size w w'
set_option maxRecDepth 100000 in
theorem Bank_out (w : World) (s : Nat) (v0 v1 : Value) (bg k : Int) (H : StoAt w s v0 v1 bg true) (hk : k < 0 ∨ 2 ≤ k) :
    Calls Try.prog 52 #[.pointer (some ⟨s, 0, none⟩), .int .i64 k] w (Tells w (.tuple #[.slice none 0 0, .int .i64 2])) := by
  have HH := Lib.hid H
  clear H
  rcases Int.lt_or_le k 0 with h | h
  · clear hk
    go_enter Try.func52, Try.ntmps52
    go_wp2_with (go_at_call 76; with_reducible refine Calls.tells (bis_made _ _ _ _ _ _ HH.out) ?_)
    go_ret2
    exact Tells.mk rfl
  · have h2 : 2 ≤ k := by omega
    have h3 : ¬ k < 0 := by omega
    clear hk h
    go_enter Try.func52, Try.ntmps52
    go_wp2_with (go_at_call 76; with_reducible refine Calls.tells (bis_made _ _ _ _ _ _ HH.out) ?_)
    go_ret2
    exact Tells.mk rfl
set_option maxRecDepth 100000 in
theorem Bank_made0 (w : World) (s : Nat) (v0 v1 : Value) (bg : Int) (x : List Nat) (H : StoAt w s v0 v1 bg true) (hx : Bts w v0 x) (hl : x.length ≤ 140737488355328) :
    Calls Try.prog 52 #[.pointer (some ⟨s, 0, none⟩), .int .i64 0] w (CopyT w x 0) := by
  obtain ⟨va, vn, vc, rfl⟩ := hx.slice
  have c0 : w.cell? ⟨s, 0, none⟩ = some (.slice va vn vc) := H.at_ 0 (by omega)
  have HC := Lib.hid (Clone_all _ x w hx hl)
  have HH := Lib.hid H
  clear H hx
  go_enter Try.func52, Try.ntmps52
  go_wp2_with (go_at_call 76; with_reducible refine Calls.tells (bis_made _ _ _ _ _ _ HH.out) ?_)
  refine HC.out.mono ?_
  rintro e1 w1 ⟨v1, rfl, hb, hbe⟩
  go_wp2_with fail
  go_ret2
  exact ⟨_, rfl, hb, hbe⟩
set_option maxRecDepth 100000 in
theorem Bank_made1 (w : World) (s : Nat) (v0 v1 : Value) (bg : Int) (x : List Nat) (H : StoAt w s v0 v1 bg true) (hx : Bts w v1 x) (hl : x.length ≤ 140737488355328) :
    Calls Try.prog 52 #[.pointer (some ⟨s, 0, none⟩), .int .i64 1] w (CopyT w x 0) := by
  obtain ⟨va, vn, vc, rfl⟩ := hx.slice
  have c0 : w.cell? ⟨s, 1, none⟩ = some (.slice va vn vc) := H.at_ 1 (by omega)
  have HC := Lib.hid (Clone_all _ x w hx hl)
  have HH := Lib.hid H
  clear H hx
  go_enter Try.func52, Try.ntmps52
  go_wp2_with (go_at_call 76; with_reducible refine Calls.tells (bis_made _ _ _ _ _ _ HH.out) ?_)
  refine HC.out.mono ?_
  rintro e1 w1 ⟨v1, rfl, hb, hbe⟩
  go_wp2_with fail
  go_ret2
  exact ⟨_, rfl, hb, hbe⟩
end Go.Proofs.Ytjkgodhoonkinaa
