/-
  The walks over crc.sum, slices.Concat and crc.Put.
-/
import Derived.Test.YtjkgodhoonkinaaPutW
namespace Go.Proofs.Ytjkgodhoonkinaa
open Go.RowKit

def sumV (s : Nat) : Value := .agg (byteVs (sumB s)).toArray
theorem Bts.slice {w : World} {v : Value} {bs : List Nat} (h : Bts w v bs) : ∃ a n cap, v = .slice a n cap := by
  obtain ⟨_, ⟨rfl, _⟩ | ⟨_, _, rfl, _⟩ | ⟨_, _, _, rfl, _⟩⟩ := h
  · exact ⟨_, _, _, rfl⟩
  · exact ⟨_, _, _, rfl⟩
  · exact ⟨_, _, _, rfl⟩
set_option maxRecDepth 100000 in
theorem sum_any (v : Value) (bs : List Nat) (w : World) (hv : Bts w v bs) :
    Calls Try.prog 84 #[v] w (Gives w (sumV (cof bs))) := by
  have HV := Lib.hid hv
  obtain ⟨va, vn, vc, rfl⟩ := hv.slice
  clear hv
  have hs := cof_lt bs
  go_enter Try.func84, Try.ntmps84
  go_wp2_with (first | (go_at_call 89; with_reducible refine Calls.tells (Of_any _ [bs] _ (BtsL.one HV.out.alloc)) ?_))
  go_returns
  exact Gives.mk (by simp [sumV, byteVs, sumB]; omega) (by (repeat (first | (with_reducible exact Below.refl _ _) | (with_reducible assumption) | (with_reducible refine Below.alloc ?_ (by (repeat (first | (with_reducible exact Nat.le_refl _) | (with_reducible assumption) | (with_reducible refine le_up ?_) | (with_reducible refine le_alloc ?_) | (with_reducible refine le_setCell ?_) | (with_reducible refine le_drew ?_) | (with_reducible refine le_drewN ?_) | omega))) _) | (with_reducible refine Below.drew ?_) | (with_reducible refine Below.drewN ?_ _) | (with_reducible refine Below.setCell ?_ (by (repeat (first | (with_reducible exact Nat.le_refl _) | (with_reducible assumption) | (with_reducible refine le_up ?_) | (with_reducible refine le_alloc ?_) | (with_reducible refine le_setCell ?_) | (with_reducible refine le_drew ?_) | (with_reducible refine le_drewN ?_) | omega))) _) | (with_reducible refine Below.up ?_ (by (repeat (first | (with_reducible exact Nat.le_refl _) | (with_reducible assumption) | (with_reducible refine le_up ?_) | (with_reducible refine le_alloc ?_) | (with_reducible refine le_setCell ?_) | (with_reducible refine le_drew ?_) | (with_reducible refine le_drewN ?_) | omega)))))))
end Go.Proofs.Ytjkgodhoonkinaa
