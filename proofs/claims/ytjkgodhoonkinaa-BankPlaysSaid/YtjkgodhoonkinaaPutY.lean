/-
  The walks over crc.Put, crc.Right and the document's Right.
-/
import Derived.Test.YtjkgodhoonkinaaConc
namespace Go.Proofs.Ytjkgodhoonkinaa
open Go.RowKit

theorem sumV_eq (s : Nat) : sumV s = .agg #[.int .u8 ((s % 256 : Nat) : Int), .int .u8 ((s / 256 % 256 : Nat) : Int), .int .u8 ((s / 65536 % 256 : Nat) : Int), .int .u8 ((s / 16777216 % 256 : Nat) : Int)] := rfl
theorem putB_length (bs : List Nat) : (putB bs).length = bs.length + 4 := by simp [putB, sumB]
theorem GivesB.of_below {w w' : World} {bs : List Nat} {e : Ending} {w2 : World} (h : GivesB w' bs e w2) (hb : Below w.heap.size w w') : GivesB w bs e w2 := by
  obtain ⟨g, cap, rfl, h1, h2, h3, h4⟩ := h
  have hz := hb.size
  exact ⟨g, cap, rfl, Nat.le_trans hz h1, h2, ⟨h3.1, h3.2.1, h3.2.2.imp id (fun ⟨g, cap, cur, k1, k2, k3⟩ => ⟨g, cap, cur, k1, Nat.le_trans hz k2, k3⟩)⟩, hb.trans (h4.mono hz)⟩
set_option maxRecDepth 100000 in
theorem Put_any (v : Value) (bs : List Nat) (w : World) (hv : Bts w v bs) (hn : bs.length ≤ 1000000) :
    Calls Try.prog 66 #[v] w (GivesB w (putB bs)) := by
  have HV := Lib.hid hv
  obtain ⟨va, vn, vc, rfl⟩ := hv.slice
  clear hv
  have hs := cof_lt bs
  have hsum := sum_any _ _ _ HV.out
  rw [sumV_eq] at hsum
  have HS := Lib.hid hsum
  clear hsum
  go_enter Try.func66, Try.ntmps66
  go_wp2_with (go_at_call 84; (first | with_reducible refine Calls.fold (HS.out) ?_ | with_reducible refine Calls.fresh (HS.out) ?_); intro x1)
  refine ((Concat_two _ bs (sumB (cof bs)) _ (BtsL.two HV.out.up.alloc (Bts.lit ?hC (sumB_lt _) (by simp [sumB]) _ rfl)) (by simp [sumB]) (by simp [sumB]; omega)).mono ?_)
  case hC => simp [byteVs, sumB]
  intro e w2 h
  have h' := h.of_below (w := w) (by (repeat (first | (with_reducible exact Below.refl _ _) | (with_reducible assumption) | (with_reducible refine Below.alloc ?_ (by (repeat (first | (with_reducible exact Nat.le_refl _) | (with_reducible assumption) | (with_reducible refine le_up ?_) | (with_reducible refine le_alloc ?_) | (with_reducible refine le_setCell ?_) | (with_reducible refine le_drew ?_) | (with_reducible refine le_drewN ?_) | omega))) _) | (with_reducible refine Below.drew ?_) | (with_reducible refine Below.drewN ?_ _) | (with_reducible refine Below.setCell ?_ (by (repeat (first | (with_reducible exact Nat.le_refl _) | (with_reducible assumption) | (with_reducible refine le_up ?_) | (with_reducible refine le_alloc ?_) | (with_reducible refine le_setCell ?_) | (with_reducible refine le_drew ?_) | (with_reducible refine le_drewN ?_) | omega))) _) | (with_reducible refine Below.up ?_ (by (repeat (first | (with_reducible exact Nat.le_refl _) | (with_reducible assumption) | (with_reducible refine le_up ?_) | (with_reducible refine le_alloc ?_) | (with_reducible refine le_setCell ?_) | (with_reducible refine le_drew ?_) | (with_reducible refine le_drewN ?_) | omega)))))))
  obtain ⟨g, cap, rfl, h1, h2, h3, h4⟩ := h'
  have H3 := Lib.hid h3
  have H4 := Lib.hid h4
  clear h h3 h4
  go_wp2_with fail
  go_ret
  exact ⟨g, cap, by simp [putB], h1, h2, by simpa [putB] using H3.out, H4.out⟩
end Go.Proofs.Ytjkgodhoonkinaa
