/-
  The walks over crc.Right and the document's Right.
-/
import Derived.Test.YtjkgodhoonkinaaPutY
import Derived.Deep.RegionHeld3
namespace Go.Proofs.Ytjkgodhoonkinaa
open Go.RowKit

def rightB (bs : List Nat) : Bool := if 4 ≤ bs.length then sameB (putB (bs.take (bs.length - 4))) bs else false
theorem rightB_short {bs : List Nat} (h : bs.length < 4) : rightB bs = false := if_neg (by omega)
theorem rightB_long {bs : List Nat} {m : Nat} (h : bs.length = m + 4) : rightB bs = sameB (putB (bs.take m)) bs := by
  unfold rightB
  rw [if_pos (by omega), show bs.length - 4 = m by omega]

theorem Bts.some {w : World} {v : Value} {bs : List Nat} (h : Bts w v bs) (hn : 0 < bs.length) : ∃ b off cap : Nat, v = .slice (some ⟨b, off, none⟩) bs.length cap ∧ bs.length ≤ cap ∧ cap ≤ 9223372036854775807 ∧ b < w.heap.size ∧ ∀ i, i < bs.length → w.cell? ⟨b, off + i, none⟩ = some (.int .u8 ((bs.getD i 0 : Nat) : Int)) := by
  obtain ⟨_, ⟨_, rfl⟩ | ⟨_, _, _, rfl⟩ | h⟩ := h
  · simp at hn
  · simp at hn
  · exact h
set_option maxRecDepth 100000 in
theorem rRight_any (v : Value) (bs : List Nat) (w : World) (hv : Bts w v bs) (hn : bs.length ≤ 1000000) :
    Calls Try.prog 62 #[v] w (Gives w (.bool (rightB bs))) := by
  by_cases h4 : bs.length < 4
  · rw [rightB_short h4]
    obtain ⟨va, vn, vc, rfl⟩ := hv.slice
    obtain rfl := hv.len
    clear hv
    go_enter Try.func62, Try.ntmps62
    go_wp2_with fail
    go_ret
    exact Gives.mk rfl (by (repeat (first | (with_reducible exact Below.refl _ _) | (with_reducible assumption) | (with_reducible refine Below.alloc ?_ (by (repeat (first | (with_reducible exact Nat.le_refl _) | (with_reducible assumption) | (with_reducible refine le_up ?_) | (with_reducible refine le_alloc ?_) | (with_reducible refine le_setCell ?_) | (with_reducible refine le_drew ?_) | (with_reducible refine le_drewN ?_) | omega))) _) | (with_reducible refine Below.drew ?_) | (with_reducible refine Below.drewN ?_ _) | (with_reducible refine Below.setCell ?_ (by (repeat (first | (with_reducible exact Nat.le_refl _) | (with_reducible assumption) | (with_reducible refine le_up ?_) | (with_reducible refine le_alloc ?_) | (with_reducible refine le_setCell ?_) | (with_reducible refine le_drew ?_) | (with_reducible refine le_drewN ?_) | omega))) _) | (with_reducible refine Below.up ?_ (by (repeat (first | (with_reducible exact Nat.le_refl _) | (with_reducible assumption) | (with_reducible refine le_up ?_) | (with_reducible refine le_alloc ?_) | (with_reducible refine le_setCell ?_) | (with_reducible refine le_drew ?_) | (with_reducible refine le_drewN ?_) | omega)))))))
  · obtain ⟨m, hm⟩ : ∃ m, bs.length = m + 4 := ⟨bs.length - 4, by omega⟩
    rw [rightB_long hm]
    obtain ⟨b, off, cap, rfl, hlc, hc, hb, hcell⟩ := hv.some (by omega)
    have HV := Lib.hid hv
    have HM := Lib.hid (hv.cut m (by omega))
    have HL := Lib.hid (show (bs.take m).length ≤ 1000000 by rw [List.length_take]; omega)
    clear hv hcell
    rw [hm] at hlc h4 ⊢
    have HM4 := Lib.hid hm
    have i1 : (0 : Int) ≤ (m : Int) := by omega
    have i2 : (m : Int) ≤ (cap : Int) := by omega
    have i3 : m ≤ cap := by omega
    have i4 : IntKind.i64.wrap (m : Int) = m := by rw [IntKind.wrap_i64]; omega
    clear hm
    go_enter Try.func62, Try.ntmps62
    go_wp2_with fail
    go_region_held (fun W => (convert 22 9 (.slice (some ⟨b, off, none⟩) (m + 4) cap)).run Try.prog W = .ok (.string (strB bs)) W ∧ Below w.heap.size w W)
      (first | exact ⟨by have := run_str (HV.out.below ((Below.refl _ w).drew)); rw [HM4.out] at this; exact this, (Below.refl _ _).drew⟩ | exact ⟨by have := run_str (HV.out.below HB2.out); rw [HM4.out] at this; exact this, HB2.out⟩)
      (first | (go_at_call 67; refine (rPut_any _ (bs.take m) _ (HM.out.below (Below.drew (Below.refl _ _))) HL.out).mono ?_; rintro e w2 ⟨g, c2, rfl, hg1, hg2, ho2, hb2⟩; have HB2 : Hid (Below w.heap.size w w2) := Lib.hid (((Below.refl _ w).drew).trans hb2); have HO2 := Lib.hid ho2; have KS := run_str ho2.bts; clear ho2 hb2))
    go_wp2_with fail
    go_ret
    exact Gives.mk (ret_bool (strB_eq HO2.out.1 HV.out.1)) HB2.out
end Go.Proofs.Ytjkgodhoonkinaa
