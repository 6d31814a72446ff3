/-
  The law CrcTurns, walked: it answers true.
-/
import Derived.Test.YtbfloidogdjccaaCrcX
namespace Go.Proofs.Ytbfloidogdjccaa
open Go.RowKit

/-! one contract at every input -/
def TurnR (s : Nat) (n a : Int) (y : Nat) : Nat := if 0 ≤ a ∧ a < n ∧ n ≤ 65536 then s ^^^ cadd 0 (turnB y (n - a - 1).toNat) else 0
def TurnB (n a : Int) : Bool := decide (0 ≤ a ∧ a < n ∧ n ≤ 65536)
theorem Turned_all (s y : Nat) (n a : Int) (w : World) (hs : s < 4294967296) (hy : y < 256) :
    Calls Try.prog 17 #[.int .u32 (s : Int), .int .i64 n, .int .i64 a, .int .u8 (y : Int)] w (Gives w (.tuple #[.int .u32 (TurnR s n a y : Nat), .bool (TurnB n a)])) := by
  by_cases h : 0 ≤ a ∧ a < n ∧ n ≤ 65536
  · have := Turned_t s y (n - a - 1).toNat n a w hs hy h.1 h.2.2 (by omega)
    rw [show TurnR s n a y = s ^^^ cadd 0 (turnB y (n - a - 1).toNat) from if_pos h, show TurnB n a = true from decide_eq_true h]; exact this
  · rw [show TurnR s n a y = 0 from if_neg h, show TurnB n a = false from decide_eq_false h]
    exact (Turned_f s n a y w h).mono Tells.gives
theorem rTurned_all (s y : Nat) (n a : Int) (w : World) (hs : s < 4294967296) (hy : y < 256) :
    Calls Try.prog 18 #[.int .u32 (s : Int), .int .i64 n, .int .i64 a, .int .u8 (y : Int)] w (Gives w (.tuple #[.int .u32 (TurnR s n a y : Nat), .bool (TurnB n a)])) := by
  by_cases h : 0 ≤ a ∧ a < n ∧ n ≤ 65536
  · have := rTurned_t s y (n - a - 1).toNat n a w hs hy h.1 h.2.2 (by omega)
    rw [show TurnR s n a y = s ^^^ cadd 0 (turnB y (n - a - 1).toNat) from if_pos h, show TurnB n a = true from decide_eq_true h]; exact this
  · rw [show TurnR s n a y = 0 from if_neg h, show TurnB n a = false from decide_eq_false h]
    exact (rTurned_f s n a y w h).mono Tells.gives

theorem turn_law {cs : List Nat} (hc : ∀ x ∈ cs, x < 256) {k y : Nat} (hy : y < 256) (hk : k < cs.length) : cof cs ^^^ cadd 0 (turnB y (cs.length - k - 1)) = cof (cs.set k (cs.getD k 0 ^^^ y)) := by
  have hx : cs.getD k 0 < 256 := by
    rw [List.getD_eq_getElem?_getD, List.getElem?_eq_getElem hk]; exact hc _ (List.getElem_mem hk)
  rw [cof_turned hc (set_lt hc (xor_byte hx hy)) (by simp) (cnum_set hy cs k hc hk), csteps_mul (by omega), cadd_eq (turnB_lt hy)]
  congr 2
  · simp [turnB]; omega
  · rw [Nat.zero_xor]; unfold turnB cnum; rw [cnum_zeros]; omega

set_option maxHeartbeats 1600000 in
theorem CrcTurns_any (v : Value) (bs : List Nat) (s y : Nat) (n a : Int) (w : World) (hv : Bts w v bs) (hs : s < 4294967296) (hy : y < 256) :
    Calls Try.prog 4 #[v, .int .u32 (s : Int), .int .i64 n, .int .i64 a, .int .u8 (y : Int)] w (Gives w (.bool true)) := by
  have HV2 := Lib.hid (hv.cutV 500)
  have HL := Lib.hid (show (bs.take 500).length ≤ 500 by rw [List.length_take]; omega)
  obtain ⟨cs, hcs⟩ : ∃ cs, cs = bs.take 500 := ⟨_, rfl⟩
  rw [← hcs] at HV2 HL
  clear hcs
  obtain ⟨hb, ⟨rfl, rfl⟩ | ⟨ad, cap, rfl, rfl⟩ | ⟨b, off, cap, rfl, hlc, hcap, hbs, hcell⟩⟩ := hv
  · clear hb
    by_cases hn1 : 2000 < n <;> by_cases hn2 : n ≤ 65536 <;> first | (exfalso; omega) | skip
    all_goals
      go_enter Try.func4, Try.ntmps4
      go_wp2_with (first | (go_at_call 17; (first | with_reducible refine Calls.fold (Turned_all _ _ _ _ _ hs hy) ?_ | with_reducible refine Calls.fresh (Turned_all _ _ _ _ _ hs hy) ?_); intro x1) | (go_at_call 18; (first | with_reducible refine Calls.fold (rTurned_all _ _ _ _ _ hs hy) ?_ | with_reducible refine Calls.fresh (rTurned_all _ _ _ _ _ hs hy) ?_); intro x1))
    all_goals
      refine (Bytes_any _ cs _ HV2.out.up (by have := HL.out; omega)).mono ?_
      rintro e W1 ⟨g, cap1, rfl, hg1, hg2, ho, hb1⟩
      have HO := Lib.hid ho
      have hcs := Lib.hid ho.1
      clear ho
      haveI : LtSize g W1 := ⟨hg2⟩
      have hb2 : Below w.heap.size w W1 := ((up_below w x1)).trans (hb1.mono (up_size w x1))
      have hz2 := hb2.size
      have hg3 : w.heap.size ≤ g := Nat.le_trans (up_size w x1) hg1
      clear hb1 hg1
      go_wp2_with fail
      refine (Of_any _ _ _ (BtsL.one HO.out.bts)).mono ?_
      rintro e w1 ⟨rfl, rfl⟩
      rw [show [cs].flatten = cs from by simp]
      by_cases hin : 0 ≤ a ∧ a < cs.length
      · obtain ⟨k, rfl⟩ := Int.eq_ofNat_of_zero_le hin.1
        have hk : k < cs.length := by omega
        have hc0 := HO.out.cell k hk
        have hf0 := HO.out.free k
        have hlaw := Lib.hid (turn_law hcs.out hy hk)
        have hx : cs.getD k 0 < 256 := by
          rw [List.getD_eq_getElem?_getD, List.getElem?_eq_getElem hk]; exact hcs.out _ (List.getElem_mem hk)
        have hcl := HL.out
        clear hin
        go_wp2_with fail
        refine Calls.fresh (Turned_t (cof cs) y (cs.length - k - 1) _ _ _ (cof_lt cs) hy (by omega) (by omega) (by omega)) ?_
        intro x2
        rw [hlaw.out]
        have hz := xor_byte hx hy
        generalize cs.getD k 0 = c0 at *
        have hb8 := u8_xor_nat c0 y hx hy
        go_wp2_with fail
        refine (rOf_any _ (cs.set k (c0 ^^^ y)) _ (((HO.out.alloc _).up (x := x2)).store k (c0 ^^^ y) hz).bts).mono ?_
        rintro e w1 ⟨rfl, rfl⟩
        go_wp2_with (go_at_call 13; (first | with_reducible refine Calls.fold (works11 _) ?_ | with_reducible refine Calls.fresh (works11 _) ?_); intro x1)
        go_ret
        exact Gives.mk rfl (by (repeat (first | (with_reducible exact Below.refl _ _) | (with_reducible assumption) | (with_reducible refine Below.alloc ?_ (by (repeat (first | (with_reducible exact Nat.le_refl _) | (with_reducible assumption) | (with_reducible refine le_up ?_) | (with_reducible refine le_alloc ?_) | (with_reducible refine le_setCell ?_) | (with_reducible refine le_drew ?_) | (with_reducible refine le_drewN ?_) | omega))) _) | (with_reducible refine Below.drew ?_) | (with_reducible refine Below.drewN ?_ _) | (with_reducible refine Below.setCell ?_ (by (repeat (first | (with_reducible exact Nat.le_refl _) | (with_reducible assumption) | (with_reducible refine le_up ?_) | (with_reducible refine le_alloc ?_) | (with_reducible refine le_setCell ?_) | (with_reducible refine le_drew ?_) | (with_reducible refine le_drewN ?_) | omega))) _) | (with_reducible refine Below.up ?_ (by (repeat (first | (with_reducible exact Nat.le_refl _) | (with_reducible assumption) | (with_reducible refine le_up ?_) | (with_reducible refine le_alloc ?_) | (with_reducible refine le_setCell ?_) | (with_reducible refine le_drew ?_) | (with_reducible refine le_drewN ?_) | omega)))))))
      · have hout : a < 0 ∨ (cs.length : Int) ≤ a := by omega
        have hcl := HL.out
        go_wp2_with fail
        refine (Turned_f _ _ _ _ _ (by omega)).mono ?_
        rintro e w1 ⟨rfl, rfl⟩
        clear hin
        rcases hout with hout | hout
        · go_wp2_with fail
          go_ret
          exact Gives.mk rfl (by (repeat (first | (with_reducible exact Below.refl _ _) | (with_reducible assumption) | (with_reducible refine Below.alloc ?_ (by (repeat (first | (with_reducible exact Nat.le_refl _) | (with_reducible assumption) | (with_reducible refine le_up ?_) | (with_reducible refine le_alloc ?_) | (with_reducible refine le_setCell ?_) | (with_reducible refine le_drew ?_) | (with_reducible refine le_drewN ?_) | omega))) _) | (with_reducible refine Below.drew ?_) | (with_reducible refine Below.drewN ?_ _) | (with_reducible refine Below.setCell ?_ (by (repeat (first | (with_reducible exact Nat.le_refl _) | (with_reducible assumption) | (with_reducible refine le_up ?_) | (with_reducible refine le_alloc ?_) | (with_reducible refine le_setCell ?_) | (with_reducible refine le_drew ?_) | (with_reducible refine le_drewN ?_) | omega))) _) | (with_reducible refine Below.up ?_ (by (repeat (first | (with_reducible exact Nat.le_refl _) | (with_reducible assumption) | (with_reducible refine le_up ?_) | (with_reducible refine le_alloc ?_) | (with_reducible refine le_setCell ?_) | (with_reducible refine le_drew ?_) | (with_reducible refine le_drewN ?_) | omega)))))))
        · by_cases ha0 : a < 0
          · go_wp2_with fail
            go_ret
            exact Gives.mk rfl (by (repeat (first | (with_reducible exact Below.refl _ _) | (with_reducible assumption) | (with_reducible refine Below.alloc ?_ (by (repeat (first | (with_reducible exact Nat.le_refl _) | (with_reducible assumption) | (with_reducible refine le_up ?_) | (with_reducible refine le_alloc ?_) | (with_reducible refine le_setCell ?_) | (with_reducible refine le_drew ?_) | (with_reducible refine le_drewN ?_) | omega))) _) | (with_reducible refine Below.drew ?_) | (with_reducible refine Below.drewN ?_ _) | (with_reducible refine Below.setCell ?_ (by (repeat (first | (with_reducible exact Nat.le_refl _) | (with_reducible assumption) | (with_reducible refine le_up ?_) | (with_reducible refine le_alloc ?_) | (with_reducible refine le_setCell ?_) | (with_reducible refine le_drew ?_) | (with_reducible refine le_drewN ?_) | omega))) _) | (with_reducible refine Below.up ?_ (by (repeat (first | (with_reducible exact Nat.le_refl _) | (with_reducible assumption) | (with_reducible refine le_up ?_) | (with_reducible refine le_alloc ?_) | (with_reducible refine le_setCell ?_) | (with_reducible refine le_drew ?_) | (with_reducible refine le_drewN ?_) | omega)))))))
          · go_wp2_with fail
            all_goals
              go_ret
              exact Gives.mk rfl (by (repeat (first | (with_reducible exact Below.refl _ _) | (with_reducible assumption) | (with_reducible refine Below.alloc ?_ (by (repeat (first | (with_reducible exact Nat.le_refl _) | (with_reducible assumption) | (with_reducible refine le_up ?_) | (with_reducible refine le_alloc ?_) | (with_reducible refine le_setCell ?_) | (with_reducible refine le_drew ?_) | (with_reducible refine le_drewN ?_) | omega))) _) | (with_reducible refine Below.drew ?_) | (with_reducible refine Below.drewN ?_ _) | (with_reducible refine Below.setCell ?_ (by (repeat (first | (with_reducible exact Nat.le_refl _) | (with_reducible assumption) | (with_reducible refine le_up ?_) | (with_reducible refine le_alloc ?_) | (with_reducible refine le_setCell ?_) | (with_reducible refine le_drew ?_) | (with_reducible refine le_drewN ?_) | omega))) _) | (with_reducible refine Below.up ?_ (by (repeat (first | (with_reducible exact Nat.le_refl _) | (with_reducible assumption) | (with_reducible refine le_up ?_) | (with_reducible refine le_alloc ?_) | (with_reducible refine le_setCell ?_) | (with_reducible refine le_drew ?_) | (with_reducible refine le_drewN ?_) | omega)))))))
  · clear hb
    rw [show cutV 500 (.slice (some ad) 0 cap) = .slice (some ad) 0 cap from by simp [cutV]] at HV2
    by_cases hn1 : 2000 < n <;> by_cases hn2 : n ≤ 65536 <;> first | (exfalso; omega) | skip
    all_goals
      go_enter Try.func4, Try.ntmps4
      go_wp2_with (first | (go_at_call 17; (first | with_reducible refine Calls.fold (Turned_all _ _ _ _ _ hs hy) ?_ | with_reducible refine Calls.fresh (Turned_all _ _ _ _ _ hs hy) ?_); intro x1) | (go_at_call 18; (first | with_reducible refine Calls.fold (rTurned_all _ _ _ _ _ hs hy) ?_ | with_reducible refine Calls.fresh (rTurned_all _ _ _ _ _ hs hy) ?_); intro x1))
    all_goals
      refine (Bytes_any _ cs _ HV2.out.up (by have := HL.out; omega)).mono ?_
      rintro e W1 ⟨g, cap1, rfl, hg1, hg2, ho, hb1⟩
      have HO := Lib.hid ho
      have hcs := Lib.hid ho.1
      clear ho
      haveI : LtSize g W1 := ⟨hg2⟩
      have hb2 : Below w.heap.size w W1 := ((up_below w x1)).trans (hb1.mono (up_size w x1))
      have hz2 := hb2.size
      have hg3 : w.heap.size ≤ g := Nat.le_trans (up_size w x1) hg1
      clear hb1 hg1
      go_wp2_with fail
      refine (Of_any _ _ _ (BtsL.one HO.out.bts)).mono ?_
      rintro e w1 ⟨rfl, rfl⟩
      rw [show [cs].flatten = cs from by simp]
      by_cases hin : 0 ≤ a ∧ a < cs.length
      · obtain ⟨k, rfl⟩ := Int.eq_ofNat_of_zero_le hin.1
        have hk : k < cs.length := by omega
        have hc0 := HO.out.cell k hk
        have hf0 := HO.out.free k
        have hlaw := Lib.hid (turn_law hcs.out hy hk)
        have hx : cs.getD k 0 < 256 := by
          rw [List.getD_eq_getElem?_getD, List.getElem?_eq_getElem hk]; exact hcs.out _ (List.getElem_mem hk)
        have hcl := HL.out
        clear hin
        go_wp2_with fail
        refine Calls.fresh (Turned_t (cof cs) y (cs.length - k - 1) _ _ _ (cof_lt cs) hy (by omega) (by omega) (by omega)) ?_
        intro x2
        rw [hlaw.out]
        have hz := xor_byte hx hy
        generalize cs.getD k 0 = c0 at *
        have hb8 := u8_xor_nat c0 y hx hy
        go_wp2_with fail
        refine (rOf_any _ (cs.set k (c0 ^^^ y)) _ (((HO.out.alloc _).up (x := x2)).store k (c0 ^^^ y) hz).bts).mono ?_
        rintro e w1 ⟨rfl, rfl⟩
        go_wp2_with (go_at_call 13; (first | with_reducible refine Calls.fold (works11 _) ?_ | with_reducible refine Calls.fresh (works11 _) ?_); intro x1)
        go_ret
        exact Gives.mk rfl (by (repeat (first | (with_reducible exact Below.refl _ _) | (with_reducible assumption) | (with_reducible refine Below.alloc ?_ (by (repeat (first | (with_reducible exact Nat.le_refl _) | (with_reducible assumption) | (with_reducible refine le_up ?_) | (with_reducible refine le_alloc ?_) | (with_reducible refine le_setCell ?_) | (with_reducible refine le_drew ?_) | (with_reducible refine le_drewN ?_) | omega))) _) | (with_reducible refine Below.drew ?_) | (with_reducible refine Below.drewN ?_ _) | (with_reducible refine Below.setCell ?_ (by (repeat (first | (with_reducible exact Nat.le_refl _) | (with_reducible assumption) | (with_reducible refine le_up ?_) | (with_reducible refine le_alloc ?_) | (with_reducible refine le_setCell ?_) | (with_reducible refine le_drew ?_) | (with_reducible refine le_drewN ?_) | omega))) _) | (with_reducible refine Below.up ?_ (by (repeat (first | (with_reducible exact Nat.le_refl _) | (with_reducible assumption) | (with_reducible refine le_up ?_) | (with_reducible refine le_alloc ?_) | (with_reducible refine le_setCell ?_) | (with_reducible refine le_drew ?_) | (with_reducible refine le_drewN ?_) | omega)))))))
      · have hout : a < 0 ∨ (cs.length : Int) ≤ a := by omega
        have hcl := HL.out
        go_wp2_with fail
        refine (Turned_f _ _ _ _ _ (by omega)).mono ?_
        rintro e w1 ⟨rfl, rfl⟩
        clear hin
        rcases hout with hout | hout
        · go_wp2_with fail
          go_ret
          exact Gives.mk rfl (by (repeat (first | (with_reducible exact Below.refl _ _) | (with_reducible assumption) | (with_reducible refine Below.alloc ?_ (by (repeat (first | (with_reducible exact Nat.le_refl _) | (with_reducible assumption) | (with_reducible refine le_up ?_) | (with_reducible refine le_alloc ?_) | (with_reducible refine le_setCell ?_) | (with_reducible refine le_drew ?_) | (with_reducible refine le_drewN ?_) | omega))) _) | (with_reducible refine Below.drew ?_) | (with_reducible refine Below.drewN ?_ _) | (with_reducible refine Below.setCell ?_ (by (repeat (first | (with_reducible exact Nat.le_refl _) | (with_reducible assumption) | (with_reducible refine le_up ?_) | (with_reducible refine le_alloc ?_) | (with_reducible refine le_setCell ?_) | (with_reducible refine le_drew ?_) | (with_reducible refine le_drewN ?_) | omega))) _) | (with_reducible refine Below.up ?_ (by (repeat (first | (with_reducible exact Nat.le_refl _) | (with_reducible assumption) | (with_reducible refine le_up ?_) | (with_reducible refine le_alloc ?_) | (with_reducible refine le_setCell ?_) | (with_reducible refine le_drew ?_) | (with_reducible refine le_drewN ?_) | omega)))))))
        · by_cases ha0 : a < 0
          · go_wp2_with fail
            go_ret
            exact Gives.mk rfl (by (repeat (first | (with_reducible exact Below.refl _ _) | (with_reducible assumption) | (with_reducible refine Below.alloc ?_ (by (repeat (first | (with_reducible exact Nat.le_refl _) | (with_reducible assumption) | (with_reducible refine le_up ?_) | (with_reducible refine le_alloc ?_) | (with_reducible refine le_setCell ?_) | (with_reducible refine le_drew ?_) | (with_reducible refine le_drewN ?_) | omega))) _) | (with_reducible refine Below.drew ?_) | (with_reducible refine Below.drewN ?_ _) | (with_reducible refine Below.setCell ?_ (by (repeat (first | (with_reducible exact Nat.le_refl _) | (with_reducible assumption) | (with_reducible refine le_up ?_) | (with_reducible refine le_alloc ?_) | (with_reducible refine le_setCell ?_) | (with_reducible refine le_drew ?_) | (with_reducible refine le_drewN ?_) | omega))) _) | (with_reducible refine Below.up ?_ (by (repeat (first | (with_reducible exact Nat.le_refl _) | (with_reducible assumption) | (with_reducible refine le_up ?_) | (with_reducible refine le_alloc ?_) | (with_reducible refine le_setCell ?_) | (with_reducible refine le_drew ?_) | (with_reducible refine le_drewN ?_) | omega)))))))
          · go_wp2_with fail
            all_goals
              go_ret
              exact Gives.mk rfl (by (repeat (first | (with_reducible exact Below.refl _ _) | (with_reducible assumption) | (with_reducible refine Below.alloc ?_ (by (repeat (first | (with_reducible exact Nat.le_refl _) | (with_reducible assumption) | (with_reducible refine le_up ?_) | (with_reducible refine le_alloc ?_) | (with_reducible refine le_setCell ?_) | (with_reducible refine le_drew ?_) | (with_reducible refine le_drewN ?_) | omega))) _) | (with_reducible refine Below.drew ?_) | (with_reducible refine Below.drewN ?_ _) | (with_reducible refine Below.setCell ?_ (by (repeat (first | (with_reducible exact Nat.le_refl _) | (with_reducible assumption) | (with_reducible refine le_up ?_) | (with_reducible refine le_alloc ?_) | (with_reducible refine le_setCell ?_) | (with_reducible refine le_drew ?_) | (with_reducible refine le_drewN ?_) | omega))) _) | (with_reducible refine Below.up ?_ (by (repeat (first | (with_reducible exact Nat.le_refl _) | (with_reducible assumption) | (with_reducible refine le_up ?_) | (with_reducible refine le_alloc ?_) | (with_reducible refine le_setCell ?_) | (with_reducible refine le_drew ?_) | (with_reducible refine le_drewN ?_) | omega)))))))
  · clear hb hcell
    by_cases hn3 : bs.length ≤ 500
    · rw [show cutV 500 (.slice (some ⟨b, off, none⟩) bs.length cap) = .slice (some ⟨b, off, none⟩) bs.length cap from by simp [cutV]; omega] at HV2
      by_cases hn1 : 2000 < n <;> by_cases hn2 : n ≤ 65536 <;> first | (exfalso; omega) | skip
      all_goals
        go_enter Try.func4, Try.ntmps4
        go_wp2_with (first | (go_at_call 17; (first | with_reducible refine Calls.fold (Turned_all _ _ _ _ _ hs hy) ?_ | with_reducible refine Calls.fresh (Turned_all _ _ _ _ _ hs hy) ?_); intro x1) | (go_at_call 18; (first | with_reducible refine Calls.fold (rTurned_all _ _ _ _ _ hs hy) ?_ | with_reducible refine Calls.fresh (rTurned_all _ _ _ _ _ hs hy) ?_); intro x1))
      all_goals
        refine (Bytes_any _ cs _ HV2.out.up (by have := HL.out; omega)).mono ?_
        rintro e W1 ⟨g, cap1, rfl, hg1, hg2, ho, hb1⟩
        have HO := Lib.hid ho
        have hcs := Lib.hid ho.1
        clear ho
        haveI : LtSize g W1 := ⟨hg2⟩
        have hb2 : Below w.heap.size w W1 := ((up_below w x1)).trans (hb1.mono (up_size w x1))
        have hz2 := hb2.size
        have hg3 : w.heap.size ≤ g := Nat.le_trans (up_size w x1) hg1
        clear hb1 hg1
        go_wp2_with fail
        refine (Of_any _ _ _ (BtsL.one HO.out.bts)).mono ?_
        rintro e w1 ⟨rfl, rfl⟩
        rw [show [cs].flatten = cs from by simp]
        by_cases hin : 0 ≤ a ∧ a < cs.length
        · obtain ⟨k, rfl⟩ := Int.eq_ofNat_of_zero_le hin.1
          have hk : k < cs.length := by omega
          have hc0 := HO.out.cell k hk
          have hf0 := HO.out.free k
          have hlaw := Lib.hid (turn_law hcs.out hy hk)
          have hx : cs.getD k 0 < 256 := by
            rw [List.getD_eq_getElem?_getD, List.getElem?_eq_getElem hk]; exact hcs.out _ (List.getElem_mem hk)
          have hcl := HL.out
          clear hin
          go_wp2_with fail
          refine Calls.fresh (Turned_t (cof cs) y (cs.length - k - 1) _ _ _ (cof_lt cs) hy (by omega) (by omega) (by omega)) ?_
          intro x2
          rw [hlaw.out]
          have hz := xor_byte hx hy
          generalize cs.getD k 0 = c0 at *
          have hb8 := u8_xor_nat c0 y hx hy
          go_wp2_with fail
          refine (rOf_any _ (cs.set k (c0 ^^^ y)) _ (((HO.out.alloc _).up (x := x2)).store k (c0 ^^^ y) hz).bts).mono ?_
          rintro e w1 ⟨rfl, rfl⟩
          go_wp2_with (go_at_call 13; (first | with_reducible refine Calls.fold (works11 _) ?_ | with_reducible refine Calls.fresh (works11 _) ?_); intro x1)
          go_ret
          exact Gives.mk rfl (by (repeat (first | (with_reducible exact Below.refl _ _) | (with_reducible assumption) | (with_reducible refine Below.alloc ?_ (by (repeat (first | (with_reducible exact Nat.le_refl _) | (with_reducible assumption) | (with_reducible refine le_up ?_) | (with_reducible refine le_alloc ?_) | (with_reducible refine le_setCell ?_) | (with_reducible refine le_drew ?_) | (with_reducible refine le_drewN ?_) | omega))) _) | (with_reducible refine Below.drew ?_) | (with_reducible refine Below.drewN ?_ _) | (with_reducible refine Below.setCell ?_ (by (repeat (first | (with_reducible exact Nat.le_refl _) | (with_reducible assumption) | (with_reducible refine le_up ?_) | (with_reducible refine le_alloc ?_) | (with_reducible refine le_setCell ?_) | (with_reducible refine le_drew ?_) | (with_reducible refine le_drewN ?_) | omega))) _) | (with_reducible refine Below.up ?_ (by (repeat (first | (with_reducible exact Nat.le_refl _) | (with_reducible assumption) | (with_reducible refine le_up ?_) | (with_reducible refine le_alloc ?_) | (with_reducible refine le_setCell ?_) | (with_reducible refine le_drew ?_) | (with_reducible refine le_drewN ?_) | omega)))))))
        · have hout : a < 0 ∨ (cs.length : Int) ≤ a := by omega
          have hcl := HL.out
          go_wp2_with fail
          refine (Turned_f _ _ _ _ _ (by omega)).mono ?_
          rintro e w1 ⟨rfl, rfl⟩
          clear hin
          rcases hout with hout | hout
          · go_wp2_with fail
            go_ret
            exact Gives.mk rfl (by (repeat (first | (with_reducible exact Below.refl _ _) | (with_reducible assumption) | (with_reducible refine Below.alloc ?_ (by (repeat (first | (with_reducible exact Nat.le_refl _) | (with_reducible assumption) | (with_reducible refine le_up ?_) | (with_reducible refine le_alloc ?_) | (with_reducible refine le_setCell ?_) | (with_reducible refine le_drew ?_) | (with_reducible refine le_drewN ?_) | omega))) _) | (with_reducible refine Below.drew ?_) | (with_reducible refine Below.drewN ?_ _) | (with_reducible refine Below.setCell ?_ (by (repeat (first | (with_reducible exact Nat.le_refl _) | (with_reducible assumption) | (with_reducible refine le_up ?_) | (with_reducible refine le_alloc ?_) | (with_reducible refine le_setCell ?_) | (with_reducible refine le_drew ?_) | (with_reducible refine le_drewN ?_) | omega))) _) | (with_reducible refine Below.up ?_ (by (repeat (first | (with_reducible exact Nat.le_refl _) | (with_reducible assumption) | (with_reducible refine le_up ?_) | (with_reducible refine le_alloc ?_) | (with_reducible refine le_setCell ?_) | (with_reducible refine le_drew ?_) | (with_reducible refine le_drewN ?_) | omega)))))))
          · by_cases ha0 : a < 0
            · go_wp2_with fail
              go_ret
              exact Gives.mk rfl (by (repeat (first | (with_reducible exact Below.refl _ _) | (with_reducible assumption) | (with_reducible refine Below.alloc ?_ (by (repeat (first | (with_reducible exact Nat.le_refl _) | (with_reducible assumption) | (with_reducible refine le_up ?_) | (with_reducible refine le_alloc ?_) | (with_reducible refine le_setCell ?_) | (with_reducible refine le_drew ?_) | (with_reducible refine le_drewN ?_) | omega))) _) | (with_reducible refine Below.drew ?_) | (with_reducible refine Below.drewN ?_ _) | (with_reducible refine Below.setCell ?_ (by (repeat (first | (with_reducible exact Nat.le_refl _) | (with_reducible assumption) | (with_reducible refine le_up ?_) | (with_reducible refine le_alloc ?_) | (with_reducible refine le_setCell ?_) | (with_reducible refine le_drew ?_) | (with_reducible refine le_drewN ?_) | omega))) _) | (with_reducible refine Below.up ?_ (by (repeat (first | (with_reducible exact Nat.le_refl _) | (with_reducible assumption) | (with_reducible refine le_up ?_) | (with_reducible refine le_alloc ?_) | (with_reducible refine le_setCell ?_) | (with_reducible refine le_drew ?_) | (with_reducible refine le_drewN ?_) | omega)))))))
            · go_wp2_with fail
              all_goals
                go_ret
                exact Gives.mk rfl (by (repeat (first | (with_reducible exact Below.refl _ _) | (with_reducible assumption) | (with_reducible refine Below.alloc ?_ (by (repeat (first | (with_reducible exact Nat.le_refl _) | (with_reducible assumption) | (with_reducible refine le_up ?_) | (with_reducible refine le_alloc ?_) | (with_reducible refine le_setCell ?_) | (with_reducible refine le_drew ?_) | (with_reducible refine le_drewN ?_) | omega))) _) | (with_reducible refine Below.drew ?_) | (with_reducible refine Below.drewN ?_ _) | (with_reducible refine Below.setCell ?_ (by (repeat (first | (with_reducible exact Nat.le_refl _) | (with_reducible assumption) | (with_reducible refine le_up ?_) | (with_reducible refine le_alloc ?_) | (with_reducible refine le_setCell ?_) | (with_reducible refine le_drew ?_) | (with_reducible refine le_drewN ?_) | omega))) _) | (with_reducible refine Below.up ?_ (by (repeat (first | (with_reducible exact Nat.le_refl _) | (with_reducible assumption) | (with_reducible refine le_up ?_) | (with_reducible refine le_alloc ?_) | (with_reducible refine le_setCell ?_) | (with_reducible refine le_drew ?_) | (with_reducible refine le_drewN ?_) | omega)))))))
    · rw [show cutV 500 (.slice (some ⟨b, off, none⟩) bs.length cap) = .slice (some ⟨b, off, none⟩) 500 cap from by simp [cutV]; omega] at HV2
      by_cases hn1 : 2000 < n <;> by_cases hn2 : n ≤ 65536 <;> first | (exfalso; omega) | skip
      all_goals
        go_enter Try.func4, Try.ntmps4
        go_wp2_with (first | (go_at_call 17; (first | with_reducible refine Calls.fold (Turned_all _ _ _ _ _ hs hy) ?_ | with_reducible refine Calls.fresh (Turned_all _ _ _ _ _ hs hy) ?_); intro x1) | (go_at_call 18; (first | with_reducible refine Calls.fold (rTurned_all _ _ _ _ _ hs hy) ?_ | with_reducible refine Calls.fresh (rTurned_all _ _ _ _ _ hs hy) ?_); intro x1))
      all_goals
        refine (Bytes_any _ cs _ HV2.out.up (by have := HL.out; omega)).mono ?_
        rintro e W1 ⟨g, cap1, rfl, hg1, hg2, ho, hb1⟩
        have HO := Lib.hid ho
        have hcs := Lib.hid ho.1
        clear ho
        haveI : LtSize g W1 := ⟨hg2⟩
        have hb2 : Below w.heap.size w W1 := ((up_below w x1)).trans (hb1.mono (up_size w x1))
        have hz2 := hb2.size
        have hg3 : w.heap.size ≤ g := Nat.le_trans (up_size w x1) hg1
        clear hb1 hg1
        go_wp2_with fail
        refine (Of_any _ _ _ (BtsL.one HO.out.bts)).mono ?_
        rintro e w1 ⟨rfl, rfl⟩
        rw [show [cs].flatten = cs from by simp]
        by_cases hin : 0 ≤ a ∧ a < cs.length
        · obtain ⟨k, rfl⟩ := Int.eq_ofNat_of_zero_le hin.1
          have hk : k < cs.length := by omega
          have hc0 := HO.out.cell k hk
          have hf0 := HO.out.free k
          have hlaw := Lib.hid (turn_law hcs.out hy hk)
          have hx : cs.getD k 0 < 256 := by
            rw [List.getD_eq_getElem?_getD, List.getElem?_eq_getElem hk]; exact hcs.out _ (List.getElem_mem hk)
          have hcl := HL.out
          clear hin
          go_wp2_with fail
          refine Calls.fresh (Turned_t (cof cs) y (cs.length - k - 1) _ _ _ (cof_lt cs) hy (by omega) (by omega) (by omega)) ?_
          intro x2
          rw [hlaw.out]
          have hz := xor_byte hx hy
          generalize cs.getD k 0 = c0 at *
          have hb8 := u8_xor_nat c0 y hx hy
          go_wp2_with fail
          refine (rOf_any _ (cs.set k (c0 ^^^ y)) _ (((HO.out.alloc _).up (x := x2)).store k (c0 ^^^ y) hz).bts).mono ?_
          rintro e w1 ⟨rfl, rfl⟩
          go_wp2_with (go_at_call 13; (first | with_reducible refine Calls.fold (works11 _) ?_ | with_reducible refine Calls.fresh (works11 _) ?_); intro x1)
          go_ret
          exact Gives.mk rfl (by (repeat (first | (with_reducible exact Below.refl _ _) | (with_reducible assumption) | (with_reducible refine Below.alloc ?_ (by (repeat (first | (with_reducible exact Nat.le_refl _) | (with_reducible assumption) | (with_reducible refine le_up ?_) | (with_reducible refine le_alloc ?_) | (with_reducible refine le_setCell ?_) | (with_reducible refine le_drew ?_) | (with_reducible refine le_drewN ?_) | omega))) _) | (with_reducible refine Below.drew ?_) | (with_reducible refine Below.drewN ?_ _) | (with_reducible refine Below.setCell ?_ (by (repeat (first | (with_reducible exact Nat.le_refl _) | (with_reducible assumption) | (with_reducible refine le_up ?_) | (with_reducible refine le_alloc ?_) | (with_reducible refine le_setCell ?_) | (with_reducible refine le_drew ?_) | (with_reducible refine le_drewN ?_) | omega))) _) | (with_reducible refine Below.up ?_ (by (repeat (first | (with_reducible exact Nat.le_refl _) | (with_reducible assumption) | (with_reducible refine le_up ?_) | (with_reducible refine le_alloc ?_) | (with_reducible refine le_setCell ?_) | (with_reducible refine le_drew ?_) | (with_reducible refine le_drewN ?_) | omega)))))))
        · have hout : a < 0 ∨ (cs.length : Int) ≤ a := by omega
          have hcl := HL.out
          go_wp2_with fail
          refine (Turned_f _ _ _ _ _ (by omega)).mono ?_
          rintro e w1 ⟨rfl, rfl⟩
          clear hin
          rcases hout with hout | hout
          · go_wp2_with fail
            go_ret
            exact Gives.mk rfl (by (repeat (first | (with_reducible exact Below.refl _ _) | (with_reducible assumption) | (with_reducible refine Below.alloc ?_ (by (repeat (first | (with_reducible exact Nat.le_refl _) | (with_reducible assumption) | (with_reducible refine le_up ?_) | (with_reducible refine le_alloc ?_) | (with_reducible refine le_setCell ?_) | (with_reducible refine le_drew ?_) | (with_reducible refine le_drewN ?_) | omega))) _) | (with_reducible refine Below.drew ?_) | (with_reducible refine Below.drewN ?_ _) | (with_reducible refine Below.setCell ?_ (by (repeat (first | (with_reducible exact Nat.le_refl _) | (with_reducible assumption) | (with_reducible refine le_up ?_) | (with_reducible refine le_alloc ?_) | (with_reducible refine le_setCell ?_) | (with_reducible refine le_drew ?_) | (with_reducible refine le_drewN ?_) | omega))) _) | (with_reducible refine Below.up ?_ (by (repeat (first | (with_reducible exact Nat.le_refl _) | (with_reducible assumption) | (with_reducible refine le_up ?_) | (with_reducible refine le_alloc ?_) | (with_reducible refine le_setCell ?_) | (with_reducible refine le_drew ?_) | (with_reducible refine le_drewN ?_) | omega)))))))
          · by_cases ha0 : a < 0
            · go_wp2_with fail
              go_ret
              exact Gives.mk rfl (by (repeat (first | (with_reducible exact Below.refl _ _) | (with_reducible assumption) | (with_reducible refine Below.alloc ?_ (by (repeat (first | (with_reducible exact Nat.le_refl _) | (with_reducible assumption) | (with_reducible refine le_up ?_) | (with_reducible refine le_alloc ?_) | (with_reducible refine le_setCell ?_) | (with_reducible refine le_drew ?_) | (with_reducible refine le_drewN ?_) | omega))) _) | (with_reducible refine Below.drew ?_) | (with_reducible refine Below.drewN ?_ _) | (with_reducible refine Below.setCell ?_ (by (repeat (first | (with_reducible exact Nat.le_refl _) | (with_reducible assumption) | (with_reducible refine le_up ?_) | (with_reducible refine le_alloc ?_) | (with_reducible refine le_setCell ?_) | (with_reducible refine le_drew ?_) | (with_reducible refine le_drewN ?_) | omega))) _) | (with_reducible refine Below.up ?_ (by (repeat (first | (with_reducible exact Nat.le_refl _) | (with_reducible assumption) | (with_reducible refine le_up ?_) | (with_reducible refine le_alloc ?_) | (with_reducible refine le_setCell ?_) | (with_reducible refine le_drew ?_) | (with_reducible refine le_drewN ?_) | omega)))))))
            · go_wp2_with fail
              all_goals
                go_ret
                exact Gives.mk rfl (by (repeat (first | (with_reducible exact Below.refl _ _) | (with_reducible assumption) | (with_reducible refine Below.alloc ?_ (by (repeat (first | (with_reducible exact Nat.le_refl _) | (with_reducible assumption) | (with_reducible refine le_up ?_) | (with_reducible refine le_alloc ?_) | (with_reducible refine le_setCell ?_) | (with_reducible refine le_drew ?_) | (with_reducible refine le_drewN ?_) | omega))) _) | (with_reducible refine Below.drew ?_) | (with_reducible refine Below.drewN ?_ _) | (with_reducible refine Below.setCell ?_ (by (repeat (first | (with_reducible exact Nat.le_refl _) | (with_reducible assumption) | (with_reducible refine le_up ?_) | (with_reducible refine le_alloc ?_) | (with_reducible refine le_setCell ?_) | (with_reducible refine le_drew ?_) | (with_reducible refine le_drewN ?_) | omega))) _) | (with_reducible refine Below.up ?_ (by (repeat (first | (with_reducible exact Nat.le_refl _) | (with_reducible assumption) | (with_reducible refine le_up ?_) | (with_reducible refine le_alloc ?_) | (with_reducible refine le_setCell ?_) | (with_reducible refine le_drew ?_) | (with_reducible refine le_drewN ?_) | omega)))))))
end Go.Proofs.Ytbfloidogdjccaa
