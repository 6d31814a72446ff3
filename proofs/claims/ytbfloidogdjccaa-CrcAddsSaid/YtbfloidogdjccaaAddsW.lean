/-
  The law CrcAdds, walked.
-/
import Derived.Test.YtbfloidogdjccaaAddsQ
import Derived.StillTailTactics
namespace Go.Proofs.Ytbfloidogdjccaa
open Go.RowKit

theorem BtsL.elem {w : World} {a : Option Addr} {n cap : Nat} {ls : List (List Nat)} (h : BtsL w (.slice a n cap) ls) : n = ls.length ∧ n ≤ 9223372036854775807 ∧ (n = 0 ∨ ∃ b off : Nat, a = some ⟨b, off, none⟩ ∧ b < w.heap.size ∧ ∀ k, k < n → ∃ u, w.cell? ⟨b, off + k, none⟩ = some u ∧ Bts w u (ls.getD k [])) := by
  obtain ⟨h, rfl⟩ | ⟨_, _, h, rfl⟩ | ⟨b, off, c, h, h1, h2, h3, h4⟩ := h
  · cases h; exact ⟨rfl, by omega, .inl rfl⟩
  · cases h; exact ⟨rfl, by omega, .inl rfl⟩
  · cases h; exact ⟨rfl, by omega, .inr ⟨b, off, rfl, h3, h4⟩⟩
theorem Bts.room {w : World} {a : Option Addr} {n cap : Nat} {bs : List Nat} (h : Bts w (.slice a n cap) bs) : n ≤ cap := by
  obtain ⟨_, ⟨hv, _⟩ | ⟨_, _, hv, _⟩ | ⟨_, _, _, hv, hl, _⟩⟩ := h
  · cases hv; exact Nat.le_refl _
  · cases hv; exact Nat.zero_le _
  · cases hv; exact hl
def AddsRel (w : World) (B : Nat) (v5 v6 v7 : Value) (wr : World) : Prop := ∃ us ps, us.length ≤ 8 ∧ v7 = .int .i64 us.length ∧ AddsAt wr B v5 v6 us ps ∧ Below B w wr
set_option maxRecDepth 100000 in
set_option maxHeartbeats 1600000 in
theorem CrcAdds_any (r : Nat) (a : Option Addr) (n cap : Nat) (ls : List (List Nat)) (w : World) (hr : r < 4294967296) (hv : BtsL w (.slice a n cap) ls) :
    Calls Try.prog 10 #[.int .u32 (r : Int), .slice a n cap] w (Gives w (.bool true)) := by
  have HE := Lib.hid hv.elem
  have hn := hv.elem.2.1
  clear hv
  go_enter Try.func10, Try.ntmps10
  go_wp2_with fail
  go_loopw [5, 6, 7] (fun v5 v6 v7 wr => AddsRel w w.heap.size v5 v6 v7 wr) (fun _ _ v7 _ => 8 - (intOf v7).toNat)
  case atStart =>
    have e5 : (w.alloc (.cells #[] 22)).ownsRow w.heap.size 22 1 (.slice (some ⟨w.heap.size, 0, none⟩) 0 0) 0 [] := World.ownsRow_lit (base := w.heap.size) (e := 22) (size := 1) w #[] 0 (Nat.le_refl _) (by decide) rfl
    have e6 := OwnB.empty (w.alloc (.cells #[] 22))
    rw [World.size_alloc] at e6
    exact ⟨[], [], by simp, rfl, ⟨e5.alloc _, e6.mono (by omega), by simp, rfl, fun i hi => by simp at hi, by simp⟩, by (repeat (first | (with_reducible exact Below.refl _ _) | (with_reducible assumption) | (with_reducible refine Below.alloc ?_ (by (repeat (first | (with_reducible exact Nat.le_refl _) | (with_reducible assumption) | (with_reducible refine le_up ?_) | (with_reducible refine le_alloc ?_) | (with_reducible refine le_setCell ?_) | (with_reducible refine le_drew ?_) | (with_reducible refine le_drewN ?_) | omega))) _) | (with_reducible refine Below.drew ?_) | (with_reducible refine Below.drewN ?_ _) | (with_reducible refine Below.setCell ?_ (by (repeat (first | (with_reducible exact Nat.le_refl _) | (with_reducible assumption) | (with_reducible refine le_up ?_) | (with_reducible refine le_alloc ?_) | (with_reducible refine le_setCell ?_) | (with_reducible refine le_drew ?_) | (with_reducible refine le_drewN ?_) | omega))) _) | (with_reducible refine Below.up ?_ (by (repeat (first | (with_reducible exact Nat.le_refl _) | (with_reducible assumption) | (with_reducible refine le_up ?_) | (with_reducible refine le_alloc ?_) | (with_reducible refine le_setCell ?_) | (with_reducible refine le_drew ?_) | (with_reducible refine le_drewN ?_) | omega))))))⟩
  case round =>
    obtain ⟨us, ps, hk, rfl, ha, hbel⟩ := hrel
    have HA := Lib.hid ha
    clear ha
    by_cases hkn : us.length < n
    · by_cases hk8 : us.length < 8
      · obtain ⟨hnl, _, h0 | ⟨b, off, rfl, hb, hcell⟩⟩ := HE.out
        · omega
        obtain ⟨u, hu, hbu⟩ := hcell us.length hkn
        obtain ⟨ua, un, uc, rfl⟩ := hbu.slice
        have hroom := hbu.room
        have hu' : wr.cell? ⟨b, off + us.length, none⟩ = some (.slice ua un uc) := by rw [hbel.cell (p := ⟨b, _, none⟩) hb]; exact hu
        have HP := Lib.hid (hbu.below (hbel.mono (Nat.le_refl _)) |>.cutV 300)
        have HBL := Lib.hid hbel
        have hlt : LtSize b wr := ⟨Nat.lt_of_lt_of_le hb hbel.size⟩
        have HPL := Lib.hid (show ((ls.getD us.length []).take 300).length ≤ 300 by rw [List.length_take]; omega)
        have hbs := hbel.size
        clear hu hbu hcell hbel HE hnl
        generalize (ls.getD us.length []).take 300 = p at *
        generalize hkk : us.length = k at *
        by_cases h300 : un ≤ 300
        · have i0 : (if (300 : Int) < (un : Int) then (300 : Int) else (un : Int)) = un := if_neg (by omega)
          have i1 : (0 : Int) ≤ (un : Int) := by omega
          have i2 : (un : Int) ≤ (uc : Int) := by omega
          rw [show cutV 300 (.slice ua un uc) = .slice ua un uc from by simp [cutV]; omega] at HP
          go_wp2_with fail
          (refine wp_region_tail 11 (by kernel_rfl) (by kernel_rfl) ?_; simp only [List.take_succ_cons, List.take_zero, List.drop_succ_cons, List.drop_zero]; still_step; still_step; still_step; still_step; still_step; still_step; still_step; still_step; still_step; still_step; still_step; (with_reducible refine wpStill_nil ?_))
          go_wp2_with fail
          refine (Bytes_any _ p _ (HP.out.below ((Below.refl _ _).drew)) (by have := HPL.out; omega)).mono ?_
          rintro e w1 ⟨g, c1, rfl, hg1, hg2, ho, hb1⟩
          have hb1' : Below wr.heap.size wr w1 := ((Below.refl _ wr).drew).trans hb1
          have hgw : wr.heap.size ≤ g := hg1
          have HO := Lib.hid ho
          have HB1 := Lib.hid hb1'
          clear ho hb1 hb1' hg1
          go_wp2_with (at_builtin; refine Hid.out (?_ : Hid _))
          refine Lib.hid ?_
          refine wpList_append_one rfl _ _ rfl w.heap.size _ us rfl ((HA.out.own5.kept (grown_of_below none HB1.out) (Classical.em _)).alloc _) _ (some ⟨g, 0, none⟩) p.length c1 rfl (by simp) (by omega) (by have := HB1.out.size; simp; omega) (fun v5 w3 h3 g3 => ?_)
          have H3 := Lib.hid h3
          have G3 := Lib.hid g3
          have own6a : OwnB (w1.alloc (.cells #[.slice (some ⟨g, 0, none⟩) p.length c1] 22)) w.heap.size u6 ps.flatten := (HA.out.own6.below HB1.out (Nat.le_refl _)).alloc _
          have own5a := (HA.out.own5.kept (grown_of_below none HB1.out) (Classical.em _)).alloc (.cells #[.slice (some ⟨g, 0, none⟩) p.length c1] 22)
          have O6 := Lib.hid (own6a.kept g3 (rows_apart own6a.2 own5a (by decide)))
          have HPa := (((HO.out.mono (Nat.le_refl _)).alloc (.cells #[.slice (some ⟨g, 0, none⟩) p.length c1] 22)))
          have OP := Lib.hid (HPa.kept g3 (rows_apart HPa.2 own5a (by decide)))
          have hz3 := g3.size
          clear h3 g3 own6a own5a HPa
          go_wp2_with (at_builtin; refine Hid.out (?_ : Hid _))
          refine Lib.hid ?_
          refine wpList_append_bts_at rfl _ _ rfl w.heap.size _ ps.flatten rfl O6.out _ p rfl OP.out.bts (by have := HA.out.short; have := HA.out.len; have := HPL.out; omega) (by have := HB1.out.size; simp at hz3; omega) (fun v6 w4 h4 g4 n4 k4 => ?_)
          have HST := Lib.hid (HA.out.step (by omega) HPL.out HO.out (by simp [Value.ownBlock]) HB1.out H3.out G3.out h4 g4 (n4 HA.out.nn6) k4)
          have HBE := Lib.hid (((HBL.out.trans (HB1.out.mono (by omega))).alloc (by have := HB1.out.size; omega) _).trans (Below.grownBy G3.out (by have := HB1.out.size; simp; omega) (fun k hk => (HA.out.own5.lt k hk).1)) |>.trans (Below.grownBy g4 (by have := HB1.out.size; simp at hz3; omega) (fun k hk => HA.out.own6.own k hk)))
          clear h4 g4 n4 k4
          go_wp2_with fail
          exact ⟨⟨us ++ [.slice (some ⟨g, 0, none⟩) p.length c1], ps ++ [p], by simp; omega, by rw [List.length_append, hkk]; simp, HST.out, HBE.out⟩, by simp [intOf]; omega⟩
        · have i0 : (if (300 : Int) < (un : Int) then (300 : Int) else (un : Int)) = 300 := if_pos (by omega)
          have i2 : (300 : Int) ≤ (uc : Int) := by omega
          rw [show cutV 300 (.slice ua un uc) = .slice ua 300 uc from by simp [cutV]; omega] at HP
          go_wp2_with fail
          (refine wp_region_tail 11 (by kernel_rfl) (by kernel_rfl) ?_; simp only [List.take_succ_cons, List.take_zero, List.drop_succ_cons, List.drop_zero]; still_step; still_step; still_step; still_step; still_step; still_step; still_step; still_step; still_step; still_step; still_step; (with_reducible refine wpStill_nil ?_))
          go_wp2_with fail
          refine (Bytes_any _ p _ (HP.out.below ((Below.refl _ _).drew)) (by have := HPL.out; omega)).mono ?_
          rintro e w1 ⟨g, c1, rfl, hg1, hg2, ho, hb1⟩
          have hb1' : Below wr.heap.size wr w1 := ((Below.refl _ wr).drew).trans hb1
          have hgw : wr.heap.size ≤ g := hg1
          have HO := Lib.hid ho
          have HB1 := Lib.hid hb1'
          clear ho hb1 hb1' hg1
          go_wp2_with (at_builtin; refine Hid.out (?_ : Hid _))
          refine Lib.hid ?_
          refine wpList_append_one rfl _ _ rfl w.heap.size _ us rfl ((HA.out.own5.kept (grown_of_below none HB1.out) (Classical.em _)).alloc _) _ (some ⟨g, 0, none⟩) p.length c1 rfl (by simp) (by omega) (by have := HB1.out.size; simp; omega) (fun v5 w3 h3 g3 => ?_)
          have H3 := Lib.hid h3
          have G3 := Lib.hid g3
          have own6a : OwnB (w1.alloc (.cells #[.slice (some ⟨g, 0, none⟩) p.length c1] 22)) w.heap.size u6 ps.flatten := (HA.out.own6.below HB1.out (Nat.le_refl _)).alloc _
          have own5a := (HA.out.own5.kept (grown_of_below none HB1.out) (Classical.em _)).alloc (.cells #[.slice (some ⟨g, 0, none⟩) p.length c1] 22)
          have O6 := Lib.hid (own6a.kept g3 (rows_apart own6a.2 own5a (by decide)))
          have HPa := (((HO.out.mono (Nat.le_refl _)).alloc (.cells #[.slice (some ⟨g, 0, none⟩) p.length c1] 22)))
          have OP := Lib.hid (HPa.kept g3 (rows_apart HPa.2 own5a (by decide)))
          have hz3 := g3.size
          clear h3 g3 own6a own5a HPa
          go_wp2_with (at_builtin; refine Hid.out (?_ : Hid _))
          refine Lib.hid ?_
          refine wpList_append_bts_at rfl _ _ rfl w.heap.size _ ps.flatten rfl O6.out _ p rfl OP.out.bts (by have := HA.out.short; have := HA.out.len; have := HPL.out; omega) (by have := HB1.out.size; simp at hz3; omega) (fun v6 w4 h4 g4 n4 k4 => ?_)
          have HST := Lib.hid (HA.out.step (by omega) HPL.out HO.out (by simp [Value.ownBlock]) HB1.out H3.out G3.out h4 g4 (n4 HA.out.nn6) k4)
          have HBE := Lib.hid (((HBL.out.trans (HB1.out.mono (by omega))).alloc (by have := HB1.out.size; omega) _).trans (Below.grownBy G3.out (by have := HB1.out.size; simp; omega) (fun k hk => (HA.out.own5.lt k hk).1)) |>.trans (Below.grownBy g4 (by have := HB1.out.size; simp at hz3; omega) (fun k hk => HA.out.own6.own k hk)))
          clear h4 g4 n4 k4
          go_wp2_with fail
          exact ⟨⟨us ++ [.slice (some ⟨g, 0, none⟩) p.length c1], ps ++ [p], by simp; omega, by rw [List.length_append, hkk]; simp, HST.out, HBE.out⟩, by simp [intOf]; omega⟩
      ·
        have HL5 := Lib.hid HA.out.btsL
        have H6 := Lib.hid HA.out.own6.bts
        have hfl : ps.flatten.length ≤ 2400 := by have := HA.out.short; have := HA.out.len; omega
        have HBL := Lib.hid hbel
        clear hbel HE
        have HOF := Lib.hid (Of_any _ ps wr HL5.out)
        generalize ps.flatten = fl at *
        go_wp2_with (first | (go_at_call 41; with_reducible refine Calls.tells (Add_any r _ fl _ hr H6.out) ?_) | (go_at_call 42; with_reducible refine Calls.tells (rAdd_any r _ fl _ hr H6.out) ?_) | (go_at_call 15; with_reducible refine Calls.tells (HOF.out) ?_) | (go_at_call 19; with_reducible refine Calls.tells (rOf_any _ fl _ H6.out) ?_))
        have HB0 := Lib.hid (Below.refl wr.heap.size wr)
        refine (Bytes_any _ fl _ H6.out (by omega)).mono ?_
        rintro e w1 ⟨g1, c1, rfl, _, _, ho1, hb1⟩
        have HB1 := Lib.hid (HB0.out.trans (hb1.mono HB0.out.size))
        have HO1 := Lib.hid ho1.bts
        clear ho1 hb1
        go_wp2_with fail
        refine (Put_any _ fl _ HO1.out (by omega)).mono ?_
        rintro e w2 ⟨g2, c2, rfl, _, _, ho2, hb2⟩
        have HB2 := Lib.hid (HB1.out.trans (hb2.mono HB1.out.size))
        have HO2 := Lib.hid ho2.bts
        clear ho2 hb2
        go_wp2_with fail
        refine (rPut_any _ fl _ (H6.out.below HB2.out) (by omega)).mono ?_
        rintro e w3 ⟨g3, c3, rfl, _, _, ho3, hb3⟩
        have HB3 := Lib.hid (HB2.out.trans (hb3.mono HB2.out.size))
        have HO2' := Lib.hid (HO2.out.below hb3)
        have HO3 := Lib.hid ho3.bts
        clear ho3 hb3
        have hsame : sameB (putB fl) (putB fl) = true := by simp [sameB]
        go_wp2_with (go_at_call 43; with_reducible refine Calls.tells (SameBytes_any _ _ (putB fl) (putB fl) _ HO2'.out HO3.out) ?_)
        refine (Bytes_any _ fl _ (H6.out.below HB3.out) (by omega)).mono ?_
        rintro e w4 ⟨g4, c4, rfl, _, _, ho4, hb4⟩
        have HB4 := Lib.hid (HB3.out.trans (hb4.mono HB3.out.size))
        have HO4 := Lib.hid ho4.bts
        clear ho4 hb4
        go_wp2_with (first | (go_at_call 46; (first | with_reducible refine Calls.fold (Right_any _ fl _ HO4.out (by omega)) ?_ | with_reducible refine Calls.fresh (Right_any _ fl _ HO4.out (by omega)) ?_); intro x1) | (go_at_call 47; (first | with_reducible refine Calls.fold (rRight_any _ fl _ (H6.out.below HB4.out).up (by omega)) ?_ | with_reducible refine Calls.fresh (rRight_any _ fl _ (H6.out.below HB4.out).up (by omega)) ?_); intro x1))
        refine (rPut_any _ fl _ (H6.out.below HB4.out).up (by omega)).mono ?_
        rintro e w5 ⟨g5, c5, rfl, _, _, ho5, hb5⟩
        have HB5 := Lib.hid ((Below.up HB4.out HB4.out.size).trans (hb5.mono (le_up HB4.out.size)))
        have HO5 := Lib.hid ho5.bts
        have hrp := rightB_put fl
        have hpl : (putB fl).length ≤ 1000000 := by rw [putB_length]; omega
        clear ho5 hb5
        go_wp2_with (first | (go_at_call 46; (first | with_reducible refine Calls.fold (Right_any _ (putB fl) _ HO5.out hpl) ?_ | with_reducible refine Calls.fresh (Right_any _ (putB fl) _ HO5.out hpl) ?_); intro x1) | (go_at_call 13; (first | with_reducible refine Calls.fold (works11 _) ?_ | with_reducible refine Calls.fresh (works11 _) ?_); intro x1))
        go_ret
        have hwz : w.heap.size ≤ wr.heap.size := HBL.out.size
        exact Gives.mk rfl (Below.up (HBL.out.trans (HB5.out.mono hwz)) (Nat.le_trans hwz HB5.out.size))
    ·
      have HL5 := Lib.hid HA.out.btsL
      have H6 := Lib.hid HA.out.own6.bts
      have hfl : ps.flatten.length ≤ 2400 := by have := HA.out.short; have := HA.out.len; omega
      have HBL := Lib.hid hbel
      clear hbel HE
      have HOF := Lib.hid (Of_any _ ps wr HL5.out)
      generalize ps.flatten = fl at *
      go_wp2_with (first | (go_at_call 41; with_reducible refine Calls.tells (Add_any r _ fl _ hr H6.out) ?_) | (go_at_call 42; with_reducible refine Calls.tells (rAdd_any r _ fl _ hr H6.out) ?_) | (go_at_call 15; with_reducible refine Calls.tells (HOF.out) ?_) | (go_at_call 19; with_reducible refine Calls.tells (rOf_any _ fl _ H6.out) ?_))
      have HB0 := Lib.hid (Below.refl wr.heap.size wr)
      refine (Bytes_any _ fl _ H6.out (by omega)).mono ?_
      rintro e w1 ⟨g1, c1, rfl, _, _, ho1, hb1⟩
      have HB1 := Lib.hid (HB0.out.trans (hb1.mono HB0.out.size))
      have HO1 := Lib.hid ho1.bts
      clear ho1 hb1
      go_wp2_with fail
      refine (Put_any _ fl _ HO1.out (by omega)).mono ?_
      rintro e w2 ⟨g2, c2, rfl, _, _, ho2, hb2⟩
      have HB2 := Lib.hid (HB1.out.trans (hb2.mono HB1.out.size))
      have HO2 := Lib.hid ho2.bts
      clear ho2 hb2
      go_wp2_with fail
      refine (rPut_any _ fl _ (H6.out.below HB2.out) (by omega)).mono ?_
      rintro e w3 ⟨g3, c3, rfl, _, _, ho3, hb3⟩
      have HB3 := Lib.hid (HB2.out.trans (hb3.mono HB2.out.size))
      have HO2' := Lib.hid (HO2.out.below hb3)
      have HO3 := Lib.hid ho3.bts
      clear ho3 hb3
      have hsame : sameB (putB fl) (putB fl) = true := by simp [sameB]
      go_wp2_with (go_at_call 43; with_reducible refine Calls.tells (SameBytes_any _ _ (putB fl) (putB fl) _ HO2'.out HO3.out) ?_)
      refine (Bytes_any _ fl _ (H6.out.below HB3.out) (by omega)).mono ?_
      rintro e w4 ⟨g4, c4, rfl, _, _, ho4, hb4⟩
      have HB4 := Lib.hid (HB3.out.trans (hb4.mono HB3.out.size))
      have HO4 := Lib.hid ho4.bts
      clear ho4 hb4
      go_wp2_with (first | (go_at_call 46; (first | with_reducible refine Calls.fold (Right_any _ fl _ HO4.out (by omega)) ?_ | with_reducible refine Calls.fresh (Right_any _ fl _ HO4.out (by omega)) ?_); intro x1) | (go_at_call 47; (first | with_reducible refine Calls.fold (rRight_any _ fl _ (H6.out.below HB4.out).up (by omega)) ?_ | with_reducible refine Calls.fresh (rRight_any _ fl _ (H6.out.below HB4.out).up (by omega)) ?_); intro x1))
      refine (rPut_any _ fl _ (H6.out.below HB4.out).up (by omega)).mono ?_
      rintro e w5 ⟨g5, c5, rfl, _, _, ho5, hb5⟩
      have HB5 := Lib.hid ((Below.up HB4.out HB4.out.size).trans (hb5.mono (le_up HB4.out.size)))
      have HO5 := Lib.hid ho5.bts
      have hrp := rightB_put fl
      have hpl : (putB fl).length ≤ 1000000 := by rw [putB_length]; omega
      clear ho5 hb5
      go_wp2_with (first | (go_at_call 46; (first | with_reducible refine Calls.fold (Right_any _ (putB fl) _ HO5.out hpl) ?_ | with_reducible refine Calls.fresh (Right_any _ (putB fl) _ HO5.out hpl) ?_); intro x1) | (go_at_call 13; (first | with_reducible refine Calls.fold (works11 _) ?_ | with_reducible refine Calls.fresh (works11 _) ?_); intro x1))
      go_ret
      have hwz : w.heap.size ≤ wr.heap.size := HBL.out.size
      exact Gives.mk rfl (Below.up (HBL.out.trans (HB5.out.mono hwz)) (Nat.le_trans hwz HB5.out.size))
end Go.Proofs.Ytbfloidogdjccaa
