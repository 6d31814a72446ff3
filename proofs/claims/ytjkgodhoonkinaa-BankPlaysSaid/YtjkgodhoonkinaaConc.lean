/-
  The walks over slices.Grow (of nil), slices.Concat (of two) and crc.Put.
-/
import Derived.Test.YtjkgodhoonkinaaPutX
import Derived.Lib.AppendZeros
namespace Go.Proofs.Ytjkgodhoonkinaa
open Go.RowKit

def GivesE (w : World) (e : Ending) (w' : World) : Prop := ∃ cap, e = .returned (.slice (some ⟨w.heap.size, 0, none⟩) 0 cap) ∧ OwnB w' w.heap.size (.slice (some ⟨w.heap.size, 0, none⟩) 0 cap) [] ∧ Below w.heap.size w w' ∧ w.heap.size < w'.heap.size
set_option maxRecDepth 100000 in
theorem Grow_new (n : Nat) (w : World) (h1 : 0 < n) (h2 : n ≤ 10000000) :
    Calls Try.prog 87 #[.slice none 0 0, .int .i64 (n : Int)] w (GivesE w) := by
  obtain ⟨i0, hi, hz0, hz1, hz2⟩ := info_parts info_u8
  have happ := Lib.run_append_nil_zeros (P := Try.prog) w 22 3 22 5 i0 (.int .u8 0) .i64 .i64 Try.underlying22 Try.underlying3 hi hz0 n h1 (by omega) (by omega) (by rw [hz2]; omega)
  have hge := grownCap_ge w n 0 5
  have hle := grownCap_le_maxLen w n 0 5 (by unfold maxLen; omega)
  generalize grownCap w n 0 5 = cap at *
  have HA := Lib.hid happ
  have HLE := Lib.hid hle
  have hcap : cap ≤ 9223372036854775807 := by unfold maxLen at hle; exact hle
  clear happ hz0 hz1 hz2 hi hle
  go_enter Try.func87, Try.ntmps87
  go_wp2_with (at_builtin; refine Lib.wpList_append_run _ rfl _ _ _ _ rfl _ _ rfl rfl _ _ HA.out ?_)
  go_ret
  exact ⟨cap, rfl, ⟨(fun _ h => by cases h), World.ownsRow_made w _ cap (Nat.le_refl _) HLE.out (by simp [size_zeroCells]; omega)⟩, by (repeat (first | (with_reducible exact Below.refl _ _) | (with_reducible assumption) | (with_reducible refine Below.alloc ?_ (by (repeat (first | (with_reducible exact Nat.le_refl _) | (with_reducible assumption) | (with_reducible refine le_up ?_) | (with_reducible refine le_alloc ?_) | (with_reducible refine le_setCell ?_) | (with_reducible refine le_drew ?_) | (with_reducible refine le_drewN ?_) | omega))) _) | (with_reducible refine Below.drew ?_) | (with_reducible refine Below.drewN ?_ _) | (with_reducible refine Below.setCell ?_ (by (repeat (first | (with_reducible exact Nat.le_refl _) | (with_reducible assumption) | (with_reducible refine le_up ?_) | (with_reducible refine le_alloc ?_) | (with_reducible refine le_setCell ?_) | (with_reducible refine le_drew ?_) | (with_reducible refine le_drewN ?_) | omega))) _) | (with_reducible refine Below.up ?_ (by (repeat (first | (with_reducible exact Nat.le_refl _) | (with_reducible assumption) | (with_reducible refine le_up ?_) | (with_reducible refine le_alloc ?_) | (with_reducible refine le_setCell ?_) | (with_reducible refine le_drew ?_) | (with_reducible refine le_drewN ?_) | omega)))))), by show w.heap.size < (w.alloc _).heap.size; simp⟩

set_option maxRecDepth 100000 in
set_option maxHeartbeats 800000 in
theorem Concat_two (v : Value) (a b : List Nat) (w : World) (hv : BtsL w v [a, b]) (h1 : 0 < a.length + b.length) (h2 : a.length + b.length ≤ 2000000) :
    Calls Try.prog 65 #[v] w (GivesB w (a ++ b)) := by
  obtain ⟨_, hx⟩ | ⟨_, _, _, hx⟩ | ⟨g, off, cap, rfl, hlc, hcap, hgs, hcell⟩ := hv
  · cases hx
  · cases hx
  obtain ⟨u0, c0, B0⟩ := hcell 0 (by simp)
  obtain ⟨u1, c1, B1⟩ := hcell 1 (by simp)
  obtain ⟨x0, n0, k0, rfl⟩ := B0.slice
  obtain ⟨x1, n1, k1, rfl⟩ := B1.slice
  obtain rfl := B0.len
  obtain rfl := B1.len
  simp only [List.getD_cons_zero, List.getD_cons_succ] at c0 c1 B0 B1
  have HB0 := Lib.hid B0
  have HB1 := Lib.hid B1
  clear hcell B0 B1
  rw [Nat.add_zero] at c0
  go_enter Try.func65, Try.ntmps65
  go_wp2_with fail
  refine wp_loop_rounds 3 ?_
  rw [rounds_succ]
  go_wp2_with fail
  rw [rounds_succ]
  go_wp2_with fail
  rw [rounds_succ]
  go_wp2_with fail
  have hgr := Grow_new (a.length + b.length) w h1 (by omega)
  rw [Int.natCast_add] at hgr
  refine hgr.mono ?_
  rintro e w1 ⟨cp, rfl, ho, hb, hlt⟩
  have HO := Lib.hid ho
  have HB := Lib.hid hb
  have c0' : w1.cell? ⟨g, off, none⟩ = some (.slice x0 a.length k0) := by rw [hb.cell (p := ⟨g, _, none⟩) hgs]; exact c0
  have c1' : w1.cell? ⟨g, off + 1, none⟩ = some (.slice x1 b.length k1) := by rw [hb.cell (p := ⟨g, _, none⟩) hgs]; exact c1
  have HL0 := Lib.hid (show ([] : List Nat).length + a.length ≤ 140737488355328 by simp; omega)
  have HL1 := Lib.hid (show ([] ++ a).length + b.length ≤ 140737488355328 by simp; omega)
  clear ho hb hgr c0 c1
  go_wp2_with fail
  refine wp_loop_rounds 3 ?_
  rw [rounds_succ]
  go_wp2_with (at_builtin; refine Hid.out (?_ : Hid _))
  refine Lib.hid ?_
  refine wpList_append_bts rfl _ _ rfl w.heap.size _ [] rfl HO.out _ a rfl (HB0.out.below HB.out) HL0.out HB.out.size (fun v2 w2 ho2 hg2 hne2 => ?_)
  have hb2 : Below w.heap.size w w2 := HB.out.trans (Below.grownBy hg2 HB.out.size (fun k hk => HO.out.own k hk))
  have HO2 := Lib.hid ho2
  have HB2 := Lib.hid hb2
  have HN2 := Lib.hid hne2
  have d1 : w2.cell? ⟨g, off + 1, none⟩ = some (.slice x1 b.length k1) := by rw [hb2.cell (p := ⟨g, _, none⟩) hgs, ← HB.out.cell (p := ⟨g, _, none⟩) hgs]; exact c1'
  clear ho2 hg2 hne2 hb2 c0' c1'
  go_wp2_with fail
  rw [rounds_succ]
  go_wp2_with (at_builtin; refine Hid.out (?_ : Hid _))
  refine Lib.hid ?_
  refine wpList_append_bts rfl _ _ rfl w.heap.size _ ([] ++ a) rfl HO2.out _ b rfl (HB1.out.below HB2.out) HL1.out HB2.out.size (fun v3 w3 ho3 hg3 hne3 => ?_)
  have hb3 : Below w.heap.size w w3 := HB2.out.trans (Below.grownBy hg3 HB2.out.size (fun k hk => HO2.out.own k hk))
  have HO3 := Lib.hid ho3
  have HB3 := Lib.hid hb3
  have HN3 := Lib.hid hne3
  clear ho3 hg3 hne3 hb3 d1
  go_wp2_with fail
  rw [rounds_succ]
  go_wp2_with fail
  go_ret
  exact GivesB.mk (by simpa using HO3.out) (HN3.out (HN2.out (fun h => by cases (show Value.slice (some ⟨w.heap.size, 0, none⟩) 0 cp = Value.slice none 0 0 from h)))) HB3.out
end Go.Proofs.Ytjkgodhoonkinaa
