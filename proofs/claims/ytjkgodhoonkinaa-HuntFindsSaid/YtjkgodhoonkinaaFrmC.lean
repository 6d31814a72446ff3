/-
  The walk over slices.Concat, of any slices of bytes.
-/
import Derived.Test.YtjkgodhoonkinaaFrmW
namespace Go.Proofs.Ytjkgodhoonkinaa
open Go.RowKit
set_option linter.unusedVariables false

theorem Grow_zero (w : World) : Calls Try.prog 87 #[.slice none 0 0, .int .i64 0] w (Tells w (.slice none 0 0)) := by
  go_enter Try.func87, Try.ntmps87
  go_wp2_with fail
  go_ret
  exact Tells.mk rfl
/-- A slice of the call's own that holds these bytes; nil only if there are none. -/
def GivesV (w : World) (bs : List Nat) (e : Ending) (w' : World) : Prop := ∃ v, e = .returned v ∧ OwnB w' w.heap.size v bs ∧ Below w.heap.size w w' ∧ (0 < bs.length → v ≠ .slice none 0 0)
theorem GivesV.toB {w w' : World} {bs : List Nat} {e : Ending} (h : GivesV w bs e w') (hl : 0 < bs.length) : GivesB w bs e w' := by
  obtain ⟨v, rfl, h1, h2, h3⟩ := h
  exact GivesB.mk h1 (h3 hl) h2
theorem Grow_any (n : Nat) (w : World) (h2 : n ≤ 10000000) :
    Calls Try.prog 87 #[.slice none 0 0, .int .i64 (n : Int)] w (fun e w' => ∃ v, e = .returned v ∧ OwnB w' w.heap.size v [] ∧ Below w.heap.size w w' ∧ (0 < n → v ≠ .slice none 0 0)) := by
  by_cases h : 0 < n
  · refine (Grow_new n w h h2).mono ?_
    rintro e w' ⟨cap, rfl, h1, h2, _⟩
    exact ⟨_, rfl, h1, h2, fun _ => by simp⟩
  · obtain rfl : n = 0 := by omega
    refine (Grow_zero w).mono ?_
    rintro e w' ⟨rfl, rfl⟩
    exact ⟨_, rfl, ⟨(fun _ h => by cases h), by simp [byteVs], .inl ⟨rfl, rfl⟩⟩, Below.refl _ _, fun h => by omega⟩
def ConcAt (w : World) (L : Nat) (ls : List (List Nat)) (k : Nat) (v : Value) (wr : World) : Prop :=
  k ≤ L ∧ OwnB wr w.heap.size v (ls.take k).flatten ∧ Below w.heap.size w wr ∧ (0 < ls.flatten.length → v ≠ .slice none 0 0)
set_option maxRecDepth 100000 in
set_option maxHeartbeats 800000 in
theorem Concat_some (g off cap : Nat) (ls : List (List Nat)) (w : World) (hg : g < w.heap.size) (hc : ls.length ≤ cap) (hc2 : cap ≤ 9223372036854775807)
    (hcell : ∀ i, i < ls.length → ∃ u, w.cell? ⟨g, off + i, none⟩ = some u ∧ Bts w u (ls.getD i [])) (hl : ls.flatten.length ≤ 2000000) :
    Calls Try.prog 65 #[.slice (some ⟨g, off, none⟩) ls.length cap] w (GivesV w ls.flatten) := by
  have HC := Lib.hid hcell
  clear hcell
  have hpre : ∀ k, (ls.take k).flatten.length ≤ ls.flatten.length := fun k => by
    conv => rhs; rw [← List.take_append_drop k ls, List.flatten_append, List.length_append]
    omega
  have HP := Lib.hid hpre
  have HL := Lib.hid hl
  clear hpre hl
  go_enter Try.func65, Try.ntmps65
  go_wp2_with fail
  go_loop [3, 11] (fun v3 v11 => ∃ k : Nat, k ≤ ls.length ∧ v11 = .int .i64 k ∧ v3 = .int .i64 (((ls.take k).flatten.length : Nat) : Int)) (fun _ v11 => ls.length - (intOf v11).toNat)
  case atStart => exact ⟨0, by omega, rfl, by simp⟩
  case round =>
    obtain ⟨k, hk, rfl, rfl⟩ := hrel
    by_cases hlt : k < ls.length
    · obtain ⟨u, hu, hb⟩ := HC.out k hlt
      obtain ⟨ua, un, uc, rfl⟩ := hb.slice
      obtain rfl := hb.len
      have h1 := HP.out k
      have h2 := HP.out (k + 1)
      have h3 := HL.out
      have hs := takeL_succ ls k hlt
      rw [hs, List.length_append] at h2
      have HS := Lib.hid (show (((ls.take k).flatten.length : Nat) : Int) + ((ls.getD k []).length : Int) = (((ls.take (k + 1)).flatten.length : Nat) : Int) by rw [hs, List.length_append]; simp)
      clear hs hb
      generalize hA : (ls.take k).flatten.length = A at *
      generalize hB : (ls.getD k []).length = B at *
      clear hA hB
      go_wp2
      exact ⟨⟨k + 1, by omega, by go_num, by rw [HS.out]⟩, by simp [intOf]; omega⟩
    · obtain rfl : k = ls.length := by omega
      rw [List.take_length]
      obtain ⟨T, hT⟩ : ∃ T, ls.flatten.length = T := ⟨_, rfl⟩
      have HT := Lib.hid hT
      have hT2 : T ≤ 2000000 := by have := HL.out; omega
      rw [hT]
      clear hT
      go_wp2_with fail
      refine (Grow_any T _ (by omega)).mono ?_
      rintro e w1 ⟨v1, rfl, ho, hb, hne⟩
      rw [← HT.out] at hne
      have HST := Lib.hid (show ConcAt w ls.length ls 0 v1 w1 from ⟨by omega, by simpa using ho, hb, hne⟩)
      clear ho hb hne
      go_wp2_with fail
      go_loopw [6, 27] (fun v6 v27 wr => ∃ k : Nat, v27 = .int .i64 k ∧ ConcAt w ls.length ls k v6 wr) (fun _ v27 _ => ls.length - (intOf v27).toNat)
      case atStart => exact ⟨0, rfl, HST.out⟩
      case round =>
        clear HST
        obtain ⟨k, rfl, hk, ho, hb, hne⟩ := hrel
        by_cases hlt : k < ls.length
        · obtain ⟨u, hu, hbt⟩ := HC.out k hlt
          have hu' : wr.cell? ⟨g, off + k, none⟩ = some u := by rw [hb.cell (p := ⟨g, _, none⟩) hg]; exact hu
          have HO := Lib.hid ho
          have HB := Lib.hid hb
          have HU := Lib.hid (hbt.below hb)
          have HN := Lib.hid hne
          have hlen := HP.out (k + 1)
          rw [takeL_succ ls k hlt, List.length_append] at hlen
          have HLL := Lib.hid (show (ls.take k).flatten.length + (ls.getD k []).length ≤ 140737488355328 by have := HL.out; omega)
          clear ho hb hbt hne hu hlen
          go_wp2_with (at_builtin; refine wpList_append_bts rfl _ _ rfl w.heap.size _ (ls.take k).flatten rfl HO.out _ (ls.getD k []) rfl HU.out HLL.out HB.out.size (fun v2 w2 ho2 hg2 hne2 => ?_); have HO2 := Lib.hid ho2; have HG2 := Lib.hid hg2; have HN2 := Lib.hid hne2; clear ho2 hg2 hne2)
          exact ⟨⟨k + 1, by go_num, by omega, by rw [takeL_succ ls k hlt]; exact HO2.out, HB.out.trans (Below.grownBy HG2.out HB.out.size (fun k hk => HO.out.own k hk)), fun h => HN2.out (HN.out h)⟩, by simp [intOf]; omega⟩
        · obtain rfl : k = ls.length := by omega
          rw [List.take_length] at ho
          have HO := Lib.hid ho
          have HB := Lib.hid hb
          have HN := Lib.hid hne
          clear ho hb hne
          go_wp2_with fail
          go_ret
          exact ⟨_, rfl, HO.out, HB.out, HN.out⟩
end Go.Proofs.Ytjkgodhoonkinaa
