/-
  The walks over the crc layer, continued: the chapter's example; Turned, and the reference's.
-/
import Derived.Test.YtbfloidogdjccaaCrcW
import Derived.Deep.OwnRows
import Derived.Lib.SlBytesConst
namespace Go.Proofs.Ytbfloidogdjccaa
open Go.RowKit Go.Deep

theorem works11_val : cof ([[49, 50, 51, 52, 53], [54, 55, 56, 57]] : List (List Nat)).flatten = 3421780262 := by decide +kernel
theorem works11 (w : World) : Calls Try.prog 13 #[] w (Gives w (.bool true)) := by
  have kc1 := fun (C : Array Value) (n c : Nat) => Lib.run_convert_bytes_const (P := Try.prog) w 22 5 C n c Try.underlying22 Try.underlying5
  have kc2 := fun (O : Obj) (C : Array Value) (n c : Nat) => Lib.run_convert_bytes_const (P := Try.prog) (w.alloc O) 22 5 C n c Try.underlying22 Try.underlying5
  simp only [World.size_alloc] at kc2
  go_enter Try.func13, Try.ntmps13
  go_wp2_with fail
  refine (Of_any _ _ _ (BtsL.two (Bts.alloc (Bts.lit (bs := [49, 50, 51, 52, 53]) (by simp [byteVs]) (by decide) (by simp) _ (by simp) _)) (Bts.lit (bs := [54, 55, 56, 57]) (by simp [byteVs]) (by decide) (by simp) _ (by simp) _))).mono ?_
  rintro e w1 ⟨rfl, rfl⟩
  rw [works11_val]
  go_wp2_with fail
  go_ret
  exact Gives.mk rfl (by (repeat (first | (with_reducible exact Below.refl _ _) | (with_reducible assumption) | (with_reducible refine Below.alloc ?_ (by (repeat (first | (with_reducible exact Nat.le_refl _) | (with_reducible assumption) | (with_reducible refine le_up ?_) | (with_reducible refine le_alloc ?_) | (with_reducible refine le_setCell ?_) | (with_reducible refine le_drew ?_) | (with_reducible refine le_drewN ?_) | omega))) _) | (with_reducible refine Below.drew ?_) | (with_reducible refine Below.drewN ?_ _) | (with_reducible refine Below.setCell ?_ (by (repeat (first | (with_reducible exact Nat.le_refl _) | (with_reducible assumption) | (with_reducible refine le_up ?_) | (with_reducible refine le_alloc ?_) | (with_reducible refine le_setCell ?_) | (with_reducible refine le_drew ?_) | (with_reducible refine le_drewN ?_) | omega))) _) | (with_reducible refine Below.up ?_ (by (repeat (first | (with_reducible exact Nat.le_refl _) | (with_reducible assumption) | (with_reducible refine le_up ?_) | (with_reducible refine le_alloc ?_) | (with_reducible refine le_setCell ?_) | (with_reducible refine le_drew ?_) | (with_reducible refine le_drewN ?_) | omega)))))))

def turnB (y m : Nat) : List Nat := y :: List.replicate m 0
theorem turnB_lt {y m : Nat} (hy : y < 256) : ∀ x ∈ turnB y m, x < 256 := by
  intro x hx
  rcases List.mem_cons.1 hx with rfl | h
  · exact hy
  · have := List.eq_of_mem_replicate h; omega
theorem cadd_turn_succ (y m : Nat) : cadd 0 (turnB y (m + 1)) = cadd (cadd 0 (turnB y m)) [0] := by
  rw [← cadd_append]; unfold turnB; rw [List.replicate_succ', List.cons_append]
theorem cadd_zero_lt {r : Nat} (h : r < 4294967296) : cadd r [0] < 4294967296 := cadd_lt (by decide) r h

set_option maxHeartbeats 400000 in
theorem Turned_f (s n a y : Int) (w : World) (h : ¬ (0 ≤ a ∧ a < n ∧ n ≤ 65536)) :
    Calls Try.prog 17 #[.int .u32 s, .int .i64 n, .int .i64 a, .int .u8 y] w (Tells w (.tuple #[.int .u32 0, .bool false])) := by
  by_cases h1 : n < 0
  · go_enter Try.func17, Try.ntmps17
    go_wp2_with fail
    go_ret2
    exact Tells.mk rfl
  by_cases h2 : 65536 < n
  · go_enter Try.func17, Try.ntmps17
    go_wp2_with fail
    go_ret2
    exact Tells.mk rfl
  by_cases h3 : a < 0
  · go_enter Try.func17, Try.ntmps17
    go_wp2_with fail
    go_ret2
    exact Tells.mk rfl
  have h4 : n ≤ a := by omega
  clear h
  go_enter Try.func17, Try.ntmps17
  go_wp2_with fail
  go_ret2
  exact Tells.mk rfl
set_option maxHeartbeats 400000 in
theorem rTurned_f (s n a y : Int) (w : World) (h : ¬ (0 ≤ a ∧ a < n ∧ n ≤ 65536)) :
    Calls Try.prog 18 #[.int .u32 s, .int .i64 n, .int .i64 a, .int .u8 y] w (Tells w (.tuple #[.int .u32 0, .bool false])) := by
  by_cases h1 : n < 0
  · go_enter Try.func18, Try.ntmps18
    go_wp2_with fail
    go_ret2
    exact Tells.mk rfl
  by_cases h2 : 65536 < n
  · go_enter Try.func18, Try.ntmps18
    go_wp2_with fail
    go_ret2
    exact Tells.mk rfl
  by_cases h3 : a < 0
  · go_enter Try.func18, Try.ntmps18
    go_wp2_with fail
    go_ret2
    exact Tells.mk rfl
  have h4 : n ≤ a := by omega
  clear h
  go_enter Try.func18, Try.ntmps18
  go_wp2_with fail
  go_ret2
  exact Tells.mk rfl

set_option maxHeartbeats 400000 in
theorem Turned_t (s y m : Nat) (n a : Int) (w : World) (hs : s < 4294967296) (hy : y < 256) (h0 : 0 ≤ a) (h1 : n ≤ 65536) (hm : n - a = m + 1) :
    Calls Try.prog 17 #[.int .u32 (s : Int), .int .i64 n, .int .i64 a, .int .u8 (y : Int)] w (Gives w (.tuple #[.int .u32 ((s ^^^ cadd 0 (turnB y m) : Nat) : Int), .bool true])) := by
  have h2 : a < n := by omega
  have h3 : n - a - 1 ≤ m := by omega
  have h4 : m ≤ n - a - 1 := by omega
  clear hm
  go_enter Try.func17, Try.ntmps17
  go_wp2_with fail
  refine (Add_any 0 _ _ _ (by decide) (Bts.lit (bs := [y]) rfl (by simpa using hy) (by simp) _ rfl)).mono ?_
  rintro e w1 ⟨rfl, rfl⟩
  go_wp2_with fail
  go_loopw [10, 33] (fun v10 v33 wr => ∃ k : Nat, k ≤ m ∧ v33 = .int .i64 k ∧ v10 = .int .u32 (cadd 0 (turnB y k) : Nat) ∧ ∃ x, wr = up w x) (fun _ v33 _ => m - (intOf v33).toNat)
  case atStart => exact ⟨0, Nat.zero_le _, rfl, rfl, ex_up (by (repeat (first | (with_reducible exact Below.refl _ _) | (with_reducible assumption) | (with_reducible refine Below.alloc ?_ (by (repeat (first | (with_reducible exact Nat.le_refl _) | (with_reducible assumption) | (with_reducible refine le_up ?_) | (with_reducible refine le_alloc ?_) | (with_reducible refine le_setCell ?_) | (with_reducible refine le_drew ?_) | (with_reducible refine le_drewN ?_) | omega))) _) | (with_reducible refine Below.drew ?_) | (with_reducible refine Below.drewN ?_ _) | (with_reducible refine Below.setCell ?_ (by (repeat (first | (with_reducible exact Nat.le_refl _) | (with_reducible assumption) | (with_reducible refine le_up ?_) | (with_reducible refine le_alloc ?_) | (with_reducible refine le_setCell ?_) | (with_reducible refine le_drew ?_) | (with_reducible refine le_drewN ?_) | omega))) _) | (with_reducible refine Below.up ?_ (by (repeat (first | (with_reducible exact Nat.le_refl _) | (with_reducible assumption) | (with_reducible refine le_up ?_) | (with_reducible refine le_alloc ?_) | (with_reducible refine le_setCell ?_) | (with_reducible refine le_drew ?_) | (with_reducible refine le_drewN ?_) | omega)))))))⟩
  case round =>
    obtain ⟨k, hk, rfl, rfl, x, rfl⟩ := hrel
    have hq := cadd_lt (turnB_lt (m := k) hy) 0 (by decide)
    by_cases hlt : k < m
    · have hs' := Lib.hid (cadd_turn_succ y k)
      generalize cadd 0 (turnB y k) = q at *
      go_wp2_with fail
      refine (Add_any q _ _ _ hq (Bts.lit (bs := [0]) rfl (by decide) (by decide) _ rfl)).mono ?_
      rintro e w1 ⟨rfl, rfl⟩
      go_wp2_with fail
      exact ⟨⟨k + 1, by omega, by go_num, val_int (by rw [hs'.out]), ex_up (by (repeat (first | (with_reducible exact Below.refl _ _) | (with_reducible assumption) | (with_reducible refine Below.alloc ?_ (by (repeat (first | (with_reducible exact Nat.le_refl _) | (with_reducible assumption) | (with_reducible refine le_up ?_) | (with_reducible refine le_alloc ?_) | (with_reducible refine le_setCell ?_) | (with_reducible refine le_drew ?_) | (with_reducible refine le_drewN ?_) | omega))) _) | (with_reducible refine Below.drew ?_) | (with_reducible refine Below.drewN ?_ _) | (with_reducible refine Below.setCell ?_ (by (repeat (first | (with_reducible exact Nat.le_refl _) | (with_reducible assumption) | (with_reducible refine le_up ?_) | (with_reducible refine le_alloc ?_) | (with_reducible refine le_setCell ?_) | (with_reducible refine le_drew ?_) | (with_reducible refine le_drewN ?_) | omega))) _) | (with_reducible refine Below.up ?_ (by (repeat (first | (with_reducible exact Nat.le_refl _) | (with_reducible assumption) | (with_reducible refine le_up ?_) | (with_reducible refine le_alloc ?_) | (with_reducible refine le_setCell ?_) | (with_reducible refine le_drew ?_) | (with_reducible refine le_drewN ?_) | omega)))))))⟩, by simp [intOf]; omega⟩
    · obtain rfl : k = m := by omega
      generalize cadd 0 (turnB y k) = q at *
      go_wp2_with fail
      go_ret2
      exact Gives.mk (ret_ib (u32_xor_nat s q hs hq) rfl) (by (repeat (first | (with_reducible exact Below.refl _ _) | (with_reducible assumption) | (with_reducible refine Below.alloc ?_ (by (repeat (first | (with_reducible exact Nat.le_refl _) | (with_reducible assumption) | (with_reducible refine le_up ?_) | (with_reducible refine le_alloc ?_) | (with_reducible refine le_setCell ?_) | (with_reducible refine le_drew ?_) | (with_reducible refine le_drewN ?_) | omega))) _) | (with_reducible refine Below.drew ?_) | (with_reducible refine Below.drewN ?_ _) | (with_reducible refine Below.setCell ?_ (by (repeat (first | (with_reducible exact Nat.le_refl _) | (with_reducible assumption) | (with_reducible refine le_up ?_) | (with_reducible refine le_alloc ?_) | (with_reducible refine le_setCell ?_) | (with_reducible refine le_drew ?_) | (with_reducible refine le_drewN ?_) | omega))) _) | (with_reducible refine Below.up ?_ (by (repeat (first | (with_reducible exact Nat.le_refl _) | (with_reducible assumption) | (with_reducible refine le_up ?_) | (with_reducible refine le_alloc ?_) | (with_reducible refine le_setCell ?_) | (with_reducible refine le_drew ?_) | (with_reducible refine le_drewN ?_) | omega)))))))

set_option maxHeartbeats 400000 in
theorem rTurned_t (s y m : Nat) (n a : Int) (w : World) (hs : s < 4294967296) (hy : y < 256) (h0 : 0 ≤ a) (h1 : n ≤ 65536) (hm : n - a = m + 1) :
    Calls Try.prog 18 #[.int .u32 (s : Int), .int .i64 n, .int .i64 a, .int .u8 (y : Int)] w (Gives w (.tuple #[.int .u32 ((s ^^^ cadd 0 (turnB y m) : Nat) : Int), .bool true])) := by
  have h2 : a < n := by omega
  have hmb : m + 1 ≤ 65536 := by omega
  have hmk : ∀ w : World, (Instr.makeSlice 22 (.int .i64 (n - a)) (.int .i64 (n - a))).run Try.prog w = .ok (.slice (some ⟨w.heap.size, 0, none⟩) (m + 1) (m + 1)) (w.alloc (.cells (madeCells #[.int .u8 0] (m + 1)) 5)) := by
    intro w
    rw [hm]
    exact run_make_row' 22 5 (.int .u8 0) 1 Try.underlying22 info_u8 rfl .i64 .i64 (m + 1) (by omega) (by omega) w
  have hcells := Lib.hid (show ((madeCells #[.int .u8 0] (m + 1)).setIfInBounds 0 (.int .u8 (y : Int))).toList = byteVs (turnB y m) by
    rw [Array.toList_setIfInBounds, toList_madeCells_one, List.replicate_succ]; simp [byteVs, turnB])
  have hq := cadd_lt (turnB_lt (m := m) hy) 0 (by decide)
  clear hm
  have hcell0 : (madeCells #[.int .u8 0] (m + 1))[0]? = some (.int .u8 0) := by
    rw [← Array.getElem?_toList, toList_madeCells_one, List.replicate_succ]; rfl
  go_enter Try.func18, Try.ntmps18
  go_wp2_with fail
  all_goals first | (exfalso; omega) | skip
  refine (rAdd_any 0 _ (turnB y m) _ (by decide) (Bts.lit hcells.out (turnB_lt hy) (by simp [turnB]; omega) _ (by simp [turnB]))).mono ?_
  rintro e w1 ⟨rfl, rfl⟩
  generalize cadd 0 (turnB y m) = q at *
  go_wp2_with fail
  go_ret2
  exact Gives.mk (ret_ib (u32_xor_nat s q hs hq) rfl) (by (repeat (first | (with_reducible exact Below.refl _ _) | (with_reducible assumption) | (with_reducible refine Below.alloc ?_ (by (repeat (first | (with_reducible exact Nat.le_refl _) | (with_reducible assumption) | (with_reducible refine le_up ?_) | (with_reducible refine le_alloc ?_) | (with_reducible refine le_setCell ?_) | (with_reducible refine le_drew ?_) | (with_reducible refine le_drewN ?_) | omega))) _) | (with_reducible refine Below.drew ?_) | (with_reducible refine Below.drewN ?_ _) | (with_reducible refine Below.setCell ?_ (by (repeat (first | (with_reducible exact Nat.le_refl _) | (with_reducible assumption) | (with_reducible refine le_up ?_) | (with_reducible refine le_alloc ?_) | (with_reducible refine le_setCell ?_) | (with_reducible refine le_drew ?_) | (with_reducible refine le_drewN ?_) | omega))) _) | (with_reducible refine Below.up ?_ (by (repeat (first | (with_reducible exact Nat.le_refl _) | (with_reducible assumption) | (with_reducible refine le_up ?_) | (with_reducible refine le_alloc ?_) | (with_reducible refine le_setCell ?_) | (with_reducible refine le_drew ?_) | (with_reducible refine le_drewN ?_) | omega)))))))
end Go.Proofs.Ytbfloidogdjccaa
