/-
  The reference's watcher: where it lies; made, and cleared.
-/
import Derived.Test.YtihalkpcddnikaaWidS
import Derived.Test.YtihalkpcddnikaaStuV
namespace Go.Proofs.Ytihalkpcddnikaa
open Go.RowKit
set_option linter.unusedVariables false
set_option linter.unusedSimpArgs false

/-- A field of a last reading: place, tick, row. -/
def oneF (o : StO) : Nat → Int
  | 0 => o.a
  | 1 => o.b
  | 2 => o.c
  | 3 => o.tk
  | _ => o.row
def RsV (same rate : Int) (l : Nat → StO) (i : Nat) : Value := if i = 0 then .int .i64 same else if i = 1 then .int .i64 rate else .int .i64 (oneF (l ((i - 2) / 5)) ((i - 2) % 5))
abbrev RsAt (w : World) (d : Nat) (same rate : Int) (l : Nat → StO) : Prop := Cells w d 42 (RsV same rate l)
theorem RsV_at (same rate : Int) (l : Nat → StO) (s j : Nat) (hj : j < 5) : RsV same rate l (2 + s * 5 + j) = .int .i64 (oneF (l s) j) := by
  unfold RsV
  rw [if_neg (by omega), if_neg (by omega), show (2 + s * 5 + j - 2) / 5 = s by omega, show (2 + s * 5 + j - 2) % 5 = j by omega]
theorem RsAt.cell {w : World} {d : Nat} {same rate : Int} {l : Nat → StO} (h : RsAt w d same rate l) {s : Nat} (hs : s < 8) (j : Nat) (hj : j < 5) : w.cell? ⟨d, 2 + s * 5 + j, none⟩ = some (.int .i64 (oneF (l s) j)) := by
  rw [← RsV_at same rate l s j hj]; exact h.at_ _ (by omega)
/-- Five cells stored: a last reading. -/
def set5 (W : World) (d o : Nat) (m : StO) : World := ((((W.setCell ⟨d, o, none⟩ (.int .i64 m.a)).setCell ⟨d, o + 1, none⟩ (.int .i64 m.b)).setCell ⟨d, o + 2, none⟩ (.int .i64 m.c)).setCell ⟨d, o + 3, none⟩ (.int .i64 m.tk)).setCell ⟨d, o + 4, none⟩ (.int .i64 m.row)
theorem RsAt.set5 {w : World} {d : Nat} {same rate : Int} {l : Nat → StO} (h : RsAt w d same rate l) {s : Nat} (hs : s < 8) (m : StO) : RsAt (set5 w d (2 + s * 5) m) d same rate (fun k => if k = s then m else l k) := by
  have h5 := ((((Cells.set h (2 + s * 5) (by omega) (.int .i64 m.a)).set (2 + s * 5 + 1) (by omega) (.int .i64 m.b)).set (2 + s * 5 + 2) (by omega) (.int .i64 m.c)).set (2 + s * 5 + 3) (by omega) (.int .i64 m.tk)).set (2 + s * 5 + 4) (by omega) (.int .i64 m.row)
  refine h5.same fun i hi => ?_
  by_cases h0 : (i - 2) / 5 = s ∧ 2 ≤ i
  · obtain ⟨e, h2⟩ := h0
    have : i = 2 + s * 5 ∨ i = 2 + s * 5 + 1 ∨ i = 2 + s * 5 + 2 ∨ i = 2 + s * 5 + 3 ∨ i = 2 + s * 5 + 4 := by omega
    rcases this with rfl | rfl | rfl | rfl | rfl
    · have := RsV_at same rate (fun k => if k = s then m else l k) s 0 (by omega)
      rw [Nat.add_zero] at this
      rw [this, if_neg (by omega), if_neg (by omega), if_neg (by omega), if_neg (by omega), if_pos rfl]
      simp [oneF]
    · rw [RsV_at same rate (fun k => if k = s then m else l k) s 1 (by omega), if_neg (by omega), if_neg (by omega), if_neg (by omega), if_pos rfl]
      simp [oneF]
    · rw [RsV_at same rate (fun k => if k = s then m else l k) s 2 (by omega), if_neg (by omega), if_neg (by omega), if_pos rfl]
      simp [oneF]
    · rw [RsV_at same rate (fun k => if k = s then m else l k) s 3 (by omega), if_neg (by omega), if_pos rfl]
      simp [oneF]
    · rw [RsV_at same rate (fun k => if k = s then m else l k) s 4 (by omega), if_pos rfl]
      simp [oneF]
  · rw [if_neg (by omega), if_neg (by omega), if_neg (by omega), if_neg (by omega), if_neg (by omega)]
    unfold RsV
    by_cases e0 : i = 0
    · rw [if_pos e0, if_pos e0]
    · by_cases e1 : i = 1
      · rw [if_neg e0, if_neg e0, if_pos e1, if_pos e1]
      · rw [if_neg e0, if_neg e0, if_neg e1, if_neg e1]
        dsimp only
        rw [if_neg (by omega)]
theorem gr_set5 (w : World) (d o : Nat) (m : StO) : w.grownBy (set5 w d o m) (some d) := gr_trans (gr_trans (gr_trans (gr_trans (gr_set _ _ _ _) (gr_set _ _ _ _)) (gr_set _ _ _ _)) (gr_set _ _ _ _)) (gr_set _ _ _ _)
set_option maxRecDepth 100000 in
theorem rsNew_bad {same rate : Int} (w : World) (h : stNewB same rate = false) :
    Calls Try.prog 14 #[.int .i64 same, .int .i64 rate] w (Tells w (.tuple #[.pointer none, .int .i64 2])) := by
  have hc : same < 1 ∨ (¬ same < 1 ∧ 1000 < same) ∨ (¬ same < 1 ∧ ¬ 1000 < same ∧ rate < 0) := by simp [stNewB] at h; omega
  clear h
  rcases hc with h | ⟨h1, h2⟩ | ⟨h1, h2, h3⟩
  all_goals
    go_enter Try.func14, Try.ntmps14
    go_wp2_with fail
    go_ret2
    exact Tells.mk rfl
set_option maxRecDepth 100000 in
theorem rsNew_good {same rate : Int} (w : World) (h : stNewB same rate = true) :
    Calls Try.prog 14 #[.int .i64 same, .int .i64 rate] w (fun e w' => e = .returned (.tuple #[.pointer (some ⟨w.heap.size, 0, none⟩), .int .i64 0]) ∧ RsAt w' w.heap.size same rate (fun _ => StO.zero) ∧ Below w.heap.size w w' ∧ w.heap.size < w'.heap.size) := by
  obtain ⟨h1, h2, h3⟩ : 1 ≤ same ∧ same ≤ 1000 ∧ 0 ≤ rate := by simpa [stNewB] using h
  have k1 : ¬ same < 1 := by omega
  have k2 : ¬ 1000 < same := by omega
  have k3 : ¬ rate < 0 := by omega
  clear h
  go_enter Try.func14, Try.ntmps14
  go_wp2_with fail
  go_ret2
  refine ⟨rfl, ⟨by simp, fun i hi => ?_, fun i => World.frozen?_alloc_new _ _ _ _⟩, by (repeat (first | (with_reducible exact Below.refl _ _) | (with_reducible assumption) | (with_reducible refine Below.alloc ?_ (by (repeat (first | (with_reducible exact Nat.le_refl _) | (with_reducible assumption) | (with_reducible refine le_up ?_) | (with_reducible refine le_alloc ?_) | (with_reducible refine le_setCell ?_) | (with_reducible refine le_drew ?_) | (with_reducible refine le_drewN ?_) | omega))) _) | (with_reducible refine Below.drew ?_) | (with_reducible refine Below.drewN ?_ _) | (with_reducible refine Below.setCell ?_ (by (repeat (first | (with_reducible exact Nat.le_refl _) | (with_reducible assumption) | (with_reducible refine le_up ?_) | (with_reducible refine le_alloc ?_) | (with_reducible refine le_setCell ?_) | (with_reducible refine le_drew ?_) | (with_reducible refine le_drewN ?_) | omega))) _) | (with_reducible refine Below.up ?_ (by (repeat (first | (with_reducible exact Nat.le_refl _) | (with_reducible assumption) | (with_reducible refine le_up ?_) | (with_reducible refine le_alloc ?_) | (with_reducible refine le_setCell ?_) | (with_reducible refine le_drew ?_) | (with_reducible refine le_drewN ?_) | omega)))))), by simp⟩
  rw [cell_at]
  have : i = 0 ∨ i = 1 ∨ i = 2 ∨ i = 3 ∨ i = 4 ∨ i = 5 ∨ i = 6 ∨ i = 7 ∨ i = 8 ∨ i = 9 ∨ i = 10 ∨ i = 11 ∨ i = 12 ∨ i = 13 ∨ i = 14 ∨ i = 15 ∨ i = 16 ∨ i = 17 ∨ i = 18 ∨ i = 19 ∨ i = 20 ∨ i = 21 ∨ i = 22 ∨ i = 23 ∨ i = 24 ∨ i = 25 ∨ i = 26 ∨ i = 27 ∨ i = 28 ∨ i = 29 ∨ i = 30 ∨ i = 31 ∨ i = 32 ∨ i = 33 ∨ i = 34 ∨ i = 35 ∨ i = 36 ∨ i = 37 ∨ i = 38 ∨ i = 39 ∨ i = 40 ∨ i = 41 := by omega
  rcases this with rfl | rfl | rfl | rfl | rfl | rfl | rfl | rfl | rfl | rfl | rfl | rfl | rfl | rfl | rfl | rfl | rfl | rfl | rfl | rfl | rfl | rfl | rfl | rfl | rfl | rfl | rfl | rfl | rfl | rfl | rfl | rfl | rfl | rfl | rfl | rfl | rfl | rfl | rfl | rfl | rfl | rfl <;> rfl
def rclrL (l : Nat → StO) (s : Nat) : Nat → StO := fun k => if k = s then StO.zero else l k
set_option maxRecDepth 100000 in
theorem rsClear_out (d : Nat) (s : Int) (w : World) (hs : srcB s = false) :
    Calls Try.prog 16 #[.pointer (some ⟨d, 0, none⟩), .int .i64 s] w (Tells w (.int .i64 2)) := by
  rcases src_out hs with h | ⟨h1, h2⟩
  · clear hs
    go_enter Try.func16, Try.ntmps16
    go_wp2_with fail
    go_ret
    exact Tells.mk rfl
  · have h3 : 7 < s := by omega
    clear hs
    go_enter Try.func16, Try.ntmps16
    go_wp2_with fail
    go_ret
    exact Tells.mk rfl
set_option maxRecDepth 100000 in
set_option maxHeartbeats 1600000 in
theorem rsClear_in (d s : Nat) (same rate : Int) (l : Nat → StO) (w : World) (H : RsAt w d same rate l) (hs : s < 8) :
    Calls Try.prog 16 #[.pointer (some ⟨d, 0, none⟩), .int .i64 (s : Int)] w (fun e w' => e = .returned (.int .i64 0) ∧ w' = set5 w d (2 + s * 5) StO.zero) := by
  have h1 : ¬ (s : Int) < 0 := by omega
  have h2 : ¬ 7 < (s : Int) := by omega
  have h3 : (s : Int) < 8 := by omega
  have h4 : (0 : Int) ≤ (s : Int) := by omega
  have c0 := H.cell hs 0 (by omega)
  have c1 := H.cell hs 1 (by omega)
  have c2 := H.cell hs 2 (by omega)
  have c3 := H.cell hs 3 (by omega)
  have c4 := H.cell hs 4 (by omega)
  rw [Nat.add_zero] at c0
  have f0 := H.free (2 + s * 5)
  have f1 := H.free (2 + s * 5 + 1)
  have f2 := H.free (2 + s * 5 + 2)
  have f3 := H.free (2 + s * 5 + 3)
  have f4 := H.free (2 + s * 5 + 4)
  haveI : LtSize d w := ⟨H.lt⟩
  clear H
  go_enter Try.func16, Try.ntmps16
  go_wp2_with fail
  go_ret
  exact ⟨rfl, rfl⟩
end Go.Proofs.Ytihalkpcddnikaa
