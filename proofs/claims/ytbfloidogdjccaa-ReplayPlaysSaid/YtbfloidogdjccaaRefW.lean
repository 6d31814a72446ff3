/-
  The reference's replay table: a struct of eight marks and eight flags, told by the same marks.
-/
import Derived.Test.YtbfloidogdjccaaAllW
namespace Go.Proofs.Ytbfloidogdjccaa
open Go.RowKit Go.Maps

structure RefT (w : World) (y : Nat) (f : Int → Option MarkT) : Prop where
  row : Row8 w y (fun k => (f k).getD (0, 0))
  has : ∀ k : Nat, k < 8 → w.cell? ⟨y, 16 + k, none⟩ = some (.bool (f k).isSome)
theorem RefT.below {w w' : World} {y B : Nat} {f : Int → Option MarkT} (h : RefT w y f) (hb : Below B w w') (hy : y < B) : RefT w' y f :=
  ⟨h.row.below hb hy, fun k hk => by rw [hb.cell (p := ⟨y, _, none⟩) hy]; exact h.has k hk⟩
theorem RefT.up {w x : World} {y : Nat} {f : Int → Option MarkT} (h : RefT w y f) : RefT (up w x) y f := h.below (up_below w x) h.row.lt
theorem RefT.alloc {w : World} {o : Obj} {y : Nat} {f : Int → Option MarkT} (h : RefT w y f) : RefT (w.alloc o) y f := h.below (B := w.heap.size) ((Below.refl _ w).alloc (Nat.le_refl _) o) h.row.lt
theorem RefT.drew {w : World} {y : Nat} {f : Int → Option MarkT} (h : RefT w y f) : RefT w.drew y f := h.below (Below.drew (Below.refl w.heap.size w)) h.row.lt
theorem RefT.kept {w w' : World} {y : Nat} {row : Option Nat} {f : Int → Option MarkT} (h : RefT w y f) (hg : w.grownBy w' row) (hne : some y ≠ row) : RefT w' y f :=
  ⟨h.row.kept hg hne, fun k hk => by rw [World.cell?_of_block (a := ⟨y, _, none⟩) (hg.block y h.row.lt hne)]; exact h.has k hk⟩

theorem rmay_any (s : Int) (w : World) : Calls Try.prog 70 #[.int .i64 s] w (Tells w (.bool (srcOK s))) := by
  by_cases h : (0 : Int) ≤ s
  · go_enter Try.func70, Try.ntmps70
    go_wp2
    go_ret
    exact Tells.mk (ret_bool (by simp [srcOK, h]))
  · go_enter Try.func70, Try.ntmps70
    go_wp2
    go_ret
    exact Tells.mk (ret_bool (by simp [srcOK]; omega))
theorem rmay_t {s : Int} (w : World) (h : srcOK s = true) : Calls Try.prog 70 #[.int .i64 s] w (Tells w (.bool true)) := by rw [← h]; exact rmay_any s w
theorem rmay_f {s : Int} (w : World) (h : srcOK s = false) : Calls Try.prog 70 #[.int .i64 s] w (Tells w (.bool false)) := by rw [← h]; exact rmay_any s w
theorem rGreater_any (a b c d : Int) (w : World) :
    Calls Try.prog 53 #[.agg #[.int .u32 a, .int .u64 b], .agg #[.int .u32 c, .int .u64 d]] w (Gives w (.bool (grB (a, b) (c, d)))) := by
  by_cases h : c < a
  · go_enter Try.func53, Try.ntmps53
    go_wp2
    go_ret
    exact Gives.mk (ret_bool (by simp [grB, h])) (by (repeat (first | (with_reducible exact Below.refl _ _) | (with_reducible assumption) | (with_reducible refine Below.alloc ?_ (by (repeat (first | (with_reducible exact Nat.le_refl _) | (with_reducible assumption) | (with_reducible refine le_up ?_) | (with_reducible refine le_alloc ?_) | (with_reducible refine le_setCell ?_) | (with_reducible refine le_drew ?_) | (with_reducible refine le_drewN ?_) | omega))) _) | (with_reducible refine Below.drew ?_) | (with_reducible refine Below.drewN ?_ _) | (with_reducible refine Below.setCell ?_ (by (repeat (first | (with_reducible exact Nat.le_refl _) | (with_reducible assumption) | (with_reducible refine le_up ?_) | (with_reducible refine le_alloc ?_) | (with_reducible refine le_setCell ?_) | (with_reducible refine le_drew ?_) | (with_reducible refine le_drewN ?_) | omega))) _) | (with_reducible refine Below.up ?_ (by (repeat (first | (with_reducible exact Nat.le_refl _) | (with_reducible assumption) | (with_reducible refine le_up ?_) | (with_reducible refine le_alloc ?_) | (with_reducible refine le_setCell ?_) | (with_reducible refine le_drew ?_) | (with_reducible refine le_drewN ?_) | omega)))))))
  · have hd : decide (c < a) = false := decide_eq_false h
    by_cases h' : a = c
    · subst h'
      go_enter Try.func53, Try.ntmps53
      go_wp2
      go_ret
      exact Gives.mk (ret_bool (by simp [grB])) (by (repeat (first | (with_reducible exact Below.refl _ _) | (with_reducible assumption) | (with_reducible refine Below.alloc ?_ (by (repeat (first | (with_reducible exact Nat.le_refl _) | (with_reducible assumption) | (with_reducible refine le_up ?_) | (with_reducible refine le_alloc ?_) | (with_reducible refine le_setCell ?_) | (with_reducible refine le_drew ?_) | (with_reducible refine le_drewN ?_) | omega))) _) | (with_reducible refine Below.drew ?_) | (with_reducible refine Below.drewN ?_ _) | (with_reducible refine Below.setCell ?_ (by (repeat (first | (with_reducible exact Nat.le_refl _) | (with_reducible assumption) | (with_reducible refine le_up ?_) | (with_reducible refine le_alloc ?_) | (with_reducible refine le_setCell ?_) | (with_reducible refine le_drew ?_) | (with_reducible refine le_drewN ?_) | omega))) _) | (with_reducible refine Below.up ?_ (by (repeat (first | (with_reducible exact Nat.le_refl _) | (with_reducible assumption) | (with_reducible refine le_up ?_) | (with_reducible refine le_alloc ?_) | (with_reducible refine le_setCell ?_) | (with_reducible refine le_drew ?_) | (with_reducible refine le_drewN ?_) | omega)))))))
    · have h2 : (a == c) = false := by simpa using h'
      go_enter Try.func53, Try.ntmps53
      go_wp2
      go_ret
      exact Gives.mk (ret_bool (by simp [grB, h, h'])) (by (repeat (first | (with_reducible exact Below.refl _ _) | (with_reducible assumption) | (with_reducible refine Below.alloc ?_ (by (repeat (first | (with_reducible exact Nat.le_refl _) | (with_reducible assumption) | (with_reducible refine le_up ?_) | (with_reducible refine le_alloc ?_) | (with_reducible refine le_setCell ?_) | (with_reducible refine le_drew ?_) | (with_reducible refine le_drewN ?_) | omega))) _) | (with_reducible refine Below.drew ?_) | (with_reducible refine Below.drewN ?_ _) | (with_reducible refine Below.setCell ?_ (by (repeat (first | (with_reducible exact Nat.le_refl _) | (with_reducible assumption) | (with_reducible refine le_up ?_) | (with_reducible refine le_alloc ?_) | (with_reducible refine le_setCell ?_) | (with_reducible refine le_drew ?_) | (with_reducible refine le_drewN ?_) | omega))) _) | (with_reducible refine Below.up ?_ (by (repeat (first | (with_reducible exact Nat.le_refl _) | (with_reducible assumption) | (with_reducible refine le_up ?_) | (with_reducible refine le_alloc ?_) | (with_reducible refine le_setCell ?_) | (with_reducible refine le_drew ?_) | (with_reducible refine le_drewN ?_) | omega)))))))

theorem rGreater_is {a b c d : Int} {r : Bool} {w : World} (h : grB (a, b) (c, d) = r) :
    Calls Try.prog 53 #[.agg #[.int .u32 a, .int .u64 b], .agg #[.int .u32 c, .int .u64 d]] w (Gives w (.bool r)) := by rw [← h]; exact rGreater_any a b c d w
set_option maxRecDepth 100000 in
set_option maxHeartbeats 800000 in
theorem rMay_any (y : Nat) (f : Int → Option MarkT) (s : Int) (m : MarkT) (w : World) (h : RefT w y f) :
    Calls Try.prog 65 #[.pointer (some ⟨y, 0, none⟩), .int .i64 s, .agg #[.int .u32 m.1, .int .u64 m.2]] w (Gives w (.int .i64 (mayE f s m))) := by
  obtain ⟨m1, m2⟩ := m
  haveI : LtSize y w := ⟨h.row.lt⟩
  have hneq : ¬ y = w.heap.size := by have := h.row.lt; omega
  cases hs : srcOK s
  · rw [mayE_out hs]
    clear h
    go_enter Try.func65, Try.ntmps65
    go_wp2_with (go_at_call 70; with_reducible refine Calls.tells (rmay_f _ hs) ?_)
    go_ret
    exact Gives.mk rfl (by (repeat (first | (with_reducible exact Below.refl _ _) | (with_reducible assumption) | (with_reducible refine Below.alloc ?_ (by (repeat (first | (with_reducible exact Nat.le_refl _) | (with_reducible assumption) | (with_reducible refine le_up ?_) | (with_reducible refine le_alloc ?_) | (with_reducible refine le_setCell ?_) | (with_reducible refine le_drew ?_) | (with_reducible refine le_drewN ?_) | omega))) _) | (with_reducible refine Below.drew ?_) | (with_reducible refine Below.drewN ?_ _) | (with_reducible refine Below.setCell ?_ (by (repeat (first | (with_reducible exact Nat.le_refl _) | (with_reducible assumption) | (with_reducible refine le_up ?_) | (with_reducible refine le_alloc ?_) | (with_reducible refine le_setCell ?_) | (with_reducible refine le_drew ?_) | (with_reducible refine le_drewN ?_) | omega))) _) | (with_reducible refine Below.up ?_ (by (repeat (first | (with_reducible exact Nat.le_refl _) | (with_reducible assumption) | (with_reducible refine le_up ?_) | (with_reducible refine le_alloc ?_) | (with_reducible refine le_setCell ?_) | (with_reducible refine le_drew ?_) | (with_reducible refine le_drewN ?_) | omega)))))))
  · obtain ⟨s1, s2⟩ := src_of hs
    obtain ⟨j, rfl⟩ := Int.eq_ofNat_of_zero_le s1
    have hj : j < 8 := by omega
    have c1 := h.row.at1 j hj
    have c2 := h.row.at2 j hj
    have c3 := h.has j hj
    clear h
    cases hf : f (j : Int) with
    | none =>
      rw [mayE_new hs hf]
      simp only [hf, Option.getD_none, Option.isSome_none] at c1 c2 c3
      clear hf
      go_enter Try.func65, Try.ntmps65
      go_wp2_with (go_at_call 70; with_reducible refine Calls.tells (rmay_t _ hs) ?_)
      (refine wp_region_up (by kernel_rfl) (by kernel_rfl) ?_; (repeat (go_big_quiet_step ((go_at_call 53; exact Calls.up_gives (rGreater_any _ _ _ _ _))))); refine wpQuiet_nil ?_; intro _ hw'; obtain ⟨xq, hw''⟩ := hw'; subst hw'')
      go_wp2_with fail
      go_ret
      exact Gives.mk rfl (by (repeat (first | (with_reducible exact Below.refl _ _) | (with_reducible assumption) | (with_reducible refine Below.alloc ?_ (by (repeat (first | (with_reducible exact Nat.le_refl _) | (with_reducible assumption) | (with_reducible refine le_up ?_) | (with_reducible refine le_alloc ?_) | (with_reducible refine le_setCell ?_) | (with_reducible refine le_drew ?_) | (with_reducible refine le_drewN ?_) | omega))) _) | (with_reducible refine Below.drew ?_) | (with_reducible refine Below.drewN ?_ _) | (with_reducible refine Below.setCell ?_ (by (repeat (first | (with_reducible exact Nat.le_refl _) | (with_reducible assumption) | (with_reducible refine le_up ?_) | (with_reducible refine le_alloc ?_) | (with_reducible refine le_setCell ?_) | (with_reducible refine le_drew ?_) | (with_reducible refine le_drewN ?_) | omega))) _) | (with_reducible refine Below.up ?_ (by (repeat (first | (with_reducible exact Nat.le_refl _) | (with_reducible assumption) | (with_reducible refine le_up ?_) | (with_reducible refine le_alloc ?_) | (with_reducible refine le_setCell ?_) | (with_reducible refine le_drew ?_) | (with_reducible refine le_drewN ?_) | omega)))))))
    | some l =>
      obtain ⟨l1, l2⟩ := l
      simp only [hf, Option.getD_some, Option.isSome_some] at c1 c2 c3
      cases hg : grB (m1, m2) (l1, l2)
      · rw [mayE_no hs hf hg]
        clear hf
        go_enter Try.func65, Try.ntmps65
        go_wp2_with (go_at_call 70; with_reducible refine Calls.tells (rmay_t _ hs) ?_)
        (refine wp_region_up (by kernel_rfl) (by kernel_rfl) ?_; (repeat (go_big_quiet_step ((go_at_call 53; exact Calls.up_gives (rGreater_is hg))))); refine wpQuiet_nil ?_; intro _ hw'; obtain ⟨xq, hw''⟩ := hw'; subst hw'')
        go_wp2_with fail
        go_ret
        exact Gives.mk rfl (by (repeat (first | (with_reducible exact Below.refl _ _) | (with_reducible assumption) | (with_reducible refine Below.alloc ?_ (by (repeat (first | (with_reducible exact Nat.le_refl _) | (with_reducible assumption) | (with_reducible refine le_up ?_) | (with_reducible refine le_alloc ?_) | (with_reducible refine le_setCell ?_) | (with_reducible refine le_drew ?_) | (with_reducible refine le_drewN ?_) | omega))) _) | (with_reducible refine Below.drew ?_) | (with_reducible refine Below.drewN ?_ _) | (with_reducible refine Below.setCell ?_ (by (repeat (first | (with_reducible exact Nat.le_refl _) | (with_reducible assumption) | (with_reducible refine le_up ?_) | (with_reducible refine le_alloc ?_) | (with_reducible refine le_setCell ?_) | (with_reducible refine le_drew ?_) | (with_reducible refine le_drewN ?_) | omega))) _) | (with_reducible refine Below.up ?_ (by (repeat (first | (with_reducible exact Nat.le_refl _) | (with_reducible assumption) | (with_reducible refine le_up ?_) | (with_reducible refine le_alloc ?_) | (with_reducible refine le_setCell ?_) | (with_reducible refine le_drew ?_) | (with_reducible refine le_drewN ?_) | omega)))))))
      · rw [mayE_gr hs hf hg]
        clear hf
        go_enter Try.func65, Try.ntmps65
        go_wp2_with (go_at_call 70; with_reducible refine Calls.tells (rmay_t _ hs) ?_)
        (refine wp_region_up (by kernel_rfl) (by kernel_rfl) ?_; (repeat (go_big_quiet_step ((go_at_call 53; exact Calls.up_gives (rGreater_is hg))))); refine wpQuiet_nil ?_; intro _ hw'; obtain ⟨xq, hw''⟩ := hw'; subst hw'')
        go_wp2_with fail
        go_ret
        exact Gives.mk rfl (by (repeat (first | (with_reducible exact Below.refl _ _) | (with_reducible assumption) | (with_reducible refine Below.alloc ?_ (by (repeat (first | (with_reducible exact Nat.le_refl _) | (with_reducible assumption) | (with_reducible refine le_up ?_) | (with_reducible refine le_alloc ?_) | (with_reducible refine le_setCell ?_) | (with_reducible refine le_drew ?_) | (with_reducible refine le_drewN ?_) | omega))) _) | (with_reducible refine Below.drew ?_) | (with_reducible refine Below.drewN ?_ _) | (with_reducible refine Below.setCell ?_ (by (repeat (first | (with_reducible exact Nat.le_refl _) | (with_reducible assumption) | (with_reducible refine le_up ?_) | (with_reducible refine le_alloc ?_) | (with_reducible refine le_setCell ?_) | (with_reducible refine le_drew ?_) | (with_reducible refine le_drewN ?_) | omega))) _) | (with_reducible refine Below.up ?_ (by (repeat (first | (with_reducible exact Nat.le_refl _) | (with_reducible assumption) | (with_reducible refine le_up ?_) | (with_reducible refine le_alloc ?_) | (with_reducible refine le_setCell ?_) | (with_reducible refine le_drew ?_) | (with_reducible refine le_drewN ?_) | omega)))))))

/-- Behind Take and Raise of the reference's table. -/
def RTakeR (w : World) (y : Nat) (code : Int) (f : Int → Option MarkT) (e : Ending) (w' : World) : Prop := e = .returned (.int .i64 code) ∧ RefT w' y f ∧ w.grownBy w' (some y)
theorem RefT.set {w : World} {y : Nat} {f : Int → Option MarkT} (h : RefT w y f) (j : Nat) (hj : j < 8) (m : MarkT) :
    RefT (((w.setCell ⟨y, j * 2, none⟩ (.int .u32 m.1)).setCell ⟨y, j * 2 + 1, none⟩ (.int .u64 m.2)).setCell ⟨y, 16 + j, none⟩ (.bool true)) y (updT f j m) := by
  have R := h.row.set j hj m
  have hh := h.has j hj
  refine ⟨⟨by simpa using R.lt, fun k hk => ?_, fun k hk => ?_, fun o => by rw [World.frozen?_setCell]; exact R.free o⟩, fun k hk => ?_⟩
  · rw [World.cell?_setCell_other _ _ _ _ (by intro e; injection e; omega), R.at1 k hk]
    by_cases hkj : k = j
    · subst hkj; rw [updT_same, if_pos rfl]; rfl
    · rw [updT_other f m (by omega), if_neg hkj]
  · rw [World.cell?_setCell_other _ _ _ _ (by intro e; injection e; omega), R.at2 k hk]
    by_cases hkj : k = j
    · subst hkj; rw [updT_same, if_pos rfl]; rfl
    · rw [updT_other f m (by omega), if_neg hkj]
  · by_cases hkj : k = j
    · subst hkj
      have hl : ((w.setCell ⟨y, k * 2, none⟩ (.int .u32 m.1)).setCell ⟨y, k * 2 + 1, none⟩ (.int .u64 m.2)).cell? ⟨y, 16 + k, none⟩ = some (.bool (f k).isSome) := by
        rw [World.cell?_setCell_other _ _ _ _ (by intro e; injection e; omega), World.cell?_setCell_other _ _ _ _ (by intro e; injection e; omega)]; exact hh
      rw [World.cell?_setCell_same _ _ _ hl, updT_same]; rfl
    · rw [World.cell?_setCell_other _ _ _ _ (by intro e; injection e; omega), World.cell?_setCell_other _ _ _ _ (by intro e; injection e; omega), World.cell?_setCell_other _ _ _ _ (by intro e; injection e; omega), updT_other f m (by omega)]
      exact h.has k hk

set_option maxRecDepth 100000 in
set_option maxHeartbeats 800000 in
theorem rTake_any (y : Nat) (f : Int → Option MarkT) (s : Int) (m : MarkT) (w : World) (h : RefT w y f) :
    Calls Try.prog 67 #[.pointer (some ⟨y, 0, none⟩), .int .i64 s, .agg #[.int .u32 m.1, .int .u64 m.2]] w (RTakeR w y (mayE f s m) (takeF f s m)) := by
  have H := Lib.hid h
  haveI : LtSize y w := ⟨h.row.lt⟩
  have hneq : ¬ y = w.heap.size := by have := h.row.lt; omega
  by_cases he : mayE f s m = 0
  · have hT : takeF f s m = updT f s m := if_pos he
    obtain ⟨s1, s2⟩ := mayE_src he
    rw [hT]
    clear hT
    obtain ⟨m1, m2⟩ := m
    obtain ⟨j, rfl⟩ := Int.eq_ofNat_of_zero_le s1
    have hj : j < 8 := by omega
    have c1 := h.row.at1 j hj
    have c2 := h.row.at2 j hj
    have c3 := h.has j hj
    have z1 := h.row.free (j * 2)
    have z2 := h.row.free (j * 2 + 1)
    have z3 := h.row.free (16 + j)
    clear h
    go_enter Try.func67, Try.ntmps67
    go_wp2_with (go_at_call 65; (first | with_reducible refine Calls.fold (rMay_any y f j (m1, m2) _ H.out.alloc) ?_ | with_reducible refine Calls.fresh (rMay_any y f j (m1, m2) _ H.out.alloc) ?_); intro x1)
    go_region
    go_wp2_with fail
    go_ret
    refine ⟨ret_int he.symm, (H.out.alloc.up.set j hj (m1, m2)).drew, ?_⟩
    have g0 := grownBy_below (w := w) (x := up (w.alloc (Obj.cells #[Value.int IntKind.u32 m1, Value.int IntKind.u64 m2] 86)) x1) (some y) (by (repeat (first | (with_reducible exact Below.refl _ _) | (with_reducible assumption) | (with_reducible refine Below.alloc ?_ (by (repeat (first | (with_reducible exact Nat.le_refl _) | (with_reducible assumption) | (with_reducible refine le_up ?_) | (with_reducible refine le_alloc ?_) | (with_reducible refine le_setCell ?_) | (with_reducible refine le_drew ?_) | (with_reducible refine le_drewN ?_) | omega))) _) | (with_reducible refine Below.drew ?_) | (with_reducible refine Below.drewN ?_ _) | (with_reducible refine Below.setCell ?_ (by (repeat (first | (with_reducible exact Nat.le_refl _) | (with_reducible assumption) | (with_reducible refine le_up ?_) | (with_reducible refine le_alloc ?_) | (with_reducible refine le_setCell ?_) | (with_reducible refine le_drew ?_) | (with_reducible refine le_drewN ?_) | omega))) _) | (with_reducible refine Below.up ?_ (by (repeat (first | (with_reducible exact Nat.le_refl _) | (with_reducible assumption) | (with_reducible refine le_up ?_) | (with_reducible refine le_alloc ?_) | (with_reducible refine le_setCell ?_) | (with_reducible refine le_drew ?_) | (with_reducible refine le_drewN ?_) | omega)))))))
    exact grownBy_trans (grownBy_trans (grownBy_trans (grownBy_trans g0 (gr_set _ _ _ _)) (gr_set _ _ _ _)) (gr_set _ _ _ _)) ⟨rfl, rfl, rfl, Nat.le_refl _, fun _ _ _ => rfl⟩
  · have hT : takeF f s m = f := if_neg he
    rw [hT]
    clear hT h
    obtain ⟨m1, m2⟩ := m
    go_enter Try.func67, Try.ntmps67
    go_wp2_with (go_at_call 65; (first | with_reducible refine Calls.fold (rMay_any y f s (m1, m2) _ H.out.alloc) ?_ | with_reducible refine Calls.fresh (rMay_any y f s (m1, m2) _ H.out.alloc) ?_); intro x1)
    go_ret
    exact ⟨rfl, H.out.alloc.up, grownBy_below (some y) (by (repeat (first | (with_reducible exact Below.refl _ _) | (with_reducible assumption) | (with_reducible refine Below.alloc ?_ (by (repeat (first | (with_reducible exact Nat.le_refl _) | (with_reducible assumption) | (with_reducible refine le_up ?_) | (with_reducible refine le_alloc ?_) | (with_reducible refine le_setCell ?_) | (with_reducible refine le_drew ?_) | (with_reducible refine le_drewN ?_) | omega))) _) | (with_reducible refine Below.drew ?_) | (with_reducible refine Below.drewN ?_ _) | (with_reducible refine Below.setCell ?_ (by (repeat (first | (with_reducible exact Nat.le_refl _) | (with_reducible assumption) | (with_reducible refine le_up ?_) | (with_reducible refine le_alloc ?_) | (with_reducible refine le_setCell ?_) | (with_reducible refine le_drew ?_) | (with_reducible refine le_drewN ?_) | omega))) _) | (with_reducible refine Below.up ?_ (by (repeat (first | (with_reducible exact Nat.le_refl _) | (with_reducible assumption) | (with_reducible refine le_up ?_) | (with_reducible refine le_alloc ?_) | (with_reducible refine le_setCell ?_) | (with_reducible refine le_drew ?_) | (with_reducible refine le_drewN ?_) | omega)))))))⟩

set_option maxRecDepth 100000 in
set_option maxHeartbeats 800000 in
theorem rRaise_any (y : Nat) (f : Int → Option MarkT) (s : Int) (m : MarkT) (w : World) (h : RefT w y f) :
    Calls Try.prog 66 #[.pointer (some ⟨y, 0, none⟩), .int .i64 s, .agg #[.int .u32 m.1, .int .u64 m.2]] w (RTakeR w y (raiseE s) (takeF f s m)) := by
  have H := Lib.hid h
  haveI : LtSize y w := ⟨h.row.lt⟩
  have hneq : ¬ y = w.heap.size := by have := h.row.lt; omega
  clear h
  obtain ⟨m1, m2⟩ := m
  cases hs : srcOK s
  · rw [takeF_out hs, show raiseE s = 2 by simp [raiseE, hs]]
    go_enter Try.func66, Try.ntmps66
    go_wp2_with (go_at_call 67; refine (rTake_any y f s (m1, m2) _ H.out.alloc).mono ?_; rintro e w1 ⟨he, ht, hg⟩; rw [mayE_out hs] at he; subst he; rw [takeF_out hs] at ht; have HT := Lib.hid ht; have HG := Lib.hid hg; clear ht hg)
    go_ret
    exact ⟨rfl, HT.out, grownBy_trans (grownBy_below (some y) (by (repeat (first | (with_reducible exact Below.refl _ _) | (with_reducible assumption) | (with_reducible refine Below.alloc ?_ (by (repeat (first | (with_reducible exact Nat.le_refl _) | (with_reducible assumption) | (with_reducible refine le_up ?_) | (with_reducible refine le_alloc ?_) | (with_reducible refine le_setCell ?_) | (with_reducible refine le_drew ?_) | (with_reducible refine le_drewN ?_) | omega))) _) | (with_reducible refine Below.drew ?_) | (with_reducible refine Below.drewN ?_ _) | (with_reducible refine Below.setCell ?_ (by (repeat (first | (with_reducible exact Nat.le_refl _) | (with_reducible assumption) | (with_reducible refine le_up ?_) | (with_reducible refine le_alloc ?_) | (with_reducible refine le_setCell ?_) | (with_reducible refine le_drew ?_) | (with_reducible refine le_drewN ?_) | omega))) _) | (with_reducible refine Below.up ?_ (by (repeat (first | (with_reducible exact Nat.le_refl _) | (with_reducible assumption) | (with_reducible refine le_up ?_) | (with_reducible refine le_alloc ?_) | (with_reducible refine le_setCell ?_) | (with_reducible refine le_drew ?_) | (with_reducible refine le_drewN ?_) | omega)))))))) HG.out⟩
  · rw [show raiseE s = 0 by simp [raiseE, hs]]
    have hm : mayE f s (m1, m2) = 0 ∨ mayE f s (m1, m2) = 170 := by rw [mayE_ok hs]; split <;> simp
    rcases hm with hm | hm
    · go_enter Try.func66, Try.ntmps66
      go_wp2_with (go_at_call 67; refine (rTake_any y f s (m1, m2) _ H.out.alloc).mono ?_; rintro e w1 ⟨he, ht, hg⟩; rw [hm] at he; subst he; have HT := Lib.hid ht; have HG := Lib.hid hg; clear ht hg)
      go_ret
      exact ⟨rfl, HT.out, grownBy_trans (grownBy_below (some y) (by (repeat (first | (with_reducible exact Below.refl _ _) | (with_reducible assumption) | (with_reducible refine Below.alloc ?_ (by (repeat (first | (with_reducible exact Nat.le_refl _) | (with_reducible assumption) | (with_reducible refine le_up ?_) | (with_reducible refine le_alloc ?_) | (with_reducible refine le_setCell ?_) | (with_reducible refine le_drew ?_) | (with_reducible refine le_drewN ?_) | omega))) _) | (with_reducible refine Below.drew ?_) | (with_reducible refine Below.drewN ?_ _) | (with_reducible refine Below.setCell ?_ (by (repeat (first | (with_reducible exact Nat.le_refl _) | (with_reducible assumption) | (with_reducible refine le_up ?_) | (with_reducible refine le_alloc ?_) | (with_reducible refine le_setCell ?_) | (with_reducible refine le_drew ?_) | (with_reducible refine le_drewN ?_) | omega))) _) | (with_reducible refine Below.up ?_ (by (repeat (first | (with_reducible exact Nat.le_refl _) | (with_reducible assumption) | (with_reducible refine le_up ?_) | (with_reducible refine le_alloc ?_) | (with_reducible refine le_setCell ?_) | (with_reducible refine le_drew ?_) | (with_reducible refine le_drewN ?_) | omega)))))))) HG.out⟩
    · go_enter Try.func66, Try.ntmps66
      go_wp2_with (go_at_call 67; refine (rTake_any y f s (m1, m2) _ H.out.alloc).mono ?_; rintro e w1 ⟨he, ht, hg⟩; rw [hm] at he; subst he; have HT := Lib.hid ht; have HG := Lib.hid hg; clear ht hg)
      go_ret
      exact ⟨rfl, HT.out, grownBy_trans (grownBy_below (some y) (by (repeat (first | (with_reducible exact Below.refl _ _) | (with_reducible assumption) | (with_reducible refine Below.alloc ?_ (by (repeat (first | (with_reducible exact Nat.le_refl _) | (with_reducible assumption) | (with_reducible refine le_up ?_) | (with_reducible refine le_alloc ?_) | (with_reducible refine le_setCell ?_) | (with_reducible refine le_drew ?_) | (with_reducible refine le_drewN ?_) | omega))) _) | (with_reducible refine Below.drew ?_) | (with_reducible refine Below.drewN ?_ _) | (with_reducible refine Below.setCell ?_ (by (repeat (first | (with_reducible exact Nat.le_refl _) | (with_reducible assumption) | (with_reducible refine le_up ?_) | (with_reducible refine le_alloc ?_) | (with_reducible refine le_setCell ?_) | (with_reducible refine le_drew ?_) | (with_reducible refine le_drewN ?_) | omega))) _) | (with_reducible refine Below.up ?_ (by (repeat (first | (with_reducible exact Nat.le_refl _) | (with_reducible assumption) | (with_reducible refine le_up ?_) | (with_reducible refine le_alloc ?_) | (with_reducible refine le_setCell ?_) | (with_reducible refine le_drew ?_) | (with_reducible refine le_drewN ?_) | omega)))))))) HG.out⟩
end Go.Proofs.Ytbfloidogdjccaa
