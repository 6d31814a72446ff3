/-
  The walks over the replay layer.
-/
import Derived.Test.YtbfloidogdjccaaTabW
namespace Go.Proofs.Ytbfloidogdjccaa
open Go.RowKit Go.Maps

/-- Is a mark greater than another one? -/
def grB (a b : MarkT) : Bool := decide (b.1 < a.1 ∨ a.1 = b.1 ∧ b.2 < a.2)
theorem Greater_any (a b c d : Int) (w : World) :
    Calls Try.prog 36 #[.agg #[.int .u32 a, .int .u64 b], .agg #[.int .u32 c, .int .u64 d]] w (Gives w (.bool (grB (a, b) (c, d)))) := by
  by_cases h : a = c
  · subst h
    go_enter Try.func36, Try.ntmps36
    go_wp2
    go_ret
    exact Gives.mk (ret_bool (by unfold grB; rw [decide_eq_decide]; simp)) (by (repeat (first | (with_reducible exact Below.refl _ _) | (with_reducible assumption) | (with_reducible refine Below.alloc ?_ (by (repeat (first | (with_reducible exact Nat.le_refl _) | (with_reducible assumption) | (with_reducible refine le_up ?_) | (with_reducible refine le_alloc ?_) | (with_reducible refine le_setCell ?_) | (with_reducible refine le_drew ?_) | (with_reducible refine le_drewN ?_) | omega))) _) | (with_reducible refine Below.drew ?_) | (with_reducible refine Below.drewN ?_ _) | (with_reducible refine Below.setCell ?_ (by (repeat (first | (with_reducible exact Nat.le_refl _) | (with_reducible assumption) | (with_reducible refine le_up ?_) | (with_reducible refine le_alloc ?_) | (with_reducible refine le_setCell ?_) | (with_reducible refine le_drew ?_) | (with_reducible refine le_drewN ?_) | omega))) _) | (with_reducible refine Below.up ?_ (by (repeat (first | (with_reducible exact Nat.le_refl _) | (with_reducible assumption) | (with_reducible refine le_up ?_) | (with_reducible refine le_alloc ?_) | (with_reducible refine le_setCell ?_) | (with_reducible refine le_drew ?_) | (with_reducible refine le_drewN ?_) | omega)))))))
  · have h' : (a == c) = false := by simpa using h
    go_enter Try.func36, Try.ntmps36
    go_wp2
    go_ret
    exact Gives.mk (ret_bool (by unfold grB; rw [decide_eq_decide]; simp; omega)) (by (repeat (first | (with_reducible exact Below.refl _ _) | (with_reducible assumption) | (with_reducible refine Below.alloc ?_ (by (repeat (first | (with_reducible exact Nat.le_refl _) | (with_reducible assumption) | (with_reducible refine le_up ?_) | (with_reducible refine le_alloc ?_) | (with_reducible refine le_setCell ?_) | (with_reducible refine le_drew ?_) | (with_reducible refine le_drewN ?_) | omega))) _) | (with_reducible refine Below.drew ?_) | (with_reducible refine Below.drewN ?_ _) | (with_reducible refine Below.setCell ?_ (by (repeat (first | (with_reducible exact Nat.le_refl _) | (with_reducible assumption) | (with_reducible refine le_up ?_) | (with_reducible refine le_alloc ?_) | (with_reducible refine le_setCell ?_) | (with_reducible refine le_drew ?_) | (with_reducible refine le_drewN ?_) | omega))) _) | (with_reducible refine Below.up ?_ (by (repeat (first | (with_reducible exact Nat.le_refl _) | (with_reducible assumption) | (with_reducible refine le_up ?_) | (with_reducible refine le_alloc ?_) | (with_reducible refine le_setCell ?_) | (with_reducible refine le_drew ?_) | (with_reducible refine le_drewN ?_) | omega)))))))

/-- A table: its cell at c leads to the map b, which holds the marks f. -/
structure ObjT (w : World) (c b n : Nat) (f : Int → Option MarkT) : Prop where
  cell : w.cell? ⟨c, 0, none⟩ = some (.map (some b))
  lt : c < w.heap.size
  ne : c ≠ b
  tab : TabAt w b n f
theorem ObjT.up {w x : World} {c b n : Nat} {f : Int → Option MarkT} (h : ObjT w c b n f) : ObjT (up w x) c b n f :=
  ⟨by rw [(up_below w x).cell (p := ⟨c, 0, none⟩) h.lt]; exact h.cell, Nat.lt_of_lt_of_le h.lt (up_size w x), h.ne, h.tab.up⟩
theorem ObjT.alloc {w : World} {o : Obj} {c b n : Nat} {f : Int → Option MarkT} (h : ObjT w c b n f) : ObjT (w.alloc o) c b n f :=
  ⟨by rw [World.cell?_of_block (a := ⟨c, 0, none⟩) (Below.heap_alloc w o c h.lt)]; exact h.cell, by have := h.lt; rw [World.size_alloc]; omega, h.ne, h.tab.alloc o⟩

theorem is_t (c b n : Nat) (f : Int → Option MarkT) (w : World) (h : ObjT w c b n f) :
    Calls Try.prog 64 #[.pointer (some ⟨c, 0, none⟩)] w (Tells w (.bool true)) := by
  have hc := h.cell
  have hn := fun W => run_neq_map_nil (P := Try.prog) W 77 3 56 (some b) Try.underlying77
  clear h
  go_enter Try.func64, Try.ntmps64
  go_wp2
  go_ret
  exact Tells.mk rfl
theorem is_nil (w : World) :
    Calls Try.prog 64 #[.pointer none] w (Tells w (.bool false)) := by
  have hn := fun W => run_neq_map_nil (P := Try.prog) W 77 3 56 none Try.underlying77
  go_enter Try.func64, Try.ntmps64
  go_wp2
  go_ret
  exact Tells.mk rfl
theorem is_void (c : Nat) (w : World) (hc : w.cell? ⟨c, 0, none⟩ = some (.map none)) :
    Calls Try.prog 64 #[.pointer (some ⟨c, 0, none⟩)] w (Tells w (.bool false)) := by
  have hn := fun W => run_neq_map_nil (P := Try.prog) W 77 3 56 none Try.underlying77
  go_enter Try.func64, Try.ntmps64
  go_wp2
  go_ret
  exact Tells.mk rfl

def srcOK (s : Int) : Bool := decide (0 ≤ s ∧ s < 8)
theorem src_of {s : Int} (h : srcOK s = true) : 0 ≤ s ∧ s < 8 := by simpa [srcOK] using h
theorem may_t (c b n : Nat) (f : Int → Option MarkT) (s : Int) (w : World) (h : ObjT w c b n f) (hs : srcOK s = true) :
    Calls Try.prog 58 #[.pointer (some ⟨c, 0, none⟩), .int .i64 s] w (Tells w (.int .i64 0)) := by
  obtain ⟨s1, s2⟩ := src_of hs
  have H := Lib.hid h
  clear h hs
  go_enter Try.func58, Try.ntmps58
  go_wp2_with (go_at_call 64; refine (is_t _ _ _ _ _ H.out).mono ?_; rintro e w1 ⟨rfl, rfl⟩)
  go_ret
  exact Tells.mk rfl
theorem may_f (c b n : Nat) (f : Int → Option MarkT) (s : Int) (w : World) (h : ObjT w c b n f) (hs : srcOK s = false) :
    Calls Try.prog 58 #[.pointer (some ⟨c, 0, none⟩), .int .i64 s] w (Tells w (.int .i64 2)) := by
  have hs' : ¬ (0 ≤ s ∧ s < 8) := by simpa [srcOK] using hs
  have H := Lib.hid h
  clear h hs
  by_cases s1 : s < 0
  all_goals
    go_enter Try.func58, Try.ntmps58
    go_wp2_with (go_at_call 64; refine (is_t _ _ _ _ _ H.out).mono ?_; rintro e w1 ⟨rfl, rfl⟩)
    all_goals
      go_ret
      exact Tells.mk rfl
theorem may_nil (s : Int) (w : World) :
    Calls Try.prog 58 #[.pointer none, .int .i64 s] w (Tells w (.int .i64 1)) := by
  go_enter Try.func58, Try.ntmps58
  go_wp2_with (go_at_call 64; refine (is_nil _).mono ?_; rintro e w1 ⟨rfl, rfl⟩)
  go_ret
  exact Tells.mk rfl
theorem may_void (c : Nat) (s : Int) (w : World) (hc : w.cell? ⟨c, 0, none⟩ = some (.map none)) :
    Calls Try.prog 58 #[.pointer (some ⟨c, 0, none⟩), .int .i64 s] w (Tells w (.int .i64 1)) := by
  go_enter Try.func58, Try.ntmps58
  go_wp2_with (go_at_call 64; refine (is_void _ _ hc).mono ?_; rintro e w1 ⟨rfl, rfl⟩)
  go_ret
  exact Tells.mk rfl

/-- What May answers of a table. -/
def mayE (f : Int → Option MarkT) (s : Int) (m : MarkT) : Int := if srcOK s then (match f s with | some l => if grB m l then 0 else 170 | none => 0) else 2
theorem mayE_out {f : Int → Option MarkT} {s : Int} {m : MarkT} (h : srcOK s = false) : mayE f s m = 2 := by simp [mayE, h]
theorem mayE_new {f : Int → Option MarkT} {s : Int} {m : MarkT} (h : srcOK s = true) (hf : f s = none) : mayE f s m = 0 := by simp [mayE, h, hf]
theorem mayE_gr {f : Int → Option MarkT} {s : Int} {m l : MarkT} (h : srcOK s = true) (hf : f s = some l) (hg : grB m l = true) : mayE f s m = 0 := by simp [mayE, h, hf, hg]
theorem mayE_no {f : Int → Option MarkT} {s : Int} {m l : MarkT} (h : srcOK s = true) (hf : f s = some l) (hg : grB m l = false) : mayE f s m = 170 := by simp [mayE, h, hf, hg]

set_option maxHeartbeats 800000 in
theorem May_any (c b n : Nat) (f : Int → Option MarkT) (s : Int) (m : MarkT) (w : World) (h : ObjT w c b n f) :
    Calls Try.prog 37 #[.pointer (some ⟨c, 0, none⟩), .int .i64 s, .agg #[.int .u32 m.1, .int .u64 m.2]] w (Gives w (.int .i64 (mayE f s m))) := by
  obtain ⟨m1, m2⟩ := m
  have H := Lib.hid h
  have hc := h.cell
  haveI : LtSize c w := ⟨h.lt⟩
  have hneq : ¬ c = w.heap.size := by have := h.lt; omega
  clear h
  cases hs : srcOK s
  · rw [mayE_out hs]
    go_enter Try.func37, Try.ntmps37
    go_wp2_with (go_at_call 58; refine (may_f _ _ _ _ _ _ H.out.alloc hs).mono ?_; rintro e w1 ⟨rfl, rfl⟩)
    go_ret
    exact Gives.mk rfl (by (repeat (first | (with_reducible exact Below.refl _ _) | (with_reducible assumption) | (with_reducible refine Below.alloc ?_ (by (repeat (first | (with_reducible exact Nat.le_refl _) | (with_reducible assumption) | (with_reducible refine le_up ?_) | (with_reducible refine le_alloc ?_) | (with_reducible refine le_setCell ?_) | (with_reducible refine le_drew ?_) | (with_reducible refine le_drewN ?_) | omega))) _) | (with_reducible refine Below.drew ?_) | (with_reducible refine Below.drewN ?_ _) | (with_reducible refine Below.setCell ?_ (by (repeat (first | (with_reducible exact Nat.le_refl _) | (with_reducible assumption) | (with_reducible refine le_up ?_) | (with_reducible refine le_alloc ?_) | (with_reducible refine le_setCell ?_) | (with_reducible refine le_drew ?_) | (with_reducible refine le_drewN ?_) | omega))) _) | (with_reducible refine Below.up ?_ (by (repeat (first | (with_reducible exact Nat.le_refl _) | (with_reducible assumption) | (with_reducible refine le_up ?_) | (with_reducible refine le_alloc ?_) | (with_reducible refine le_setCell ?_) | (with_reducible refine le_drew ?_) | (with_reducible refine le_drewN ?_) | omega)))))))
  · obtain ⟨s1, s2⟩ := src_of hs
    cases hf : f s with
    | none =>
      rw [mayE_new hs hf]
      have e1 : (f s).getD (0, 0) = (0, 0) := by rw [hf]; rfl
      have e2 : (f s).isSome = false := by rw [hf]; rfl
      have E1 := Lib.hid e1
      have E2 := Lib.hid e2
      clear hf e1 e2
      go_enter Try.func37, Try.ntmps37
      go_wp2_with (first | (go_at_call 58; refine (may_t _ _ _ _ _ _ H.out.alloc hs).mono ?_; rintro e w1 ⟨rfl, rfl⟩) | (at_lookup; refine wpList_lookup_tab rfl _ _ rfl b n f rfl H.out.alloc.tab s rfl (by omega) (by omega) ?_; rw [E1.out, E2.out]; unfold mkV))
      go_ret
      exact Gives.mk rfl (by (repeat (first | (with_reducible exact Below.refl _ _) | (with_reducible assumption) | (with_reducible refine Below.alloc ?_ (by (repeat (first | (with_reducible exact Nat.le_refl _) | (with_reducible assumption) | (with_reducible refine le_up ?_) | (with_reducible refine le_alloc ?_) | (with_reducible refine le_setCell ?_) | (with_reducible refine le_drew ?_) | (with_reducible refine le_drewN ?_) | omega))) _) | (with_reducible refine Below.drew ?_) | (with_reducible refine Below.drewN ?_ _) | (with_reducible refine Below.setCell ?_ (by (repeat (first | (with_reducible exact Nat.le_refl _) | (with_reducible assumption) | (with_reducible refine le_up ?_) | (with_reducible refine le_alloc ?_) | (with_reducible refine le_setCell ?_) | (with_reducible refine le_drew ?_) | (with_reducible refine le_drewN ?_) | omega))) _) | (with_reducible refine Below.up ?_ (by (repeat (first | (with_reducible exact Nat.le_refl _) | (with_reducible assumption) | (with_reducible refine le_up ?_) | (with_reducible refine le_alloc ?_) | (with_reducible refine le_setCell ?_) | (with_reducible refine le_drew ?_) | (with_reducible refine le_drewN ?_) | omega)))))))
    | some l =>
      obtain ⟨l1, l2⟩ := l
      have E1 := Lib.hid (show (f s).getD (0, 0) = (l1, l2) by rw [hf]; rfl)
      have E2 := Lib.hid (show (f s).isSome = true by rw [hf]; rfl)
      cases hg : grB (m1, m2) (l1, l2)
      · rw [mayE_no hs hf hg]
        clear hf
        go_enter Try.func37, Try.ntmps37
        go_wp2_with (first | (go_at_call 58; refine (may_t _ _ _ _ _ _ H.out.alloc hs).mono ?_; rintro e w1 ⟨rfl, rfl⟩) | (go_at_call 36; (first | with_reducible refine Calls.fold (Greater_any _ _ _ _ _) ?_ | with_reducible refine Calls.fresh (Greater_any _ _ _ _ _) ?_); intro x1) | (at_lookup; refine wpList_lookup_tab rfl _ _ rfl b n f rfl H.out.alloc.tab s rfl (by omega) (by omega) ?_; rw [E1.out, E2.out]; unfold mkV))
        go_ret
        exact Gives.mk rfl (by (repeat (first | (with_reducible exact Below.refl _ _) | (with_reducible assumption) | (with_reducible refine Below.alloc ?_ (by (repeat (first | (with_reducible exact Nat.le_refl _) | (with_reducible assumption) | (with_reducible refine le_up ?_) | (with_reducible refine le_alloc ?_) | (with_reducible refine le_setCell ?_) | (with_reducible refine le_drew ?_) | (with_reducible refine le_drewN ?_) | omega))) _) | (with_reducible refine Below.drew ?_) | (with_reducible refine Below.drewN ?_ _) | (with_reducible refine Below.setCell ?_ (by (repeat (first | (with_reducible exact Nat.le_refl _) | (with_reducible assumption) | (with_reducible refine le_up ?_) | (with_reducible refine le_alloc ?_) | (with_reducible refine le_setCell ?_) | (with_reducible refine le_drew ?_) | (with_reducible refine le_drewN ?_) | omega))) _) | (with_reducible refine Below.up ?_ (by (repeat (first | (with_reducible exact Nat.le_refl _) | (with_reducible assumption) | (with_reducible refine le_up ?_) | (with_reducible refine le_alloc ?_) | (with_reducible refine le_setCell ?_) | (with_reducible refine le_drew ?_) | (with_reducible refine le_drewN ?_) | omega)))))))
      · rw [mayE_gr hs hf hg]
        clear hf
        go_enter Try.func37, Try.ntmps37
        go_wp2_with (first | (go_at_call 58; refine (may_t _ _ _ _ _ _ H.out.alloc hs).mono ?_; rintro e w1 ⟨rfl, rfl⟩) | (go_at_call 36; (first | with_reducible refine Calls.fold (Greater_any _ _ _ _ _) ?_ | with_reducible refine Calls.fresh (Greater_any _ _ _ _ _) ?_); intro x1) | (at_lookup; refine wpList_lookup_tab rfl _ _ rfl b n f rfl H.out.alloc.tab s rfl (by omega) (by omega) ?_; rw [E1.out, E2.out]; unfold mkV))
        go_ret
        exact Gives.mk rfl (by (repeat (first | (with_reducible exact Below.refl _ _) | (with_reducible assumption) | (with_reducible refine Below.alloc ?_ (by (repeat (first | (with_reducible exact Nat.le_refl _) | (with_reducible assumption) | (with_reducible refine le_up ?_) | (with_reducible refine le_alloc ?_) | (with_reducible refine le_setCell ?_) | (with_reducible refine le_drew ?_) | (with_reducible refine le_drewN ?_) | omega))) _) | (with_reducible refine Below.drew ?_) | (with_reducible refine Below.drewN ?_ _) | (with_reducible refine Below.setCell ?_ (by (repeat (first | (with_reducible exact Nat.le_refl _) | (with_reducible assumption) | (with_reducible refine le_up ?_) | (with_reducible refine le_alloc ?_) | (with_reducible refine le_setCell ?_) | (with_reducible refine le_drew ?_) | (with_reducible refine le_drewN ?_) | omega))) _) | (with_reducible refine Below.up ?_ (by (repeat (first | (with_reducible exact Nat.le_refl _) | (with_reducible assumption) | (with_reducible refine le_up ?_) | (with_reducible refine le_alloc ?_) | (with_reducible refine le_setCell ?_) | (with_reducible refine le_drew ?_) | (with_reducible refine le_drewN ?_) | omega)))))))
end Go.Proofs.Ytbfloidogdjccaa
