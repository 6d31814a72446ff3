/-
  The walks over the replay layer, continued: New, Take, Last, Raise; tables that no call made; the chapter's example.
-/
import Derived.Test.YtbfloidogdjccaaRepW
import Derived.StillTailTactics
namespace Go.Proofs.Ytbfloidogdjccaa
open Go.RowKit Go.Maps

theorem grownBy_up {w x : World} (row : Option Nat) : w.grownBy (up w x) row := ⟨(up_below w x).os, (up_below w x).tape, (up_below w x).output, (up_below w x).size, fun k hk _ => (up_below w x).block k hk⟩
theorem grownBy_below {w x : World} (row : Option Nat) (h : Below w.heap.size w x) : w.grownBy x row := ⟨h.os, h.tape, h.output, h.size, fun k hk _ => h.block k hk⟩
theorem grownBy_trans {a b c : World} {row : Option Nat} (h : a.grownBy b row) (k : b.grownBy c row) : a.grownBy c row :=
  ⟨k.os.trans h.os, k.tape.trans h.tape, k.output.trans h.output, Nat.le_trans h.size k.size, fun i hi hne => (k.block i (Nat.lt_of_lt_of_le hi h.size) hne).trans (h.block i hi hne)⟩
theorem ObjT.drew {w : World} {c b n : Nat} {f : Int → Option MarkT} (h : ObjT w c b n f) : ObjT w.drew c b n f := ⟨h.cell, h.lt, h.ne, h.tab⟩
theorem ObjT.grown {w w' : World} {c b n n' : Nat} {f f' : Int → Option MarkT} (h : ObjT w c b n f) (hg : w.grownBy w' (some b)) (ht : TabAt w' b n' f') : ObjT w' c b n' f' :=
  ⟨by rw [World.cell?_of_block (a := ⟨c, 0, none⟩) (hg.block c h.lt (fun e => h.ne (by simpa using e)))]; exact h.cell, Nat.lt_of_lt_of_le h.lt hg.size, h.ne, ht⟩

/-- A new table. -/
theorem New_any (w : World) : Calls Try.prog 33 #[] w fun e w' => ∃ c b : Nat, e = .returned (.pointer (some ⟨c, 0, none⟩)) ∧ w.heap.size ≤ b ∧ w.heap.size ≤ c ∧ ObjT w' c b 0 (fun _ => none) ∧ Below w.heap.size w w' := by
  have hmm := @run_makeMap Try.prog
  go_enter Try.func33, Try.ntmps33
  go_wp2
  go_ret
  refine ⟨_, w.heap.size, rfl, Nat.le_refl _, by omega, ⟨?_, by simp, by omega, (TabAt.new w).alloc _⟩, by (repeat (first | (with_reducible exact Below.refl _ _) | (with_reducible assumption) | (with_reducible refine Below.alloc ?_ (by (repeat (first | (with_reducible exact Nat.le_refl _) | (with_reducible assumption) | (with_reducible refine le_up ?_) | (with_reducible refine le_alloc ?_) | (with_reducible refine le_setCell ?_) | (with_reducible refine le_drew ?_) | (with_reducible refine le_drewN ?_) | omega))) _) | (with_reducible refine Below.drew ?_) | (with_reducible refine Below.drewN ?_ _) | (with_reducible refine Below.setCell ?_ (by (repeat (first | (with_reducible exact Nat.le_refl _) | (with_reducible assumption) | (with_reducible refine le_up ?_) | (with_reducible refine le_alloc ?_) | (with_reducible refine le_setCell ?_) | (with_reducible refine le_drew ?_) | (with_reducible refine le_drewN ?_) | omega))) _) | (with_reducible refine Below.up ?_ (by (repeat (first | (with_reducible exact Nat.le_refl _) | (with_reducible assumption) | (with_reducible refine le_up ?_) | (with_reducible refine le_alloc ?_) | (with_reducible refine le_setCell ?_) | (with_reducible refine le_drew ?_) | (with_reducible refine le_drewN ?_) | omega))))))⟩
  simp

/-- Behind Take, Raise: the answer, and the marks then. -/
def TakeR (w : World) (c b n : Nat) (code : Int) (f : Int → Option MarkT) (e : Ending) (w' : World) : Prop := ∃ n', e = .returned (.int .i64 code) ∧ n' ≤ n + 1 ∧ ObjT w' c b n' f ∧ w.grownBy w' (some b)
def takeF (f : Int → Option MarkT) (s : Int) (m : MarkT) : Int → Option MarkT := if mayE f s m = 0 then updT f s m else f
theorem mayE_src {f : Int → Option MarkT} {s : Int} {m : MarkT} (h : mayE f s m = 0) : 0 ≤ s ∧ s < 8 := by
  cases hs : srcOK s
  · rw [mayE_out hs] at h; cases h
  · exact src_of hs

set_option maxRecDepth 100000 in
set_option maxHeartbeats 800000 in
theorem Take_any (c b n : Nat) (f : Int → Option MarkT) (s : Int) (m : MarkT) (w : World) (h : ObjT w c b n f) (hn : n < 1000000) :
    Calls Try.prog 35 #[.pointer (some ⟨c, 0, none⟩), .int .i64 s, .agg #[.int .u32 m.1, .int .u64 m.2]] w (TakeR w c b n (mayE f s m) (takeF f s m)) := by
  have H := Lib.hid h
  have hc := h.cell
  haveI : LtSize c w := ⟨h.lt⟩
  have hneq : ¬ c = w.heap.size := by have := h.lt; omega
  clear h
  by_cases he : mayE f s m = 0
  · have hT : takeF f s m = updT f s m := if_pos he
    obtain ⟨s1, s2⟩ := mayE_src he
    rw [hT]
    clear hT
    obtain ⟨m1, m2⟩ := m
    go_enter Try.func35, Try.ntmps35
    go_wp2_with (go_at_call 37; (first | with_reducible refine Calls.fold (May_any c b n f s (m1, m2) _ H.out.alloc) ?_ | with_reducible refine Calls.fresh (May_any c b n f s (m1, m2) _ H.out.alloc) ?_); intro x1)
    (refine wp_region_tail 6 (by kernel_rfl) (by kernel_rfl) ?_; simp only [List.take_succ_cons, List.take_zero, List.drop_succ_cons, List.drop_zero]; still_step; still_step; still_step; still_step; still_step; still_step; (with_reducible refine wpStill_nil ?_))
    refine wpList_store_tab rfl _ _ _ rfl b n f rfl H.out.alloc.up.tab.drew s rfl (by omega) (by omega) (m1, m2) rfl (by omega) ?_
    intro w2 ht hg
    have HT := Lib.hid ht
    have HG := Lib.hid hg
    clear ht hg
    go_wp2_with fail
    go_ret
    refine ⟨n + 1, ret_int he.symm, Nat.le_refl _, ?_, ?_⟩
    · exact (H.out.alloc.up.drew).grown HG.out HT.out
    · exact grownBy_trans (grownBy_below (some b) (by (repeat (first | (with_reducible exact Below.refl _ _) | (with_reducible assumption) | (with_reducible refine Below.alloc ?_ (by (repeat (first | (with_reducible exact Nat.le_refl _) | (with_reducible assumption) | (with_reducible refine le_up ?_) | (with_reducible refine le_alloc ?_) | (with_reducible refine le_setCell ?_) | (with_reducible refine le_drew ?_) | (with_reducible refine le_drewN ?_) | omega))) _) | (with_reducible refine Below.drew ?_) | (with_reducible refine Below.drewN ?_ _) | (with_reducible refine Below.setCell ?_ (by (repeat (first | (with_reducible exact Nat.le_refl _) | (with_reducible assumption) | (with_reducible refine le_up ?_) | (with_reducible refine le_alloc ?_) | (with_reducible refine le_setCell ?_) | (with_reducible refine le_drew ?_) | (with_reducible refine le_drewN ?_) | omega))) _) | (with_reducible refine Below.up ?_ (by (repeat (first | (with_reducible exact Nat.le_refl _) | (with_reducible assumption) | (with_reducible refine le_up ?_) | (with_reducible refine le_alloc ?_) | (with_reducible refine le_setCell ?_) | (with_reducible refine le_drew ?_) | (with_reducible refine le_drewN ?_) | omega)))))))) HG.out
  · have hT : takeF f s m = f := if_neg he
    have heb : (mayE f s m == 0) = false := by simpa using he
    rw [hT]
    clear hT he
    obtain ⟨m1, m2⟩ := m
    go_enter Try.func35, Try.ntmps35
    go_wp2_with (go_at_call 37; (first | with_reducible refine Calls.fold (May_any c b n f s (m1, m2) _ H.out.alloc) ?_ | with_reducible refine Calls.fresh (May_any c b n f s (m1, m2) _ H.out.alloc) ?_); intro x1)
    go_ret
    exact ⟨n, rfl, by omega, H.out.alloc.up, grownBy_below (some b) (by (repeat (first | (with_reducible exact Below.refl _ _) | (with_reducible assumption) | (with_reducible refine Below.alloc ?_ (by (repeat (first | (with_reducible exact Nat.le_refl _) | (with_reducible assumption) | (with_reducible refine le_up ?_) | (with_reducible refine le_alloc ?_) | (with_reducible refine le_setCell ?_) | (with_reducible refine le_drew ?_) | (with_reducible refine le_drewN ?_) | omega))) _) | (with_reducible refine Below.drew ?_) | (with_reducible refine Below.drewN ?_ _) | (with_reducible refine Below.setCell ?_ (by (repeat (first | (with_reducible exact Nat.le_refl _) | (with_reducible assumption) | (with_reducible refine le_up ?_) | (with_reducible refine le_alloc ?_) | (with_reducible refine le_setCell ?_) | (with_reducible refine le_drew ?_) | (with_reducible refine le_drewN ?_) | omega))) _) | (with_reducible refine Below.up ?_ (by (repeat (first | (with_reducible exact Nat.le_refl _) | (with_reducible assumption) | (with_reducible refine le_up ?_) | (with_reducible refine le_alloc ?_) | (with_reducible refine le_setCell ?_) | (with_reducible refine le_drew ?_) | (with_reducible refine le_drewN ?_) | omega)))))))⟩

/-- What Last answers: the mark, or noughts. -/
theorem Last_any (c b n : Nat) (f : Int → Option MarkT) (s : Int) (w : World) (h : ObjT w c b n f) (h1 : -9223372036854775808 ≤ s) (h2 : s ≤ 9223372036854775807) :
    Calls Try.prog 48 #[.pointer (some ⟨c, 0, none⟩), .int .i64 s] w (Gives w (.tuple #[.agg #[.int .u32 ((f s).getD (0, 0)).1, .int .u64 ((f s).getD (0, 0)).2], .bool (f s).isSome])) := by
  have H := Lib.hid h
  have hc := h.cell
  haveI : LtSize c w := ⟨h.lt⟩
  have hneq : ¬ c = w.heap.size := by have := h.lt; omega
  clear h
  generalize hfs : (f s).getD (0, 0) = l
  generalize hft : (f s).isSome = t
  obtain ⟨l1, l2⟩ := l
  have E1 := Lib.hid hfs
  have E2 := Lib.hid hft
  clear hfs hft
  go_enter Try.func48, Try.ntmps48
  go_wp2_with (first | (go_at_call 64; refine (is_t _ _ _ _ _ H.out.alloc).mono ?_; rintro e w1 ⟨rfl, rfl⟩) | (at_lookup; refine wpList_lookup_tab rfl _ _ rfl b n f rfl H.out.alloc.tab s rfl h1 h2 ?_; rw [E1.out, E2.out]; unfold mkV))
  go_returns
  exact Gives.mk rfl (by (repeat (first | (with_reducible exact Below.refl _ _) | (with_reducible assumption) | (with_reducible refine Below.alloc ?_ (by (repeat (first | (with_reducible exact Nat.le_refl _) | (with_reducible assumption) | (with_reducible refine le_up ?_) | (with_reducible refine le_alloc ?_) | (with_reducible refine le_setCell ?_) | (with_reducible refine le_drew ?_) | (with_reducible refine le_drewN ?_) | omega))) _) | (with_reducible refine Below.drew ?_) | (with_reducible refine Below.drewN ?_ _) | (with_reducible refine Below.setCell ?_ (by (repeat (first | (with_reducible exact Nat.le_refl _) | (with_reducible assumption) | (with_reducible refine le_up ?_) | (with_reducible refine le_alloc ?_) | (with_reducible refine le_setCell ?_) | (with_reducible refine le_drew ?_) | (with_reducible refine le_drewN ?_) | omega))) _) | (with_reducible refine Below.up ?_ (by (repeat (first | (with_reducible exact Nat.le_refl _) | (with_reducible assumption) | (with_reducible refine le_up ?_) | (with_reducible refine le_alloc ?_) | (with_reducible refine le_setCell ?_) | (with_reducible refine le_drew ?_) | (with_reducible refine le_drewN ?_) | omega)))))))
theorem Last_nil (s : Int) (w : World) :
    Calls Try.prog 48 #[.pointer none, .int .i64 s] w (Gives w (.tuple #[.agg #[.int .u32 0, .int .u64 0], .bool false])) := by
  go_enter Try.func48, Try.ntmps48
  go_wp2_with (go_at_call 64; refine (is_nil _).mono ?_; rintro e w1 ⟨rfl, rfl⟩)
  go_returns
  exact Gives.mk rfl (by (repeat (first | (with_reducible exact Below.refl _ _) | (with_reducible assumption) | (with_reducible refine Below.alloc ?_ (by (repeat (first | (with_reducible exact Nat.le_refl _) | (with_reducible assumption) | (with_reducible refine le_up ?_) | (with_reducible refine le_alloc ?_) | (with_reducible refine le_setCell ?_) | (with_reducible refine le_drew ?_) | (with_reducible refine le_drewN ?_) | omega))) _) | (with_reducible refine Below.drew ?_) | (with_reducible refine Below.drewN ?_ _) | (with_reducible refine Below.setCell ?_ (by (repeat (first | (with_reducible exact Nat.le_refl _) | (with_reducible assumption) | (with_reducible refine le_up ?_) | (with_reducible refine le_alloc ?_) | (with_reducible refine le_setCell ?_) | (with_reducible refine le_drew ?_) | (with_reducible refine le_drewN ?_) | omega))) _) | (with_reducible refine Below.up ?_ (by (repeat (first | (with_reducible exact Nat.le_refl _) | (with_reducible assumption) | (with_reducible refine le_up ?_) | (with_reducible refine le_alloc ?_) | (with_reducible refine le_setCell ?_) | (with_reducible refine le_drew ?_) | (with_reducible refine le_drewN ?_) | omega)))))))
theorem Last_void (c : Nat) (s : Int) (w : World) [LtSize c w] (hc : w.cell? ⟨c, 0, none⟩ = some (.map none)) :
    Calls Try.prog 48 #[.pointer (some ⟨c, 0, none⟩), .int .i64 s] w (Gives w (.tuple #[.agg #[.int .u32 0, .int .u64 0], .bool false])) := by
  go_enter Try.func48, Try.ntmps48
  go_wp2_with (go_at_call 64; refine (is_void _ _ (by simpa using hc)).mono ?_; rintro e w1 ⟨rfl, rfl⟩)
  go_returns
  exact Gives.mk rfl (by (repeat (first | (with_reducible exact Below.refl _ _) | (with_reducible assumption) | (with_reducible refine Below.alloc ?_ (by (repeat (first | (with_reducible exact Nat.le_refl _) | (with_reducible assumption) | (with_reducible refine le_up ?_) | (with_reducible refine le_alloc ?_) | (with_reducible refine le_setCell ?_) | (with_reducible refine le_drew ?_) | (with_reducible refine le_drewN ?_) | omega))) _) | (with_reducible refine Below.drew ?_) | (with_reducible refine Below.drewN ?_ _) | (with_reducible refine Below.setCell ?_ (by (repeat (first | (with_reducible exact Nat.le_refl _) | (with_reducible assumption) | (with_reducible refine le_up ?_) | (with_reducible refine le_alloc ?_) | (with_reducible refine le_setCell ?_) | (with_reducible refine le_drew ?_) | (with_reducible refine le_drewN ?_) | omega))) _) | (with_reducible refine Below.up ?_ (by (repeat (first | (with_reducible exact Nat.le_refl _) | (with_reducible assumption) | (with_reducible refine le_up ?_) | (with_reducible refine le_alloc ?_) | (with_reducible refine le_setCell ?_) | (with_reducible refine le_drew ?_) | (with_reducible refine le_drewN ?_) | omega)))))))

/-! a table that no call made -/
theorem May_nil (s m1 m2 : Int) (w : World) :
    Calls Try.prog 37 #[.pointer none, .int .i64 s, .agg #[.int .u32 m1, .int .u64 m2]] w (Gives w (.int .i64 1)) := by
  go_enter Try.func37, Try.ntmps37
  go_wp2_with (go_at_call 58; refine (may_nil _ _).mono ?_; rintro e w1 ⟨rfl, rfl⟩)
  go_ret
  exact Gives.mk rfl (by (repeat (first | (with_reducible exact Below.refl _ _) | (with_reducible assumption) | (with_reducible refine Below.alloc ?_ (by (repeat (first | (with_reducible exact Nat.le_refl _) | (with_reducible assumption) | (with_reducible refine le_up ?_) | (with_reducible refine le_alloc ?_) | (with_reducible refine le_setCell ?_) | (with_reducible refine le_drew ?_) | (with_reducible refine le_drewN ?_) | omega))) _) | (with_reducible refine Below.drew ?_) | (with_reducible refine Below.drewN ?_ _) | (with_reducible refine Below.setCell ?_ (by (repeat (first | (with_reducible exact Nat.le_refl _) | (with_reducible assumption) | (with_reducible refine le_up ?_) | (with_reducible refine le_alloc ?_) | (with_reducible refine le_setCell ?_) | (with_reducible refine le_drew ?_) | (with_reducible refine le_drewN ?_) | omega))) _) | (with_reducible refine Below.up ?_ (by (repeat (first | (with_reducible exact Nat.le_refl _) | (with_reducible assumption) | (with_reducible refine le_up ?_) | (with_reducible refine le_alloc ?_) | (with_reducible refine le_setCell ?_) | (with_reducible refine le_drew ?_) | (with_reducible refine le_drewN ?_) | omega)))))))
theorem May_void (c : Nat) (s m1 m2 : Int) (w : World) [LtSize c w] (hc : w.cell? ⟨c, 0, none⟩ = some (.map none)) :
    Calls Try.prog 37 #[.pointer (some ⟨c, 0, none⟩), .int .i64 s, .agg #[.int .u32 m1, .int .u64 m2]] w (Gives w (.int .i64 1)) := by
  go_enter Try.func37, Try.ntmps37
  go_wp2_with (go_at_call 58; refine (may_void _ _ _ (by simpa using hc)).mono ?_; rintro e w1 ⟨rfl, rfl⟩)
  go_ret
  exact Gives.mk rfl (by (repeat (first | (with_reducible exact Below.refl _ _) | (with_reducible assumption) | (with_reducible refine Below.alloc ?_ (by (repeat (first | (with_reducible exact Nat.le_refl _) | (with_reducible assumption) | (with_reducible refine le_up ?_) | (with_reducible refine le_alloc ?_) | (with_reducible refine le_setCell ?_) | (with_reducible refine le_drew ?_) | (with_reducible refine le_drewN ?_) | omega))) _) | (with_reducible refine Below.drew ?_) | (with_reducible refine Below.drewN ?_ _) | (with_reducible refine Below.setCell ?_ (by (repeat (first | (with_reducible exact Nat.le_refl _) | (with_reducible assumption) | (with_reducible refine le_up ?_) | (with_reducible refine le_alloc ?_) | (with_reducible refine le_setCell ?_) | (with_reducible refine le_drew ?_) | (with_reducible refine le_drewN ?_) | omega))) _) | (with_reducible refine Below.up ?_ (by (repeat (first | (with_reducible exact Nat.le_refl _) | (with_reducible assumption) | (with_reducible refine le_up ?_) | (with_reducible refine le_alloc ?_) | (with_reducible refine le_setCell ?_) | (with_reducible refine le_drew ?_) | (with_reducible refine le_drewN ?_) | omega)))))))
theorem Take_nil (s m1 m2 : Int) (w : World) :
    Calls Try.prog 35 #[.pointer none, .int .i64 s, .agg #[.int .u32 m1, .int .u64 m2]] w (Gives w (.int .i64 1)) := by
  go_enter Try.func35, Try.ntmps35
  go_wp2_with (go_at_call 37; (first | with_reducible refine Calls.fold (May_nil _ _ _ _) ?_ | with_reducible refine Calls.fresh (May_nil _ _ _ _) ?_); intro x1)
  go_ret
  exact Gives.mk rfl (by (repeat (first | (with_reducible exact Below.refl _ _) | (with_reducible assumption) | (with_reducible refine Below.alloc ?_ (by (repeat (first | (with_reducible exact Nat.le_refl _) | (with_reducible assumption) | (with_reducible refine le_up ?_) | (with_reducible refine le_alloc ?_) | (with_reducible refine le_setCell ?_) | (with_reducible refine le_drew ?_) | (with_reducible refine le_drewN ?_) | omega))) _) | (with_reducible refine Below.drew ?_) | (with_reducible refine Below.drewN ?_ _) | (with_reducible refine Below.setCell ?_ (by (repeat (first | (with_reducible exact Nat.le_refl _) | (with_reducible assumption) | (with_reducible refine le_up ?_) | (with_reducible refine le_alloc ?_) | (with_reducible refine le_setCell ?_) | (with_reducible refine le_drew ?_) | (with_reducible refine le_drewN ?_) | omega))) _) | (with_reducible refine Below.up ?_ (by (repeat (first | (with_reducible exact Nat.le_refl _) | (with_reducible assumption) | (with_reducible refine le_up ?_) | (with_reducible refine le_alloc ?_) | (with_reducible refine le_setCell ?_) | (with_reducible refine le_drew ?_) | (with_reducible refine le_drewN ?_) | omega)))))))
set_option maxHeartbeats 800000 in
theorem Raise_void (c : Nat) (s m1 m2 : Int) (w : World) [LtSize c w] (hc : w.cell? ⟨c, 0, none⟩ = some (.map none)) :
    Calls Try.prog 34 #[.pointer (some ⟨c, 0, none⟩), .int .i64 s, .agg #[.int .u32 m1, .int .u64 m2]] w (Gives w (.int .i64 1)) := by
  go_enter Try.func34, Try.ntmps34
  go_wp2_with (first | (go_at_call 58; refine (may_void _ _ _ (by simpa using hc)).mono ?_; rintro e w1 ⟨rfl, rfl⟩) | (go_at_call 48; (first | with_reducible refine Calls.fold (Last_void _ _ _ (by simpa using hc)) ?_ | with_reducible refine Calls.fresh (Last_void _ _ _ (by simpa using hc)) ?_); intro x1))
  go_ret
  exact Gives.mk rfl (by (repeat (first | (with_reducible exact Below.refl _ _) | (with_reducible assumption) | (with_reducible refine Below.alloc ?_ (by (repeat (first | (with_reducible exact Nat.le_refl _) | (with_reducible assumption) | (with_reducible refine le_up ?_) | (with_reducible refine le_alloc ?_) | (with_reducible refine le_setCell ?_) | (with_reducible refine le_drew ?_) | (with_reducible refine le_drewN ?_) | omega))) _) | (with_reducible refine Below.drew ?_) | (with_reducible refine Below.drewN ?_ _) | (with_reducible refine Below.setCell ?_ (by (repeat (first | (with_reducible exact Nat.le_refl _) | (with_reducible assumption) | (with_reducible refine le_up ?_) | (with_reducible refine le_alloc ?_) | (with_reducible refine le_setCell ?_) | (with_reducible refine le_drew ?_) | (with_reducible refine le_drewN ?_) | omega))) _) | (with_reducible refine Below.up ?_ (by (repeat (first | (with_reducible exact Nat.le_refl _) | (with_reducible assumption) | (with_reducible refine le_up ?_) | (with_reducible refine le_alloc ?_) | (with_reducible refine le_setCell ?_) | (with_reducible refine le_drew ?_) | (with_reducible refine le_drewN ?_) | omega)))))))
theorem All_nil (w : World) : Calls Try.prog 49 #[.pointer none] w (Tells w (.slice none 0 0)) := by
  go_enter Try.func49, Try.ntmps49
  go_wp2_with (go_at_call 64; refine (is_nil _).mono ?_; rintro e w1 ⟨rfl, rfl⟩)
  go_ret
  exact Tells.mk rfl
theorem All_void (c : Nat) (w : World) (hc : w.cell? ⟨c, 0, none⟩ = some (.map none)) : Calls Try.prog 49 #[.pointer (some ⟨c, 0, none⟩)] w (Tells w (.slice none 0 0)) := by
  go_enter Try.func49, Try.ntmps49
  go_wp2_with (go_at_call 64; refine (is_void _ _ hc).mono ?_; rintro e w1 ⟨rfl, rfl⟩)
  go_ret
  exact Tells.mk rfl
end Go.Proofs.Ytbfloidogdjccaa
