/-
  The replay layer: Raise; what the marks are behind it; the law ReplayRises, walked.
-/
import Derived.Test.YtbfloidogdjccaaRepL
import Derived.Test.YtbfloidogdjccaaBase
import Derived.Test.YtbfloidogdjccaaElem
namespace Go.Proofs.Ytbfloidogdjccaa
open Go.RowKit Go.Maps

/-- May a mark be taken of a source that may be? -/
def freshB (f : Int → Option MarkT) (s : Int) (m : MarkT) : Bool := !(f s).isSome || grB m ((f s).getD (0, 0))
theorem mayE_ok {f : Int → Option MarkT} {s : Int} {m : MarkT} (h : srcOK s = true) : mayE f s m = if freshB f s m then 0 else 170 := by
  unfold mayE freshB
  rw [if_pos h]
  cases f s <;> simp
theorem takeF_ok {f : Int → Option MarkT} {s : Int} {m : MarkT} (h : srcOK s = true) : takeF f s m = if freshB f s m then updT f s m else f := by
  unfold takeF
  rw [mayE_ok h]
  cases freshB f s m <;> simp
theorem takeF_out {f : Int → Option MarkT} {s : Int} {m : MarkT} (h : srcOK s = false) : takeF f s m = f := by
  unfold takeF
  rw [mayE_out h]
  simp
theorem takeF_other {f : Int → Option MarkT} {s s' : Int} {m : MarkT} (h : s' ≠ s) : takeF f s m s' = f s' := by
  unfold takeF
  split
  · exact updT_other f m h
  · rfl
theorem grB_irrefl (m : MarkT) : grB m m = false := by simp [grB]
theorem may_behind {f : Int → Option MarkT} {s : Int} {m : MarkT} (h : srcOK s = true) : mayE (takeF f s m) s m = 170 := by
  rw [mayE_ok h, takeF_ok h]
  cases hb : freshB f s m
  · simp [hb]
  · simp [freshB, updT_same, grB_irrefl]
def raiseE (s : Int) : Int := if srcOK s then 0 else 2

set_option maxRecDepth 100000 in
set_option maxHeartbeats 800000 in
theorem Raise_any (c b n : Nat) (f : Int → Option MarkT) (s : Int) (m : MarkT) (w : World) (h : ObjT w c b n f) (hn : n < 1000000) (l1 : -9223372036854775808 ≤ s) (l2 : s ≤ 9223372036854775807) :
    Calls Try.prog 34 #[.pointer (some ⟨c, 0, none⟩), .int .i64 s, .agg #[.int .u32 m.1, .int .u64 m.2]] w (TakeR w c b n (raiseE s) (takeF f s m)) := by
  have H := Lib.hid h
  have hc := h.cell
  haveI : LtSize c w := ⟨h.lt⟩
  have hneq : ¬ c = w.heap.size := by have := h.lt; omega
  clear h
  cases hs : srcOK s
  · rw [takeF_out hs, show raiseE s = 2 by simp [raiseE, hs]]
    obtain ⟨m1, m2⟩ := m
    go_enter Try.func34, Try.ntmps34
    go_wp2_with (first | (go_at_call 58; with_reducible refine Calls.tells (may_f _ _ _ _ _ _ H.out.alloc hs) ?_) | (go_at_call 48; (first | with_reducible refine Calls.fold (Last_any c b n f s _ H.out.alloc l1 l2) ?_ | with_reducible refine Calls.fresh (Last_any c b n f s _ H.out.alloc l1 l2) ?_); intro x1))
    go_ret
    exact ⟨n, rfl, by omega, H.out.alloc.up.alloc, grownBy_below (some b) (by (repeat (first | (with_reducible exact Below.refl _ _) | (with_reducible assumption) | (with_reducible refine Below.alloc ?_ (by (repeat (first | (with_reducible exact Nat.le_refl _) | (with_reducible assumption) | (with_reducible refine le_up ?_) | (with_reducible refine le_alloc ?_) | (with_reducible refine le_setCell ?_) | (with_reducible refine le_drew ?_) | (with_reducible refine le_drewN ?_) | omega))) _) | (with_reducible refine Below.drew ?_) | (with_reducible refine Below.drewN ?_ _) | (with_reducible refine Below.setCell ?_ (by (repeat (first | (with_reducible exact Nat.le_refl _) | (with_reducible assumption) | (with_reducible refine le_up ?_) | (with_reducible refine le_alloc ?_) | (with_reducible refine le_setCell ?_) | (with_reducible refine le_drew ?_) | (with_reducible refine le_drewN ?_) | omega))) _) | (with_reducible refine Below.up ?_ (by (repeat (first | (with_reducible exact Nat.le_refl _) | (with_reducible assumption) | (with_reducible refine le_up ?_) | (with_reducible refine le_alloc ?_) | (with_reducible refine le_setCell ?_) | (with_reducible refine le_drew ?_) | (with_reducible refine le_drewN ?_) | omega)))))))⟩
  · obtain ⟨s1, s2⟩ := src_of hs
    rw [takeF_ok hs, show raiseE s = 0 by simp [raiseE, hs]]
    obtain ⟨m1, m2⟩ := m
    cases hf : freshB f s (m1, m2)
    · rw [if_neg (by simp)]
      have hi : (f s).isSome = true := by cases hx : f s <;> simp [freshB, hx] at hf ⊢
      have hg : grB (m1, m2) ((f s).getD (0, 0)) = false := by simp [freshB, hi] at hf; exact hf
      have hg' : grB (m1, m2) (((f s).getD (0, 0)).1, ((f s).getD (0, 0)).2) = false := hg
      clear hg hf
      go_enter Try.func34, Try.ntmps34
      go_wp2_with (first | (go_at_call 58; with_reducible refine Calls.tells (may_t _ _ _ _ _ _ H.out.alloc hs) ?_) | (go_at_call 48; (first | with_reducible refine Calls.fold (Last_any c b n f s _ H.out.alloc l1 l2) ?_ | with_reducible refine Calls.fresh (Last_any c b n f s _ H.out.alloc l1 l2) ?_); intro x1) | (go_at_call 36; (first | with_reducible refine Calls.fold (Greater_any _ _ _ _ _) ?_ | with_reducible refine Calls.fresh (Greater_any _ _ _ _ _) ?_); intro x1))
      go_ret
      exact ⟨n, rfl, by omega, H.out.alloc.up.alloc.up, grownBy_below (some b) (by (repeat (first | (with_reducible exact Below.refl _ _) | (with_reducible assumption) | (with_reducible refine Below.alloc ?_ (by (repeat (first | (with_reducible exact Nat.le_refl _) | (with_reducible assumption) | (with_reducible refine le_up ?_) | (with_reducible refine le_alloc ?_) | (with_reducible refine le_setCell ?_) | (with_reducible refine le_drew ?_) | (with_reducible refine le_drewN ?_) | omega))) _) | (with_reducible refine Below.drew ?_) | (with_reducible refine Below.drewN ?_ _) | (with_reducible refine Below.setCell ?_ (by (repeat (first | (with_reducible exact Nat.le_refl _) | (with_reducible assumption) | (with_reducible refine le_up ?_) | (with_reducible refine le_alloc ?_) | (with_reducible refine le_setCell ?_) | (with_reducible refine le_drew ?_) | (with_reducible refine le_drewN ?_) | omega))) _) | (with_reducible refine Below.up ?_ (by (repeat (first | (with_reducible exact Nat.le_refl _) | (with_reducible assumption) | (with_reducible refine le_up ?_) | (with_reducible refine le_alloc ?_) | (with_reducible refine le_setCell ?_) | (with_reducible refine le_drew ?_) | (with_reducible refine le_drewN ?_) | omega)))))))⟩
    · rw [if_pos rfl]
      have hlt : n < 1000000 := hn
      cases hi : (f s).isSome
      · clear hf
        go_enter Try.func34, Try.ntmps34
        go_wp2_with (first | (go_at_call 58; with_reducible refine Calls.tells (may_t _ _ _ _ _ _ H.out.alloc hs) ?_) | (go_at_call 48; (first | with_reducible refine Calls.fold (Last_any c b n f s _ H.out.alloc l1 l2) ?_ | with_reducible refine Calls.fresh (Last_any c b n f s _ H.out.alloc l1 l2) ?_); intro x1) | (go_at_call 36; (first | with_reducible refine Calls.fold (Greater_any _ _ _ _ _) ?_ | with_reducible refine Calls.fresh (Greater_any _ _ _ _ _) ?_); intro x1))
        (refine wp_region_tail 6 (by kernel_rfl) (by kernel_rfl) ?_; simp only [List.take_succ_cons, List.take_zero, List.drop_succ_cons, List.drop_zero]; still_step; still_step; still_step; still_step; still_step; still_step; (with_reducible refine wpStill_nil ?_))
        refine wpList_store_tab rfl _ _ _ rfl b n f rfl H.out.alloc.up.alloc.tab.drew s rfl (by omega) (by omega) (m1, m2) rfl (by omega) ?_
        intro w2 ht hg
        have HT := Lib.hid ht
        have HG := Lib.hid hg
        clear ht hg
        go_wp2_with fail
        go_ret
        exact ⟨n + 1, rfl, Nat.le_refl _, (H.out.alloc.up.alloc.drew).grown HG.out HT.out, grownBy_trans (grownBy_below (some b) (by (repeat (first | (with_reducible exact Below.refl _ _) | (with_reducible assumption) | (with_reducible refine Below.alloc ?_ (by (repeat (first | (with_reducible exact Nat.le_refl _) | (with_reducible assumption) | (with_reducible refine le_up ?_) | (with_reducible refine le_alloc ?_) | (with_reducible refine le_setCell ?_) | (with_reducible refine le_drew ?_) | (with_reducible refine le_drewN ?_) | omega))) _) | (with_reducible refine Below.drew ?_) | (with_reducible refine Below.drewN ?_ _) | (with_reducible refine Below.setCell ?_ (by (repeat (first | (with_reducible exact Nat.le_refl _) | (with_reducible assumption) | (with_reducible refine le_up ?_) | (with_reducible refine le_alloc ?_) | (with_reducible refine le_setCell ?_) | (with_reducible refine le_drew ?_) | (with_reducible refine le_drewN ?_) | omega))) _) | (with_reducible refine Below.up ?_ (by (repeat (first | (with_reducible exact Nat.le_refl _) | (with_reducible assumption) | (with_reducible refine le_up ?_) | (with_reducible refine le_alloc ?_) | (with_reducible refine le_setCell ?_) | (with_reducible refine le_drew ?_) | (with_reducible refine le_drewN ?_) | omega)))))))) HG.out⟩
      · have hg : grB (m1, m2) ((f s).getD (0, 0)) = true := by simp [freshB, hi] at hf; exact hf
        have hg' : grB (m1, m2) (((f s).getD (0, 0)).1, ((f s).getD (0, 0)).2) = true := hg
        clear hg hf
        go_enter Try.func34, Try.ntmps34
        go_wp2_with (first | (go_at_call 58; with_reducible refine Calls.tells (may_t _ _ _ _ _ _ H.out.alloc hs) ?_) | (go_at_call 48; (first | with_reducible refine Calls.fold (Last_any c b n f s _ H.out.alloc l1 l2) ?_ | with_reducible refine Calls.fresh (Last_any c b n f s _ H.out.alloc l1 l2) ?_); intro x1) | (go_at_call 36; (first | with_reducible refine Calls.fold (Greater_any _ _ _ _ _) ?_ | with_reducible refine Calls.fresh (Greater_any _ _ _ _ _) ?_); intro x1))
        (refine wp_region_tail 6 (by kernel_rfl) (by kernel_rfl) ?_; simp only [List.take_succ_cons, List.take_zero, List.drop_succ_cons, List.drop_zero]; still_step; still_step; still_step; still_step; still_step; still_step; (with_reducible refine wpStill_nil ?_))
        refine wpList_store_tab rfl _ _ _ rfl b n f rfl H.out.alloc.up.alloc.up.tab.drew s rfl (by omega) (by omega) (m1, m2) rfl (by omega) ?_
        intro w2 ht hg
        have HT := Lib.hid ht
        have HG := Lib.hid hg
        clear ht hg
        go_wp2_with fail
        go_ret
        exact ⟨n + 1, rfl, Nat.le_refl _, (H.out.alloc.up.alloc.up.drew).grown HG.out HT.out, grownBy_trans (grownBy_below (some b) (by (repeat (first | (with_reducible exact Below.refl _ _) | (with_reducible assumption) | (with_reducible refine Below.alloc ?_ (by (repeat (first | (with_reducible exact Nat.le_refl _) | (with_reducible assumption) | (with_reducible refine le_up ?_) | (with_reducible refine le_alloc ?_) | (with_reducible refine le_setCell ?_) | (with_reducible refine le_drew ?_) | (with_reducible refine le_drewN ?_) | omega))) _) | (with_reducible refine Below.drew ?_) | (with_reducible refine Below.drewN ?_ _) | (with_reducible refine Below.setCell ?_ (by (repeat (first | (with_reducible exact Nat.le_refl _) | (with_reducible assumption) | (with_reducible refine le_up ?_) | (with_reducible refine le_alloc ?_) | (with_reducible refine le_setCell ?_) | (with_reducible refine le_drew ?_) | (with_reducible refine le_drewN ?_) | omega))) _) | (with_reducible refine Below.up ?_ (by (repeat (first | (with_reducible exact Nat.le_refl _) | (with_reducible assumption) | (with_reducible refine le_up ?_) | (with_reducible refine le_alloc ?_) | (with_reducible refine le_setCell ?_) | (with_reducible refine le_drew ?_) | (with_reducible refine le_drewN ?_) | omega)))))))) HG.out⟩
end Go.Proofs.Ytbfloidogdjccaa
