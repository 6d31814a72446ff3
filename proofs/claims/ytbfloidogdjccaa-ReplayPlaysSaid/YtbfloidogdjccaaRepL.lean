/-
  The replay layer: the chapter's example; the law ReplayVoid, walked.
-/
import Derived.Test.YtbfloidogdjccaaRepX
import Derived.Test.YtbfloidogdjccaaLib2
namespace Go.Proofs.Ytbfloidogdjccaa
open Go.RowKit Go.Maps

theorem below_own {W a c : World} {b : Nat} (h : Below W.heap.size W a) (hg : a.grownBy c (some b)) (hb : W.heap.size ≤ b) : Below W.heap.size W c := h.grown hg h.size (fun k hk => by cases hk; exact hb)

set_option maxRecDepth 100000 in
set_option maxHeartbeats 800000 in
theorem works17 (w : World) : Calls Try.prog 32 #[] w (Gives w (.bool true)) := by
  go_enter Try.func32, Try.ntmps32
  go_wp2_with fail
  refine (New_any _).mono ?_
  rintro e w1 ⟨c, b, rfl, hb, hc, ho, hbel⟩
  have HO := Lib.hid ho
  have HB := Lib.hid hbel
  clear ho hbel
  go_wp2_with fail
  refine (Take_any c b 0 _ 0 (1, 5) _ HO.out (by omega)).mono ?_
  rintro e w2 ⟨n2, rfl, hn2, ho2, hg2⟩
  have e2 : mayE (fun _ => none) 0 (1, 5) = 0 := by decide
  have f2 : takeF (fun _ => none) 0 (1, 5) = updT (fun _ => none) 0 (1, 5) := if_pos e2
  rw [f2] at ho2
  rw [e2]
  have HO2 := Lib.hid ho2
  have HB2 := Lib.hid (below_own HB.out hg2 hb)
  clear ho2 hg2 HO HB e2 f2
  go_wp2_with fail
  refine (Take_any c b n2 _ 0 (1, 5) _ HO2.out (by omega)).mono ?_
  rintro e w3 ⟨n3, rfl, hn3, ho3, hg3⟩
  have e3 : mayE (updT (fun _ => none) 0 (1, 5)) 0 (1, 5) = 170 := by decide
  have f3 : takeF (updT (fun _ => none) 0 (1, 5)) 0 (1, 5) = updT (fun _ => none) 0 (1, 5) := if_neg (by rw [e3]; decide)
  rw [f3] at ho3
  rw [e3]
  have HO3 := Lib.hid ho3
  have HB3 := Lib.hid (below_own HB2.out hg3 hb)
  clear ho3 hg3 HO2 HB2 e3 f3
  go_wp2_with fail
  refine (Take_any c b n3 _ 0 (2, 0) _ HO3.out (by omega)).mono ?_
  rintro e w4 ⟨n4, rfl, hn4, ho4, hg4⟩
  have e4 : mayE (updT (fun _ => none) 0 (1, 5)) 0 (2, 0) = 0 := by decide
  have f4 : takeF (updT (fun _ => none) 0 (1, 5)) 0 (2, 0) = updT (updT (fun _ => none) 0 (1, 5)) 0 (2, 0) := if_pos e4
  rw [f4] at ho4
  rw [e4]
  have HO4 := Lib.hid ho4
  have HB4 := below_own HB3.out hg4 hb
  have hz := HB4.size
  clear ho4 hg4 HO3 HB3 e4 f4
  go_wp2_with fail
  refine Calls.fresh (Last_any c b n4 _ 0 _ HO4.out (by decide) (by decide)) ?_
  intro x5
  rw [show (updT (updT (fun _ => none) 0 (1, 5)) 0 (2, 0)) 0 = some (2, 0) from by decide]
  go_wp2_with fail
  go_ret
  exact Gives.mk rfl (by (repeat (first | (with_reducible exact Below.refl _ _) | (with_reducible assumption) | (with_reducible refine Below.alloc ?_ (by (repeat (first | (with_reducible exact Nat.le_refl _) | (with_reducible assumption) | (with_reducible refine le_up ?_) | (with_reducible refine le_alloc ?_) | (with_reducible refine le_setCell ?_) | (with_reducible refine le_drew ?_) | (with_reducible refine le_drewN ?_) | omega))) _) | (with_reducible refine Below.drew ?_) | (with_reducible refine Below.drewN ?_ _) | (with_reducible refine Below.setCell ?_ (by (repeat (first | (with_reducible exact Nat.le_refl _) | (with_reducible assumption) | (with_reducible refine le_up ?_) | (with_reducible refine le_alloc ?_) | (with_reducible refine le_setCell ?_) | (with_reducible refine le_drew ?_) | (with_reducible refine le_drewN ?_) | omega))) _) | (with_reducible refine Below.up ?_ (by (repeat (first | (with_reducible exact Nat.le_refl _) | (with_reducible assumption) | (with_reducible refine le_up ?_) | (with_reducible refine le_alloc ?_) | (with_reducible refine le_setCell ?_) | (with_reducible refine le_drew ?_) | (with_reducible refine le_drewN ?_) | omega)))))))

set_option maxRecDepth 100000 in
set_option maxHeartbeats 1600000 in
theorem ReplayVoid_any (s m1 m2 : Int) (w : World) :
    Calls Try.prog 11 #[.int .i64 s, .agg #[.int .u32 m1, .int .u64 m2]] w (Gives w (.bool true)) := by
  go_enter Try.func11, Try.ntmps11
  go_wp2_with (first | (go_at_call 32; (first | with_reducible refine Calls.fold (works17 _) ?_ | with_reducible refine Calls.fresh (works17 _) ?_); intro x1) | (go_at_call 48; (first | with_reducible refine Calls.fold (Last_nil _ _) ?_ | with_reducible refine Calls.fresh (Last_nil _ _) ?_); intro x1) | (go_at_call 48; (first | with_reducible refine Calls.fold (Last_void _ _ _ (by simp)) ?_ | with_reducible refine Calls.fresh (Last_void _ _ _ (by simp)) ?_); intro x1) | (go_at_call 37; (first | with_reducible refine Calls.fold (May_nil _ _ _ _) ?_ | with_reducible refine Calls.fresh (May_nil _ _ _ _) ?_); intro x1) | (go_at_call 37; (first | with_reducible refine Calls.fold (May_void _ _ _ _ _ (by simp)) ?_ | with_reducible refine Calls.fresh (May_void _ _ _ _ _ (by simp)) ?_); intro x1) | (go_at_call 35; (first | with_reducible refine Calls.fold (Take_nil _ _ _ _) ?_ | with_reducible refine Calls.fresh (Take_nil _ _ _ _) ?_); intro x1) | (go_at_call 34; (first | with_reducible refine Calls.fold (Raise_void _ _ _ _ _ (by simp)) ?_ | with_reducible refine Calls.fresh (Raise_void _ _ _ _ _ (by simp)) ?_); intro x1) | (go_at_call 49; with_reducible refine Calls.tells (All_nil _) ?_))
  go_at_call 49
  with_reducible refine Calls.tells (All_void _ _ (by simp)) ?_
  go_wp2_with fail
  go_ret
  exact Gives.mk rfl (by (repeat (first | (with_reducible exact Below.refl _ _) | (with_reducible assumption) | (with_reducible refine Below.alloc ?_ (by (repeat (first | (with_reducible exact Nat.le_refl _) | (with_reducible assumption) | (with_reducible refine le_up ?_) | (with_reducible refine le_alloc ?_) | (with_reducible refine le_setCell ?_) | (with_reducible refine le_drew ?_) | (with_reducible refine le_drewN ?_) | omega))) _) | (with_reducible refine Below.drew ?_) | (with_reducible refine Below.drewN ?_ _) | (with_reducible refine Below.setCell ?_ (by (repeat (first | (with_reducible exact Nat.le_refl _) | (with_reducible assumption) | (with_reducible refine le_up ?_) | (with_reducible refine le_alloc ?_) | (with_reducible refine le_setCell ?_) | (with_reducible refine le_drew ?_) | (with_reducible refine le_drewN ?_) | omega))) _) | (with_reducible refine Below.up ?_ (by (repeat (first | (with_reducible exact Nat.le_refl _) | (with_reducible assumption) | (with_reducible refine le_up ?_) | (with_reducible refine le_alloc ?_) | (with_reducible refine le_setCell ?_) | (with_reducible refine le_drew ?_) | (with_reducible refine le_drewN ?_) | omega)))))))
end Go.Proofs.Ytbfloidogdjccaa
