/-
  The example of the keeper of another clock; the law SyncVoid, walked.
-/
import Derived.Test.YtcdhhnodfgpkiaaSyncZ
namespace Go.Proofs.Ytcdhhnodfgpkiaa
open Go.RowKit

def SyncS.new (d r m : Int) : SyncS := ⟨d, r, m, false, 0, 0, 0, 0⟩
def new3B (d r m : Int) : Bool := decide (0 ≤ d ∧ d ≤ 65535 ∧ 0 ≤ r ∧ r ≤ 1048576 ∧ 1 ≤ m ∧ m ≤ 100)
theorem SyncOK.new {d r m : Int} (h : new3B d r m = true) : SyncOK (SyncS.new d r m) := by
  simp [new3B] at h
  obtain ⟨h1, h2, h3, h4, h5, h6⟩ := h
  exact ⟨h1, h2, h3, h4, h5, h6, by simp [SyncS.new], by simp [SyncS.new], by simp [SyncS.new], by simp [SyncS.new], by simp [SyncS.new], by simp [SyncS.new], by simp [SyncS.new]; omega⟩
theorem SyncAt.new (w : World) (t : TypeId) (d r m : Int) : SyncAt (w.alloc (.cells #[.int .i64 d, .int .i64 r, .int .i64 m, .bool false, .int .i64 0, .int .i64 0, .int .i64 0, .int .i64 0] t)) w.heap.size (SyncS.new d r m) := by
  refine ⟨by simp, fun i hi => ?_, fun o => by simp⟩
  rcases i with _ | _ | _ | _ | _ | _ | _ | _ | i <;> first | omega | simp [syncV, SyncS.new]
theorem sNew_good {d r m : Int} (w : World) (h : new3B d r m = true) :
    Calls Try.prog 25 #[.int .i64 d, .int .i64 r, .int .i64 m] w fun e w' => ∃ c, e = .returned (.tuple #[.pointer (some ⟨c, 0, none⟩), .int .i64 0]) ∧ w.heap.size ≤ c ∧ SyncAt w' c (SyncS.new d r m) ∧ Below w.heap.size w w' := by
  have h' : ¬ d < 0 ∧ ¬ 65535 < d ∧ ¬ r < 0 ∧ ¬ 1048576 < r ∧ ¬ m < 1 ∧ ¬ 100 < m := by simp [new3B] at h; omega
  clear h
  obtain ⟨h1, h2, h3, h4, h5, h6⟩ := h'
  go_enter Try.func25, Try.ntmps25
  go_wp2
  go_ret2
  exact ⟨_, rfl, Nat.le_refl _, SyncAt.new w _ d r m, by (repeat (first | (with_reducible exact Below.refl _ _) | (with_reducible assumption) | (with_reducible refine Below.alloc ?_ (by (repeat (first | (with_reducible exact Nat.le_refl _) | (with_reducible assumption) | (with_reducible refine le_up ?_) | (with_reducible refine le_alloc ?_) | (with_reducible refine le_setCell ?_) | (with_reducible refine le_drew ?_) | (with_reducible refine le_drewN ?_) | omega))) _) | (with_reducible refine Below.drew ?_) | (with_reducible refine Below.drewN ?_ _) | (with_reducible refine Below.setCell ?_ (by (repeat (first | (with_reducible exact Nat.le_refl _) | (with_reducible assumption) | (with_reducible refine le_up ?_) | (with_reducible refine le_alloc ?_) | (with_reducible refine le_setCell ?_) | (with_reducible refine le_drew ?_) | (with_reducible refine le_drewN ?_) | omega))) _) | (with_reducible refine Below.up ?_ (by (repeat (first | (with_reducible exact Nat.le_refl _) | (with_reducible assumption) | (with_reducible refine le_up ?_) | (with_reducible refine le_alloc ?_) | (with_reducible refine le_setCell ?_) | (with_reducible refine le_drew ?_) | (with_reducible refine le_drewN ?_) | omega))))))⟩
theorem Bounds_is {c : Nat} {t a b : Int} {k : Bool} {S : SyncS} {w : World} (h : SyncAt w c S) (ok : SyncOK S) (t1 : -9223372036854775808 ≤ t) (t2 : t ≤ 9223372036854775807) (e : boundsV S t = (a, b, k)) :
    Calls Try.prog 26 #[.pointer (some ⟨c, 0, none⟩), .int .i64 t] w (Gives w (.tuple #[.int .i64 a, .int .i64 b, .bool k])) := by
  have := Bounds_any c t S w h ok t1 t2
  rwa [e] at this
theorem works35 (w : World) : Calls Try.prog 24 #[] w (Gives w (.bool true)) := by
  have ok0 := SyncOK.new (d := 5) (r := 0) (m := 3) rfl
  have ok1 : SyncOK ((SyncS.new 5 0 3).learn (110 - 100) (110 - 100 + 5) 100) := by constructor <;> decide
  have ok2 : SyncOK (((SyncS.new 5 0 3).learn (110 - 100) (110 - 100 + 5) 100).learn 13 15 108) := by constructor <;> decide
  have hb : boundsV (((SyncS.new 5 0 3).learn (110 - 100) (110 - 100 + 5) 100).learn 13 15 108) 108 = (13, 15, true) := rfl
  go_enter Try.func24, Try.ntmps24
  go_wp2_with fail
  refine (sNew_good (d := 5) (r := 0) (m := 3) _ rfl).mono ?_
  rintro e w1 ⟨c, rfl, hc, h1, b1⟩
  have H1 := Lib.hid h1
  have B1 := Lib.hid b1
  clear h1 b1
  go_wp2_with fail
  refine (Beacon_first c 100 110 _ _ H1.out ok0 (by omega) rfl rfl).mono ?_
  rintro e w2 ⟨rfl, h2, g2⟩
  have H2 := Lib.hid h2
  have G2 := Lib.hid g2
  clear h2 g2
  go_wp2_with fail
  refine (Beacon_fit c 108 121 _ _ H2.out ok1 (by omega) rfl rfl (by decide)).mono ?_
  rintro e w3 ⟨rfl, h3, g3⟩
  have h3' : SyncAt w3 c (((SyncS.new 5 0 3).learn (110 - 100) (110 - 100 + 5) 100).learn 13 15 108) := h3
  have H3 := Lib.hid h3'
  have hb3 : Below w.heap.size w w3 := below_gr (below_gr B1.out G2.out B1.out.size hc) g3 (Nat.le_trans B1.out.size G2.out.size) hc
  clear h3 h3' g3 ok0 ok1
  generalize ((SyncS.new 5 0 3).learn (110 - 100) (110 - 100 + 5) 100).learn 13 15 108 = S2 at *
  go_wp2_with (go_at_call 26; (first | with_reducible refine Calls.fold (Bounds_is H3.out ok2 (by omega) (by omega) hb) ?_ | with_reducible refine Calls.fresh (Bounds_is H3.out ok2 (by omega) (by omega) hb) ?_); intro x1)
  go_ret
  exact Gives.mk rfl (below_up hb3 hb3.size _)
set_option maxRecDepth 100000 in
theorem SyncVoid_any (t u : Int) (w : World) : Calls Try.prog 9 #[.int .i64 t, .int .u64 u] w (Gives w (.bool true)) := by
  go_enter Try.func9, Try.ntmps9
  go_wp2_with (first | (go_at_call 24; (first | with_reducible refine Calls.fold (works35 _) ?_ | with_reducible refine Calls.fresh (works35 _) ?_); intro x1) | (go_at_call 26; with_reducible refine Calls.tells (Bounds_nil t _) ?_) | (go_at_call 26; with_reducible refine Calls.tells (Bounds_void _ t _ (by simp)) ?_) | (go_at_call 27; (first | with_reducible refine Calls.fold (Beacon_nil t u _) ?_ | with_reducible refine Calls.fresh (Beacon_nil t u _) ?_); intro x1) | (go_at_call 27; (first | with_reducible refine Calls.fold (Beacon_void _ t u _ (by simp)) ?_ | with_reducible refine Calls.fresh (Beacon_void _ t u _ (by simp)) ?_); intro x1) | (go_at_call 28; with_reducible refine Calls.tells (Odd_nil _) ?_) | (go_at_call 28; with_reducible refine Calls.tells (Odd_void _ _ (by simp)) ?_) | (go_at_call 38; with_reducible refine Calls.tells (Sure_nil t 5 _) ?_) | (go_at_call 38; with_reducible refine Calls.tells (Sure_void _ t 5 _ (by simp)) ?_))
  go_ret
  exact Gives.mk rfl (by (repeat (first | (with_reducible exact Below.refl _ _) | (with_reducible assumption) | (with_reducible refine Below.alloc ?_ (by (repeat (first | (with_reducible exact Nat.le_refl _) | (with_reducible assumption) | (with_reducible refine le_up ?_) | (with_reducible refine le_alloc ?_) | (with_reducible refine le_setCell ?_) | (with_reducible refine le_drew ?_) | (with_reducible refine le_drewN ?_) | omega))) _) | (with_reducible refine Below.drew ?_) | (with_reducible refine Below.drewN ?_ _) | (with_reducible refine Below.setCell ?_ (by (repeat (first | (with_reducible exact Nat.le_refl _) | (with_reducible assumption) | (with_reducible refine le_up ?_) | (with_reducible refine le_alloc ?_) | (with_reducible refine le_setCell ?_) | (with_reducible refine le_drew ?_) | (with_reducible refine le_drewN ?_) | omega))) _) | (with_reducible refine Below.up ?_ (by (repeat (first | (with_reducible exact Nat.le_refl _) | (with_reducible assumption) | (with_reducible refine le_up ?_) | (with_reducible refine le_alloc ?_) | (with_reducible refine le_setCell ?_) | (with_reducible refine le_drew ?_) | (with_reducible refine le_drewN ?_) | omega)))))))
end Go.Proofs.Ytcdhhnodfgpkiaa
