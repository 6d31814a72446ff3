/-
  An act, done to the keeper of lock-outs and to the reference's.
-/
import Derived.Test.YtcdhhnodfgpkiaaLockR
namespace Go.Proofs.Ytcdhhnodfgpkiaa
open Go.RowKit

def actS (S : LockS) (d s t : Int) : LockS := if amongV d 4 = 3 then goodS S s else failS S s t
def LockDoR (w : World) (c y B : Nat) (S : LockS) (e : Ending) (w' : World) : Prop := e = .returned (.bool true) ∧ LockAt w' c S ∧ LockAt w' y S ∧ Below B w w'
set_option maxRecDepth 100000 in
set_option maxHeartbeats 1600000 in
theorem do18_any (c y B : Nat) (S : LockS) (n d s t : Int) (w : World) (h : LockAt w c S) (h' : LockAt w y S) (ok : LockOK S n) (hn : n < 1000000) (hcy : c ≠ y) (hB : B ≤ w.heap.size) (hBc : B ≤ c) (hBy : B ≤ y) :
    Calls Try.prog 15 #[.pointer (some ⟨c, 0, none⟩), .pointer (some ⟨y, 0, none⟩), .agg #[.int .i64 d, .int .i64 s, .int .i64 t]] w (LockDoR w c y B (actS S d s t)) := by
  have H := Lib.hid h
  have H' := Lib.hid h'
  haveI : LtSize c w := ⟨h.lt⟩
  haveI : LtSize y w := ⟨h'.lt⟩
  have hcl := h.lt
  have hyl := h'.lt
  clear h h'
  by_cases hdo : amongV d 4 = 3
  · have hA : actS S d s t = goodS S s := if_pos hdo
    go_enter Try.func15, Try.ntmps15
    go_wp2_with fail
    (refine wp_region_up (by kernel_rfl) (by kernel_rfl) ?_; (repeat (go_big_quiet_step (first | (go_at_call 23; exact Calls.up_tells (May_any c s t S n _ H.out.alloc.up ok)) | (go_at_call 44; exact Calls.up_tells (rMay_any y s t S _ H'.out.alloc.up))))); refine wpQuiet_nil ?_; intro _ hw'; obtain ⟨xq, hw''⟩ := hw'; subst hw'')
    go_wp2_with (go_at_call 20; with_reducible refine Calls.tells (Among_any _ _ _ (by omega) (by omega)) ?_)
    have hbel : Below w.heap.size w (up (w.alloc (Obj.cells #[.int .i64 d, .int .i64 s, .int .i64 t] 32)) xq) := by (repeat (first | (with_reducible exact Below.refl _ _) | (with_reducible assumption) | (with_reducible refine Below.alloc ?_ (by (repeat (first | (with_reducible exact Nat.le_refl _) | (with_reducible assumption) | (with_reducible refine le_up ?_) | (with_reducible refine le_alloc ?_) | (with_reducible refine le_setCell ?_) | (with_reducible refine le_drew ?_) | (with_reducible refine le_drewN ?_) | omega))) _) | (with_reducible refine Below.drew ?_) | (with_reducible refine Below.drewN ?_ _) | (with_reducible refine Below.setCell ?_ (by (repeat (first | (with_reducible exact Nat.le_refl _) | (with_reducible assumption) | (with_reducible refine le_up ?_) | (with_reducible refine le_alloc ?_) | (with_reducible refine le_setCell ?_) | (with_reducible refine le_drew ?_) | (with_reducible refine le_drewN ?_) | omega))) _) | (with_reducible refine Below.up ?_ (by (repeat (first | (with_reducible exact Nat.le_refl _) | (with_reducible assumption) | (with_reducible refine le_up ?_) | (with_reducible refine le_alloc ?_) | (with_reducible refine le_setCell ?_) | (with_reducible refine le_drew ?_) | (with_reducible refine le_drewN ?_) | omega))))))
    have p1 : (up (w.alloc (Obj.cells #[.int .i64 d, .int .i64 s, .int .i64 t] 32)) xq).cell? ⟨w.heap.size, 1, none⟩ = some (.int .i64 s) := by simp
    have p2 : (up (w.alloc (Obj.cells #[.int .i64 d, .int .i64 s, .int .i64 t] 32)) xq).cell? ⟨w.heap.size, 2, none⟩ = some (.int .i64 t) := by simp
    have ho := H.out.below hbel hcl
    have ho' := H'.out.below hbel hyl
    generalize up (w.alloc (Obj.cells #[.int .i64 d, .int .i64 s, .int .i64 t] 32)) xq = w5 at *
    have HO := Lib.hid ho
    have HO' := Lib.hid ho'
    have HB := Lib.hid hbel
    have k1 := Lib.hid p1
    have k2 := Lib.hid p2
    clear ho ho' hbel
    go_region_held (fun W => W.cell? ⟨w.heap.size, 1, none⟩ = some (.int .i64 s) ∧ W.cell? ⟨w.heap.size, 2, none⟩ = some (.int .i64 t))
      (first | exact ⟨k1.out, k2.out⟩ | exact ⟨kept_cell k1.out HG.out (by omega), kept_cell k2.out HG.out (by omega)⟩ | exact ⟨kept_cell (kept_cell k1.out HG.out (by omega)) HG2.out (by omega), kept_cell (kept_cell k2.out HG.out (by omega)) HG2.out (by omega)⟩)
      (first | (go_at_call 21; refine (Good_any c s S n _ HO.out.drew ok).mono ?_; rintro e w6 ⟨rfl, ht, hg⟩; have HT := Lib.hid ht; have HG : Hid (w5.grownBy w6 (some c)) := Lib.hid (gr_drew hg); clear ht hg) | (go_at_call 45; refine (rGood_any y s S _ (HO'.out.kept HG.out (by simp; omega))).mono ?_; rintro e w7 ⟨rfl, ht2, hg2⟩; have HT2 := Lib.hid ht2; have HG2 := Lib.hid hg2; clear ht2 hg2))
    go_wp2_with fail
    go_ret
    have hsz := HB.out.size
    have hsz2 := HG.out.size
    rw [hA]
    exact ⟨rfl, HT.out.kept HG2.out (by simp; omega), HT2.out, below_gr (below_gr (HB.out.mono hB) HG.out (by omega) hBc) HG2.out (by omega) hBy⟩
  · have hA : actS S d s t = failS S s t := if_neg hdo
    go_enter Try.func15, Try.ntmps15
    go_wp2_with fail
    (refine wp_region_up (by kernel_rfl) (by kernel_rfl) ?_; (repeat (go_big_quiet_step (first | (go_at_call 23; exact Calls.up_tells (May_any c s t S n _ H.out.alloc.up ok)) | (go_at_call 44; exact Calls.up_tells (rMay_any y s t S _ H'.out.alloc.up))))); refine wpQuiet_nil ?_; intro _ hw'; obtain ⟨xq, hw''⟩ := hw'; subst hw'')
    go_wp2_with (go_at_call 20; with_reducible refine Calls.tells (Among_any _ _ _ (by omega) (by omega)) ?_)
    have hbel : Below w.heap.size w (up (w.alloc (Obj.cells #[.int .i64 d, .int .i64 s, .int .i64 t] 32)) xq) := by (repeat (first | (with_reducible exact Below.refl _ _) | (with_reducible assumption) | (with_reducible refine Below.alloc ?_ (by (repeat (first | (with_reducible exact Nat.le_refl _) | (with_reducible assumption) | (with_reducible refine le_up ?_) | (with_reducible refine le_alloc ?_) | (with_reducible refine le_setCell ?_) | (with_reducible refine le_drew ?_) | (with_reducible refine le_drewN ?_) | omega))) _) | (with_reducible refine Below.drew ?_) | (with_reducible refine Below.drewN ?_ _) | (with_reducible refine Below.setCell ?_ (by (repeat (first | (with_reducible exact Nat.le_refl _) | (with_reducible assumption) | (with_reducible refine le_up ?_) | (with_reducible refine le_alloc ?_) | (with_reducible refine le_setCell ?_) | (with_reducible refine le_drew ?_) | (with_reducible refine le_drewN ?_) | omega))) _) | (with_reducible refine Below.up ?_ (by (repeat (first | (with_reducible exact Nat.le_refl _) | (with_reducible assumption) | (with_reducible refine le_up ?_) | (with_reducible refine le_alloc ?_) | (with_reducible refine le_setCell ?_) | (with_reducible refine le_drew ?_) | (with_reducible refine le_drewN ?_) | omega))))))
    have p1 : (up (w.alloc (Obj.cells #[.int .i64 d, .int .i64 s, .int .i64 t] 32)) xq).cell? ⟨w.heap.size, 1, none⟩ = some (.int .i64 s) := by simp
    have p2 : (up (w.alloc (Obj.cells #[.int .i64 d, .int .i64 s, .int .i64 t] 32)) xq).cell? ⟨w.heap.size, 2, none⟩ = some (.int .i64 t) := by simp
    have ho := H.out.below hbel hcl
    have ho' := H'.out.below hbel hyl
    generalize up (w.alloc (Obj.cells #[.int .i64 d, .int .i64 s, .int .i64 t] 32)) xq = w5 at *
    have HO := Lib.hid ho
    have HO' := Lib.hid ho'
    have HB := Lib.hid hbel
    have k1 := Lib.hid p1
    have k2 := Lib.hid p2
    clear ho ho' hbel
    go_region_held (fun W => W.cell? ⟨w.heap.size, 1, none⟩ = some (.int .i64 s) ∧ W.cell? ⟨w.heap.size, 2, none⟩ = some (.int .i64 t))
      (first | exact ⟨k1.out, k2.out⟩ | exact ⟨kept_cell k1.out HG.out (by omega), kept_cell k2.out HG.out (by omega)⟩ | exact ⟨kept_cell (kept_cell k1.out HG.out (by omega)) HG2.out (by omega), kept_cell (kept_cell k2.out HG.out (by omega)) HG2.out (by omega)⟩)
      (first | (go_at_call 22; refine (Fail_any c s t S n _ HO.out.drew ok hn).mono ?_; rintro e w6 ⟨rfl, ht, hg⟩; have HT := Lib.hid ht; have HG : Hid (w5.grownBy w6 (some c)) := Lib.hid (gr_drew hg); clear ht hg) | (go_at_call 46; refine (rFail_any y s t S n _ (HO'.out.kept HG.out (by simp; omega)) ok hn).mono ?_; rintro e w7 ⟨rfl, ht2, hg2⟩; have HT2 := Lib.hid ht2; have HG2 := Lib.hid hg2; clear ht2 hg2))
    go_wp2_with fail
    go_ret
    have hsz := HB.out.size
    have hsz2 := HG.out.size
    rw [hA]
    exact ⟨rfl, HT.out.kept HG2.out (by simp; omega), HT2.out, below_gr (below_gr (HB.out.mono hB) HG.out (by omega) hBc) HG2.out (by omega) hBy⟩
end Go.Proofs.Ytcdhhnodfgpkiaa
