/-
  The replay layer: an act, done to the program's table and to the reference's.
-/
import Derived.Test.YtbfloidogdjccaaRefX
import Derived.Deep.RegionHeld3
namespace Go.Proofs.Ytbfloidogdjccaa
open Go.RowKit Go.Maps

theorem BothT.below {w w' : World} {c b y n : Nat} {f : Int → Option MarkT} (h : BothT w c b y n f) (hb : Below w.heap.size w w') : BothT w' c b y n f :=
  ⟨⟨by rw [hb.cell (p := ⟨c, 0, none⟩) h.obj.lt]; exact h.obj.cell, Nat.lt_of_lt_of_le h.obj.lt hb.size, h.obj.ne, h.obj.tab.below hb h.obj.tab.lt⟩, h.ref.below hb h.ref.row.lt, h.cy, h.by', h.src⟩
theorem ObjT.kept {w w' : World} {c b n : Nat} {row : Option Nat} {f : Int → Option MarkT} (h : ObjT w c b n f) (hg : w.grownBy w' row) (h1 : some c ≠ row) (h2 : some b ≠ row) : ObjT w' c b n f :=
  ⟨by rw [World.cell?_of_block (a := ⟨c, 0, none⟩) (hg.block c h.lt h1)]; exact h.cell, Nat.lt_of_lt_of_le h.lt hg.size, h.ne, h.tab.kept hg h2⟩
theorem kept_cell {w w' : World} {x o r : Nat} {v : Value} (hc : w.cell? ⟨x, o, none⟩ = some v) (hg : w.grownBy w' (some r)) (hne : x ≠ r) : w'.cell? ⟨x, o, none⟩ = some v := by
  have hlt : x < w.heap.size := World.block_lt_of_cell? w ⟨x, o, none⟩ hc
  rw [World.cell?_of_block (a := ⟨x, o, none⟩) (hg.block x hlt (fun e => hne (by simpa using e)))]; exact hc

theorem grownBy_drew {w w' : World} {row : Option Nat} (h : w.drew.grownBy w' row) : w.grownBy w' row := ⟨h.os, h.tape, h.output, h.size, h.block⟩
def DoR (w : World) (c b y n B : Nat) (f : Int → Option MarkT) (e : Ending) (w' : World) : Prop :=
  ∃ n', e = .returned (.bool true) ∧ n' ≤ n + 1 ∧ BothT w' c b y n' f ∧ Below B w w'

set_option maxRecDepth 100000 in
set_option maxHeartbeats 1600000 in
theorem do_any (c b y n B : Nat) (f : Int → Option MarkT) (d s e1 e2 : Int) (w : World) (h : BothT w c b y n f) (hn : n < 1000) (l1 : -9223372036854775808 ≤ s) (l2 : s ≤ 9223372036854775807) (hB : B ≤ w.heap.size) (hBb : B ≤ b) (hBy : B ≤ y) :
    Calls Try.prog 50 #[.pointer (some ⟨c, 0, none⟩), .pointer (some ⟨y, 0, none⟩), .agg #[.int .i64 d, .int .i64 s, .int .u32 e1, .int .u64 e2]] w (DoR w c b y n B (takeF f s (e1, e2))) := by
  have H := Lib.hid h
  haveI : LtSize c w := ⟨h.obj.lt⟩
  haveI : LtSize y w := ⟨h.ref.row.lt⟩
  have hcl := h.obj.lt
  have hyl := h.ref.row.lt
  have hbl := h.obj.tab.lt
  have hcy := h.cy
  have hby := h.by'
  have hcb := h.obj.ne
  clear h
  by_cases hdo : amongV d 5 = 4
  · go_enter Try.func50, Try.ntmps50
    go_wp2_with fail
    (refine wp_region_up (by kernel_rfl) (by kernel_rfl) ?_; (repeat (go_big_quiet_step (first | (go_at_call 37; exact Calls.up_gives (May_any c b n f s (e1, e2) _ H.out.obj.alloc.alloc.up)) | (go_at_call 65; exact Calls.up_gives (rMay_any y f s (e1, e2) _ H.out.ref.alloc.alloc.up))))); refine wpQuiet_nil ?_; intro _ hw'; obtain ⟨xq, hw''⟩ := hw'; subst hw'')
    go_wp2_with (go_at_call 16; with_reducible refine Calls.tells (Among_any _ _ _ (by omega) (by omega)) ?_)
    have hbel : Below w.heap.size w (up ((w.alloc (Obj.cells #[.int .i64 d, .int .i64 s, .int .u32 e1, .int .u64 e2] 60)).alloc (Obj.cells #[.int .u32 e1, .int .u64 e2] 86)) xq) := by (repeat (first | (with_reducible exact Below.refl _ _) | (with_reducible assumption) | (with_reducible refine Below.alloc ?_ (by (repeat (first | (with_reducible exact Nat.le_refl _) | (with_reducible assumption) | (with_reducible refine le_up ?_) | (with_reducible refine le_alloc ?_) | (with_reducible refine le_setCell ?_) | (with_reducible refine le_drew ?_) | (with_reducible refine le_drewN ?_) | omega))) _) | (with_reducible refine Below.drew ?_) | (with_reducible refine Below.drewN ?_ _) | (with_reducible refine Below.setCell ?_ (by (repeat (first | (with_reducible exact Nat.le_refl _) | (with_reducible assumption) | (with_reducible refine le_up ?_) | (with_reducible refine le_alloc ?_) | (with_reducible refine le_setCell ?_) | (with_reducible refine le_drew ?_) | (with_reducible refine le_drewN ?_) | omega))) _) | (with_reducible refine Below.up ?_ (by (repeat (first | (with_reducible exact Nat.le_refl _) | (with_reducible assumption) | (with_reducible refine le_up ?_) | (with_reducible refine le_alloc ?_) | (with_reducible refine le_setCell ?_) | (with_reducible refine le_drew ?_) | (with_reducible refine le_drewN ?_) | omega))))))
    have ho := H.out.below hbel
    have p1 : (up ((w.alloc (Obj.cells #[.int .i64 d, .int .i64 s, .int .u32 e1, .int .u64 e2] 60)).alloc (Obj.cells #[.int .u32 e1, .int .u64 e2] 86)) xq).cell? ⟨w.heap.size, 1, none⟩ = some (.int .i64 s) := by simp
    have p2 : (up ((w.alloc (Obj.cells #[.int .i64 d, .int .i64 s, .int .u32 e1, .int .u64 e2] 60)).alloc (Obj.cells #[.int .u32 e1, .int .u64 e2] 86)) xq).cell? ⟨w.heap.size, 2, none⟩ = some (.int .u32 e1) := by simp
    have p3 : (up ((w.alloc (Obj.cells #[.int .i64 d, .int .i64 s, .int .u32 e1, .int .u64 e2] 60)).alloc (Obj.cells #[.int .u32 e1, .int .u64 e2] 86)) xq).cell? ⟨w.heap.size, 3, none⟩ = some (.int .u64 e2) := by simp
    have p4 : (up ((w.alloc (Obj.cells #[.int .i64 d, .int .i64 s, .int .u32 e1, .int .u64 e2] 60)).alloc (Obj.cells #[.int .u32 e1, .int .u64 e2] 86)) xq).cell? ⟨w.heap.size + 1, 0, none⟩ = some (.int .u32 e1) := by simp
    have p5 : (up ((w.alloc (Obj.cells #[.int .i64 d, .int .i64 s, .int .u32 e1, .int .u64 e2] 60)).alloc (Obj.cells #[.int .u32 e1, .int .u64 e2] 86)) xq).cell? ⟨w.heap.size + 1, 1, none⟩ = some (.int .u64 e2) := by simp
    generalize up ((w.alloc (Obj.cells #[.int .i64 d, .int .i64 s, .int .u32 e1, .int .u64 e2] 60)).alloc (Obj.cells #[.int .u32 e1, .int .u64 e2] 86)) xq = w5 at *
    have HO := Lib.hid ho
    have HB := Lib.hid hbel
    have k1 := Lib.hid p1
    have k2 := Lib.hid p2
    have k3 := Lib.hid p3
    have k4 := Lib.hid p4
    have k5 := Lib.hid p5
    clear ho hbel
    go_region_held (fun W => W.cell? ⟨w.heap.size, 1, none⟩ = some (.int .i64 s) ∧ W.cell? ⟨w.heap.size, 2, none⟩ = some (.int .u32 e1) ∧ W.cell? ⟨w.heap.size, 3, none⟩ = some (.int .u64 e2) ∧ W.cell? ⟨w.heap.size + 1, 0, none⟩ = some (.int .u32 e1) ∧ W.cell? ⟨w.heap.size + 1, 1, none⟩ = some (.int .u64 e2))
      (first | exact ⟨k1.out, k2.out, k3.out, k4.out, k5.out⟩ | exact ⟨kept_cell k1.out HG.out (by omega), kept_cell k2.out HG.out (by omega), kept_cell k3.out HG.out (by omega), kept_cell k4.out HG.out (by omega), kept_cell k5.out HG.out (by omega)⟩ | exact ⟨kept_cell (kept_cell k1.out HG.out (by omega)) HG2.out (by omega), kept_cell (kept_cell k2.out HG.out (by omega)) HG2.out (by omega), kept_cell (kept_cell k3.out HG.out (by omega)) HG2.out (by omega), kept_cell (kept_cell k4.out HG.out (by omega)) HG2.out (by omega), kept_cell (kept_cell k5.out HG.out (by omega)) HG2.out (by omega)⟩)
      (first | (go_at_call 34; refine (Raise_any c b n f s (e1, e2) _ HO.out.obj.drew (by omega) l1 l2).mono ?_; rintro e w6 ⟨n2, rfl, hn2, ht, hg⟩; have HT := Lib.hid ht; have HG : Hid (w5.grownBy w6 (some b)) := Lib.hid (grownBy_drew hg); have HN := Lib.hid hn2; clear ht hg hn2) | (go_at_call 66; refine (rRaise_any y f s (e1, e2) _ (HO.out.ref.kept HG.out (by simp; omega))).mono ?_; rintro e w7 ⟨rfl, ht2, hg2⟩; have HT2 := Lib.hid ht2; have HG2 := Lib.hid hg2; clear ht2 hg2))
    go_wp2_with fail
    go_ret
    have hsz := HB.out.size
    have hsz2 := HG.out.size
    exact ⟨n2, rfl, HN.out, ⟨HT.out.kept HG2.out (by simp; omega) (by simp; omega), HT2.out, hcy, hby, takeF_src H.out.src⟩,
      ((HB.out.mono hB).grown HG.out (by omega) (fun k hk => by cases hk; exact hBb)).grown HG2.out (by omega) (fun k hk => by cases hk; exact hBy)⟩
  · go_enter Try.func50, Try.ntmps50
    go_wp2_with fail
    (refine wp_region_up (by kernel_rfl) (by kernel_rfl) ?_; (repeat (go_big_quiet_step (first | (go_at_call 37; exact Calls.up_gives (May_any c b n f s (e1, e2) _ H.out.obj.alloc.alloc.up)) | (go_at_call 65; exact Calls.up_gives (rMay_any y f s (e1, e2) _ H.out.ref.alloc.alloc.up))))); refine wpQuiet_nil ?_; intro _ hw'; obtain ⟨xq, hw''⟩ := hw'; subst hw'')
    go_wp2_with (go_at_call 16; with_reducible refine Calls.tells (Among_any _ _ _ (by omega) (by omega)) ?_)
    have hbel : Below w.heap.size w (up ((w.alloc (Obj.cells #[.int .i64 d, .int .i64 s, .int .u32 e1, .int .u64 e2] 60)).alloc (Obj.cells #[.int .u32 e1, .int .u64 e2] 86)) xq) := by (repeat (first | (with_reducible exact Below.refl _ _) | (with_reducible assumption) | (with_reducible refine Below.alloc ?_ (by (repeat (first | (with_reducible exact Nat.le_refl _) | (with_reducible assumption) | (with_reducible refine le_up ?_) | (with_reducible refine le_alloc ?_) | (with_reducible refine le_setCell ?_) | (with_reducible refine le_drew ?_) | (with_reducible refine le_drewN ?_) | omega))) _) | (with_reducible refine Below.drew ?_) | (with_reducible refine Below.drewN ?_ _) | (with_reducible refine Below.setCell ?_ (by (repeat (first | (with_reducible exact Nat.le_refl _) | (with_reducible assumption) | (with_reducible refine le_up ?_) | (with_reducible refine le_alloc ?_) | (with_reducible refine le_setCell ?_) | (with_reducible refine le_drew ?_) | (with_reducible refine le_drewN ?_) | omega))) _) | (with_reducible refine Below.up ?_ (by (repeat (first | (with_reducible exact Nat.le_refl _) | (with_reducible assumption) | (with_reducible refine le_up ?_) | (with_reducible refine le_alloc ?_) | (with_reducible refine le_setCell ?_) | (with_reducible refine le_drew ?_) | (with_reducible refine le_drewN ?_) | omega))))))
    have ho := H.out.below hbel
    have p1 : (up ((w.alloc (Obj.cells #[.int .i64 d, .int .i64 s, .int .u32 e1, .int .u64 e2] 60)).alloc (Obj.cells #[.int .u32 e1, .int .u64 e2] 86)) xq).cell? ⟨w.heap.size, 1, none⟩ = some (.int .i64 s) := by simp
    have p2 : (up ((w.alloc (Obj.cells #[.int .i64 d, .int .i64 s, .int .u32 e1, .int .u64 e2] 60)).alloc (Obj.cells #[.int .u32 e1, .int .u64 e2] 86)) xq).cell? ⟨w.heap.size, 2, none⟩ = some (.int .u32 e1) := by simp
    have p3 : (up ((w.alloc (Obj.cells #[.int .i64 d, .int .i64 s, .int .u32 e1, .int .u64 e2] 60)).alloc (Obj.cells #[.int .u32 e1, .int .u64 e2] 86)) xq).cell? ⟨w.heap.size, 3, none⟩ = some (.int .u64 e2) := by simp
    have p4 : (up ((w.alloc (Obj.cells #[.int .i64 d, .int .i64 s, .int .u32 e1, .int .u64 e2] 60)).alloc (Obj.cells #[.int .u32 e1, .int .u64 e2] 86)) xq).cell? ⟨w.heap.size + 1, 0, none⟩ = some (.int .u32 e1) := by simp
    have p5 : (up ((w.alloc (Obj.cells #[.int .i64 d, .int .i64 s, .int .u32 e1, .int .u64 e2] 60)).alloc (Obj.cells #[.int .u32 e1, .int .u64 e2] 86)) xq).cell? ⟨w.heap.size + 1, 1, none⟩ = some (.int .u64 e2) := by simp
    generalize up ((w.alloc (Obj.cells #[.int .i64 d, .int .i64 s, .int .u32 e1, .int .u64 e2] 60)).alloc (Obj.cells #[.int .u32 e1, .int .u64 e2] 86)) xq = w5 at *
    have HO := Lib.hid ho
    have HB := Lib.hid hbel
    have k1 := Lib.hid p1
    have k2 := Lib.hid p2
    have k3 := Lib.hid p3
    have k4 := Lib.hid p4
    have k5 := Lib.hid p5
    clear ho hbel
    go_region_held (fun W => W.cell? ⟨w.heap.size, 1, none⟩ = some (.int .i64 s) ∧ W.cell? ⟨w.heap.size, 2, none⟩ = some (.int .u32 e1) ∧ W.cell? ⟨w.heap.size, 3, none⟩ = some (.int .u64 e2) ∧ W.cell? ⟨w.heap.size + 1, 0, none⟩ = some (.int .u32 e1) ∧ W.cell? ⟨w.heap.size + 1, 1, none⟩ = some (.int .u64 e2))
      (first | exact ⟨k1.out, k2.out, k3.out, k4.out, k5.out⟩ | exact ⟨kept_cell k1.out HG.out (by omega), kept_cell k2.out HG.out (by omega), kept_cell k3.out HG.out (by omega), kept_cell k4.out HG.out (by omega), kept_cell k5.out HG.out (by omega)⟩ | exact ⟨kept_cell (kept_cell k1.out HG.out (by omega)) HG2.out (by omega), kept_cell (kept_cell k2.out HG.out (by omega)) HG2.out (by omega), kept_cell (kept_cell k3.out HG.out (by omega)) HG2.out (by omega), kept_cell (kept_cell k4.out HG.out (by omega)) HG2.out (by omega), kept_cell (kept_cell k5.out HG.out (by omega)) HG2.out (by omega)⟩)
      (first | (go_at_call 35; refine (Take_any c b n f s (e1, e2) _ HO.out.obj.drew (by omega)).mono ?_; rintro e w6 ⟨n2, rfl, hn2, ht, hg⟩; have HT := Lib.hid ht; have HG : Hid (w5.grownBy w6 (some b)) := Lib.hid (grownBy_drew hg); have HN := Lib.hid hn2; clear ht hg hn2) | (go_at_call 67; refine (rTake_any y f s (e1, e2) _ (HO.out.ref.kept HG.out (by simp; omega))).mono ?_; rintro e w7 ⟨rfl, ht2, hg2⟩; have HT2 := Lib.hid ht2; have HG2 := Lib.hid hg2; clear ht2 hg2))
    go_wp2_with fail
    go_ret
    have hsz := HB.out.size
    have hsz2 := HG.out.size
    exact ⟨n2, rfl, HN.out, ⟨HT.out.kept HG2.out (by simp; omega) (by simp; omega), HT2.out, hcy, hby, takeF_src H.out.src⟩,
      ((HB.out.mono hB).grown HG.out (by omega) (fun k hk => by cases hk; exact hBb)).grown HG2.out (by omega) (fun k hk => by cases hk; exact hBy)⟩
end Go.Proofs.Ytbfloidogdjccaa
