/-
  The walks over the watcher of readings, continued: faster, look, Last, Row, Clear.
-/
import Derived.Test.YtihalkpcddnikaaStuW
namespace Go.Proofs.Ytihalkpcddnikaa
open Go.RowKit Go.Maps
set_option linter.unusedVariables false

theorem subV_bd (a b : Int) : -9223372036854775808 ≤ subV a b ∧ subV a b ≤ 9223372036854775807 := by unfold subV; omega
/-- Numbers of 64 bits. -/
def I64 (x : Int) : Prop := -9223372036854775808 ≤ x ∧ x ≤ 9223372036854775807
structure StO.OK (m : StO) : Prop where
  a : I64 m.a
  b : I64 m.b
  c : I64 m.c
theorem vec_i0 (x y z : Int) (w : World) : (Instr.index 25 (.agg #[.int .i64 x, .int .i64 y, .int .i64 z]) (.int .i64 0)).run Try.prog w = .ok (.int .i64 x) w := by kernel_rfl
theorem vec_i1 (x y z : Int) (w : World) : (Instr.index 25 (.agg #[.int .i64 x, .int .i64 y, .int .i64 z]) (.int .i64 1)).run Try.prog w = .ok (.int .i64 y) w := by kernel_rfl
theorem vec_i2 (x y z : Int) (w : World) : (Instr.index 25 (.agg #[.int .i64 x, .int .i64 y, .int .i64 z]) (.int .i64 2)).run Try.prog w = .ok (.int .i64 z) w := by kernel_rfl
theorem faster_1 (x y z p q r most : Int) (w : World) (hx : I64 x) (hy : I64 y) (hz : I64 z) (hp : I64 p) (hq : I64 q) (hr : I64 r) (h1 : farB x p most = true) :
    Calls Try.prog 32 #[.agg #[.int .i64 x, .int .i64 y, .int .i64 z], .agg #[.int .i64 p, .int .i64 q, .int .i64 r], .int .i64 most] w (Gives w (.bool true)) := by
  obtain ⟨hx1, hx2⟩ := hx
  obtain ⟨hy1, hy2⟩ := hy
  obtain ⟨hz1, hz2⟩ := hz
  obtain ⟨hp1, hp2⟩ := hp
  obtain ⟨hq1, hq2⟩ := hq
  obtain ⟨hr1, hr2⟩ := hr
  have i0 := vec_i0 x y z
  have i1 := vec_i1 x y z
  have i2 := vec_i2 x y z
  unfold farB at *
  go_enter Try.func32, Try.ntmps32
  go_wp2_with fail
  refine wp_loop_rounds 4 ?_
  rw [rounds_succ]
  go_wp2_with (first | (go_at_call 50; with_reducible refine Calls.tells (fixSub_any _ _ _ (by omega) (by omega) (by omega) (by omega)) ?_) | (go_at_call 51; with_reducible refine Calls.tells (fixAbs_any _ _ (subV_bd _ _).1 (subV_bd _ _).2) ?_))
  go_ret
  exact Gives.mk rfl (by (repeat (first | (with_reducible exact Below.refl _ _) | (with_reducible assumption) | (with_reducible refine Below.alloc ?_ (by (repeat (first | (with_reducible exact Nat.le_refl _) | (with_reducible assumption) | (with_reducible refine le_up ?_) | (with_reducible refine le_alloc ?_) | (with_reducible refine le_setCell ?_) | (with_reducible refine le_drew ?_) | (with_reducible refine le_drewN ?_) | omega))) _) | (with_reducible refine Below.drew ?_) | (with_reducible refine Below.drewN ?_ _) | (with_reducible refine Below.setCell ?_ (by (repeat (first | (with_reducible exact Nat.le_refl _) | (with_reducible assumption) | (with_reducible refine le_up ?_) | (with_reducible refine le_alloc ?_) | (with_reducible refine le_setCell ?_) | (with_reducible refine le_drew ?_) | (with_reducible refine le_drewN ?_) | omega))) _) | (with_reducible refine Below.up ?_ (by (repeat (first | (with_reducible exact Nat.le_refl _) | (with_reducible assumption) | (with_reducible refine le_up ?_) | (with_reducible refine le_alloc ?_) | (with_reducible refine le_setCell ?_) | (with_reducible refine le_drew ?_) | (with_reducible refine le_drewN ?_) | omega)))))))
theorem faster_2 (x y z p q r most : Int) (w : World) (hx : I64 x) (hy : I64 y) (hz : I64 z) (hp : I64 p) (hq : I64 q) (hr : I64 r) (h1 : farB x p most = false) (h2 : farB y q most = true) :
    Calls Try.prog 32 #[.agg #[.int .i64 x, .int .i64 y, .int .i64 z], .agg #[.int .i64 p, .int .i64 q, .int .i64 r], .int .i64 most] w (Gives w (.bool true)) := by
  obtain ⟨hx1, hx2⟩ := hx
  obtain ⟨hy1, hy2⟩ := hy
  obtain ⟨hz1, hz2⟩ := hz
  obtain ⟨hp1, hp2⟩ := hp
  obtain ⟨hq1, hq2⟩ := hq
  obtain ⟨hr1, hr2⟩ := hr
  have i0 := vec_i0 x y z
  have i1 := vec_i1 x y z
  have i2 := vec_i2 x y z
  unfold farB at *
  go_enter Try.func32, Try.ntmps32
  go_wp2_with fail
  refine wp_loop_rounds 4 ?_
  rw [rounds_succ]
  go_wp2_with (first | (go_at_call 50; with_reducible refine Calls.tells (fixSub_any _ _ _ (by omega) (by omega) (by omega) (by omega)) ?_) | (go_at_call 51; with_reducible refine Calls.tells (fixAbs_any _ _ (subV_bd _ _).1 (subV_bd _ _).2) ?_))
  rw [rounds_succ]
  go_wp2_with (first | (go_at_call 50; with_reducible refine Calls.tells (fixSub_any _ _ _ (by omega) (by omega) (by omega) (by omega)) ?_) | (go_at_call 51; with_reducible refine Calls.tells (fixAbs_any _ _ (subV_bd _ _).1 (subV_bd _ _).2) ?_))
  go_ret
  exact Gives.mk rfl (by (repeat (first | (with_reducible exact Below.refl _ _) | (with_reducible assumption) | (with_reducible refine Below.alloc ?_ (by (repeat (first | (with_reducible exact Nat.le_refl _) | (with_reducible assumption) | (with_reducible refine le_up ?_) | (with_reducible refine le_alloc ?_) | (with_reducible refine le_setCell ?_) | (with_reducible refine le_drew ?_) | (with_reducible refine le_drewN ?_) | omega))) _) | (with_reducible refine Below.drew ?_) | (with_reducible refine Below.drewN ?_ _) | (with_reducible refine Below.setCell ?_ (by (repeat (first | (with_reducible exact Nat.le_refl _) | (with_reducible assumption) | (with_reducible refine le_up ?_) | (with_reducible refine le_alloc ?_) | (with_reducible refine le_setCell ?_) | (with_reducible refine le_drew ?_) | (with_reducible refine le_drewN ?_) | omega))) _) | (with_reducible refine Below.up ?_ (by (repeat (first | (with_reducible exact Nat.le_refl _) | (with_reducible assumption) | (with_reducible refine le_up ?_) | (with_reducible refine le_alloc ?_) | (with_reducible refine le_setCell ?_) | (with_reducible refine le_drew ?_) | (with_reducible refine le_drewN ?_) | omega)))))))
theorem faster_3 (x y z p q r most : Int) (w : World) (hx : I64 x) (hy : I64 y) (hz : I64 z) (hp : I64 p) (hq : I64 q) (hr : I64 r) (h1 : farB x p most = false) (h2 : farB y q most = false) (h3 : farB z r most = true) :
    Calls Try.prog 32 #[.agg #[.int .i64 x, .int .i64 y, .int .i64 z], .agg #[.int .i64 p, .int .i64 q, .int .i64 r], .int .i64 most] w (Gives w (.bool true)) := by
  obtain ⟨hx1, hx2⟩ := hx
  obtain ⟨hy1, hy2⟩ := hy
  obtain ⟨hz1, hz2⟩ := hz
  obtain ⟨hp1, hp2⟩ := hp
  obtain ⟨hq1, hq2⟩ := hq
  obtain ⟨hr1, hr2⟩ := hr
  have i0 := vec_i0 x y z
  have i1 := vec_i1 x y z
  have i2 := vec_i2 x y z
  unfold farB at *
  go_enter Try.func32, Try.ntmps32
  go_wp2_with fail
  refine wp_loop_rounds 4 ?_
  rw [rounds_succ]
  go_wp2_with (first | (go_at_call 50; with_reducible refine Calls.tells (fixSub_any _ _ _ (by omega) (by omega) (by omega) (by omega)) ?_) | (go_at_call 51; with_reducible refine Calls.tells (fixAbs_any _ _ (subV_bd _ _).1 (subV_bd _ _).2) ?_))
  rw [rounds_succ]
  go_wp2_with (first | (go_at_call 50; with_reducible refine Calls.tells (fixSub_any _ _ _ (by omega) (by omega) (by omega) (by omega)) ?_) | (go_at_call 51; with_reducible refine Calls.tells (fixAbs_any _ _ (subV_bd _ _).1 (subV_bd _ _).2) ?_))
  rw [rounds_succ]
  go_wp2_with (first | (go_at_call 50; with_reducible refine Calls.tells (fixSub_any _ _ _ (by omega) (by omega) (by omega) (by omega)) ?_) | (go_at_call 51; with_reducible refine Calls.tells (fixAbs_any _ _ (subV_bd _ _).1 (subV_bd _ _).2) ?_))
  go_ret
  exact Gives.mk rfl (by (repeat (first | (with_reducible exact Below.refl _ _) | (with_reducible assumption) | (with_reducible refine Below.alloc ?_ (by (repeat (first | (with_reducible exact Nat.le_refl _) | (with_reducible assumption) | (with_reducible refine le_up ?_) | (with_reducible refine le_alloc ?_) | (with_reducible refine le_setCell ?_) | (with_reducible refine le_drew ?_) | (with_reducible refine le_drewN ?_) | omega))) _) | (with_reducible refine Below.drew ?_) | (with_reducible refine Below.drewN ?_ _) | (with_reducible refine Below.setCell ?_ (by (repeat (first | (with_reducible exact Nat.le_refl _) | (with_reducible assumption) | (with_reducible refine le_up ?_) | (with_reducible refine le_alloc ?_) | (with_reducible refine le_setCell ?_) | (with_reducible refine le_drew ?_) | (with_reducible refine le_drewN ?_) | omega))) _) | (with_reducible refine Below.up ?_ (by (repeat (first | (with_reducible exact Nat.le_refl _) | (with_reducible assumption) | (with_reducible refine le_up ?_) | (with_reducible refine le_alloc ?_) | (with_reducible refine le_setCell ?_) | (with_reducible refine le_drew ?_) | (with_reducible refine le_drewN ?_) | omega)))))))
theorem faster_4 (x y z p q r most : Int) (w : World) (hx : I64 x) (hy : I64 y) (hz : I64 z) (hp : I64 p) (hq : I64 q) (hr : I64 r) (h1 : farB x p most = false) (h2 : farB y q most = false) (h3 : farB z r most = false) :
    Calls Try.prog 32 #[.agg #[.int .i64 x, .int .i64 y, .int .i64 z], .agg #[.int .i64 p, .int .i64 q, .int .i64 r], .int .i64 most] w (Gives w (.bool false)) := by
  obtain ⟨hx1, hx2⟩ := hx
  obtain ⟨hy1, hy2⟩ := hy
  obtain ⟨hz1, hz2⟩ := hz
  obtain ⟨hp1, hp2⟩ := hp
  obtain ⟨hq1, hq2⟩ := hq
  obtain ⟨hr1, hr2⟩ := hr
  have i0 := vec_i0 x y z
  have i1 := vec_i1 x y z
  have i2 := vec_i2 x y z
  unfold farB at *
  go_enter Try.func32, Try.ntmps32
  go_wp2_with fail
  refine wp_loop_rounds 4 ?_
  rw [rounds_succ]
  go_wp2_with (first | (go_at_call 50; with_reducible refine Calls.tells (fixSub_any _ _ _ (by omega) (by omega) (by omega) (by omega)) ?_) | (go_at_call 51; with_reducible refine Calls.tells (fixAbs_any _ _ (subV_bd _ _).1 (subV_bd _ _).2) ?_))
  rw [rounds_succ]
  go_wp2_with (first | (go_at_call 50; with_reducible refine Calls.tells (fixSub_any _ _ _ (by omega) (by omega) (by omega) (by omega)) ?_) | (go_at_call 51; with_reducible refine Calls.tells (fixAbs_any _ _ (subV_bd _ _).1 (subV_bd _ _).2) ?_))
  rw [rounds_succ]
  go_wp2_with (first | (go_at_call 50; with_reducible refine Calls.tells (fixSub_any _ _ _ (by omega) (by omega) (by omega) (by omega)) ?_) | (go_at_call 51; with_reducible refine Calls.tells (fixAbs_any _ _ (subV_bd _ _).1 (subV_bd _ _).2) ?_))
  rw [rounds_succ]
  go_wp2_with (first | (go_at_call 50; with_reducible refine Calls.tells (fixSub_any _ _ _ (by omega) (by omega) (by omega) (by omega)) ?_) | (go_at_call 51; with_reducible refine Calls.tells (fixAbs_any _ _ (subV_bd _ _).1 (subV_bd _ _).2) ?_))
  go_ret
  exact Gives.mk rfl (by (repeat (first | (with_reducible exact Below.refl _ _) | (with_reducible assumption) | (with_reducible refine Below.alloc ?_ (by (repeat (first | (with_reducible exact Nat.le_refl _) | (with_reducible assumption) | (with_reducible refine le_up ?_) | (with_reducible refine le_alloc ?_) | (with_reducible refine le_setCell ?_) | (with_reducible refine le_drew ?_) | (with_reducible refine le_drewN ?_) | omega))) _) | (with_reducible refine Below.drew ?_) | (with_reducible refine Below.drewN ?_ _) | (with_reducible refine Below.setCell ?_ (by (repeat (first | (with_reducible exact Nat.le_refl _) | (with_reducible assumption) | (with_reducible refine le_up ?_) | (with_reducible refine le_alloc ?_) | (with_reducible refine le_setCell ?_) | (with_reducible refine le_drew ?_) | (with_reducible refine le_drewN ?_) | omega))) _) | (with_reducible refine Below.up ?_ (by (repeat (first | (with_reducible exact Nat.le_refl _) | (with_reducible assumption) | (with_reducible refine le_up ?_) | (with_reducible refine le_alloc ?_) | (with_reducible refine le_setCell ?_) | (with_reducible refine le_drew ?_) | (with_reducible refine le_drewN ?_) | omega)))))))
theorem faster_any (m l : StO) (most : Int) (w : World) (hm : m.OK) (hl : l.OK) :
    Calls Try.prog 32 #[.agg #[.int .i64 m.a, .int .i64 m.b, .int .i64 m.c], .agg #[.int .i64 l.a, .int .i64 l.b, .int .i64 l.c], .int .i64 most] w (Gives w (.bool (fastB m l most))) := by
  unfold fastB
  cases h1 : farB m.a l.a most
  · cases h2 : farB m.b l.b most
    · cases h3 : farB m.c l.c most
      · exact faster_4 _ _ _ _ _ _ most w hm.a hm.b hm.c hl.a hl.b hl.c h1 h2 h3
      · exact faster_3 _ _ _ _ _ _ most w hm.a hm.b hm.c hl.a hl.b hl.c h1 h2 h3
    · exact faster_2 _ _ _ _ _ _ most w hm.a hm.b hm.c hl.a hl.b hl.c h1 h2
  · exact faster_1 _ _ _ _ _ _ most w hm.a hm.b hm.c hl.a hl.b hl.c h1
def slookO (f : Int → Option StO) (s : Int) : StO := if srcB s then (f s).getD StO.zero else StO.zero
def slookK (f : Int → Option StO) (s : Int) : Bool := if srcB s then (f s).isSome else false
set_option maxRecDepth 100000 in
theorem slook_any (c b n : Nat) (same rate : Int) (f : Int → Option StO) (s : Int) (w : World) (h : StAt w c b n same rate f) :
    Calls Try.prog 38 #[.pointer (some ⟨c, 0, none⟩), .int .i64 s] w (Gives w (.tuple #[stV (slookO f s), .bool (slookK f s)])) := by
  have H := Lib.hid h
  have hc := h.c2
  haveI : LtSize c w := ⟨h.lt⟩
  have hne : ¬ c = w.heap.size := by have := h.lt; omega
  clear h
  cases hs : srcB s
  · rw [show slookO f s = StO.zero by simp [slookO, hs], show slookK f s = false by simp [slookK, hs]]
    unfold stV StO.zero
    go_enter Try.func38, Try.ntmps38
    go_wp2_with (go_at_call 31; with_reducible refine Calls.tells (smay_f c b n same rate f s _ H.out.alloc hs) ?_)
    (try simp only [Exit.inBlock, Exit.then])
    refine bodyPost_ret (v := .tuple #[.agg #[.int .i64 0, .int .i64 0, .int .i64 0, .int .i64 0, .int .i64 0], .bool false]) ?_ rfl (Gives.mk rfl (by (repeat (first | (with_reducible exact Below.refl _ _) | (with_reducible assumption) | (with_reducible refine Below.alloc ?_ (by (repeat (first | (with_reducible exact Nat.le_refl _) | (with_reducible assumption) | (with_reducible refine le_up ?_) | (with_reducible refine le_alloc ?_) | (with_reducible refine le_setCell ?_) | (with_reducible refine le_drew ?_) | (with_reducible refine le_drewN ?_) | omega))) _) | (with_reducible refine Below.drew ?_) | (with_reducible refine Below.drewN ?_ _) | (with_reducible refine Below.setCell ?_ (by (repeat (first | (with_reducible exact Nat.le_refl _) | (with_reducible assumption) | (with_reducible refine le_up ?_) | (with_reducible refine le_alloc ?_) | (with_reducible refine le_setCell ?_) | (with_reducible refine le_drew ?_) | (with_reducible refine le_drewN ?_) | omega))) _) | (with_reducible refine Below.up ?_ (by (repeat (first | (with_reducible exact Nat.le_refl _) | (with_reducible assumption) | (with_reducible refine le_up ?_) | (with_reducible refine le_alloc ?_) | (with_reducible refine le_setCell ?_) | (with_reducible refine le_drew ?_) | (with_reducible refine le_drewN ?_) | omega))))))))
    (simp only [results, show Try.f38.results = #[ResultVar.cell 4 91, ResultVar.tmp 5] from rfl]; go_simp)
  · obtain ⟨s1, s2⟩ := src_in hs
    rw [show slookO f s = (f s).getD StO.zero by simp [slookO, hs], show slookK f s = (f s).isSome by simp [slookK, hs]]
    have HF := Lib.hid (show (f s).getD StO.zero = (f s).getD StO.zero from rfl)
    obtain ⟨v, hv⟩ : ∃ v, (f s).getD StO.zero = v := ⟨_, rfl⟩
    obtain ⟨k, hk⟩ : ∃ k, (f s).isSome = k := ⟨_, rfl⟩
    have HV := Lib.hid hv
    have HK := Lib.hid hk
    rw [hv, hk]
    clear hv hk
    unfold stV
    go_enter Try.func38, Try.ntmps38
    go_wp2_with (first | (go_at_call 31; with_reducible refine Calls.tells (smay_t c b n same rate f s _ H.out.alloc hs) ?_) | (at_lookup; refine wpList_lookup_st rfl _ _ rfl b n f rfl H.out.alloc.tab s rfl (by omega) (by omega) ?_; rw [HV.out, HK.out]; unfold stV))
    (try simp only [Exit.inBlock, Exit.then])
    refine bodyPost_ret (v := .tuple #[.agg #[.int .i64 v.a, .int .i64 v.b, .int .i64 v.c, .int .i64 v.tk, .int .i64 v.row], .bool k]) ?_ rfl (Gives.mk rfl (by (repeat (first | (with_reducible exact Below.refl _ _) | (with_reducible assumption) | (with_reducible refine Below.alloc ?_ (by (repeat (first | (with_reducible exact Nat.le_refl _) | (with_reducible assumption) | (with_reducible refine le_up ?_) | (with_reducible refine le_alloc ?_) | (with_reducible refine le_setCell ?_) | (with_reducible refine le_drew ?_) | (with_reducible refine le_drewN ?_) | omega))) _) | (with_reducible refine Below.drew ?_) | (with_reducible refine Below.drewN ?_ _) | (with_reducible refine Below.setCell ?_ (by (repeat (first | (with_reducible exact Nat.le_refl _) | (with_reducible assumption) | (with_reducible refine le_up ?_) | (with_reducible refine le_alloc ?_) | (with_reducible refine le_setCell ?_) | (with_reducible refine le_drew ?_) | (with_reducible refine le_drewN ?_) | omega))) _) | (with_reducible refine Below.up ?_ (by (repeat (first | (with_reducible exact Nat.le_refl _) | (with_reducible assumption) | (with_reducible refine le_up ?_) | (with_reducible refine le_alloc ?_) | (with_reducible refine le_setCell ?_) | (with_reducible refine le_drew ?_) | (with_reducible refine le_drewN ?_) | omega))))))))
    (simp only [results, show Try.f38.results = #[ResultVar.cell 4 91, ResultVar.tmp 5] from rfl]; go_simp)
set_option maxRecDepth 100000 in
theorem slook_nil (s : Int) (w : World) :
    Calls Try.prog 38 #[.pointer none, .int .i64 s] w (Gives w (.tuple #[.agg #[.int .i64 0, .int .i64 0, .int .i64 0, .int .i64 0, .int .i64 0], .bool false])) := by
  go_enter Try.func38, Try.ntmps38
  go_wp2_with (go_at_call 31; with_reducible refine Calls.tells (smay_nil s _) ?_)
  (try simp only [Exit.inBlock, Exit.then])
  refine bodyPost_ret (v := .tuple #[.agg #[.int .i64 0, .int .i64 0, .int .i64 0, .int .i64 0, .int .i64 0], .bool false]) ?_ rfl (Gives.mk rfl (by (repeat (first | (with_reducible exact Below.refl _ _) | (with_reducible assumption) | (with_reducible refine Below.alloc ?_ (by (repeat (first | (with_reducible exact Nat.le_refl _) | (with_reducible assumption) | (with_reducible refine le_up ?_) | (with_reducible refine le_alloc ?_) | (with_reducible refine le_setCell ?_) | (with_reducible refine le_drew ?_) | (with_reducible refine le_drewN ?_) | omega))) _) | (with_reducible refine Below.drew ?_) | (with_reducible refine Below.drewN ?_ _) | (with_reducible refine Below.setCell ?_ (by (repeat (first | (with_reducible exact Nat.le_refl _) | (with_reducible assumption) | (with_reducible refine le_up ?_) | (with_reducible refine le_alloc ?_) | (with_reducible refine le_setCell ?_) | (with_reducible refine le_drew ?_) | (with_reducible refine le_drewN ?_) | omega))) _) | (with_reducible refine Below.up ?_ (by (repeat (first | (with_reducible exact Nat.le_refl _) | (with_reducible assumption) | (with_reducible refine le_up ?_) | (with_reducible refine le_alloc ?_) | (with_reducible refine le_setCell ?_) | (with_reducible refine le_drew ?_) | (with_reducible refine le_drewN ?_) | omega))))))))
  (simp only [results, show Try.f38.results = #[ResultVar.cell 4 91, ResultVar.tmp 5] from rfl]; go_simp)
set_option maxRecDepth 100000 in
theorem slook_void (c : Nat) (s : Int) (w : World) [LtSize c w] (hc : w.cell? ⟨c, 2, none⟩ = some (.map none)) :
    Calls Try.prog 38 #[.pointer (some ⟨c, 0, none⟩), .int .i64 s] w (Gives w (.tuple #[.agg #[.int .i64 0, .int .i64 0, .int .i64 0, .int .i64 0, .int .i64 0], .bool false])) := by
  go_enter Try.func38, Try.ntmps38
  go_wp2_with (go_at_call 31; with_reducible refine Calls.tells (smay_void c s _ (by simp [hc])) ?_)
  (try simp only [Exit.inBlock, Exit.then])
  refine bodyPost_ret (v := .tuple #[.agg #[.int .i64 0, .int .i64 0, .int .i64 0, .int .i64 0, .int .i64 0], .bool false]) ?_ rfl (Gives.mk rfl (by (repeat (first | (with_reducible exact Below.refl _ _) | (with_reducible assumption) | (with_reducible refine Below.alloc ?_ (by (repeat (first | (with_reducible exact Nat.le_refl _) | (with_reducible assumption) | (with_reducible refine le_up ?_) | (with_reducible refine le_alloc ?_) | (with_reducible refine le_setCell ?_) | (with_reducible refine le_drew ?_) | (with_reducible refine le_drewN ?_) | omega))) _) | (with_reducible refine Below.drew ?_) | (with_reducible refine Below.drewN ?_ _) | (with_reducible refine Below.setCell ?_ (by (repeat (first | (with_reducible exact Nat.le_refl _) | (with_reducible assumption) | (with_reducible refine le_up ?_) | (with_reducible refine le_alloc ?_) | (with_reducible refine le_setCell ?_) | (with_reducible refine le_drew ?_) | (with_reducible refine le_drewN ?_) | omega))) _) | (with_reducible refine Below.up ?_ (by (repeat (first | (with_reducible exact Nat.le_refl _) | (with_reducible assumption) | (with_reducible refine le_up ?_) | (with_reducible refine le_alloc ?_) | (with_reducible refine le_setCell ?_) | (with_reducible refine le_drew ?_) | (with_reducible refine le_drewN ?_) | omega))))))))
  (simp only [results, show Try.f38.results = #[ResultVar.cell 4 91, ResultVar.tmp 5] from rfl]; go_simp)
set_option maxRecDepth 100000 in
theorem sRow_any (c b n : Nat) (same rate : Int) (f : Int → Option StO) (s : Int) (w : World) (h : StAt w c b n same rate f) :
    Calls Try.prog 19 #[.pointer (some ⟨c, 0, none⟩), .int .i64 s] w (Gives w (.int .i64 (slookO f s).row)) := by
  have hC := Lib.hid (fun (X : World) (hX : StAt X c b n same rate f) => slook_any c b n same rate f s X hX)
  have H := Lib.hid h
  clear h
  generalize slookO f s = v at *
  generalize slookK f s = k at *
  unfold stV at hC
  go_enter Try.func19, Try.ntmps19
  go_wp2_with (go_at_call 38; (first | with_reducible refine Calls.fold (hC.out _ H.out) ?_ | with_reducible refine Calls.fresh (hC.out _ H.out) ?_); intro x1)
  go_ret
  exact Gives.mk rfl (by (repeat (first | (with_reducible exact Below.refl _ _) | (with_reducible assumption) | (with_reducible refine Below.alloc ?_ (by (repeat (first | (with_reducible exact Nat.le_refl _) | (with_reducible assumption) | (with_reducible refine le_up ?_) | (with_reducible refine le_alloc ?_) | (with_reducible refine le_setCell ?_) | (with_reducible refine le_drew ?_) | (with_reducible refine le_drewN ?_) | omega))) _) | (with_reducible refine Below.drew ?_) | (with_reducible refine Below.drewN ?_ _) | (with_reducible refine Below.setCell ?_ (by (repeat (first | (with_reducible exact Nat.le_refl _) | (with_reducible assumption) | (with_reducible refine le_up ?_) | (with_reducible refine le_alloc ?_) | (with_reducible refine le_setCell ?_) | (with_reducible refine le_drew ?_) | (with_reducible refine le_drewN ?_) | omega))) _) | (with_reducible refine Below.up ?_ (by (repeat (first | (with_reducible exact Nat.le_refl _) | (with_reducible assumption) | (with_reducible refine le_up ?_) | (with_reducible refine le_alloc ?_) | (with_reducible refine le_setCell ?_) | (with_reducible refine le_drew ?_) | (with_reducible refine le_drewN ?_) | omega)))))))
set_option maxRecDepth 100000 in
theorem sRow_nil (s : Int) (w : World) :
    Calls Try.prog 19 #[.pointer none, .int .i64 s] w (Gives w (.int .i64 0)) := by
  go_enter Try.func19, Try.ntmps19
  go_wp2_with (go_at_call 38; (first | with_reducible refine Calls.fold (slook_nil s _) ?_ | with_reducible refine Calls.fresh (slook_nil s _) ?_); intro x1)
  go_ret
  exact Gives.mk rfl (by (repeat (first | (with_reducible exact Below.refl _ _) | (with_reducible assumption) | (with_reducible refine Below.alloc ?_ (by (repeat (first | (with_reducible exact Nat.le_refl _) | (with_reducible assumption) | (with_reducible refine le_up ?_) | (with_reducible refine le_alloc ?_) | (with_reducible refine le_setCell ?_) | (with_reducible refine le_drew ?_) | (with_reducible refine le_drewN ?_) | omega))) _) | (with_reducible refine Below.drew ?_) | (with_reducible refine Below.drewN ?_ _) | (with_reducible refine Below.setCell ?_ (by (repeat (first | (with_reducible exact Nat.le_refl _) | (with_reducible assumption) | (with_reducible refine le_up ?_) | (with_reducible refine le_alloc ?_) | (with_reducible refine le_setCell ?_) | (with_reducible refine le_drew ?_) | (with_reducible refine le_drewN ?_) | omega))) _) | (with_reducible refine Below.up ?_ (by (repeat (first | (with_reducible exact Nat.le_refl _) | (with_reducible assumption) | (with_reducible refine le_up ?_) | (with_reducible refine le_alloc ?_) | (with_reducible refine le_setCell ?_) | (with_reducible refine le_drew ?_) | (with_reducible refine le_drewN ?_) | omega)))))))
set_option maxRecDepth 100000 in
theorem sRow_void (c : Nat) (s : Int) (w : World) [LtSize c w] (hc : w.cell? ⟨c, 2, none⟩ = some (.map none)) :
    Calls Try.prog 19 #[.pointer (some ⟨c, 0, none⟩), .int .i64 s] w (Gives w (.int .i64 0)) := by
  go_enter Try.func19, Try.ntmps19
  go_wp2_with (go_at_call 38; (first | with_reducible refine Calls.fold (slook_void c s _ (by simp [hc])) ?_ | with_reducible refine Calls.fresh (slook_void c s _ (by simp [hc])) ?_); intro x1)
  go_ret
  exact Gives.mk rfl (by (repeat (first | (with_reducible exact Below.refl _ _) | (with_reducible assumption) | (with_reducible refine Below.alloc ?_ (by (repeat (first | (with_reducible exact Nat.le_refl _) | (with_reducible assumption) | (with_reducible refine le_up ?_) | (with_reducible refine le_alloc ?_) | (with_reducible refine le_setCell ?_) | (with_reducible refine le_drew ?_) | (with_reducible refine le_drewN ?_) | omega))) _) | (with_reducible refine Below.drew ?_) | (with_reducible refine Below.drewN ?_ _) | (with_reducible refine Below.setCell ?_ (by (repeat (first | (with_reducible exact Nat.le_refl _) | (with_reducible assumption) | (with_reducible refine le_up ?_) | (with_reducible refine le_alloc ?_) | (with_reducible refine le_setCell ?_) | (with_reducible refine le_drew ?_) | (with_reducible refine le_drewN ?_) | omega))) _) | (with_reducible refine Below.up ?_ (by (repeat (first | (with_reducible exact Nat.le_refl _) | (with_reducible assumption) | (with_reducible refine le_up ?_) | (with_reducible refine le_alloc ?_) | (with_reducible refine le_setCell ?_) | (with_reducible refine le_drew ?_) | (with_reducible refine le_drewN ?_) | omega)))))))
set_option maxRecDepth 100000 in
theorem sLast_any (c b n : Nat) (same rate : Int) (f : Int → Option StO) (s : Int) (w : World) (h : StAt w c b n same rate f) :
    Calls Try.prog 18 #[.pointer (some ⟨c, 0, none⟩), .int .i64 s] w (Gives w (.tuple #[.agg #[.int .i64 (slookO f s).a, .int .i64 (slookO f s).b, .int .i64 (slookO f s).c], .int .i64 (slookO f s).tk, .bool (slookK f s)])) := by
  have hC := Lib.hid (fun (X : World) (hX : StAt X c b n same rate f) => slook_any c b n same rate f s X hX)
  have H := Lib.hid h
  clear h
  generalize slookO f s = v at *
  generalize slookK f s = k at *
  unfold stV at hC
  go_enter Try.func18, Try.ntmps18
  go_wp2_with (go_at_call 38; (first | with_reducible refine Calls.fold (hC.out _ H.out.alloc) ?_ | with_reducible refine Calls.fresh (hC.out _ H.out.alloc) ?_); intro x1)
  go_region
  go_wp2_with fail
  (try simp only [Exit.inBlock, Exit.then])
  refine bodyPost_ret (v := .tuple #[.agg #[.int .i64 v.a, .int .i64 v.b, .int .i64 v.c], .int .i64 v.tk, .bool k]) ?_ rfl (Gives.mk rfl (by (repeat (first | (with_reducible exact Below.refl _ _) | (with_reducible assumption) | (with_reducible refine Below.alloc ?_ (by (repeat (first | (with_reducible exact Nat.le_refl _) | (with_reducible assumption) | (with_reducible refine le_up ?_) | (with_reducible refine le_alloc ?_) | (with_reducible refine le_setCell ?_) | (with_reducible refine le_drew ?_) | (with_reducible refine le_drewN ?_) | omega))) _) | (with_reducible refine Below.drew ?_) | (with_reducible refine Below.drewN ?_ _) | (with_reducible refine Below.setCell ?_ (by (repeat (first | (with_reducible exact Nat.le_refl _) | (with_reducible assumption) | (with_reducible refine le_up ?_) | (with_reducible refine le_alloc ?_) | (with_reducible refine le_setCell ?_) | (with_reducible refine le_drew ?_) | (with_reducible refine le_drewN ?_) | omega))) _) | (with_reducible refine Below.up ?_ (by (repeat (first | (with_reducible exact Nat.le_refl _) | (with_reducible assumption) | (with_reducible refine le_up ?_) | (with_reducible refine le_alloc ?_) | (with_reducible refine le_setCell ?_) | (with_reducible refine le_drew ?_) | (with_reducible refine le_drewN ?_) | omega))))))))
  (simp only [results, show Try.f18.results = #[ResultVar.cell 4 25, ResultVar.tmp 5, ResultVar.tmp 6] from rfl]; go_simp)
set_option maxRecDepth 100000 in
theorem sLast_nil (s : Int) (w : World) :
    Calls Try.prog 18 #[.pointer none, .int .i64 s] w (Gives w (.tuple #[.agg #[.int .i64 0, .int .i64 0, .int .i64 0], .int .i64 0, .bool false])) := by
  go_enter Try.func18, Try.ntmps18
  go_wp2_with (go_at_call 38; (first | with_reducible refine Calls.fold (slook_nil s _) ?_ | with_reducible refine Calls.fresh (slook_nil s _) ?_); intro x1)
  go_region
  go_wp2_with fail
  (try simp only [Exit.inBlock, Exit.then])
  refine bodyPost_ret (v := .tuple #[.agg #[.int .i64 0, .int .i64 0, .int .i64 0], .int .i64 0, .bool false]) ?_ rfl (Gives.mk rfl (by (repeat (first | (with_reducible exact Below.refl _ _) | (with_reducible assumption) | (with_reducible refine Below.alloc ?_ (by (repeat (first | (with_reducible exact Nat.le_refl _) | (with_reducible assumption) | (with_reducible refine le_up ?_) | (with_reducible refine le_alloc ?_) | (with_reducible refine le_setCell ?_) | (with_reducible refine le_drew ?_) | (with_reducible refine le_drewN ?_) | omega))) _) | (with_reducible refine Below.drew ?_) | (with_reducible refine Below.drewN ?_ _) | (with_reducible refine Below.setCell ?_ (by (repeat (first | (with_reducible exact Nat.le_refl _) | (with_reducible assumption) | (with_reducible refine le_up ?_) | (with_reducible refine le_alloc ?_) | (with_reducible refine le_setCell ?_) | (with_reducible refine le_drew ?_) | (with_reducible refine le_drewN ?_) | omega))) _) | (with_reducible refine Below.up ?_ (by (repeat (first | (with_reducible exact Nat.le_refl _) | (with_reducible assumption) | (with_reducible refine le_up ?_) | (with_reducible refine le_alloc ?_) | (with_reducible refine le_setCell ?_) | (with_reducible refine le_drew ?_) | (with_reducible refine le_drewN ?_) | omega))))))))
  (simp only [results, show Try.f18.results = #[ResultVar.cell 4 25, ResultVar.tmp 5, ResultVar.tmp 6] from rfl]; go_simp)
set_option maxRecDepth 100000 in
theorem sLast_void (c : Nat) (s : Int) (w : World) [LtSize c w] (hc : w.cell? ⟨c, 2, none⟩ = some (.map none)) :
    Calls Try.prog 18 #[.pointer (some ⟨c, 0, none⟩), .int .i64 s] w (Gives w (.tuple #[.agg #[.int .i64 0, .int .i64 0, .int .i64 0], .int .i64 0, .bool false])) := by
  go_enter Try.func18, Try.ntmps18
  go_wp2_with (go_at_call 38; (first | with_reducible refine Calls.fold (slook_void c s _ (by simp [hc])) ?_ | with_reducible refine Calls.fresh (slook_void c s _ (by simp [hc])) ?_); intro x1)
  go_region
  go_wp2_with fail
  (try simp only [Exit.inBlock, Exit.then])
  refine bodyPost_ret (v := .tuple #[.agg #[.int .i64 0, .int .i64 0, .int .i64 0], .int .i64 0, .bool false]) ?_ rfl (Gives.mk rfl (by (repeat (first | (with_reducible exact Below.refl _ _) | (with_reducible assumption) | (with_reducible refine Below.alloc ?_ (by (repeat (first | (with_reducible exact Nat.le_refl _) | (with_reducible assumption) | (with_reducible refine le_up ?_) | (with_reducible refine le_alloc ?_) | (with_reducible refine le_setCell ?_) | (with_reducible refine le_drew ?_) | (with_reducible refine le_drewN ?_) | omega))) _) | (with_reducible refine Below.drew ?_) | (with_reducible refine Below.drewN ?_ _) | (with_reducible refine Below.setCell ?_ (by (repeat (first | (with_reducible exact Nat.le_refl _) | (with_reducible assumption) | (with_reducible refine le_up ?_) | (with_reducible refine le_alloc ?_) | (with_reducible refine le_setCell ?_) | (with_reducible refine le_drew ?_) | (with_reducible refine le_drewN ?_) | omega))) _) | (with_reducible refine Below.up ?_ (by (repeat (first | (with_reducible exact Nat.le_refl _) | (with_reducible assumption) | (with_reducible refine le_up ?_) | (with_reducible refine le_alloc ?_) | (with_reducible refine le_setCell ?_) | (with_reducible refine le_drew ?_) | (with_reducible refine le_drewN ?_) | omega))))))))
  (simp only [results, show Try.f18.results = #[ResultVar.cell 4 25, ResultVar.tmp 5, ResultVar.tmp 6] from rfl]; go_simp)
def StClearR (w : World) (c b n : Nat) (same rate code : Int) (f : Int → Option StO) (e : Ending) (w' : World) : Prop := e = .returned (.int .i64 code) ∧ StAt w' c b n same rate f ∧ w.grownBy w' (some b)
def clrE (s : Int) : Int := if srcB s then 0 else 2
def clrF (f : Int → Option StO) (s : Int) : Int → Option StO := if srcB s then delS f s else f
theorem sClear_any (c b n : Nat) (same rate : Int) (f : Int → Option StO) (s : Int) (w : World) (h : StAt w c b n same rate f) :
    Calls Try.prog 15 #[.pointer (some ⟨c, 0, none⟩), .int .i64 s] w (StClearR w c b n same rate (clrE s) (clrF f s)) := by
  have H := Lib.hid h
  have hc := h.c2
  haveI : LtSize c w := ⟨h.lt⟩
  clear h
  unfold clrE clrF
  cases hs : srcB s
  · go_enter Try.func15, Try.ntmps15
    go_wp2_with (go_at_call 31; with_reducible refine Calls.tells (smay_f c b n same rate f s _ H.out hs) ?_)
    go_ret
    exact ⟨rfl, H.out, gr_refl _ _⟩
  · obtain ⟨s1, s2⟩ := src_in hs
    go_enter Try.func15, Try.ntmps15
    go_wp2_with (first | (go_at_call 31; with_reducible refine Calls.tells (smay_t c b n same rate f s _ H.out hs) ?_) | (at_delete; refine wpList_delete_st rfl _ _ rfl b n f rfl H.out.tab s rfl (by omega) (by omega) ?_; intro w2 ht hg; have HT := Lib.hid ht; have HG := Lib.hid hg; clear ht hg))
    go_ret
    exact ⟨rfl, H.out.grown HG.out HT.out, HG.out⟩
theorem sClear_nil (s : Int) (w : World) :
    Calls Try.prog 15 #[.pointer none, .int .i64 s] w (Tells w (.int .i64 1)) := by
  go_enter Try.func15, Try.ntmps15
  go_wp2_with (go_at_call 31; with_reducible refine Calls.tells (smay_nil s _) ?_)
  go_ret
  exact Tells.mk rfl
theorem sClear_void (c : Nat) (s : Int) (w : World) (hc : w.cell? ⟨c, 2, none⟩ = some (.map none)) :
    Calls Try.prog 15 #[.pointer (some ⟨c, 0, none⟩), .int .i64 s] w (Tells w (.int .i64 1)) := by
  go_enter Try.func15, Try.ntmps15
  go_wp2_with (go_at_call 31; with_reducible refine Calls.tells (smay_void c s _ hc) ?_)
  go_ret
  exact Tells.mk rfl
end Go.Proofs.Ytihalkpcddnikaa
