/-
  The walk over Take of the watcher of readings.
-/
import Derived.Test.YtihalkpcddnikaaStuX
namespace Go.Proofs.Ytihalkpcddnikaa
open Go.RowKit Go.Maps
set_option linter.unusedVariables false

theorem info_fix : (Try.prog.info? 23).map (fun i => (i.zero, i.size, i.bytes)) = some (some (.int .i64 0), 1, 8) := by kernel_rfl
theorem eq3 (W : World) (a0 a1 a2 b0 b1 b2 : Int) : (Op.equalIn 10000 25 (.agg #[.int .i64 a0, .int .i64 a1, .int .i64 a2]) (.agg #[.int .i64 b0, .int .i64 b1, .int .i64 b2])).run Try.prog W = .ok (a0 == b0 && (a1 == b1 && a2 == b2)) W := by
  obtain ⟨i0, hi, hz0, hz1, hz2⟩ := info_parts info_fix
  have hc : Try.prog.cellsOf 23 = 1 := by kernel_rfl
  rw [run_equalIn_array W 9999 _ _ Try.underlying25 hi, hc]
  have hu := Try.underlying23
  simp [Op.eqItems, List.range_succ, part, isAgg, run_underlying hu, run_equalIn_int W _ 23 .i64 .i64 _ _ hu]
  repeat split
  all_goals simp_all
/-- Of what a watcher holds. -/
structure StOK (same rate : Int) (f : Int → Option StO) (n : Int) : Prop where
  s1 : 1 ≤ same
  s2 : same ≤ 1000
  r1 : 0 ≤ rate
  r2 : rate ≤ 9223372036854775807
  v : ∀ s m, f s = some m → m.OK
  t0 : ∀ s m, f s = some m → 0 ≤ m.tk ∧ m.tk ≤ 1099511627776
  w0 : ∀ s m, f s = some m → 1 ≤ m.row ∧ m.row ≤ n
def lastO (f : Int → Option StO) (s : Int) : StO := (f s).getD StO.zero
def sameV (l : StO) (a b c : Int) : Bool := l.a == a && (l.b == b && l.c == c)
def nowRow (f : Int → Option StO) (s a b c : Int) : Int := if (f s).isSome && sameV (lastO f s) a b c then 1 + (lastO f s).row else 1
def tkE (f : Int → Option StO) (s t : Int) : Int := if srcB s then (if t < (lastO f s).tk ∨ 1099511627776 < t then 2 else 0) else 2
def tkFl (same rate : Int) (f : Int → Option StO) (s a b c t : Int) : Int :=
  if tkE f s t = 0 then (if same < nowRow f s a b c then 1 else 0) + (if (f s).isSome && fastB ⟨a, b, c, 0, 0⟩ (lastO f s) (limV rate (t - (lastO f s).tk)) then 2 else 0) else 0
def tkF (f : Int → Option StO) (s a b c t : Int) : Int → Option StO := if tkE f s t = 0 then updS f s ⟨a, b, c, t, nowRow f s a b c⟩ else f
def StTakeR (w : World) (c b n : Nat) (same rate fl code : Int) (f : Int → Option StO) (e : Ending) (w' : World) : Prop := ∃ n', e = .returned (.tuple #[.int .u8 fl, .int .i64 code]) ∧ n' ≤ n + 1 ∧ StAt w' c b n' same rate f ∧ w.grownBy w' (some b)
set_option maxRecDepth 100000 in
theorem tk_out (c b n : Nat) (same rate : Int) (f : Int → Option StO) (s x y z t : Int) (k : Int) (w : World) (h : StAt w c b n same rate f) (ok : StOK same rate f k) (hk : k ≤ 1000000) (hn : n < 1000000) (hx : I64 x) (hy : I64 y) (hz : I64 z) (t1 : -9223372036854775808 ≤ t) (t2 : t ≤ 9223372036854775807) (hs : srcB s = false) :
    Calls Try.prog 13 #[.pointer (some ⟨c, 0, none⟩), .int .i64 s, .agg #[.int .i64 x, .int .i64 y, .int .i64 z], .int .i64 t] w (StTakeR w c b n same rate 0 2 f) := by
  have H := Lib.hid h
  have a0 := h.c0
  have a2 := h.c2
  haveI : LtSize c w := ⟨h.lt⟩
  have hne : ¬ c = w.heap.size := by have := h.lt; omega
  have hcl := h.lt
  have hbl := h.tab.lt
  clear h
  go_enter Try.func13, Try.ntmps13
  go_wp2_with (go_at_call 31; with_reducible refine Calls.tells (smay_f c b n same rate f s _ H.out.alloc hs) ?_)
  go_ret2
  exact ⟨n, rfl, by omega, H.out.alloc, gr_below _ (by (repeat (first | (with_reducible exact Below.refl _ _) | (with_reducible assumption) | (with_reducible refine Below.alloc ?_ (by (repeat (first | (with_reducible exact Nat.le_refl _) | (with_reducible assumption) | (with_reducible refine le_up ?_) | (with_reducible refine le_alloc ?_) | (with_reducible refine le_setCell ?_) | (with_reducible refine le_drew ?_) | (with_reducible refine le_drewN ?_) | omega))) _) | (with_reducible refine Below.drew ?_) | (with_reducible refine Below.drewN ?_ _) | (with_reducible refine Below.setCell ?_ (by (repeat (first | (with_reducible exact Nat.le_refl _) | (with_reducible assumption) | (with_reducible refine le_up ?_) | (with_reducible refine le_alloc ?_) | (with_reducible refine le_setCell ?_) | (with_reducible refine le_drew ?_) | (with_reducible refine le_drewN ?_) | omega))) _) | (with_reducible refine Below.up ?_ (by (repeat (first | (with_reducible exact Nat.le_refl _) | (with_reducible assumption) | (with_reducible refine le_up ?_) | (with_reducible refine le_alloc ?_) | (with_reducible refine le_setCell ?_) | (with_reducible refine le_drew ?_) | (with_reducible refine le_drewN ?_) | omega)))))))⟩
set_option maxRecDepth 100000 in
theorem tk_bad (c b n : Nat) (same rate : Int) (f : Int → Option StO) (s x y z t : Int) (k : Int) (w : World) (h : StAt w c b n same rate f) (ok : StOK same rate f k) (hk : k ≤ 1000000) (hn : n < 1000000) (hx : I64 x) (hy : I64 y) (hz : I64 z) (t1 : -9223372036854775808 ≤ t) (t2 : t ≤ 9223372036854775807) (hs : srcB s = true) (hb : t < (lastO f s).tk ∨ 1099511627776 < t) :
    Calls Try.prog 13 #[.pointer (some ⟨c, 0, none⟩), .int .i64 s, .agg #[.int .i64 x, .int .i64 y, .int .i64 z], .int .i64 t] w (StTakeR w c b n same rate 0 2 f) := by
  have H := Lib.hid h
  have a0 := h.c0
  have a2 := h.c2
  haveI : LtSize c w := ⟨h.lt⟩
  have hne : ¬ c = w.heap.size := by have := h.lt; omega
  have hcl := h.lt
  have hbl := h.tab.lt
  clear h
  obtain ⟨s1, s2⟩ := src_in hs
  obtain ⟨v, hv⟩ : ∃ v, (f s).getD StO.zero = v := ⟨_, rfl⟩
  obtain ⟨q, hq⟩ : ∃ q, (f s).isSome = q := ⟨_, rfl⟩
  rw [show lastO f s = v from hv] at hb
  have HV := Lib.hid hv
  have HK := Lib.hid hq
  clear hv hq
  rcases (show t < v.tk ∨ (v.tk ≤ t ∧ 1099511627776 < t) by omega) with h1 | ⟨h1, h2⟩
  · clear hb
    go_enter Try.func13, Try.ntmps13
    go_wp2_with (first | (go_at_call 31; with_reducible refine Calls.tells (smay_t c b n same rate f s _ H.out.alloc hs) ?_) | (at_lookup; refine wpList_lookup_st rfl _ _ rfl b n f rfl H.out.alloc.tab s rfl (by omega) (by omega) ?_; rw [HV.out, HK.out]; unfold stV))
    go_ret2
    exact ⟨n, rfl, by omega, H.out.alloc.alloc, gr_below _ (by (repeat (first | (with_reducible exact Below.refl _ _) | (with_reducible assumption) | (with_reducible refine Below.alloc ?_ (by (repeat (first | (with_reducible exact Nat.le_refl _) | (with_reducible assumption) | (with_reducible refine le_up ?_) | (with_reducible refine le_alloc ?_) | (with_reducible refine le_setCell ?_) | (with_reducible refine le_drew ?_) | (with_reducible refine le_drewN ?_) | omega))) _) | (with_reducible refine Below.drew ?_) | (with_reducible refine Below.drewN ?_ _) | (with_reducible refine Below.setCell ?_ (by (repeat (first | (with_reducible exact Nat.le_refl _) | (with_reducible assumption) | (with_reducible refine le_up ?_) | (with_reducible refine le_alloc ?_) | (with_reducible refine le_setCell ?_) | (with_reducible refine le_drew ?_) | (with_reducible refine le_drewN ?_) | omega))) _) | (with_reducible refine Below.up ?_ (by (repeat (first | (with_reducible exact Nat.le_refl _) | (with_reducible assumption) | (with_reducible refine le_up ?_) | (with_reducible refine le_alloc ?_) | (with_reducible refine le_setCell ?_) | (with_reducible refine le_drew ?_) | (with_reducible refine le_drewN ?_) | omega)))))))⟩
  · have hd : decide (t < v.tk) = false := by simp; omega
    clear hb
    go_enter Try.func13, Try.ntmps13
    go_wp2_with (first | (go_at_call 31; with_reducible refine Calls.tells (smay_t c b n same rate f s _ H.out.alloc hs) ?_) | (at_lookup; refine wpList_lookup_st rfl _ _ rfl b n f rfl H.out.alloc.tab s rfl (by omega) (by omega) ?_; rw [HV.out, HK.out]; unfold stV))
    go_ret2
    exact ⟨n, rfl, by omega, H.out.alloc.alloc, gr_below _ (by (repeat (first | (with_reducible exact Below.refl _ _) | (with_reducible assumption) | (with_reducible refine Below.alloc ?_ (by (repeat (first | (with_reducible exact Nat.le_refl _) | (with_reducible assumption) | (with_reducible refine le_up ?_) | (with_reducible refine le_alloc ?_) | (with_reducible refine le_setCell ?_) | (with_reducible refine le_drew ?_) | (with_reducible refine le_drewN ?_) | omega))) _) | (with_reducible refine Below.drew ?_) | (with_reducible refine Below.drewN ?_ _) | (with_reducible refine Below.setCell ?_ (by (repeat (first | (with_reducible exact Nat.le_refl _) | (with_reducible assumption) | (with_reducible refine le_up ?_) | (with_reducible refine le_alloc ?_) | (with_reducible refine le_setCell ?_) | (with_reducible refine le_drew ?_) | (with_reducible refine le_drewN ?_) | omega))) _) | (with_reducible refine Below.up ?_ (by (repeat (first | (with_reducible exact Nat.le_refl _) | (with_reducible assumption) | (with_reducible refine le_up ?_) | (with_reducible refine le_alloc ?_) | (with_reducible refine le_setCell ?_) | (with_reducible refine le_drew ?_) | (with_reducible refine le_drewN ?_) | omega)))))))⟩
theorem faster_is (x y z p q r most : Int) (w : World) (B : Bool) (hm : I64 x ∧ I64 y ∧ I64 z) (hl : I64 p ∧ I64 q ∧ I64 r) (hf : fastB ⟨x, y, z, 0, 0⟩ ⟨p, q, r, 0, 0⟩ most = B) :
    Calls Try.prog 32 #[.agg #[.int .i64 x, .int .i64 y, .int .i64 z], .agg #[.int .i64 p, .int .i64 q, .int .i64 r], .int .i64 most] w (Gives w (.bool B)) := by
  subst hf
  exact faster_any ⟨x, y, z, 0, 0⟩ ⟨p, q, r, 0, 0⟩ most w ⟨hm.1, hm.2.1, hm.2.2⟩ ⟨hl.1, hl.2.1, hl.2.2⟩
set_option maxRecDepth 100000 in
set_option maxHeartbeats 1600000 in
theorem tk_new (c b n : Nat) (same rate : Int) (f : Int → Option StO) (s x y z t : Int) (k : Int) (w : World) (h : StAt w c b n same rate f) (ok : StOK same rate f k) (hk : k ≤ 1000000) (hn : n < 1000000) (hx : I64 x) (hy : I64 y) (hz : I64 z) (t1 : -9223372036854775808 ≤ t) (t2 : t ≤ 9223372036854775807) (hs : srcB s = true) (h1 : (lastO f s).tk ≤ t) (h2 : t ≤ 1099511627776) (hf : f s = none) :
    Calls Try.prog 13 #[.pointer (some ⟨c, 0, none⟩), .int .i64 s, .agg #[.int .i64 x, .int .i64 y, .int .i64 z], .int .i64 t] w (StTakeR w c b n same rate 0 0 (updS f s ⟨x, y, z, t, 1⟩)) := by
  have H := Lib.hid h
  have a0 := h.c0
  have a2 := h.c2
  haveI : LtSize c w := ⟨h.lt⟩
  have hne : ¬ c = w.heap.size := by have := h.lt; omega
  have hcl := h.lt
  have hbl := h.tab.lt
  clear h
  obtain ⟨s1, s2⟩ := src_in hs
  have hsm1 := ok.s1
  have hsm2 := ok.s2
  have hr1 := ok.r1
  have hr2 := ok.r2
  have HV := Lib.hid (show (f s).getD StO.zero = ⟨0, 0, 0, 0, 0⟩ by rw [hf]; rfl)
  have HK := Lib.hid (show (f s).isSome = false by rw [hf]; rfl)
  have ht0 : 0 ≤ t := by have : (lastO f s).tk = 0 := by unfold lastO; rw [hf]; rfl
                         omega
  have hd1 : decide (t < 0) = false := by simp; omega
  have hd2 : decide (1099511627776 < t) = false := by simp; omega
  have hd3 : decide (same < 1) = false := by simp; omega
  clear hf h1
  go_enter Try.func13, Try.ntmps13
  go_upto_region 11 with (first | (go_at_call 31; with_reducible refine Calls.tells (smay_t c b n same rate f s _ H.out.alloc hs) ?_) | (at_lookup; refine wpList_lookup_st rfl _ _ rfl b n f rfl H.out.alloc.tab s rfl (by omega) (by omega) ?_; rw [HV.out, HK.out]; unfold stV))
  refine wp_gen (fun W => (Below w.heap.size w W ∧ w.heap.size + 1 + 1 < W.heap.size) ∧ W.cell? ⟨w.heap.size, 0, none⟩ = some (.int .i64 (x)) ∧ W.cell? ⟨w.heap.size, 1, none⟩ = some (.int .i64 (y)) ∧ W.cell? ⟨w.heap.size, 2, none⟩ = some (.int .i64 (z)) ∧ W.cell? ⟨w.heap.size + 1, 0, none⟩ = some (.int .i64 (0)) ∧ W.cell? ⟨w.heap.size + 1, 1, none⟩ = some (.int .i64 (0)) ∧ W.cell? ⟨w.heap.size + 1, 2, none⟩ = some (.int .i64 (0)) ∧ W.cell? ⟨w.heap.size + 1, 3, none⟩ = some (.int .i64 (0)) ∧ W.cell? ⟨w.heap.size + 1, 4, none⟩ = some (.int .i64 (0)) ∧ W.cell? ⟨w.heap.size + 1 + 1, 0, none⟩ = some (.int .i64 (x)) ∧ W.cell? ⟨w.heap.size + 1 + 1, 1, none⟩ = some (.int .i64 (y)) ∧ W.cell? ⟨w.heap.size + 1 + 1, 2, none⟩ = some (.int .i64 (z)) ∧ W.cell? ⟨w.heap.size + 1 + 1, 3, none⟩ = some (.int .i64 (t)) ∧ W.cell? ⟨w.heap.size + 1 + 1, 4, none⟩ = some (.int .i64 (1))) ⟨⟨by (repeat (first | (with_reducible exact Below.refl _ _) | (with_reducible assumption) | (with_reducible refine Below.alloc ?_ (by (repeat (first | (with_reducible exact Nat.le_refl _) | (with_reducible assumption) | (with_reducible refine le_up ?_) | (with_reducible refine le_alloc ?_) | (with_reducible refine le_setCell ?_) | (with_reducible refine le_drew ?_) | (with_reducible refine le_drewN ?_) | omega))) _) | (with_reducible refine Below.drew ?_) | (with_reducible refine Below.drewN ?_ _) | (with_reducible refine Below.setCell ?_ (by (repeat (first | (with_reducible exact Nat.le_refl _) | (with_reducible assumption) | (with_reducible refine le_up ?_) | (with_reducible refine le_alloc ?_) | (with_reducible refine le_setCell ?_) | (with_reducible refine le_drew ?_) | (with_reducible refine le_drewN ?_) | omega))) _) | (with_reducible refine Below.up ?_ (by (repeat (first | (with_reducible exact Nat.le_refl _) | (with_reducible assumption) | (with_reducible refine le_up ?_) | (with_reducible refine le_alloc ?_) | (with_reducible refine le_setCell ?_) | (with_reducible refine le_drew ?_) | (with_reducible refine le_drewN ?_) | omega)))))), by simp⟩, by simp, by simp, by simp, by simp, by simp, by simp, by simp, by simp, by go_simp, by go_simp, by go_simp, by go_simp, by go_simp⟩ ?_
  rintro w5 ⟨⟨hb5, hl5⟩, p0, p1, p2, q0, q1, q2, q3, q4, r0, r1, r2, r3, r4⟩
  have hs5 := H.out.below hb5 hcl hbl
  have HS := Lib.hid hs5
  have HB5 := Lib.hid hb5
  have a0 := hs5.c0
  have a2 := hs5.c2
  haveI : LtSize c w5 := ⟨hs5.lt⟩
  haveI : LtSize w.heap.size w5 := ⟨by omega⟩
  haveI : LtSize (w.heap.size + 1) w5 := ⟨by omega⟩
  haveI : LtSize (w.heap.size + 1 + 1) w5 := ⟨hl5⟩
  clear hs5 hb5
  (refine wp_region_up (by kernel_rfl) (by kernel_rfl) ?_; (repeat (go_big_quiet_step (fail))); refine wpQuiet_nil ?_; intro _ hw'; obtain ⟨xq, hw''⟩ := hw'; subst hw'')
  go_wp2_with fail
  (refine wp_region_up (by kernel_rfl) (by kernel_rfl) ?_; (repeat (go_big_quiet_step (fail))); refine wpQuiet_nil ?_; intro _ hw'; obtain ⟨xq, hw''⟩ := hw'; subst hw'')
  go_wp2_with fail
  (refine wp_region_tail 6 (by kernel_rfl) (by kernel_rfl) ?_; simp only [List.take_succ_cons, List.take_zero, List.drop_succ_cons, List.drop_zero]; still_step; still_step; still_step; still_step; still_step; still_step; (with_reducible refine wpStill_nil ?_))
  refine wpList_store_st rfl _ _ _ rfl b n f rfl HS.out.up.up.tab.drew s rfl (by omega) (by omega) ⟨x, y, z, t, 1⟩ rfl (by omega) ?_
  intro w6 ht hg
  have HT := Lib.hid ht
  have HG := Lib.hid hg
  clear ht hg
  go_wp2_with fail
  go_ret2
  refine ⟨n + 1, rfl, Nat.le_refl _, (HS.out.up.up.drew).grown HG.out HT.out, gr_trans (gr_to_drew (gr_to_up (gr_to_up (gr_below (some b) HB5.out) _) _)) HG.out⟩
set_option maxRecDepth 100000 in
set_option maxHeartbeats 1600000 in
theorem tk_old_000 (c b n : Nat) (same rate : Int) (f : Int → Option StO) (s x y z t : Int) (k : Int) (w : World) (h : StAt w c b n same rate f) (ok : StOK same rate f k) (hk : k ≤ 1000000) (hn : n < 1000000) (hx : I64 x) (hy : I64 y) (hz : I64 z) (t1 : -9223372036854775808 ≤ t) (t2 : t ≤ 9223372036854775807) (hs : srcB s = true) (h1 : (lastO f s).tk ≤ t) (h2 : t ≤ 1099511627776) (v : StO) (hf : f s = some v) (heq : sameV v x y z = false) (hfa : fastB ⟨x, y, z, 0, 0⟩ v (limV rate (t - v.tk)) = false) :
    Calls Try.prog 13 #[.pointer (some ⟨c, 0, none⟩), .int .i64 s, .agg #[.int .i64 x, .int .i64 y, .int .i64 z], .int .i64 t] w (StTakeR w c b n same rate 0 0 (updS f s ⟨x, y, z, t, 1⟩)) := by
  have H := Lib.hid h
  have a0 := h.c0
  have a2 := h.c2
  haveI : LtSize c w := ⟨h.lt⟩
  have hne : ¬ c = w.heap.size := by have := h.lt; omega
  have hcl := h.lt
  have hbl := h.tab.lt
  clear h
  obtain ⟨s1, s2⟩ := src_in hs
  have hsm1 := ok.s1
  have hsm2 := ok.s2
  have hr1 := ok.r1
  have hr2 := ok.r2
  have HV := Lib.hid (show (f s).getD StO.zero = v by rw [hf]; rfl)
  have HK := Lib.hid (show (f s).isSome = true by rw [hf]; rfl)
  have hlo : (lastO f s).tk = v.tk := by unfold lastO; rw [hf]; rfl
  rw [hlo] at h1
  have hvt := ok.t0 s v hf
  have hvw := ok.w0 s v hf
  have hvo := ok.v s v hf
  have HM := Lib.hid (show I64 x ∧ I64 y ∧ I64 z from ⟨hx, hy, hz⟩)
  have HL := Lib.hid (show I64 v.a ∧ I64 v.b ∧ I64 v.c from ⟨hvo.a, hvo.b, hvo.c⟩)
  have hfast := Lib.hid (show fastB ⟨x, y, z, 0, 0⟩ ⟨v.a, v.b, v.c, 0, 0⟩ (limV rate (t - v.tk)) = false from hfa)
  have hw1 : IntKind.i64.wrap (t - v.tk) = t - v.tk := by rw [IntKind.wrap_i64]; omega
  have hd1 : decide (t < v.tk) = false := by simp; omega
  have hd2 : decide (1099511627776 < t) = false := by simp; omega
  have heq3 := eq3
  have heqv : (v.a == x && (v.b == y && v.c == z)) = false := heq
  have hd3 : decide (same < 1) = false := by simp; omega
  clear hf hlo hfa heq hvo
  go_enter Try.func13, Try.ntmps13
  go_upto_region 11 with (first | (go_at_call 31; with_reducible refine Calls.tells (smay_t c b n same rate f s _ H.out.alloc hs) ?_) | (at_lookup; refine wpList_lookup_st rfl _ _ rfl b n f rfl H.out.alloc.tab s rfl (by omega) (by omega) ?_; rw [HV.out, HK.out]; unfold stV))
  refine wp_gen (fun W => (Below w.heap.size w W ∧ w.heap.size + 1 + 1 < W.heap.size) ∧ W.cell? ⟨w.heap.size, 0, none⟩ = some (.int .i64 (x)) ∧ W.cell? ⟨w.heap.size, 1, none⟩ = some (.int .i64 (y)) ∧ W.cell? ⟨w.heap.size, 2, none⟩ = some (.int .i64 (z)) ∧ W.cell? ⟨w.heap.size + 1, 0, none⟩ = some (.int .i64 (v.a)) ∧ W.cell? ⟨w.heap.size + 1, 1, none⟩ = some (.int .i64 (v.b)) ∧ W.cell? ⟨w.heap.size + 1, 2, none⟩ = some (.int .i64 (v.c)) ∧ W.cell? ⟨w.heap.size + 1, 3, none⟩ = some (.int .i64 (v.tk)) ∧ W.cell? ⟨w.heap.size + 1, 4, none⟩ = some (.int .i64 (v.row)) ∧ W.cell? ⟨w.heap.size + 1 + 1, 0, none⟩ = some (.int .i64 (x)) ∧ W.cell? ⟨w.heap.size + 1 + 1, 1, none⟩ = some (.int .i64 (y)) ∧ W.cell? ⟨w.heap.size + 1 + 1, 2, none⟩ = some (.int .i64 (z)) ∧ W.cell? ⟨w.heap.size + 1 + 1, 3, none⟩ = some (.int .i64 (t)) ∧ W.cell? ⟨w.heap.size + 1 + 1, 4, none⟩ = some (.int .i64 (1))) ⟨⟨by (repeat (first | (with_reducible exact Below.refl _ _) | (with_reducible assumption) | (with_reducible refine Below.alloc ?_ (by (repeat (first | (with_reducible exact Nat.le_refl _) | (with_reducible assumption) | (with_reducible refine le_up ?_) | (with_reducible refine le_alloc ?_) | (with_reducible refine le_setCell ?_) | (with_reducible refine le_drew ?_) | (with_reducible refine le_drewN ?_) | omega))) _) | (with_reducible refine Below.drew ?_) | (with_reducible refine Below.drewN ?_ _) | (with_reducible refine Below.setCell ?_ (by (repeat (first | (with_reducible exact Nat.le_refl _) | (with_reducible assumption) | (with_reducible refine le_up ?_) | (with_reducible refine le_alloc ?_) | (with_reducible refine le_setCell ?_) | (with_reducible refine le_drew ?_) | (with_reducible refine le_drewN ?_) | omega))) _) | (with_reducible refine Below.up ?_ (by (repeat (first | (with_reducible exact Nat.le_refl _) | (with_reducible assumption) | (with_reducible refine le_up ?_) | (with_reducible refine le_alloc ?_) | (with_reducible refine le_setCell ?_) | (with_reducible refine le_drew ?_) | (with_reducible refine le_drewN ?_) | omega)))))), by simp⟩, by simp, by simp, by simp, by simp, by simp, by simp, by simp, by simp, by go_simp, by go_simp, by go_simp, by go_simp, by go_simp⟩ ?_
  rintro w5 ⟨⟨hb5, hl5⟩, p0, p1, p2, q0, q1, q2, q3, q4, r0, r1, r2, r3, r4⟩
  have hs5 := H.out.below hb5 hcl hbl
  have HS := Lib.hid hs5
  have HB5 := Lib.hid hb5
  have a0 := hs5.c0
  have a2 := hs5.c2
  haveI : LtSize c w5 := ⟨hs5.lt⟩
  haveI : LtSize w.heap.size w5 := ⟨by omega⟩
  haveI : LtSize (w.heap.size + 1) w5 := ⟨by omega⟩
  haveI : LtSize (w.heap.size + 1 + 1) w5 := ⟨hl5⟩
  clear hs5 hb5
  (refine wp_region_up (by kernel_rfl) (by kernel_rfl) ?_; (repeat (go_big_quiet_step (fail))); refine wpQuiet_nil ?_; intro _ hw'; obtain ⟨xq, hw''⟩ := hw'; subst hw'')
  go_wp2_with fail
  refine wp_region_up (by kernel_rfl) (by kernel_rfl) ?_
  repeat (go_big_quiet_step ((first | (go_at_call 33; with_reducible exact Calls.up_gives (slimit_any c b n same rate f _ _ HS.out.up.up hr1 hr2 (by omega) (by omega))) | (go_at_call 32; with_reducible exact Calls.up_gives (faster_is _ _ _ _ _ _ _ _ _ HM.out HL.out hfast.out)))))
  refine wpQuiet_nil ?_
  intro _ hw'
  obtain ⟨xq2, hw''⟩ := hw'
  subst hw''
  go_wp2_with fail
  (refine wp_region_tail 6 (by kernel_rfl) (by kernel_rfl) ?_; simp only [List.take_succ_cons, List.take_zero, List.drop_succ_cons, List.drop_zero]; still_step; still_step; still_step; still_step; still_step; still_step; (with_reducible refine wpStill_nil ?_))
  refine wpList_store_st rfl _ _ _ rfl b n f rfl HS.out.up.up.tab.drew s rfl (by omega) (by omega) ⟨x, y, z, t, 1⟩ rfl (by omega) ?_
  intro w6 ht hg
  have HT := Lib.hid ht
  have HG := Lib.hid hg
  clear ht hg
  go_wp2_with fail
  go_ret2
  refine ⟨n + 1, rfl, Nat.le_refl _, (HS.out.up.up.drew).grown HG.out HT.out, gr_trans (gr_to_drew (gr_to_up (gr_to_up (gr_below (some b) HB5.out) _) _)) HG.out⟩
set_option maxRecDepth 100000 in
set_option maxHeartbeats 1600000 in
theorem tk_old_001 (c b n : Nat) (same rate : Int) (f : Int → Option StO) (s x y z t : Int) (k : Int) (w : World) (h : StAt w c b n same rate f) (ok : StOK same rate f k) (hk : k ≤ 1000000) (hn : n < 1000000) (hx : I64 x) (hy : I64 y) (hz : I64 z) (t1 : -9223372036854775808 ≤ t) (t2 : t ≤ 9223372036854775807) (hs : srcB s = true) (h1 : (lastO f s).tk ≤ t) (h2 : t ≤ 1099511627776) (v : StO) (hf : f s = some v) (heq : sameV v x y z = false) (hfa : fastB ⟨x, y, z, 0, 0⟩ v (limV rate (t - v.tk)) = true) :
    Calls Try.prog 13 #[.pointer (some ⟨c, 0, none⟩), .int .i64 s, .agg #[.int .i64 x, .int .i64 y, .int .i64 z], .int .i64 t] w (StTakeR w c b n same rate 2 0 (updS f s ⟨x, y, z, t, 1⟩)) := by
  have H := Lib.hid h
  have a0 := h.c0
  have a2 := h.c2
  haveI : LtSize c w := ⟨h.lt⟩
  have hne : ¬ c = w.heap.size := by have := h.lt; omega
  have hcl := h.lt
  have hbl := h.tab.lt
  clear h
  obtain ⟨s1, s2⟩ := src_in hs
  have hsm1 := ok.s1
  have hsm2 := ok.s2
  have hr1 := ok.r1
  have hr2 := ok.r2
  have HV := Lib.hid (show (f s).getD StO.zero = v by rw [hf]; rfl)
  have HK := Lib.hid (show (f s).isSome = true by rw [hf]; rfl)
  have hlo : (lastO f s).tk = v.tk := by unfold lastO; rw [hf]; rfl
  rw [hlo] at h1
  have hvt := ok.t0 s v hf
  have hvw := ok.w0 s v hf
  have hvo := ok.v s v hf
  have HM := Lib.hid (show I64 x ∧ I64 y ∧ I64 z from ⟨hx, hy, hz⟩)
  have HL := Lib.hid (show I64 v.a ∧ I64 v.b ∧ I64 v.c from ⟨hvo.a, hvo.b, hvo.c⟩)
  have hfast := Lib.hid (show fastB ⟨x, y, z, 0, 0⟩ ⟨v.a, v.b, v.c, 0, 0⟩ (limV rate (t - v.tk)) = true from hfa)
  have hw1 : IntKind.i64.wrap (t - v.tk) = t - v.tk := by rw [IntKind.wrap_i64]; omega
  have hd1 : decide (t < v.tk) = false := by simp; omega
  have hd2 : decide (1099511627776 < t) = false := by simp; omega
  have heq3 := eq3
  have heqv : (v.a == x && (v.b == y && v.c == z)) = false := heq
  have hd3 : decide (same < 1) = false := by simp; omega
  clear hf hlo hfa heq hvo
  go_enter Try.func13, Try.ntmps13
  go_upto_region 11 with (first | (go_at_call 31; with_reducible refine Calls.tells (smay_t c b n same rate f s _ H.out.alloc hs) ?_) | (at_lookup; refine wpList_lookup_st rfl _ _ rfl b n f rfl H.out.alloc.tab s rfl (by omega) (by omega) ?_; rw [HV.out, HK.out]; unfold stV))
  refine wp_gen (fun W => (Below w.heap.size w W ∧ w.heap.size + 1 + 1 < W.heap.size) ∧ W.cell? ⟨w.heap.size, 0, none⟩ = some (.int .i64 (x)) ∧ W.cell? ⟨w.heap.size, 1, none⟩ = some (.int .i64 (y)) ∧ W.cell? ⟨w.heap.size, 2, none⟩ = some (.int .i64 (z)) ∧ W.cell? ⟨w.heap.size + 1, 0, none⟩ = some (.int .i64 (v.a)) ∧ W.cell? ⟨w.heap.size + 1, 1, none⟩ = some (.int .i64 (v.b)) ∧ W.cell? ⟨w.heap.size + 1, 2, none⟩ = some (.int .i64 (v.c)) ∧ W.cell? ⟨w.heap.size + 1, 3, none⟩ = some (.int .i64 (v.tk)) ∧ W.cell? ⟨w.heap.size + 1, 4, none⟩ = some (.int .i64 (v.row)) ∧ W.cell? ⟨w.heap.size + 1 + 1, 0, none⟩ = some (.int .i64 (x)) ∧ W.cell? ⟨w.heap.size + 1 + 1, 1, none⟩ = some (.int .i64 (y)) ∧ W.cell? ⟨w.heap.size + 1 + 1, 2, none⟩ = some (.int .i64 (z)) ∧ W.cell? ⟨w.heap.size + 1 + 1, 3, none⟩ = some (.int .i64 (t)) ∧ W.cell? ⟨w.heap.size + 1 + 1, 4, none⟩ = some (.int .i64 (1))) ⟨⟨by (repeat (first | (with_reducible exact Below.refl _ _) | (with_reducible assumption) | (with_reducible refine Below.alloc ?_ (by (repeat (first | (with_reducible exact Nat.le_refl _) | (with_reducible assumption) | (with_reducible refine le_up ?_) | (with_reducible refine le_alloc ?_) | (with_reducible refine le_setCell ?_) | (with_reducible refine le_drew ?_) | (with_reducible refine le_drewN ?_) | omega))) _) | (with_reducible refine Below.drew ?_) | (with_reducible refine Below.drewN ?_ _) | (with_reducible refine Below.setCell ?_ (by (repeat (first | (with_reducible exact Nat.le_refl _) | (with_reducible assumption) | (with_reducible refine le_up ?_) | (with_reducible refine le_alloc ?_) | (with_reducible refine le_setCell ?_) | (with_reducible refine le_drew ?_) | (with_reducible refine le_drewN ?_) | omega))) _) | (with_reducible refine Below.up ?_ (by (repeat (first | (with_reducible exact Nat.le_refl _) | (with_reducible assumption) | (with_reducible refine le_up ?_) | (with_reducible refine le_alloc ?_) | (with_reducible refine le_setCell ?_) | (with_reducible refine le_drew ?_) | (with_reducible refine le_drewN ?_) | omega)))))), by simp⟩, by simp, by simp, by simp, by simp, by simp, by simp, by simp, by simp, by go_simp, by go_simp, by go_simp, by go_simp, by go_simp⟩ ?_
  rintro w5 ⟨⟨hb5, hl5⟩, p0, p1, p2, q0, q1, q2, q3, q4, r0, r1, r2, r3, r4⟩
  have hs5 := H.out.below hb5 hcl hbl
  have HS := Lib.hid hs5
  have HB5 := Lib.hid hb5
  have a0 := hs5.c0
  have a2 := hs5.c2
  haveI : LtSize c w5 := ⟨hs5.lt⟩
  haveI : LtSize w.heap.size w5 := ⟨by omega⟩
  haveI : LtSize (w.heap.size + 1) w5 := ⟨by omega⟩
  haveI : LtSize (w.heap.size + 1 + 1) w5 := ⟨hl5⟩
  clear hs5 hb5
  (refine wp_region_up (by kernel_rfl) (by kernel_rfl) ?_; (repeat (go_big_quiet_step (fail))); refine wpQuiet_nil ?_; intro _ hw'; obtain ⟨xq, hw''⟩ := hw'; subst hw'')
  go_wp2_with fail
  refine wp_region_up (by kernel_rfl) (by kernel_rfl) ?_
  repeat (go_big_quiet_step ((first | (go_at_call 33; with_reducible exact Calls.up_gives (slimit_any c b n same rate f _ _ HS.out.up.up hr1 hr2 (by omega) (by omega))) | (go_at_call 32; with_reducible exact Calls.up_gives (faster_is _ _ _ _ _ _ _ _ _ HM.out HL.out hfast.out)))))
  refine wpQuiet_nil ?_
  intro _ hw'
  obtain ⟨xq2, hw''⟩ := hw'
  subst hw''
  go_wp2_with fail
  (refine wp_region_tail 6 (by kernel_rfl) (by kernel_rfl) ?_; simp only [List.take_succ_cons, List.take_zero, List.drop_succ_cons, List.drop_zero]; still_step; still_step; still_step; still_step; still_step; still_step; (with_reducible refine wpStill_nil ?_))
  refine wpList_store_st rfl _ _ _ rfl b n f rfl HS.out.up.up.tab.drew s rfl (by omega) (by omega) ⟨x, y, z, t, 1⟩ rfl (by omega) ?_
  intro w6 ht hg
  have HT := Lib.hid ht
  have HG := Lib.hid hg
  clear ht hg
  go_wp2_with fail
  go_ret2
  refine ⟨n + 1, rfl, Nat.le_refl _, (HS.out.up.up.drew).grown HG.out HT.out, gr_trans (gr_to_drew (gr_to_up (gr_to_up (gr_below (some b) HB5.out) _) _)) HG.out⟩
set_option maxRecDepth 100000 in
set_option maxHeartbeats 1600000 in
theorem tk_old_100 (c b n : Nat) (same rate : Int) (f : Int → Option StO) (s x y z t : Int) (k : Int) (w : World) (h : StAt w c b n same rate f) (ok : StOK same rate f k) (hk : k ≤ 1000000) (hn : n < 1000000) (hx : I64 x) (hy : I64 y) (hz : I64 z) (t1 : -9223372036854775808 ≤ t) (t2 : t ≤ 9223372036854775807) (hs : srcB s = true) (h1 : (lastO f s).tk ≤ t) (h2 : t ≤ 1099511627776) (v : StO) (hf : f s = some v) (heq : sameV v x y z = true) (hst : decide (same < 1 + v.row) = false) (hfa : fastB ⟨x, y, z, 0, 0⟩ v (limV rate (t - v.tk)) = false) :
    Calls Try.prog 13 #[.pointer (some ⟨c, 0, none⟩), .int .i64 s, .agg #[.int .i64 x, .int .i64 y, .int .i64 z], .int .i64 t] w (StTakeR w c b n same rate 0 0 (updS f s ⟨x, y, z, t, 1 + v.row⟩)) := by
  have H := Lib.hid h
  have a0 := h.c0
  have a2 := h.c2
  haveI : LtSize c w := ⟨h.lt⟩
  have hne : ¬ c = w.heap.size := by have := h.lt; omega
  have hcl := h.lt
  have hbl := h.tab.lt
  clear h
  obtain ⟨s1, s2⟩ := src_in hs
  have hsm1 := ok.s1
  have hsm2 := ok.s2
  have hr1 := ok.r1
  have hr2 := ok.r2
  have HV := Lib.hid (show (f s).getD StO.zero = v by rw [hf]; rfl)
  have HK := Lib.hid (show (f s).isSome = true by rw [hf]; rfl)
  have hlo : (lastO f s).tk = v.tk := by unfold lastO; rw [hf]; rfl
  rw [hlo] at h1
  have hvt := ok.t0 s v hf
  have hvw := ok.w0 s v hf
  have hvo := ok.v s v hf
  have HM := Lib.hid (show I64 x ∧ I64 y ∧ I64 z from ⟨hx, hy, hz⟩)
  have HL := Lib.hid (show I64 v.a ∧ I64 v.b ∧ I64 v.c from ⟨hvo.a, hvo.b, hvo.c⟩)
  have hfast := Lib.hid (show fastB ⟨x, y, z, 0, 0⟩ ⟨v.a, v.b, v.c, 0, 0⟩ (limV rate (t - v.tk)) = false from hfa)
  have hw1 : IntKind.i64.wrap (t - v.tk) = t - v.tk := by rw [IntKind.wrap_i64]; omega
  have hd1 : decide (t < v.tk) = false := by simp; omega
  have hd2 : decide (1099511627776 < t) = false := by simp; omega
  have heq3 := eq3
  have heqv : (v.a == x && (v.b == y && v.c == z)) = true := heq
  clear hf hlo hfa heq hvo
  go_enter Try.func13, Try.ntmps13
  go_upto_region 11 with (first | (go_at_call 31; with_reducible refine Calls.tells (smay_t c b n same rate f s _ H.out.alloc hs) ?_) | (at_lookup; refine wpList_lookup_st rfl _ _ rfl b n f rfl H.out.alloc.tab s rfl (by omega) (by omega) ?_; rw [HV.out, HK.out]; unfold stV))
  refine wp_gen (fun W => (Below w.heap.size w W ∧ w.heap.size + 1 + 1 < W.heap.size) ∧ W.cell? ⟨w.heap.size, 0, none⟩ = some (.int .i64 (x)) ∧ W.cell? ⟨w.heap.size, 1, none⟩ = some (.int .i64 (y)) ∧ W.cell? ⟨w.heap.size, 2, none⟩ = some (.int .i64 (z)) ∧ W.cell? ⟨w.heap.size + 1, 0, none⟩ = some (.int .i64 (v.a)) ∧ W.cell? ⟨w.heap.size + 1, 1, none⟩ = some (.int .i64 (v.b)) ∧ W.cell? ⟨w.heap.size + 1, 2, none⟩ = some (.int .i64 (v.c)) ∧ W.cell? ⟨w.heap.size + 1, 3, none⟩ = some (.int .i64 (v.tk)) ∧ W.cell? ⟨w.heap.size + 1, 4, none⟩ = some (.int .i64 (v.row)) ∧ W.cell? ⟨w.heap.size + 1 + 1, 0, none⟩ = some (.int .i64 (x)) ∧ W.cell? ⟨w.heap.size + 1 + 1, 1, none⟩ = some (.int .i64 (y)) ∧ W.cell? ⟨w.heap.size + 1 + 1, 2, none⟩ = some (.int .i64 (z)) ∧ W.cell? ⟨w.heap.size + 1 + 1, 3, none⟩ = some (.int .i64 (t)) ∧ W.cell? ⟨w.heap.size + 1 + 1, 4, none⟩ = some (.int .i64 (1 + v.row))) ⟨⟨by (repeat (first | (with_reducible exact Below.refl _ _) | (with_reducible assumption) | (with_reducible refine Below.alloc ?_ (by (repeat (first | (with_reducible exact Nat.le_refl _) | (with_reducible assumption) | (with_reducible refine le_up ?_) | (with_reducible refine le_alloc ?_) | (with_reducible refine le_setCell ?_) | (with_reducible refine le_drew ?_) | (with_reducible refine le_drewN ?_) | omega))) _) | (with_reducible refine Below.drew ?_) | (with_reducible refine Below.drewN ?_ _) | (with_reducible refine Below.setCell ?_ (by (repeat (first | (with_reducible exact Nat.le_refl _) | (with_reducible assumption) | (with_reducible refine le_up ?_) | (with_reducible refine le_alloc ?_) | (with_reducible refine le_setCell ?_) | (with_reducible refine le_drew ?_) | (with_reducible refine le_drewN ?_) | omega))) _) | (with_reducible refine Below.up ?_ (by (repeat (first | (with_reducible exact Nat.le_refl _) | (with_reducible assumption) | (with_reducible refine le_up ?_) | (with_reducible refine le_alloc ?_) | (with_reducible refine le_setCell ?_) | (with_reducible refine le_drew ?_) | (with_reducible refine le_drewN ?_) | omega)))))), by simp⟩, by simp, by simp, by simp, by simp, by simp, by simp, by simp, by simp, by go_simp, by go_simp, by go_simp, by go_simp, by go_simp⟩ ?_
  rintro w5 ⟨⟨hb5, hl5⟩, p0, p1, p2, q0, q1, q2, q3, q4, r0, r1, r2, r3, r4⟩
  have hs5 := H.out.below hb5 hcl hbl
  have HS := Lib.hid hs5
  have HB5 := Lib.hid hb5
  have a0 := hs5.c0
  have a2 := hs5.c2
  haveI : LtSize c w5 := ⟨hs5.lt⟩
  haveI : LtSize w.heap.size w5 := ⟨by omega⟩
  haveI : LtSize (w.heap.size + 1) w5 := ⟨by omega⟩
  haveI : LtSize (w.heap.size + 1 + 1) w5 := ⟨hl5⟩
  clear hs5 hb5
  (refine wp_region_up (by kernel_rfl) (by kernel_rfl) ?_; (repeat (go_big_quiet_step (fail))); refine wpQuiet_nil ?_; intro _ hw'; obtain ⟨xq, hw''⟩ := hw'; subst hw'')
  go_wp2_with fail
  refine wp_region_up (by kernel_rfl) (by kernel_rfl) ?_
  repeat (go_big_quiet_step ((first | (go_at_call 33; with_reducible exact Calls.up_gives (slimit_any c b n same rate f _ _ HS.out.up.up hr1 hr2 (by omega) (by omega))) | (go_at_call 32; with_reducible exact Calls.up_gives (faster_is _ _ _ _ _ _ _ _ _ HM.out HL.out hfast.out)))))
  refine wpQuiet_nil ?_
  intro _ hw'
  obtain ⟨xq2, hw''⟩ := hw'
  subst hw''
  go_wp2_with fail
  (refine wp_region_tail 6 (by kernel_rfl) (by kernel_rfl) ?_; simp only [List.take_succ_cons, List.take_zero, List.drop_succ_cons, List.drop_zero]; still_step; still_step; still_step; still_step; still_step; still_step; (with_reducible refine wpStill_nil ?_))
  refine wpList_store_st rfl _ _ _ rfl b n f rfl HS.out.up.up.tab.drew s rfl (by omega) (by omega) ⟨x, y, z, t, 1 + v.row⟩ rfl (by omega) ?_
  intro w6 ht hg
  have HT := Lib.hid ht
  have HG := Lib.hid hg
  clear ht hg
  go_wp2_with fail
  go_ret2
  refine ⟨n + 1, rfl, Nat.le_refl _, (HS.out.up.up.drew).grown HG.out HT.out, gr_trans (gr_to_drew (gr_to_up (gr_to_up (gr_below (some b) HB5.out) _) _)) HG.out⟩
set_option maxRecDepth 100000 in
set_option maxHeartbeats 1600000 in
theorem tk_old_101 (c b n : Nat) (same rate : Int) (f : Int → Option StO) (s x y z t : Int) (k : Int) (w : World) (h : StAt w c b n same rate f) (ok : StOK same rate f k) (hk : k ≤ 1000000) (hn : n < 1000000) (hx : I64 x) (hy : I64 y) (hz : I64 z) (t1 : -9223372036854775808 ≤ t) (t2 : t ≤ 9223372036854775807) (hs : srcB s = true) (h1 : (lastO f s).tk ≤ t) (h2 : t ≤ 1099511627776) (v : StO) (hf : f s = some v) (heq : sameV v x y z = true) (hst : decide (same < 1 + v.row) = false) (hfa : fastB ⟨x, y, z, 0, 0⟩ v (limV rate (t - v.tk)) = true) :
    Calls Try.prog 13 #[.pointer (some ⟨c, 0, none⟩), .int .i64 s, .agg #[.int .i64 x, .int .i64 y, .int .i64 z], .int .i64 t] w (StTakeR w c b n same rate 2 0 (updS f s ⟨x, y, z, t, 1 + v.row⟩)) := by
  have H := Lib.hid h
  have a0 := h.c0
  have a2 := h.c2
  haveI : LtSize c w := ⟨h.lt⟩
  have hne : ¬ c = w.heap.size := by have := h.lt; omega
  have hcl := h.lt
  have hbl := h.tab.lt
  clear h
  obtain ⟨s1, s2⟩ := src_in hs
  have hsm1 := ok.s1
  have hsm2 := ok.s2
  have hr1 := ok.r1
  have hr2 := ok.r2
  have HV := Lib.hid (show (f s).getD StO.zero = v by rw [hf]; rfl)
  have HK := Lib.hid (show (f s).isSome = true by rw [hf]; rfl)
  have hlo : (lastO f s).tk = v.tk := by unfold lastO; rw [hf]; rfl
  rw [hlo] at h1
  have hvt := ok.t0 s v hf
  have hvw := ok.w0 s v hf
  have hvo := ok.v s v hf
  have HM := Lib.hid (show I64 x ∧ I64 y ∧ I64 z from ⟨hx, hy, hz⟩)
  have HL := Lib.hid (show I64 v.a ∧ I64 v.b ∧ I64 v.c from ⟨hvo.a, hvo.b, hvo.c⟩)
  have hfast := Lib.hid (show fastB ⟨x, y, z, 0, 0⟩ ⟨v.a, v.b, v.c, 0, 0⟩ (limV rate (t - v.tk)) = true from hfa)
  have hw1 : IntKind.i64.wrap (t - v.tk) = t - v.tk := by rw [IntKind.wrap_i64]; omega
  have hd1 : decide (t < v.tk) = false := by simp; omega
  have hd2 : decide (1099511627776 < t) = false := by simp; omega
  have heq3 := eq3
  have heqv : (v.a == x && (v.b == y && v.c == z)) = true := heq
  clear hf hlo hfa heq hvo
  go_enter Try.func13, Try.ntmps13
  go_upto_region 11 with (first | (go_at_call 31; with_reducible refine Calls.tells (smay_t c b n same rate f s _ H.out.alloc hs) ?_) | (at_lookup; refine wpList_lookup_st rfl _ _ rfl b n f rfl H.out.alloc.tab s rfl (by omega) (by omega) ?_; rw [HV.out, HK.out]; unfold stV))
  refine wp_gen (fun W => (Below w.heap.size w W ∧ w.heap.size + 1 + 1 < W.heap.size) ∧ W.cell? ⟨w.heap.size, 0, none⟩ = some (.int .i64 (x)) ∧ W.cell? ⟨w.heap.size, 1, none⟩ = some (.int .i64 (y)) ∧ W.cell? ⟨w.heap.size, 2, none⟩ = some (.int .i64 (z)) ∧ W.cell? ⟨w.heap.size + 1, 0, none⟩ = some (.int .i64 (v.a)) ∧ W.cell? ⟨w.heap.size + 1, 1, none⟩ = some (.int .i64 (v.b)) ∧ W.cell? ⟨w.heap.size + 1, 2, none⟩ = some (.int .i64 (v.c)) ∧ W.cell? ⟨w.heap.size + 1, 3, none⟩ = some (.int .i64 (v.tk)) ∧ W.cell? ⟨w.heap.size + 1, 4, none⟩ = some (.int .i64 (v.row)) ∧ W.cell? ⟨w.heap.size + 1 + 1, 0, none⟩ = some (.int .i64 (x)) ∧ W.cell? ⟨w.heap.size + 1 + 1, 1, none⟩ = some (.int .i64 (y)) ∧ W.cell? ⟨w.heap.size + 1 + 1, 2, none⟩ = some (.int .i64 (z)) ∧ W.cell? ⟨w.heap.size + 1 + 1, 3, none⟩ = some (.int .i64 (t)) ∧ W.cell? ⟨w.heap.size + 1 + 1, 4, none⟩ = some (.int .i64 (1 + v.row))) ⟨⟨by (repeat (first | (with_reducible exact Below.refl _ _) | (with_reducible assumption) | (with_reducible refine Below.alloc ?_ (by (repeat (first | (with_reducible exact Nat.le_refl _) | (with_reducible assumption) | (with_reducible refine le_up ?_) | (with_reducible refine le_alloc ?_) | (with_reducible refine le_setCell ?_) | (with_reducible refine le_drew ?_) | (with_reducible refine le_drewN ?_) | omega))) _) | (with_reducible refine Below.drew ?_) | (with_reducible refine Below.drewN ?_ _) | (with_reducible refine Below.setCell ?_ (by (repeat (first | (with_reducible exact Nat.le_refl _) | (with_reducible assumption) | (with_reducible refine le_up ?_) | (with_reducible refine le_alloc ?_) | (with_reducible refine le_setCell ?_) | (with_reducible refine le_drew ?_) | (with_reducible refine le_drewN ?_) | omega))) _) | (with_reducible refine Below.up ?_ (by (repeat (first | (with_reducible exact Nat.le_refl _) | (with_reducible assumption) | (with_reducible refine le_up ?_) | (with_reducible refine le_alloc ?_) | (with_reducible refine le_setCell ?_) | (with_reducible refine le_drew ?_) | (with_reducible refine le_drewN ?_) | omega)))))), by simp⟩, by simp, by simp, by simp, by simp, by simp, by simp, by simp, by simp, by go_simp, by go_simp, by go_simp, by go_simp, by go_simp⟩ ?_
  rintro w5 ⟨⟨hb5, hl5⟩, p0, p1, p2, q0, q1, q2, q3, q4, r0, r1, r2, r3, r4⟩
  have hs5 := H.out.below hb5 hcl hbl
  have HS := Lib.hid hs5
  have HB5 := Lib.hid hb5
  have a0 := hs5.c0
  have a2 := hs5.c2
  haveI : LtSize c w5 := ⟨hs5.lt⟩
  haveI : LtSize w.heap.size w5 := ⟨by omega⟩
  haveI : LtSize (w.heap.size + 1) w5 := ⟨by omega⟩
  haveI : LtSize (w.heap.size + 1 + 1) w5 := ⟨hl5⟩
  clear hs5 hb5
  (refine wp_region_up (by kernel_rfl) (by kernel_rfl) ?_; (repeat (go_big_quiet_step (fail))); refine wpQuiet_nil ?_; intro _ hw'; obtain ⟨xq, hw''⟩ := hw'; subst hw'')
  go_wp2_with fail
  refine wp_region_up (by kernel_rfl) (by kernel_rfl) ?_
  repeat (go_big_quiet_step ((first | (go_at_call 33; with_reducible exact Calls.up_gives (slimit_any c b n same rate f _ _ HS.out.up.up hr1 hr2 (by omega) (by omega))) | (go_at_call 32; with_reducible exact Calls.up_gives (faster_is _ _ _ _ _ _ _ _ _ HM.out HL.out hfast.out)))))
  refine wpQuiet_nil ?_
  intro _ hw'
  obtain ⟨xq2, hw''⟩ := hw'
  subst hw''
  go_wp2_with fail
  (refine wp_region_tail 6 (by kernel_rfl) (by kernel_rfl) ?_; simp only [List.take_succ_cons, List.take_zero, List.drop_succ_cons, List.drop_zero]; still_step; still_step; still_step; still_step; still_step; still_step; (with_reducible refine wpStill_nil ?_))
  refine wpList_store_st rfl _ _ _ rfl b n f rfl HS.out.up.up.tab.drew s rfl (by omega) (by omega) ⟨x, y, z, t, 1 + v.row⟩ rfl (by omega) ?_
  intro w6 ht hg
  have HT := Lib.hid ht
  have HG := Lib.hid hg
  clear ht hg
  go_wp2_with fail
  go_ret2
  refine ⟨n + 1, rfl, Nat.le_refl _, (HS.out.up.up.drew).grown HG.out HT.out, gr_trans (gr_to_drew (gr_to_up (gr_to_up (gr_below (some b) HB5.out) _) _)) HG.out⟩
set_option maxRecDepth 100000 in
set_option maxHeartbeats 1600000 in
theorem tk_old_110 (c b n : Nat) (same rate : Int) (f : Int → Option StO) (s x y z t : Int) (k : Int) (w : World) (h : StAt w c b n same rate f) (ok : StOK same rate f k) (hk : k ≤ 1000000) (hn : n < 1000000) (hx : I64 x) (hy : I64 y) (hz : I64 z) (t1 : -9223372036854775808 ≤ t) (t2 : t ≤ 9223372036854775807) (hs : srcB s = true) (h1 : (lastO f s).tk ≤ t) (h2 : t ≤ 1099511627776) (v : StO) (hf : f s = some v) (heq : sameV v x y z = true) (hst : decide (same < 1 + v.row) = true) (hfa : fastB ⟨x, y, z, 0, 0⟩ v (limV rate (t - v.tk)) = false) :
    Calls Try.prog 13 #[.pointer (some ⟨c, 0, none⟩), .int .i64 s, .agg #[.int .i64 x, .int .i64 y, .int .i64 z], .int .i64 t] w (StTakeR w c b n same rate 1 0 (updS f s ⟨x, y, z, t, 1 + v.row⟩)) := by
  have H := Lib.hid h
  have a0 := h.c0
  have a2 := h.c2
  haveI : LtSize c w := ⟨h.lt⟩
  have hne : ¬ c = w.heap.size := by have := h.lt; omega
  have hcl := h.lt
  have hbl := h.tab.lt
  clear h
  obtain ⟨s1, s2⟩ := src_in hs
  have hsm1 := ok.s1
  have hsm2 := ok.s2
  have hr1 := ok.r1
  have hr2 := ok.r2
  have HV := Lib.hid (show (f s).getD StO.zero = v by rw [hf]; rfl)
  have HK := Lib.hid (show (f s).isSome = true by rw [hf]; rfl)
  have hlo : (lastO f s).tk = v.tk := by unfold lastO; rw [hf]; rfl
  rw [hlo] at h1
  have hvt := ok.t0 s v hf
  have hvw := ok.w0 s v hf
  have hvo := ok.v s v hf
  have HM := Lib.hid (show I64 x ∧ I64 y ∧ I64 z from ⟨hx, hy, hz⟩)
  have HL := Lib.hid (show I64 v.a ∧ I64 v.b ∧ I64 v.c from ⟨hvo.a, hvo.b, hvo.c⟩)
  have hfast := Lib.hid (show fastB ⟨x, y, z, 0, 0⟩ ⟨v.a, v.b, v.c, 0, 0⟩ (limV rate (t - v.tk)) = false from hfa)
  have hw1 : IntKind.i64.wrap (t - v.tk) = t - v.tk := by rw [IntKind.wrap_i64]; omega
  have hd1 : decide (t < v.tk) = false := by simp; omega
  have hd2 : decide (1099511627776 < t) = false := by simp; omega
  have heq3 := eq3
  have heqv : (v.a == x && (v.b == y && v.c == z)) = true := heq
  clear hf hlo hfa heq hvo
  go_enter Try.func13, Try.ntmps13
  go_upto_region 11 with (first | (go_at_call 31; with_reducible refine Calls.tells (smay_t c b n same rate f s _ H.out.alloc hs) ?_) | (at_lookup; refine wpList_lookup_st rfl _ _ rfl b n f rfl H.out.alloc.tab s rfl (by omega) (by omega) ?_; rw [HV.out, HK.out]; unfold stV))
  refine wp_gen (fun W => (Below w.heap.size w W ∧ w.heap.size + 1 + 1 < W.heap.size) ∧ W.cell? ⟨w.heap.size, 0, none⟩ = some (.int .i64 (x)) ∧ W.cell? ⟨w.heap.size, 1, none⟩ = some (.int .i64 (y)) ∧ W.cell? ⟨w.heap.size, 2, none⟩ = some (.int .i64 (z)) ∧ W.cell? ⟨w.heap.size + 1, 0, none⟩ = some (.int .i64 (v.a)) ∧ W.cell? ⟨w.heap.size + 1, 1, none⟩ = some (.int .i64 (v.b)) ∧ W.cell? ⟨w.heap.size + 1, 2, none⟩ = some (.int .i64 (v.c)) ∧ W.cell? ⟨w.heap.size + 1, 3, none⟩ = some (.int .i64 (v.tk)) ∧ W.cell? ⟨w.heap.size + 1, 4, none⟩ = some (.int .i64 (v.row)) ∧ W.cell? ⟨w.heap.size + 1 + 1, 0, none⟩ = some (.int .i64 (x)) ∧ W.cell? ⟨w.heap.size + 1 + 1, 1, none⟩ = some (.int .i64 (y)) ∧ W.cell? ⟨w.heap.size + 1 + 1, 2, none⟩ = some (.int .i64 (z)) ∧ W.cell? ⟨w.heap.size + 1 + 1, 3, none⟩ = some (.int .i64 (t)) ∧ W.cell? ⟨w.heap.size + 1 + 1, 4, none⟩ = some (.int .i64 (1 + v.row))) ⟨⟨by (repeat (first | (with_reducible exact Below.refl _ _) | (with_reducible assumption) | (with_reducible refine Below.alloc ?_ (by (repeat (first | (with_reducible exact Nat.le_refl _) | (with_reducible assumption) | (with_reducible refine le_up ?_) | (with_reducible refine le_alloc ?_) | (with_reducible refine le_setCell ?_) | (with_reducible refine le_drew ?_) | (with_reducible refine le_drewN ?_) | omega))) _) | (with_reducible refine Below.drew ?_) | (with_reducible refine Below.drewN ?_ _) | (with_reducible refine Below.setCell ?_ (by (repeat (first | (with_reducible exact Nat.le_refl _) | (with_reducible assumption) | (with_reducible refine le_up ?_) | (with_reducible refine le_alloc ?_) | (with_reducible refine le_setCell ?_) | (with_reducible refine le_drew ?_) | (with_reducible refine le_drewN ?_) | omega))) _) | (with_reducible refine Below.up ?_ (by (repeat (first | (with_reducible exact Nat.le_refl _) | (with_reducible assumption) | (with_reducible refine le_up ?_) | (with_reducible refine le_alloc ?_) | (with_reducible refine le_setCell ?_) | (with_reducible refine le_drew ?_) | (with_reducible refine le_drewN ?_) | omega)))))), by simp⟩, by simp, by simp, by simp, by simp, by simp, by simp, by simp, by simp, by go_simp, by go_simp, by go_simp, by go_simp, by go_simp⟩ ?_
  rintro w5 ⟨⟨hb5, hl5⟩, p0, p1, p2, q0, q1, q2, q3, q4, r0, r1, r2, r3, r4⟩
  have hs5 := H.out.below hb5 hcl hbl
  have HS := Lib.hid hs5
  have HB5 := Lib.hid hb5
  have a0 := hs5.c0
  have a2 := hs5.c2
  haveI : LtSize c w5 := ⟨hs5.lt⟩
  haveI : LtSize w.heap.size w5 := ⟨by omega⟩
  haveI : LtSize (w.heap.size + 1) w5 := ⟨by omega⟩
  haveI : LtSize (w.heap.size + 1 + 1) w5 := ⟨hl5⟩
  clear hs5 hb5
  (refine wp_region_up (by kernel_rfl) (by kernel_rfl) ?_; (repeat (go_big_quiet_step (fail))); refine wpQuiet_nil ?_; intro _ hw'; obtain ⟨xq, hw''⟩ := hw'; subst hw'')
  go_wp2_with fail
  refine wp_region_up (by kernel_rfl) (by kernel_rfl) ?_
  repeat (go_big_quiet_step ((first | (go_at_call 33; with_reducible exact Calls.up_gives (slimit_any c b n same rate f _ _ HS.out.up.up hr1 hr2 (by omega) (by omega))) | (go_at_call 32; with_reducible exact Calls.up_gives (faster_is _ _ _ _ _ _ _ _ _ HM.out HL.out hfast.out)))))
  refine wpQuiet_nil ?_
  intro _ hw'
  obtain ⟨xq2, hw''⟩ := hw'
  subst hw''
  go_wp2_with fail
  (refine wp_region_tail 6 (by kernel_rfl) (by kernel_rfl) ?_; simp only [List.take_succ_cons, List.take_zero, List.drop_succ_cons, List.drop_zero]; still_step; still_step; still_step; still_step; still_step; still_step; (with_reducible refine wpStill_nil ?_))
  refine wpList_store_st rfl _ _ _ rfl b n f rfl HS.out.up.up.tab.drew s rfl (by omega) (by omega) ⟨x, y, z, t, 1 + v.row⟩ rfl (by omega) ?_
  intro w6 ht hg
  have HT := Lib.hid ht
  have HG := Lib.hid hg
  clear ht hg
  go_wp2_with fail
  go_ret2
  refine ⟨n + 1, rfl, Nat.le_refl _, (HS.out.up.up.drew).grown HG.out HT.out, gr_trans (gr_to_drew (gr_to_up (gr_to_up (gr_below (some b) HB5.out) _) _)) HG.out⟩
set_option maxRecDepth 100000 in
set_option maxHeartbeats 1600000 in
theorem tk_old_111 (c b n : Nat) (same rate : Int) (f : Int → Option StO) (s x y z t : Int) (k : Int) (w : World) (h : StAt w c b n same rate f) (ok : StOK same rate f k) (hk : k ≤ 1000000) (hn : n < 1000000) (hx : I64 x) (hy : I64 y) (hz : I64 z) (t1 : -9223372036854775808 ≤ t) (t2 : t ≤ 9223372036854775807) (hs : srcB s = true) (h1 : (lastO f s).tk ≤ t) (h2 : t ≤ 1099511627776) (v : StO) (hf : f s = some v) (heq : sameV v x y z = true) (hst : decide (same < 1 + v.row) = true) (hfa : fastB ⟨x, y, z, 0, 0⟩ v (limV rate (t - v.tk)) = true) :
    Calls Try.prog 13 #[.pointer (some ⟨c, 0, none⟩), .int .i64 s, .agg #[.int .i64 x, .int .i64 y, .int .i64 z], .int .i64 t] w (StTakeR w c b n same rate 3 0 (updS f s ⟨x, y, z, t, 1 + v.row⟩)) := by
  have H := Lib.hid h
  have a0 := h.c0
  have a2 := h.c2
  haveI : LtSize c w := ⟨h.lt⟩
  have hne : ¬ c = w.heap.size := by have := h.lt; omega
  have hcl := h.lt
  have hbl := h.tab.lt
  clear h
  obtain ⟨s1, s2⟩ := src_in hs
  have hsm1 := ok.s1
  have hsm2 := ok.s2
  have hr1 := ok.r1
  have hr2 := ok.r2
  have HV := Lib.hid (show (f s).getD StO.zero = v by rw [hf]; rfl)
  have HK := Lib.hid (show (f s).isSome = true by rw [hf]; rfl)
  have hlo : (lastO f s).tk = v.tk := by unfold lastO; rw [hf]; rfl
  rw [hlo] at h1
  have hvt := ok.t0 s v hf
  have hvw := ok.w0 s v hf
  have hvo := ok.v s v hf
  have HM := Lib.hid (show I64 x ∧ I64 y ∧ I64 z from ⟨hx, hy, hz⟩)
  have HL := Lib.hid (show I64 v.a ∧ I64 v.b ∧ I64 v.c from ⟨hvo.a, hvo.b, hvo.c⟩)
  have hfast := Lib.hid (show fastB ⟨x, y, z, 0, 0⟩ ⟨v.a, v.b, v.c, 0, 0⟩ (limV rate (t - v.tk)) = true from hfa)
  have hw1 : IntKind.i64.wrap (t - v.tk) = t - v.tk := by rw [IntKind.wrap_i64]; omega
  have hd1 : decide (t < v.tk) = false := by simp; omega
  have hd2 : decide (1099511627776 < t) = false := by simp; omega
  have heq3 := eq3
  have heqv : (v.a == x && (v.b == y && v.c == z)) = true := heq
  clear hf hlo hfa heq hvo
  go_enter Try.func13, Try.ntmps13
  go_upto_region 11 with (first | (go_at_call 31; with_reducible refine Calls.tells (smay_t c b n same rate f s _ H.out.alloc hs) ?_) | (at_lookup; refine wpList_lookup_st rfl _ _ rfl b n f rfl H.out.alloc.tab s rfl (by omega) (by omega) ?_; rw [HV.out, HK.out]; unfold stV))
  refine wp_gen (fun W => (Below w.heap.size w W ∧ w.heap.size + 1 + 1 < W.heap.size) ∧ W.cell? ⟨w.heap.size, 0, none⟩ = some (.int .i64 (x)) ∧ W.cell? ⟨w.heap.size, 1, none⟩ = some (.int .i64 (y)) ∧ W.cell? ⟨w.heap.size, 2, none⟩ = some (.int .i64 (z)) ∧ W.cell? ⟨w.heap.size + 1, 0, none⟩ = some (.int .i64 (v.a)) ∧ W.cell? ⟨w.heap.size + 1, 1, none⟩ = some (.int .i64 (v.b)) ∧ W.cell? ⟨w.heap.size + 1, 2, none⟩ = some (.int .i64 (v.c)) ∧ W.cell? ⟨w.heap.size + 1, 3, none⟩ = some (.int .i64 (v.tk)) ∧ W.cell? ⟨w.heap.size + 1, 4, none⟩ = some (.int .i64 (v.row)) ∧ W.cell? ⟨w.heap.size + 1 + 1, 0, none⟩ = some (.int .i64 (x)) ∧ W.cell? ⟨w.heap.size + 1 + 1, 1, none⟩ = some (.int .i64 (y)) ∧ W.cell? ⟨w.heap.size + 1 + 1, 2, none⟩ = some (.int .i64 (z)) ∧ W.cell? ⟨w.heap.size + 1 + 1, 3, none⟩ = some (.int .i64 (t)) ∧ W.cell? ⟨w.heap.size + 1 + 1, 4, none⟩ = some (.int .i64 (1 + v.row))) ⟨⟨by (repeat (first | (with_reducible exact Below.refl _ _) | (with_reducible assumption) | (with_reducible refine Below.alloc ?_ (by (repeat (first | (with_reducible exact Nat.le_refl _) | (with_reducible assumption) | (with_reducible refine le_up ?_) | (with_reducible refine le_alloc ?_) | (with_reducible refine le_setCell ?_) | (with_reducible refine le_drew ?_) | (with_reducible refine le_drewN ?_) | omega))) _) | (with_reducible refine Below.drew ?_) | (with_reducible refine Below.drewN ?_ _) | (with_reducible refine Below.setCell ?_ (by (repeat (first | (with_reducible exact Nat.le_refl _) | (with_reducible assumption) | (with_reducible refine le_up ?_) | (with_reducible refine le_alloc ?_) | (with_reducible refine le_setCell ?_) | (with_reducible refine le_drew ?_) | (with_reducible refine le_drewN ?_) | omega))) _) | (with_reducible refine Below.up ?_ (by (repeat (first | (with_reducible exact Nat.le_refl _) | (with_reducible assumption) | (with_reducible refine le_up ?_) | (with_reducible refine le_alloc ?_) | (with_reducible refine le_setCell ?_) | (with_reducible refine le_drew ?_) | (with_reducible refine le_drewN ?_) | omega)))))), by simp⟩, by simp, by simp, by simp, by simp, by simp, by simp, by simp, by simp, by go_simp, by go_simp, by go_simp, by go_simp, by go_simp⟩ ?_
  rintro w5 ⟨⟨hb5, hl5⟩, p0, p1, p2, q0, q1, q2, q3, q4, r0, r1, r2, r3, r4⟩
  have hs5 := H.out.below hb5 hcl hbl
  have HS := Lib.hid hs5
  have HB5 := Lib.hid hb5
  have a0 := hs5.c0
  have a2 := hs5.c2
  haveI : LtSize c w5 := ⟨hs5.lt⟩
  haveI : LtSize w.heap.size w5 := ⟨by omega⟩
  haveI : LtSize (w.heap.size + 1) w5 := ⟨by omega⟩
  haveI : LtSize (w.heap.size + 1 + 1) w5 := ⟨hl5⟩
  clear hs5 hb5
  (refine wp_region_up (by kernel_rfl) (by kernel_rfl) ?_; (repeat (go_big_quiet_step (fail))); refine wpQuiet_nil ?_; intro _ hw'; obtain ⟨xq, hw''⟩ := hw'; subst hw'')
  go_wp2_with fail
  refine wp_region_up (by kernel_rfl) (by kernel_rfl) ?_
  repeat (go_big_quiet_step ((first | (go_at_call 33; with_reducible exact Calls.up_gives (slimit_any c b n same rate f _ _ HS.out.up.up hr1 hr2 (by omega) (by omega))) | (go_at_call 32; with_reducible exact Calls.up_gives (faster_is _ _ _ _ _ _ _ _ _ HM.out HL.out hfast.out)))))
  refine wpQuiet_nil ?_
  intro _ hw'
  obtain ⟨xq2, hw''⟩ := hw'
  subst hw''
  go_wp2_with fail
  (refine wp_region_tail 6 (by kernel_rfl) (by kernel_rfl) ?_; simp only [List.take_succ_cons, List.take_zero, List.drop_succ_cons, List.drop_zero]; still_step; still_step; still_step; still_step; still_step; still_step; (with_reducible refine wpStill_nil ?_))
  refine wpList_store_st rfl _ _ _ rfl b n f rfl HS.out.up.up.tab.drew s rfl (by omega) (by omega) ⟨x, y, z, t, 1 + v.row⟩ rfl (by omega) ?_
  intro w6 ht hg
  have HT := Lib.hid ht
  have HG := Lib.hid hg
  clear ht hg
  go_wp2_with fail
  go_ret2
  refine ⟨n + 1, rfl, Nat.le_refl _, (HS.out.up.up.drew).grown HG.out HT.out, gr_trans (gr_to_drew (gr_to_up (gr_to_up (gr_below (some b) HB5.out) _) _)) HG.out⟩
end Go.Proofs.Ytihalkpcddnikaa
