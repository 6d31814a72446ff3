/-
  The watcher of readings: Take in one contract; watchers that no call made; the example; the law StuckVoid, walked.
-/
import Derived.Test.YtihalkpcddnikaaStuT
namespace Go.Proofs.Ytihalkpcddnikaa
open Go.RowKit Go.Maps
set_option linter.unusedVariables false

theorem tkE_cases (f : Int → Option StO) (s t : Int) : (srcB s = false ∧ tkE f s t = 2) ∨ (srcB s = true ∧ (t < (lastO f s).tk ∨ 1099511627776 < t) ∧ tkE f s t = 2) ∨ (srcB s = true ∧ (lastO f s).tk ≤ t ∧ t ≤ 1099511627776 ∧ tkE f s t = 0) := by
  cases hs : srcB s
  · exact .inl ⟨rfl, by simp [tkE, hs]⟩
  · by_cases h : t < (lastO f s).tk ∨ 1099511627776 < t
    · exact .inr (.inl ⟨rfl, h, by simp [tkE, hs, h]⟩)
    · exact .inr (.inr ⟨rfl, by omega, by omega, by simp [tkE, hs, h]⟩)
theorem sTake_any (c b n : Nat) (same rate : Int) (f : Int → Option StO) (s x y z t : Int) (k : Int) (w : World) (h : StAt w c b n same rate f) (ok : StOK same rate f k) (hk : k ≤ 1000000) (hn : n < 1000000) (hx : I64 x) (hy : I64 y) (hz : I64 z) (t1 : -9223372036854775808 ≤ t) (t2 : t ≤ 9223372036854775807) :
    Calls Try.prog 13 #[.pointer (some ⟨c, 0, none⟩), .int .i64 s, .agg #[.int .i64 x, .int .i64 y, .int .i64 z], .int .i64 t] w (StTakeR w c b n same rate (tkFl same rate f s x y z t) (tkE f s t) (tkF f s x y z t)) := by
  rcases tkE_cases f s t with ⟨hs, e⟩ | ⟨hs, hb, e⟩ | ⟨hs, h1, h2, e⟩
  · rw [show tkFl same rate f s x y z t = 0 by unfold tkFl; rw [if_neg (by omega)], show tkF f s x y z t = f by unfold tkF; rw [if_neg (by omega)], e]
    exact tk_out c b n same rate f s x y z t k w h ok hk hn hx hy hz t1 t2 hs
  · rw [show tkFl same rate f s x y z t = 0 by unfold tkFl; rw [if_neg (by omega)], show tkF f s x y z t = f by unfold tkF; rw [if_neg (by omega)], e]
    exact tk_bad c b n same rate f s x y z t k w h ok hk hn hx hy hz t1 t2 hs hb
  · unfold tkFl tkF
    rw [if_pos e, if_pos e, e]
    cases hf : f s with
    | none =>
      have := tk_new c b n same rate f s x y z t k w h ok hk hn hx hy hz t1 t2 hs h1 h2 hf
      have hr : nowRow f s x y z = 1 := by simp [nowRow, hf]
      have hsame := ok.s1
      rw [hr]
      simpa [show ¬ same < 1 by omega] using this
    | some v =>
      have hl : lastO f s = v := by unfold lastO; rw [hf]; rfl
      have hsame := ok.s1
      rw [hl]
      cases hq : sameV v x y z
      · have hr : nowRow f s x y z = 1 := by simp [nowRow, hf, hl, hq]
        rw [hr]
        cases hfa : fastB ⟨x, y, z, 0, 0⟩ v (limV rate (t - v.tk))
        · have := tk_old_000 c b n same rate f s x y z t k w h ok hk hn hx hy hz t1 t2 hs h1 h2 v hf hq hfa
          simpa [show ¬ same < 1 by omega] using this
        · have := tk_old_001 c b n same rate f s x y z t k w h ok hk hn hx hy hz t1 t2 hs h1 h2 v hf hq hfa
          simpa [show ¬ same < 1 by omega] using this
      · have hr : nowRow f s x y z = 1 + v.row := by simp [nowRow, hf, hl, hq]
        rw [hr]
        by_cases hst : same < 1 + v.row
        · cases hfa : fastB ⟨x, y, z, 0, 0⟩ v (limV rate (t - v.tk))
          · have := tk_old_110 c b n same rate f s x y z t k w h ok hk hn hx hy hz t1 t2 hs h1 h2 v hf hq (decide_eq_true hst) hfa
            simpa [hst] using this
          · have := tk_old_111 c b n same rate f s x y z t k w h ok hk hn hx hy hz t1 t2 hs h1 h2 v hf hq (decide_eq_true hst) hfa
            simpa [hst] using this
        · cases hfa : fastB ⟨x, y, z, 0, 0⟩ v (limV rate (t - v.tk))
          · have := tk_old_100 c b n same rate f s x y z t k w h ok hk hn hx hy hz t1 t2 hs h1 h2 v hf hq (decide_eq_false hst) hfa
            simpa [hst] using this
          · have := tk_old_101 c b n same rate f s x y z t k w h ok hk hn hx hy hz t1 t2 hs h1 h2 v hf hq (decide_eq_false hst) hfa
            simpa [hst] using this
theorem StOK.new {same rate : Int} (h : stNewB same rate = true) (h2 : rate ≤ 9223372036854775807) : StOK same rate (fun _ => none) 0 := by
  simp [stNewB] at h
  exact ⟨h.1, h.2.1, h.2.2, h2, (fun _ _ h => by cases h), (fun _ _ h => by cases h), (fun _ _ h => by cases h)⟩
theorem StOK.mono {same rate : Int} {f : Int → Option StO} {k j : Int} (h : StOK same rate f k) (hj : k ≤ j) : StOK same rate f j :=
  ⟨h.s1, h.s2, h.r1, h.r2, h.v, h.t0, fun s m hm => ⟨(h.w0 s m hm).1, by have := (h.w0 s m hm).2; omega⟩⟩
theorem StOK.row {same rate : Int} {f : Int → Option StO} {k : Int} (h : StOK same rate f k) (hk : 0 ≤ k) (s x y z : Int) : 1 ≤ nowRow f s x y z ∧ nowRow f s x y z ≤ k + 1 := by
  unfold nowRow
  split
  · rename_i hc
    cases hf : f s with
    | none => simp [hf] at hc
    | some v =>
      have := h.w0 s v hf
      have hl : lastO f s = v := by unfold lastO; rw [hf]; rfl
      rw [hl]; omega
  · omega
theorem StOK.last {same rate : Int} {f : Int → Option StO} {k : Int} (h : StOK same rate f k) (s : Int) : 0 ≤ (lastO f s).tk := by
  cases hf : f s with
  | none => unfold lastO; rw [hf]; simp [StO.zero]
  | some v =>
    have hl : lastO f s = v := by unfold lastO; rw [hf]; rfl
    rw [hl]; exact (h.t0 s v hf).1
theorem StOK.take {same rate : Int} {f : Int → Option StO} {k : Int} (h : StOK same rate f k) (hk : 0 ≤ k) {s x y z t : Int} (hx : I64 x) (hy : I64 y) (hz : I64 z) : StOK same rate (tkF f s x y z t) (k + 1) := by
  unfold tkF
  split
  · rename_i he
    rcases tkE_cases f s t with ⟨_, e⟩ | ⟨_, _, e⟩ | ⟨hs, h1, h2, e⟩
    · omega
    · omega
    · have hr := h.row hk s x y z
      have hl := h.last s
      refine ⟨h.s1, h.s2, h.r1, h.r2, fun j m hj => ?_, fun j m hj => ?_, fun j m hj => ?_⟩ <;> unfold updS at hj <;> split at hj
      · cases hj; exact ⟨hx, hy, hz⟩
      · exact h.v j m hj
      · cases hj; simp; omega
      · exact h.t0 j m hj
      · cases hj; simpa using hr
      · have := h.w0 j m hj; omega
  · exact h.mono (by omega)
theorem StOK.clr {same rate : Int} {f : Int → Option StO} {k : Int} (h : StOK same rate f k) (s : Int) : StOK same rate (clrF f s) k := by
  unfold clrF
  split
  · refine ⟨h.s1, h.s2, h.r1, h.r2, fun j m hj => ?_, fun j m hj => ?_, fun j m hj => ?_⟩ <;> unfold delS at hj <;> split at hj
    · cases hj
    · exact h.v j m hj
    · cases hj
    · exact h.t0 j m hj
    · cases hj
    · exact h.w0 j m hj
  · exact h
set_option maxRecDepth 100000 in
theorem sTake_nil (s x y z t : Int) (w : World) :
    Calls Try.prog 13 #[.pointer none, .int .i64 s, .agg #[.int .i64 x, .int .i64 y, .int .i64 z], .int .i64 t] w (Gives w (.tuple #[.int .u8 0, .int .i64 1])) := by
  go_enter Try.func13, Try.ntmps13
  go_wp2_with (go_at_call 31; with_reducible refine Calls.tells (smay_nil s _) ?_)
  go_ret2
  exact Gives.mk rfl (by (repeat (first | (with_reducible exact Below.refl _ _) | (with_reducible assumption) | (with_reducible refine Below.alloc ?_ (by (repeat (first | (with_reducible exact Nat.le_refl _) | (with_reducible assumption) | (with_reducible refine le_up ?_) | (with_reducible refine le_alloc ?_) | (with_reducible refine le_setCell ?_) | (with_reducible refine le_drew ?_) | (with_reducible refine le_drewN ?_) | omega))) _) | (with_reducible refine Below.drew ?_) | (with_reducible refine Below.drewN ?_ _) | (with_reducible refine Below.setCell ?_ (by (repeat (first | (with_reducible exact Nat.le_refl _) | (with_reducible assumption) | (with_reducible refine le_up ?_) | (with_reducible refine le_alloc ?_) | (with_reducible refine le_setCell ?_) | (with_reducible refine le_drew ?_) | (with_reducible refine le_drewN ?_) | omega))) _) | (with_reducible refine Below.up ?_ (by (repeat (first | (with_reducible exact Nat.le_refl _) | (with_reducible assumption) | (with_reducible refine le_up ?_) | (with_reducible refine le_alloc ?_) | (with_reducible refine le_setCell ?_) | (with_reducible refine le_drew ?_) | (with_reducible refine le_drewN ?_) | omega)))))))
set_option maxRecDepth 100000 in
theorem sTake_void (c : Nat) (s x y z t : Int) (w : World) [LtSize c w] (hc : w.cell? ⟨c, 2, none⟩ = some (.map none)) :
    Calls Try.prog 13 #[.pointer (some ⟨c, 0, none⟩), .int .i64 s, .agg #[.int .i64 x, .int .i64 y, .int .i64 z], .int .i64 t] w (Gives w (.tuple #[.int .u8 0, .int .i64 1])) := by
  go_enter Try.func13, Try.ntmps13
  go_wp2_with (go_at_call 31; with_reducible refine Calls.tells (smay_void c s _ (by simp [hc])) ?_)
  go_ret2
  exact Gives.mk rfl (by (repeat (first | (with_reducible exact Below.refl _ _) | (with_reducible assumption) | (with_reducible refine Below.alloc ?_ (by (repeat (first | (with_reducible exact Nat.le_refl _) | (with_reducible assumption) | (with_reducible refine le_up ?_) | (with_reducible refine le_alloc ?_) | (with_reducible refine le_setCell ?_) | (with_reducible refine le_drew ?_) | (with_reducible refine le_drewN ?_) | omega))) _) | (with_reducible refine Below.drew ?_) | (with_reducible refine Below.drewN ?_ _) | (with_reducible refine Below.setCell ?_ (by (repeat (first | (with_reducible exact Nat.le_refl _) | (with_reducible assumption) | (with_reducible refine le_up ?_) | (with_reducible refine le_alloc ?_) | (with_reducible refine le_setCell ?_) | (with_reducible refine le_drew ?_) | (with_reducible refine le_drewN ?_) | omega))) _) | (with_reducible refine Below.up ?_ (by (repeat (first | (with_reducible exact Nat.le_refl _) | (with_reducible assumption) | (with_reducible refine le_up ?_) | (with_reducible refine le_alloc ?_) | (with_reducible refine le_setCell ?_) | (with_reducible refine le_drew ?_) | (with_reducible refine le_drewN ?_) | omega)))))))
theorem sRow_is {c b n : Nat} {same rate : Int} {f : Int → Option StO} {s r : Int} {w : World} (h : StAt w c b n same rate f) (e : (slookO f s).row = r) :
    Calls Try.prog 19 #[.pointer (some ⟨c, 0, none⟩), .int .i64 s] w (Gives w (.int .i64 r)) := by rw [← e]; exact sRow_any c b n same rate f s w h
def wf0 : Int → Option StO := fun _ => none
def wf1 := tkF wf0 3 5 0 0 0
def wf2 := tkF wf1 3 5 0 0 1
def wf3 := tkF wf2 3 5 0 0 2
set_option maxRecDepth 100000 in
theorem works24 (w : World) : Calls Try.prog 10 #[] w (Gives w (.bool true)) := by
  have i5 : I64 5 := by unfold I64; omega
  have i0 : I64 0 := by unfold I64; omega
  have ok0 : StOK 2 4294967296 wf0 0 := StOK.new (same := 2) (rate := 4294967296) rfl (by omega)
  have ok1 : StOK 2 4294967296 wf1 1 := ok0.take (by omega) i5 i0 i0
  have ok2 : StOK 2 4294967296 wf2 2 := ok1.take (by omega) i5 i0 i0
  have e0 : tkE wf0 3 0 = 0 := by decide +kernel
  have e1 : tkE wf1 3 1 = 0 := by decide +kernel
  have e2 : tkE wf2 3 2 = 0 := by decide +kernel
  have f0 : tkFl 2 4294967296 wf0 3 5 0 0 0 = 0 := by decide +kernel
  have f1 : tkFl 2 4294967296 wf1 3 5 0 0 1 = 0 := by decide +kernel
  have f2 : tkFl 2 4294967296 wf2 3 5 0 0 2 = 1 := by decide +kernel
  have r3 : (slookO wf3 3).row = 3 := by decide +kernel
  go_enter Try.func10, Try.ntmps10
  go_wp2_with fail
  refine (sNew_good (same := 2) (rate := 4294967296) _ rfl).mono ?_
  rintro e w1 ⟨c, b, rfl, hb, hc, h1, b1⟩
  have H1 : Hid (StAt w1 c b 0 2 4294967296 wf0) := Lib.hid h1
  have B1 := Lib.hid b1
  clear h1 b1
  go_wp2_with fail
  refine (sTake_any c b 0 2 4294967296 wf0 3 5 0 0 0 0 _ H1.out ok0 (by omega) (by omega) i5 i0 i0 (by omega) (by omega)).mono ?_
  rintro e w2 ⟨n1, he, hn1, h2, g2⟩
  rw [f0, e0] at he
  subst he
  have H2 : Hid (StAt w2 c b n1 2 4294967296 wf1) := Lib.hid h2
  have B2 : Hid (Below w.heap.size w w2) := Lib.hid (below_gr B1.out g2 B1.out.size hb)
  clear h2 g2
  go_wp2_with fail
  refine (sTake_any c b n1 2 4294967296 wf1 3 5 0 0 1 1 _ H2.out ok1 (by omega) (by omega) i5 i0 i0 (by omega) (by omega)).mono ?_
  rintro e w3 ⟨n2, he, hn2, h3, g3⟩
  rw [f1, e1] at he
  subst he
  have H3 : Hid (StAt w3 c b n2 2 4294967296 wf2) := Lib.hid h3
  have B3 : Hid (Below w.heap.size w w3) := Lib.hid (below_gr B2.out g3 B2.out.size hb)
  clear h3 g3
  go_wp2_with fail
  refine (sTake_any c b n2 2 4294967296 wf2 3 5 0 0 2 2 _ H3.out ok2 (by omega) (by omega) i5 i0 i0 (by omega) (by omega)).mono ?_
  rintro e w4 ⟨n3, he, hn3, h4, g4⟩
  rw [f2, e2] at he
  subst he
  have H4 : Hid (StAt w4 c b n3 2 4294967296 wf3) := Lib.hid h4
  have B4 : Hid (Below w.heap.size w w4) := Lib.hid (below_gr B3.out g4 B3.out.size hb)
  clear h4 g4
  go_wp2_with (go_at_call 19; (first | with_reducible refine Calls.fold (sRow_is H4.out r3) ?_ | with_reducible refine Calls.fresh (sRow_is H4.out r3) ?_); intro x1)
  go_ret
  exact Gives.mk rfl (below_up B4.out B4.out.size _)
set_option maxRecDepth 100000 in
set_option maxHeartbeats 800000 in
theorem StuckVoid_any (s x y z t : Int) (w : World) : Calls Try.prog 5 #[.int .i64 s, .agg #[.int .i64 x, .int .i64 y, .int .i64 z], .int .i64 t] w (Gives w (.bool true)) := by
  go_enter Try.func5, Try.ntmps5
  go_wp2_with (first
    | (go_at_call 10; (first | with_reducible refine Calls.fold (works24 _) ?_ | with_reducible refine Calls.fresh (works24 _) ?_); intro x1)
    | (go_at_call 13; (first | with_reducible refine Calls.fold (sTake_nil s x y z t _) ?_ | with_reducible refine Calls.fresh (sTake_nil s x y z t _) ?_); intro x1)
    | (go_at_call 13; (first | with_reducible refine Calls.fold (sTake_void _ s x y z t _ (by simp)) ?_ | with_reducible refine Calls.fresh (sTake_void _ s x y z t _ (by simp)) ?_); intro x1)
    | (go_at_call 18; (first | with_reducible refine Calls.fold (sLast_nil s _) ?_ | with_reducible refine Calls.fresh (sLast_nil s _) ?_); intro x1)
    | (go_at_call 18; (first | with_reducible refine Calls.fold (sLast_void _ s _ (by simp)) ?_ | with_reducible refine Calls.fresh (sLast_void _ s _ (by simp)) ?_); intro x1)
    | (go_at_call 19; (first | with_reducible refine Calls.fold (sRow_nil s _) ?_ | with_reducible refine Calls.fresh (sRow_nil s _) ?_); intro x1)
    | (go_at_call 19; (first | with_reducible refine Calls.fold (sRow_void _ s _ (by simp)) ?_ | with_reducible refine Calls.fresh (sRow_void _ s _ (by simp)) ?_); intro x1)
    | (go_at_call 15; with_reducible refine Calls.tells (sClear_nil s _) ?_)
    | (go_at_call 15; with_reducible refine Calls.tells (sClear_void _ s _ (by simp)) ?_))
  go_ret
  exact Gives.mk rfl (by (repeat (first | (with_reducible exact Below.refl _ _) | (with_reducible assumption) | (with_reducible refine Below.alloc ?_ (by (repeat (first | (with_reducible exact Nat.le_refl _) | (with_reducible assumption) | (with_reducible refine le_up ?_) | (with_reducible refine le_alloc ?_) | (with_reducible refine le_setCell ?_) | (with_reducible refine le_drew ?_) | (with_reducible refine le_drewN ?_) | omega))) _) | (with_reducible refine Below.drew ?_) | (with_reducible refine Below.drewN ?_ _) | (with_reducible refine Below.setCell ?_ (by (repeat (first | (with_reducible exact Nat.le_refl _) | (with_reducible assumption) | (with_reducible refine le_up ?_) | (with_reducible refine le_alloc ?_) | (with_reducible refine le_setCell ?_) | (with_reducible refine le_drew ?_) | (with_reducible refine le_drewN ?_) | omega))) _) | (with_reducible refine Below.up ?_ (by (repeat (first | (with_reducible exact Nat.le_refl _) | (with_reducible assumption) | (with_reducible refine le_up ?_) | (with_reducible refine le_alloc ?_) | (with_reducible refine le_setCell ?_) | (with_reducible refine le_drew ?_) | (with_reducible refine le_drewN ?_) | omega)))))))
end Go.Proofs.Ytihalkpcddnikaa
