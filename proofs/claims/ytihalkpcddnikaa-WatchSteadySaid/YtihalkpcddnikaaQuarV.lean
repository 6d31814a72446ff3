/-
  The keeper of quarantines, continued: what happens, in one contract; the makers; keepers that no call made; the example.
-/
import Derived.Test.YtihalkpcddnikaaQuarY
namespace Go.Proofs.Ytihalkpcddnikaa.Q
open Go.RowKit
set_option linter.unusedVariables false

theorem hap_in (c j : Nat) (t k : Int) (S : QuarS) (n : Int) (w : World) (h : QuarAt w c S) (ok : QuarOK S n) (hn : n ≤ 1000000) (hj : j < 8) (ht : 0 ≤ t ∧ t ≤ 1099511627776) (hk : 0 ≤ k ∧ k ≤ 3) :
    Calls Try.prog 73 #[.pointer (some ⟨c, 0, none⟩), .int .i64 j, .int .i64 t, .int .i64 k] w (QuarR w c (hapO S (S.l j) t k).st 0 (S.put j (hapO S (S.l j) t k))) := by
  by_cases hw : (S.l j).st = 2 ∧ (S.l j).til ≤ t
  · have e : wakeO (S.l j) t = ⟨3, (S.l j).bad, 0, 0, (S.l j).times⟩ := if_pos hw
    rcases (show k = 0 ∨ k = 1 ∨ k = 2 ∨ k = 3 by omega) with rfl | rfl | rfl | rfl
    · have := hap_wake0 c j t S n w h ok hn hj ht hw.1 hw.2
      simpa [hapO, e] using this
    · have := hap_wake1 c j t S n w h ok hn hj ht hw.1 hw.2
      simpa [hapO, e] using this
    · have := hap_wake2 c j t S n w h ok hn hj ht hw.1 hw.2
      simpa [hapO, e, badO, awayO] using this
    · have := hap_wake3 c j t S n w h ok hn hj ht hw.1 hw.2
      simpa [hapO, e, awayO] using this
  · have e : wakeO (S.l j) t = S.l j := if_neg hw
    rcases (show k = 0 ∨ k = 1 ∨ k = 2 ∨ k = 3 by omega) with rfl | rfl | rfl | rfl
    · have := hap_sleep0 c j t S n w h ok hn hj ht hw
      simpa [hapO, e, QuarS.put_self] using this
    · have := hap_sleep1 c j t S n w h ok hn hj ht hw
      simpa [hapO, e] using this
    · by_cases h2 : (S.l j).st = 2
      · have := hap_sleep2a c j t S n w h ok hn hj ht h2 (by omega)
        simpa [hapO, e, badO, h2, QuarS.put_self] using this
      · by_cases h3 : (S.l j).st = 3
        · have := hap_sleep2d c j t S n w h ok hn hj ht h3
          simpa [hapO, e, badO, h3, awayO] using this
        · by_cases h4 : (S.l j).bad + 1 < S.bad
          · have := hap_sleep2b c j t S n w h ok hn hj ht h2 h3 h4
            simpa [hapO, e, badO, h2, h3, h4] using this
          · have := hap_sleep2c c j t S n w h ok hn hj ht h2 h3 h4
            simpa [hapO, e, badO, h2, h3, h4, awayO] using this
    · have := hap_sleep3 c j t S n w h ok hn hj ht hw
      simpa [hapO, e, awayO] using this
theorem hap_out (c : Nat) (s t k : Int) (S : QuarS) (n : Int) (w : World) (h : QuarAt w c S) (ok : QuarOK S n) (he : srcB s = false ∨ (srcB s = true ∧ tickB t = false)) :
    Calls Try.prog 73 #[.pointer (some ⟨c, 0, none⟩), .int .i64 s, .int .i64 t, .int .i64 k] w (Tells w (.tuple #[.int .i64 0, .int .i64 2])) := by
  have H := Lib.hid h
  have a1 := h.c1
  have i1 := ok.h1
  have hm0 : (S.hold == 0) = false := by simp; omega
  clear h
  rcases he with hs | ⟨hs, ht⟩
  · go_enter Try.func73, Try.ntmps73
    go_wp2_with (go_at_call 66; with_reducible refine Calls.tells (qlook_out c s S n _ H.out ok hs) ?_)
    go_ret2
    exact Tells.mk rfl
  · obtain ⟨j, hj, rfl⟩ := src_in hs
    rcases tick_out ht with h1 | h1
    · go_enter Try.func73, Try.ntmps73
      go_wp2_with (go_at_call 66; with_reducible refine Calls.tells (qlook_in c j S n _ H.out ok hj) ?_)
      go_ret2
      exact Tells.mk rfl
    · have d1 : decide (t < 0) = false := by simp; omega
      go_enter Try.func73, Try.ntmps73
      go_wp2_with (go_at_call 66; with_reducible refine Calls.tells (qlook_in c j S n _ H.out ok hj) ?_)
      go_ret2
      exact Tells.mk rfl
theorem hap_any (c : Nat) (s t k : Int) (S : QuarS) (n : Int) (w : World) (h : QuarAt w c S) (ok : QuarOK S n) (hn : n ≤ 1000000) (hk : 0 ≤ k ∧ k ≤ 3) :
    Calls Try.prog 73 #[.pointer (some ⟨c, 0, none⟩), .int .i64 s, .int .i64 t, .int .i64 k] w (QuarR w c (hapN S s t k) (hapE s t) (hapS S s t k)) := by
  rcases hapE_cases s t with ⟨e, hs, ht⟩ | ⟨e, he⟩
  · obtain ⟨j, hj, rfl⟩ := src_in hs
    have := hap_in c j t k S n w h ok hn hj (tick_in ht) hk
    rw [show hapN S j t k = (hapO S (S.l j) t k).st by unfold hapN; rw [if_pos e]; rfl, show hapS S j t k = S.put j (hapO S (S.l j) t k) by unfold hapS; rw [if_pos e]; rfl, e]
    exact this
  · rw [show hapN S s t k = 0 by unfold hapN; rw [if_neg (by omega)], show hapS S s t k = S by unfold hapS; rw [if_neg (by omega)], e]
    refine (hap_out c s t k S n w h ok he).mono ?_
    rintro e w' ⟨rfl, rfl⟩
    exact ⟨rfl, h, gr_refl _ _⟩
theorem hap_nil (s t k : Int) (w : World) :
    Calls Try.prog 73 #[.pointer none, .int .i64 s, .int .i64 t, .int .i64 k] w (Tells w (.tuple #[.int .i64 0, .int .i64 1])) := by
  go_enter Try.func73, Try.ntmps73
  go_wp2
  go_ret2
  exact Tells.mk rfl
theorem hap_void (c : Nat) (s t k : Int) (w : World) (hc : w.cell? ⟨c, 1, none⟩ = some (.int .i64 0)) :
    Calls Try.prog 73 #[.pointer (some ⟨c, 0, none⟩), .int .i64 s, .int .i64 t, .int .i64 k] w (Tells w (.tuple #[.int .i64 0, .int .i64 1])) := by
  go_enter Try.func73, Try.ntmps73
  go_wp2
  go_ret2
  exact Tells.mk rfl
theorem qLook_any (c : Nat) (s t : Int) (S : QuarS) (n : Int) (w : World) (h : QuarAt w c S) (ok : QuarOK S n) (hn : n ≤ 1000000) :
    Calls Try.prog 67 #[.pointer (some ⟨c, 0, none⟩), .int .i64 s, .int .i64 t] w (QuarR w c (hapN S s t 0) (hapE s t) (hapS S s t 0)) := by
  have H := Lib.hid h
  clear h
  go_enter Try.func67, Try.ntmps67
  go_wp2_with fail
  refine (hap_any c s t 0 S n _ H.out ok hn (by omega)).mono ?_
  rintro e w6 ⟨rfl, hx6, hg6⟩
  have HX := Lib.hid hx6
  have HG := Lib.hid hg6
  clear hx6 hg6
  go_wp2_with fail
  go_ret2
  exact ⟨rfl, HX.out, HG.out⟩
theorem qLook_nil (s t : Int) (w : World) :
    Calls Try.prog 67 #[.pointer none, .int .i64 s, .int .i64 t] w (Tells w (.tuple #[.int .i64 0, .int .i64 1])) := by
  go_enter Try.func67, Try.ntmps67
  go_wp2_with (go_at_call 73; with_reducible refine Calls.tells (hap_nil s t 0 _) ?_)
  go_ret2
  exact Tells.mk rfl
theorem qLook_void (c : Nat) (s t : Int) (w : World) (hc : w.cell? ⟨c, 1, none⟩ = some (.int .i64 0)) :
    Calls Try.prog 67 #[.pointer (some ⟨c, 0, none⟩), .int .i64 s, .int .i64 t] w (Tells w (.tuple #[.int .i64 0, .int .i64 1])) := by
  go_enter Try.func67, Try.ntmps67
  go_wp2_with (go_at_call 73; with_reducible refine Calls.tells (hap_void c s t 0 _ hc) ?_)
  go_ret2
  exact Tells.mk rfl
theorem qGood_any (c : Nat) (s t : Int) (S : QuarS) (n : Int) (w : World) (h : QuarAt w c S) (ok : QuarOK S n) (hn : n ≤ 1000000) :
    Calls Try.prog 64 #[.pointer (some ⟨c, 0, none⟩), .int .i64 s, .int .i64 t] w (QuarR w c (hapN S s t 1) (hapE s t) (hapS S s t 1)) := by
  have H := Lib.hid h
  clear h
  go_enter Try.func64, Try.ntmps64
  go_wp2_with fail
  refine (hap_any c s t 1 S n _ H.out ok hn (by omega)).mono ?_
  rintro e w6 ⟨rfl, hx6, hg6⟩
  have HX := Lib.hid hx6
  have HG := Lib.hid hg6
  clear hx6 hg6
  go_wp2_with fail
  go_ret2
  exact ⟨rfl, HX.out, HG.out⟩
theorem qGood_nil (s t : Int) (w : World) :
    Calls Try.prog 64 #[.pointer none, .int .i64 s, .int .i64 t] w (Tells w (.tuple #[.int .i64 0, .int .i64 1])) := by
  go_enter Try.func64, Try.ntmps64
  go_wp2_with (go_at_call 73; with_reducible refine Calls.tells (hap_nil s t 1 _) ?_)
  go_ret2
  exact Tells.mk rfl
theorem qGood_void (c : Nat) (s t : Int) (w : World) (hc : w.cell? ⟨c, 1, none⟩ = some (.int .i64 0)) :
    Calls Try.prog 64 #[.pointer (some ⟨c, 0, none⟩), .int .i64 s, .int .i64 t] w (Tells w (.tuple #[.int .i64 0, .int .i64 1])) := by
  go_enter Try.func64, Try.ntmps64
  go_wp2_with (go_at_call 73; with_reducible refine Calls.tells (hap_void c s t 1 _ hc) ?_)
  go_ret2
  exact Tells.mk rfl
theorem qBad_any (c : Nat) (s t : Int) (S : QuarS) (n : Int) (w : World) (h : QuarAt w c S) (ok : QuarOK S n) (hn : n ≤ 1000000) :
    Calls Try.prog 65 #[.pointer (some ⟨c, 0, none⟩), .int .i64 s, .int .i64 t] w (QuarR w c (hapN S s t 2) (hapE s t) (hapS S s t 2)) := by
  have H := Lib.hid h
  clear h
  go_enter Try.func65, Try.ntmps65
  go_wp2_with fail
  refine (hap_any c s t 2 S n _ H.out ok hn (by omega)).mono ?_
  rintro e w6 ⟨rfl, hx6, hg6⟩
  have HX := Lib.hid hx6
  have HG := Lib.hid hg6
  clear hx6 hg6
  go_wp2_with fail
  go_ret2
  exact ⟨rfl, HX.out, HG.out⟩
theorem qBad_nil (s t : Int) (w : World) :
    Calls Try.prog 65 #[.pointer none, .int .i64 s, .int .i64 t] w (Tells w (.tuple #[.int .i64 0, .int .i64 1])) := by
  go_enter Try.func65, Try.ntmps65
  go_wp2_with (go_at_call 73; with_reducible refine Calls.tells (hap_nil s t 2 _) ?_)
  go_ret2
  exact Tells.mk rfl
theorem qBad_void (c : Nat) (s t : Int) (w : World) (hc : w.cell? ⟨c, 1, none⟩ = some (.int .i64 0)) :
    Calls Try.prog 65 #[.pointer (some ⟨c, 0, none⟩), .int .i64 s, .int .i64 t] w (Tells w (.tuple #[.int .i64 0, .int .i64 1])) := by
  go_enter Try.func65, Try.ntmps65
  go_wp2_with (go_at_call 73; with_reducible refine Calls.tells (hap_void c s t 2 _ hc) ?_)
  go_ret2
  exact Tells.mk rfl
theorem qDrift_any (c : Nat) (s t : Int) (S : QuarS) (n : Int) (w : World) (h : QuarAt w c S) (ok : QuarOK S n) (hn : n ≤ 1000000) :
    Calls Try.prog 62 #[.pointer (some ⟨c, 0, none⟩), .int .i64 s, .int .i64 t] w (QuarR w c (hapN S s t 3) (hapE s t) (hapS S s t 3)) := by
  have H := Lib.hid h
  clear h
  go_enter Try.func62, Try.ntmps62
  go_wp2_with fail
  refine (hap_any c s t 3 S n _ H.out ok hn (by omega)).mono ?_
  rintro e w6 ⟨rfl, hx6, hg6⟩
  have HX := Lib.hid hx6
  have HG := Lib.hid hg6
  clear hx6 hg6
  go_wp2_with fail
  go_ret2
  exact ⟨rfl, HX.out, HG.out⟩
theorem qDrift_nil (s t : Int) (w : World) :
    Calls Try.prog 62 #[.pointer none, .int .i64 s, .int .i64 t] w (Tells w (.tuple #[.int .i64 0, .int .i64 1])) := by
  go_enter Try.func62, Try.ntmps62
  go_wp2_with (go_at_call 73; with_reducible refine Calls.tells (hap_nil s t 3 _) ?_)
  go_ret2
  exact Tells.mk rfl
theorem qDrift_void (c : Nat) (s t : Int) (w : World) (hc : w.cell? ⟨c, 1, none⟩ = some (.int .i64 0)) :
    Calls Try.prog 62 #[.pointer (some ⟨c, 0, none⟩), .int .i64 s, .int .i64 t] w (Tells w (.tuple #[.int .i64 0, .int .i64 1])) := by
  go_enter Try.func62, Try.ntmps62
  go_wp2_with (go_at_call 73; with_reducible refine Calls.tells (hap_void c s t 3 _ hc) ?_)
  go_ret2
  exact Tells.mk rfl
def rowB (n : Int) : Bool := decide (1 ≤ n ∧ n ≤ 100)
def qnewB (bad hold prove : Int) : Bool := rowB bad && (rowB prove && decide (1 ≤ hold ∧ hold ≤ 65535))
def QuarS.new (bad hold prove : Int) : QuarS := ⟨bad, hold, prove, fun _ => QOne.zero⟩
theorem rowB_in {n : Int} (h : rowB n = true) : 1 ≤ n ∧ n ≤ 100 := by simpa [rowB] using h
theorem rowB_out {n : Int} (h : rowB n = false) : n < 1 ∨ 100 < n := by simp [rowB] at h; omega
theorem qnew_in {bad hold prove : Int} (h : qnewB bad hold prove = true) : rowB bad = true ∧ rowB prove = true ∧ 1 ≤ hold ∧ hold ≤ 65535 := by
  simpa [qnewB] using h
theorem QuarOK.new {bad hold prove : Int} (h : qnewB bad hold prove = true) : QuarOK (QuarS.new bad hold prove) 0 := by
  obtain ⟨h1, h2, h3, h4⟩ := qnew_in h
  have h1 := rowB_in h1
  have h2 := rowB_in h2
  refine ⟨h1.1, h1.2, h3, h4, h2.1, h2.2, fun _ => ⟨?_, ?_, ?_, ?_, ?_, ?_, ?_, ?_, ?_, ?_⟩⟩ <;> simp [QuarS.new, QOne.zero] <;> omega
def qzeros : Nat → List Value
  | 0 => []
  | n + 1 => .int .i64 0 :: qzeros n
theorem qzeros_at (n i : Nat) (h : i < n) : (qzeros n)[i]? = some (.int .i64 0) := by
  induction n generalizing i with
  | zero => omega
  | succ n ih =>
    rcases i with _ | i
    · rfl
    · simpa [qzeros] using ih i (by omega)
theorem qoneV_zero (r : Nat) : qoneV QOne.zero r = .int .i64 0 := by unfold qoneV QOne.zero; simp
theorem QuarAt.new (w : World) (t : TypeId) (bad hold prove : Int) (cs : Array Value) (hcs : cs = (.int .i64 bad :: .int .i64 hold :: .int .i64 prove :: qzeros 40).toArray) : QuarAt (w.alloc (.cells cs t)) w.heap.size (QuarS.new bad hold prove) := by
  subst hcs
  refine ⟨by simp, fun i hi => ?_, fun o => by simp⟩
  rcases i with _ | _ | _ | i
  · simp [quarV, QuarS.new]
  · simp [quarV, QuarS.new]
  · simp [quarV, QuarS.new]
  · have hz : (qzeros 40)[i]? = some (.int .i64 0) := qzeros_at 40 i (by omega)
    simp [quarV, QuarS.new, qoneV_zero, hz]
theorem row_t {n : Int} (w : World) (h : rowB n = true) : Calls Try.prog 59 #[.int .i64 n] w (Tells w (.bool true)) := by
  obtain ⟨h1, h2⟩ := rowB_in h
  clear h
  go_enter Try.func59, Try.ntmps59
  go_wp2
  go_ret
  exact Tells.mk rfl
theorem row_f {n : Int} (w : World) (h : rowB n = false) : Calls Try.prog 59 #[.int .i64 n] w (Tells w (.bool false)) := by
  rcases rowB_out h with h1 | h1
  · clear h
    go_enter Try.func59, Try.ntmps59
    go_wp2
    go_ret
    exact Tells.mk rfl
  · have h2 : 1 ≤ n := by omega
    have h3 : decide (n ≤ 100) = false := by simp; omega
    clear h
    go_enter Try.func59, Try.ntmps59
    go_wp2
    go_ret
    exact Tells.mk rfl
theorem row_any {n : Int} (w : World) : Calls Try.prog 59 #[.int .i64 n] w (Tells w (.bool (rowB n))) := by
  cases h : rowB n
  · exact row_f w h
  · exact row_t w h
theorem qNew_bad {bad hold prove : Int} (w : World) (h : qnewB bad hold prove = false) :
    Calls Try.prog 41 #[.int .i64 bad, .int .i64 hold, .int .i64 prove] w (Tells w (.tuple #[.pointer none, .int .i64 2])) := by
  have h' : rowB bad = false ∨ (rowB bad = true ∧ rowB prove = false) ∨ (rowB bad = true ∧ rowB prove = true ∧ hold < 1) ∨ (rowB bad = true ∧ rowB prove = true ∧ ¬ hold < 1 ∧ 65535 < hold) := by
    unfold qnewB at h
    cases h1 : rowB bad <;> cases h2 : rowB prove <;> simp [h1, h2] at h ⊢
    omega
  clear h
  rcases h' with h1 | ⟨h1, h2⟩ | ⟨h1, h2, h3⟩ | ⟨h1, h2, h3, h4⟩
  all_goals
    go_enter Try.func41, Try.ntmps41
    go_wp2_with (first | (go_at_call 59; with_reducible refine Calls.tells (row_any _) ?_))
    go_ret2
    exact Tells.mk rfl
theorem qNew_good {bad hold prove : Int} (w : World) (h : qnewB bad hold prove = true) :
    Calls Try.prog 41 #[.int .i64 bad, .int .i64 hold, .int .i64 prove] w fun e w' => ∃ c, e = .returned (.tuple #[.pointer (some ⟨c, 0, none⟩), .int .i64 0]) ∧ w.heap.size ≤ c ∧ QuarAt w' c (QuarS.new bad hold prove) ∧ Below w.heap.size w w' := by
  obtain ⟨h1, h2, h3, h4⟩ := qnew_in h
  have h3' : decide (hold < 1) = false := by simp; omega
  have h4' : decide (65535 < hold) = false := by simp; omega
  clear h
  go_enter Try.func41, Try.ntmps41
  go_wp2_with (first | (go_at_call 59; with_reducible refine Calls.tells (row_any _) ?_))
  go_ret2
  exact ⟨_, rfl, Nat.le_refl _, QuarAt.new w _ bad hold prove _ rfl, by (repeat (first | (with_reducible exact Below.refl _ _) | (with_reducible assumption) | (with_reducible refine Below.alloc ?_ (by (repeat (first | (with_reducible exact Nat.le_refl _) | (with_reducible assumption) | (with_reducible refine le_up ?_) | (with_reducible refine le_alloc ?_) | (with_reducible refine le_setCell ?_) | (with_reducible refine le_drew ?_) | (with_reducible refine le_drewN ?_) | omega))) _) | (with_reducible refine Below.drew ?_) | (with_reducible refine Below.drewN ?_ _) | (with_reducible refine Below.setCell ?_ (by (repeat (first | (with_reducible exact Nat.le_refl _) | (with_reducible assumption) | (with_reducible refine le_up ?_) | (with_reducible refine le_alloc ?_) | (with_reducible refine le_setCell ?_) | (with_reducible refine le_drew ?_) | (with_reducible refine le_drewN ?_) | omega))) _) | (with_reducible refine Below.up ?_ (by (repeat (first | (with_reducible exact Nat.le_refl _) | (with_reducible assumption) | (with_reducible refine le_up ?_) | (with_reducible refine le_alloc ?_) | (with_reducible refine le_setCell ?_) | (with_reducible refine le_drew ?_) | (with_reducible refine le_drewN ?_) | omega))))))⟩

theorem qCounts_is {c : Nat} {s : Int} {S : QuarS} {n : Int} {w : World} {b : Bool} (h : QuarAt w c S) (ok : QuarOK S n) (e : (srcB s && decide ((qlookO S s).st < 2)) = b) :
    Calls Try.prog 49 #[.pointer (some ⟨c, 0, none⟩), .int .i64 s] w (Tells w (.bool b)) := by rw [← e]; exact qCounts_any c s S n w h ok
theorem qTimes_is {c : Nat} {s r : Int} {S : QuarS} {n : Int} {w : World} (h : QuarAt w c S) (ok : QuarOK S n) (e : (qlookO S s).times = r) :
    Calls Try.prog 45 #[.pointer (some ⟨c, 0, none⟩), .int .i64 s] w (Tells w (.int .i64 r)) := by rw [← e]; exact qTimes_any c s S n w h ok
theorem qState_is {c : Nat} {s r : Int} {S : QuarS} {n : Int} {w : World} (h : QuarAt w c S) (ok : QuarOK S n) (e : (qlookO S s).st = r) :
    Calls Try.prog 44 #[.pointer (some ⟨c, 0, none⟩), .int .i64 s] w (Tells w (.int .i64 r)) := by rw [← e]; exact qState_any c s S n w h ok
theorem qUntil_is {c : Nat} {s r : Int} {S : QuarS} {n : Int} {w : World} (h : QuarAt w c S) (ok : QuarOK S n) (e : (qlookO S s).til = r) :
    Calls Try.prog 48 #[.pointer (some ⟨c, 0, none⟩), .int .i64 s] w (Tells w (.int .i64 r)) := by rw [← e]; exact qUntil_any c s S n w h ok
end Go.Proofs.Ytihalkpcddnikaa.Q
