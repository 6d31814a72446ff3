/-
  The reference's keeper of quarantines: what happens, in one contract; its maker.
-/
import Derived.Test.YtcdhhnodfgpkiaaQuarR
namespace Go.Proofs.Ytcdhhnodfgpkiaa
open Go.RowKit
set_option linter.unusedVariables false

theorem rhap_in (c j : Nat) (t k : Int) (S : QuarS) (n : Int) (w : World) (h : QuarAt w c S) (ok : QuarOK S n) (hn : n ≤ 1000000) (hj : j < 8) (ht : 0 ≤ t ∧ t ≤ 1099511627776) (hk : 0 ≤ k ∧ k ≤ 3) :
    Calls Try.prog 42 #[.pointer (some ⟨c, 0, none⟩), .int .i64 j, .int .i64 t, .int .i64 k] w (QuarR w c (hapO S (S.l j) t k).st 0 (S.put j (hapO S (S.l j) t k))) := by
  have hst := (ok.one j).s0
  have hst3 := (ok.one j).s1
  have hb1 := (ok.one j).b1
  by_cases hw : (S.l j).st = 2 ∧ (S.l j).til ≤ t
  · have e : wakeO (S.l j) t = ⟨3, (S.l j).bad, 0, 0, (S.l j).times⟩ := if_pos hw
    rcases (show k = 0 ∨ k = 1 ∨ k = 2 ∨ k = 3 by omega) with rfl | rfl | rfl | rfl
    · have := rhap_w0 c j t S n w h ok hn hj ht hw.1 hw.2
      simpa [hapO, e] using this
    · by_cases hp : S.prove = 1
      · have := rhap_w1a c j t S n w h ok hn hj ht hw.1 hw.2 hp
        simpa [hapO, e, goodO, hp] using this
      · have := rhap_w1b c j t S n w h ok hn hj ht hw.1 hw.2 hp
        simpa [hapO, e, goodO, hp, Ne.symm hp] using this
    · have := rhap_w2 c j t S n w h ok hn hj ht hw.1 hw.2
      simpa [hapO, e, badO, awayO] using this
    · have := rhap_w3 c j t S n w h ok hn hj ht hw.1 hw.2
      simpa [hapO, e, awayO] using this
  · have e : wakeO (S.l j) t = S.l j := if_neg hw
    by_cases h2 : (S.l j).st = 2
    · have h3 : t < (S.l j).til := by omega
      have eo : (⟨2, (S.l j).bad, (S.l j).good, (S.l j).til, (S.l j).times⟩ : QOne) = S.l j := by rw [← h2]
      rcases (show k = 0 ∨ k = 1 ∨ k = 2 ∨ k = 3 by omega) with rfl | rfl | rfl | rfl
      · have := rhap_q0 c j t S n w h ok hn hj ht h2 h3
        rw [eo] at this
        simpa [hapO, e, h2] using this
      · have := rhap_q1 c j t S n w h ok hn hj ht h2 h3
        rw [eo] at this
        simpa [hapO, e, goodO, h2] using this
      · have := rhap_q2 c j t S n w h ok hn hj ht h2 h3
        rw [eo] at this
        simpa [hapO, e, badO, h2] using this
      · have := rhap_q3 c j t S n w h ok hn hj ht h2 h3
        simpa [hapO, e, awayO] using this
    · rcases (show k = 0 ∨ k = 1 ∨ k = 2 ∨ k = 3 by omega) with rfl | rfl | rfl | rfl
      · have := rhap_s0 c j t S n w h ok hn hj ht h2
        simpa [hapO, e] using this
      · rcases (show (S.l j).st = 0 ∨ (S.l j).st = 1 ∨ (S.l j).st = 3 by omega) with h1 | h1 | h1
        · have := rhap_s1d c j t S n w h ok hn hj ht h1
          rw [show (⟨0, (S.l j).bad, (S.l j).good, (S.l j).til, (S.l j).times⟩ : QOne) = S.l j by rw [← h1]] at this
          simpa [hapO, e, goodO, h1] using this
        · have := rhap_s1a c j t S n w h ok hn hj ht h1
          simpa [hapO, e, goodO, h1] using this
        · by_cases hp : (S.l j).good + 1 = S.prove
          · have := rhap_s1b c j t S n w h ok hn hj ht h1 hp
            simpa [hapO, e, goodO, h1, hp] using this
          · have := rhap_s1c c j t S n w h ok hn hj ht h1 hp
            simpa [hapO, e, goodO, h1, hp] using this
      · rcases (show (S.l j).st = 0 ∨ (S.l j).st = 1 ∨ (S.l j).st = 3 by omega) with h1 | h1 | h1
        · by_cases hb : (S.l j).bad + 1 = S.bad
          · have := rhap_s20a c j t S n w h ok hn hj ht h1 hb
            simpa [hapO, e, badO, h1, hb, awayO] using this
          · have := rhap_s20b c j t S n w h ok hn hj ht h1 hb
            simpa [hapO, e, badO, h1, show (S.l j).bad + 1 < S.bad by omega] using this
        · by_cases hb : (S.l j).bad + 1 = S.bad
          · have := rhap_s21a c j t S n w h ok hn hj ht h1 hb
            simpa [hapO, e, badO, h1, hb, awayO] using this
          · have := rhap_s21b c j t S n w h ok hn hj ht h1 hb
            simpa [hapO, e, badO, h1, show (S.l j).bad + 1 < S.bad by omega] using this
        · have := rhap_s2c c j t S n w h ok hn hj ht h1
          simpa [hapO, e, badO, h1, awayO] using this
      · have := rhap_s3 c j t S n w h ok hn hj ht h2
        simpa [hapO, e, awayO] using this
theorem rhap_out (c : Nat) (s t k : Int) (w : World) (he : srcB s = false ∨ (srcB s = true ∧ tickB t = false)) :
    Calls Try.prog 42 #[.pointer (some ⟨c, 0, none⟩), .int .i64 s, .int .i64 t, .int .i64 k] w (Tells w (.tuple #[.int .i64 0, .int .i64 2])) := by
  have he' : s < 0 ∨ (¬ s < 0 ∧ 7 < s) ∨ (¬ s < 0 ∧ ¬ 7 < s ∧ t < 0) ∨ (¬ s < 0 ∧ ¬ 7 < s ∧ ¬ t < 0 ∧ 1099511627776 < t) := by
    rcases he with hs | ⟨hs, ht⟩
    · have := src_out hs; omega
    · obtain ⟨j, hj, rfl⟩ := src_in hs
      have := tick_out ht; omega
  clear he
  rcases he' with h1 | ⟨h1, h2⟩ | ⟨h1, h2, h3⟩ | ⟨h1, h2, h3, h4⟩
  all_goals
    go_enter Try.func42, Try.ntmps42
    go_wp2
    go_ret2
    exact Tells.mk rfl
theorem rhap_any (c : Nat) (s t k : Int) (S : QuarS) (n : Int) (w : World) (h : QuarAt w c S) (ok : QuarOK S n) (hn : n ≤ 1000000) (hk : 0 ≤ k ∧ k ≤ 3) :
    Calls Try.prog 42 #[.pointer (some ⟨c, 0, none⟩), .int .i64 s, .int .i64 t, .int .i64 k] w (QuarR w c (hapN S s t k) (hapE s t) (hapS S s t k)) := by
  rcases hapE_cases s t with ⟨e, hs, ht⟩ | ⟨e, he⟩
  · obtain ⟨j, hj, rfl⟩ := src_in hs
    have := rhap_in c j t k S n w h ok hn hj (tick_in ht) hk
    rw [show hapN S j t k = (hapO S (S.l j) t k).st by unfold hapN; rw [if_pos e]; rfl, show hapS S j t k = S.put j (hapO S (S.l j) t k) by unfold hapS; rw [if_pos e]; rfl, e]
    exact this
  · rw [show hapN S s t k = 0 by unfold hapN; rw [if_neg (by omega)], show hapS S s t k = S by unfold hapS; rw [if_neg (by omega)], e]
    refine (rhap_out c s t k w he).mono ?_
    rintro e w' ⟨rfl, rfl⟩
    exact ⟨rfl, h, gr_refl _ _⟩
theorem qrNew_bad {bad hold prove : Int} (w : World) (h : qnewB bad hold prove = false) :
    Calls Try.prog 41 #[.int .i64 bad, .int .i64 hold, .int .i64 prove] w (Tells w (.tuple #[.pointer none, .int .i64 2])) := by
  have h' : bad < 1 ∨ (¬ bad < 1 ∧ 100 < bad) ∨ (¬ bad < 1 ∧ ¬ 100 < bad ∧ hold < 1) ∨ (¬ bad < 1 ∧ ¬ 100 < bad ∧ ¬ hold < 1 ∧ 65535 < hold) ∨ (¬ bad < 1 ∧ ¬ 100 < bad ∧ ¬ hold < 1 ∧ ¬ 65535 < hold ∧ prove < 1) ∨ (¬ bad < 1 ∧ ¬ 100 < bad ∧ ¬ hold < 1 ∧ ¬ 65535 < hold ∧ ¬ prove < 1 ∧ 100 < prove) := by
    unfold qnewB at h
    cases h1 : rowB bad
    · have := rowB_out h1; omega
    · cases h2 : rowB prove
      · have := rowB_out h2; have := rowB_in h1; omega
      · have := rowB_in h2; have := rowB_in h1; simp [h1, h2] at h; omega
  clear h
  rcases h' with h1 | ⟨h1, h2⟩ | ⟨h1, h2, h3⟩ | ⟨h1, h2, h3, h4⟩ | ⟨h1, h2, h3, h4, h5⟩ | ⟨h1, h2, h3, h4, h5, h6⟩
  all_goals
    go_enter Try.func41, Try.ntmps41
    go_wp2
    go_ret2
    exact Tells.mk rfl
theorem qrNew_good {bad hold prove : Int} (w : World) (h : qnewB bad hold prove = true) :
    Calls Try.prog 41 #[.int .i64 bad, .int .i64 hold, .int .i64 prove] w fun e w' => ∃ c, e = .returned (.tuple #[.pointer (some ⟨c, 0, none⟩), .int .i64 0]) ∧ w.heap.size ≤ c ∧ QuarAt w' c (QuarS.new bad hold prove) ∧ Below w.heap.size w w' := by
  obtain ⟨h1, h2, h3, h4⟩ := qnew_in h
  obtain ⟨k1, k2⟩ := rowB_in h1
  obtain ⟨k3, k4⟩ := rowB_in h2
  have e1 : ¬ bad < 1 := by omega
  have e2 : ¬ 100 < bad := by omega
  have e3 : ¬ hold < 1 := by omega
  have e4 : ¬ 65535 < hold := by omega
  have e5 : ¬ prove < 1 := by omega
  have e6 : ¬ 100 < prove := by omega
  clear h h1 h2 h3 h4 k1 k2 k3 k4
  go_enter Try.func41, Try.ntmps41
  go_wp2
  go_ret2
  exact ⟨_, rfl, Nat.le_refl _, QuarAt.new w _ bad hold prove _ rfl, by (repeat (first | (with_reducible exact Below.refl _ _) | (with_reducible assumption) | (with_reducible refine Below.alloc ?_ (by (repeat (first | (with_reducible exact Nat.le_refl _) | (with_reducible assumption) | (with_reducible refine le_up ?_) | (with_reducible refine le_alloc ?_) | (with_reducible refine le_setCell ?_) | (with_reducible refine le_drew ?_) | (with_reducible refine le_drewN ?_) | omega))) _) | (with_reducible refine Below.drew ?_) | (with_reducible refine Below.drewN ?_ _) | (with_reducible refine Below.setCell ?_ (by (repeat (first | (with_reducible exact Nat.le_refl _) | (with_reducible assumption) | (with_reducible refine le_up ?_) | (with_reducible refine le_alloc ?_) | (with_reducible refine le_setCell ?_) | (with_reducible refine le_drew ?_) | (with_reducible refine le_drewN ?_) | omega))) _) | (with_reducible refine Below.up ?_ (by (repeat (first | (with_reducible exact Nat.le_refl _) | (with_reducible assumption) | (with_reducible refine le_up ?_) | (with_reducible refine le_alloc ?_) | (with_reducible refine le_setCell ?_) | (with_reducible refine le_drew ?_) | (with_reducible refine le_drewN ?_) | omega))))))⟩
end Go.Proofs.Ytcdhhnodfgpkiaa
