/-
  The walks over the keeper of quarantines.
-/
import Derived.Test.YtihalkpcddnikaaQuarP
import Derived.RegionTactic
import Derived.ChangeAlike
namespace Go.Proofs.Ytihalkpcddnikaa.Q
open Go.RowKit

theorem qlook_in (c j : Nat) (S : QuarS) (n : Int) (w : World) (h : QuarAt w c S) (ok : QuarOK S n) (hj : j < 8) :
    Calls Try.prog 66 #[.pointer (some ⟨c, 0, none⟩), .int .i64 j] w (Tells w (.pointer (some ⟨c, 3 + j * 5, none⟩))) := by
  have c1 := h.c1
  have hm := ok.h1
  have hm0 : (S.hold == 0) = false := by simp; omega
  have d1 : decide ((j : Int) < 0) = false := by simp
  clear h
  go_enter Try.func66, Try.ntmps66
  go_wp2
  go_ret
  exact Tells.mk rfl
theorem qlook_out (c : Nat) (s : Int) (S : QuarS) (n : Int) (w : World) (h : QuarAt w c S) (ok : QuarOK S n) (hs : srcB s = false) :
    Calls Try.prog 66 #[.pointer (some ⟨c, 0, none⟩), .int .i64 s] w (Tells w (.pointer none)) := by
  have c1 := h.c1
  have hm := ok.h1
  have hm0 : (S.hold == 0) = false := by simp; omega
  clear h
  rcases src_out hs with h1 | h1
  · go_enter Try.func66, Try.ntmps66
    go_wp2
    go_ret
    exact Tells.mk rfl
  · have d1 : decide (s < 0) = false := by simp; omega
    go_enter Try.func66, Try.ntmps66
    go_wp2
    go_ret
    exact Tells.mk rfl
theorem qlook_nil (s : Int) (w : World) :
    Calls Try.prog 66 #[.pointer none, .int .i64 s] w (Tells w (.pointer none)) := by
  go_enter Try.func66, Try.ntmps66
  go_wp2
  go_ret
  exact Tells.mk rfl
theorem qlook_void (c : Nat) (s : Int) (w : World) (hc : w.cell? ⟨c, 1, none⟩ = some (.int .i64 0)) :
    Calls Try.prog 66 #[.pointer (some ⟨c, 0, none⟩), .int .i64 s] w (Tells w (.pointer none)) := by
  go_enter Try.func66, Try.ntmps66
  go_wp2
  go_ret
  exact Tells.mk rfl

theorem qState_any (c : Nat) (s : Int) (S : QuarS) (n : Int) (w : World) (h : QuarAt w c S) (ok : QuarOK S n) :
    Calls Try.prog 44 #[.pointer (some ⟨c, 0, none⟩), .int .i64 s] w (Tells w (.int .i64 (qlookO S s).st)) := by
  have H := Lib.hid h
  cases hs : srcB s
  · rw [show qlookO S s = QOne.zero by simp [qlookO, hs]]
    clear h
    go_enter Try.func44, Try.ntmps44
    go_wp2_with (go_at_call 66; with_reducible refine Calls.tells (qlook_out c s S n _ H.out ok hs) ?_)
    go_ret
    exact Tells.mk rfl
  · rw [show qlookO S s = S.l s.toNat by simp [qlookO, hs]]
    obtain ⟨j, hj, rfl⟩ := src_in hs
    simp only [Int.toNat_natCast] at *
    obtain ⟨c0, c1, c2, c3, c4⟩ := h.one j hj
    clear h
    go_enter Try.func44, Try.ntmps44
    go_wp2_with (go_at_call 66; with_reducible refine Calls.tells (qlook_in c j S n _ H.out ok hj) ?_)
    go_ret
    exact Tells.mk rfl
theorem qState_nil (s : Int) (w : World) : Calls Try.prog 44 #[.pointer none, .int .i64 s] w (Tells w (.int .i64 0)) := by
  go_enter Try.func44, Try.ntmps44
  go_wp2_with (go_at_call 66; with_reducible refine Calls.tells (qlook_nil s _) ?_)
  go_ret
  exact Tells.mk rfl
theorem qState_void (c : Nat) (s : Int) (w : World) (hc : w.cell? ⟨c, 1, none⟩ = some (.int .i64 0)) : Calls Try.prog 44 #[.pointer (some ⟨c, 0, none⟩), .int .i64 s] w (Tells w (.int .i64 0)) := by
  go_enter Try.func44, Try.ntmps44
  go_wp2_with (go_at_call 66; with_reducible refine Calls.tells (qlook_void c s _ hc) ?_)
  go_ret
  exact Tells.mk rfl
theorem qUntil_any (c : Nat) (s : Int) (S : QuarS) (n : Int) (w : World) (h : QuarAt w c S) (ok : QuarOK S n) :
    Calls Try.prog 48 #[.pointer (some ⟨c, 0, none⟩), .int .i64 s] w (Tells w (.int .i64 (qlookO S s).til)) := by
  have H := Lib.hid h
  cases hs : srcB s
  · rw [show qlookO S s = QOne.zero by simp [qlookO, hs]]
    clear h
    go_enter Try.func48, Try.ntmps48
    go_wp2_with (go_at_call 66; with_reducible refine Calls.tells (qlook_out c s S n _ H.out ok hs) ?_)
    go_ret
    exact Tells.mk rfl
  · rw [show qlookO S s = S.l s.toNat by simp [qlookO, hs]]
    obtain ⟨j, hj, rfl⟩ := src_in hs
    simp only [Int.toNat_natCast] at *
    obtain ⟨c0, c1, c2, c3, c4⟩ := h.one j hj
    clear h
    go_enter Try.func48, Try.ntmps48
    go_wp2_with (go_at_call 66; with_reducible refine Calls.tells (qlook_in c j S n _ H.out ok hj) ?_)
    go_ret
    exact Tells.mk rfl
theorem qUntil_nil (s : Int) (w : World) : Calls Try.prog 48 #[.pointer none, .int .i64 s] w (Tells w (.int .i64 0)) := by
  go_enter Try.func48, Try.ntmps48
  go_wp2_with (go_at_call 66; with_reducible refine Calls.tells (qlook_nil s _) ?_)
  go_ret
  exact Tells.mk rfl
theorem qUntil_void (c : Nat) (s : Int) (w : World) (hc : w.cell? ⟨c, 1, none⟩ = some (.int .i64 0)) : Calls Try.prog 48 #[.pointer (some ⟨c, 0, none⟩), .int .i64 s] w (Tells w (.int .i64 0)) := by
  go_enter Try.func48, Try.ntmps48
  go_wp2_with (go_at_call 66; with_reducible refine Calls.tells (qlook_void c s _ hc) ?_)
  go_ret
  exact Tells.mk rfl
theorem qTimes_any (c : Nat) (s : Int) (S : QuarS) (n : Int) (w : World) (h : QuarAt w c S) (ok : QuarOK S n) :
    Calls Try.prog 45 #[.pointer (some ⟨c, 0, none⟩), .int .i64 s] w (Tells w (.int .i64 (qlookO S s).times)) := by
  have H := Lib.hid h
  cases hs : srcB s
  · rw [show qlookO S s = QOne.zero by simp [qlookO, hs]]
    clear h
    go_enter Try.func45, Try.ntmps45
    go_wp2_with (go_at_call 66; with_reducible refine Calls.tells (qlook_out c s S n _ H.out ok hs) ?_)
    go_ret
    exact Tells.mk rfl
  · rw [show qlookO S s = S.l s.toNat by simp [qlookO, hs]]
    obtain ⟨j, hj, rfl⟩ := src_in hs
    simp only [Int.toNat_natCast] at *
    obtain ⟨c0, c1, c2, c3, c4⟩ := h.one j hj
    clear h
    go_enter Try.func45, Try.ntmps45
    go_wp2_with (go_at_call 66; with_reducible refine Calls.tells (qlook_in c j S n _ H.out ok hj) ?_)
    go_ret
    exact Tells.mk rfl
theorem qTimes_nil (s : Int) (w : World) : Calls Try.prog 45 #[.pointer none, .int .i64 s] w (Tells w (.int .i64 0)) := by
  go_enter Try.func45, Try.ntmps45
  go_wp2_with (go_at_call 66; with_reducible refine Calls.tells (qlook_nil s _) ?_)
  go_ret
  exact Tells.mk rfl
theorem qTimes_void (c : Nat) (s : Int) (w : World) (hc : w.cell? ⟨c, 1, none⟩ = some (.int .i64 0)) : Calls Try.prog 45 #[.pointer (some ⟨c, 0, none⟩), .int .i64 s] w (Tells w (.int .i64 0)) := by
  go_enter Try.func45, Try.ntmps45
  go_wp2_with (go_at_call 66; with_reducible refine Calls.tells (qlook_void c s _ hc) ?_)
  go_ret
  exact Tells.mk rfl
theorem qCounts_any (c : Nat) (s : Int) (S : QuarS) (n : Int) (w : World) (h : QuarAt w c S) (ok : QuarOK S n) :
    Calls Try.prog 49 #[.pointer (some ⟨c, 0, none⟩), .int .i64 s] w (Tells w (.bool (srcB s && decide ((qlookO S s).st < 2)))) := by
  have H := Lib.hid h
  cases hs : srcB s
  · clear h
    go_enter Try.func49, Try.ntmps49
    go_wp2_with (go_at_call 66; with_reducible refine Calls.tells (qlook_out c s S n _ H.out ok hs) ?_)
    go_ret
    exact Tells.mk rfl
  · rw [show qlookO S s = S.l s.toNat by simp [qlookO, hs]]
    obtain ⟨j, hj, rfl⟩ := src_in hs
    simp only [Int.toNat_natCast] at *
    obtain ⟨c0, c1, c2, c3, c4⟩ := h.one j hj
    clear h
    have he : (true && decide ((S.l j).st < 2)) = decide ((S.l j).st ≤ 1) := by simp; omega
    rw [he]
    clear he
    go_enter Try.func49, Try.ntmps49
    go_wp2_with (go_at_call 66; with_reducible refine Calls.tells (qlook_in c j S n _ H.out ok hj) ?_)
    go_ret
    exact Tells.mk rfl
theorem qCounts_nil (s : Int) (w : World) : Calls Try.prog 49 #[.pointer none, .int .i64 s] w (Tells w (.bool false)) := by
  go_enter Try.func49, Try.ntmps49
  go_wp2_with (go_at_call 66; with_reducible refine Calls.tells (qlook_nil s _) ?_)
  go_ret
  exact Tells.mk rfl
theorem qCounts_void (c : Nat) (s : Int) (w : World) (hc : w.cell? ⟨c, 1, none⟩ = some (.int .i64 0)) : Calls Try.prog 49 #[.pointer (some ⟨c, 0, none⟩), .int .i64 s] w (Tells w (.bool false)) := by
  go_enter Try.func49, Try.ntmps49
  go_wp2_with (go_at_call 66; with_reducible refine Calls.tells (qlook_void c s _ hc) ?_)
  go_ret
  exact Tells.mk rfl

/-- Behind good. -/
def QuarG (w : World) (c : Nat) (S : QuarS) (e : Ending) (w' : World) : Prop := e = .returned (.tuple #[]) ∧ QuarAt w' c S ∧ w.grownBy w' (some c)
theorem qgood_any (c j : Nat) (S : QuarS) (n : Int) (w : World) (h : QuarAt w c S) (ok : QuarOK S n) (hj : j < 8) :
    Calls Try.prog 77 #[.pointer (some ⟨c, 0, none⟩), .pointer (some ⟨c, 3 + j * 5, none⟩)] w (QuarG w c (S.put j (goodO S (S.l j)))) := by
  have H := Lib.hid h
  have a2 := h.c2
  obtain ⟨c0, c1, c2, c3, c4⟩ := h.one j hj
  have z0 := h.free (3 + j * 5)
  have z1 := h.free (3 + j * 5 + 1)
  have z2 := h.free (3 + j * 5 + 2)
  have g0 := (ok.one j).g0
  have g1 := (ok.one j).g1
  have p2 := ok.p2
  clear h ok
  by_cases h1 : (S.l j).st = 1
  · rw [show goodO S (S.l j) = ⟨0, 0, (S.l j).good, (S.l j).til, (S.l j).times⟩ from if_pos h1]
    rw [h1] at c0
    have L := Lib.hid ((H.out.set0 j hj 0).set1 j hj 0)
    simp only [QuarS.put_same, QuarS.put_put] at L
    clear h1
    go_enter Try.func77, Try.ntmps77
    go_wp2
    go_end0
    exact ⟨rfl, L.out, gr_to_set (gr_set _ _ _ _)⟩
  · by_cases h3 : (S.l j).st = 3
    · have e3 : goodO S (S.l j) = (if (S.l j).good + 1 = S.prove then ⟨0, (S.l j).bad, 0, (S.l j).til, (S.l j).times⟩ else ⟨3, (S.l j).bad, (S.l j).good + 1, (S.l j).til, (S.l j).times⟩) := by
        unfold goodO; rw [if_neg h1, if_pos h3, h3]
      rw [h3] at c0
      by_cases hg : (S.l j).good + 1 = S.prove
      · rw [e3, if_pos hg]
        have L := Lib.hid (((H.out.set2 j hj S.prove).set0 j hj 0).set2 j hj 0)
        simp only [QuarS.put_same, QuarS.put_put] at L
        clear h1 h3 e3
        go_enter Try.func77, Try.ntmps77
        go_wp2
        go_region
        go_wp2
        go_end0
        exact ⟨rfl, L.out.drew, gr_to_drew (gr_to_set (gr_to_set (gr_set _ _ _ _)))⟩
      · rw [e3, if_neg hg]
        have hg' : ((S.l j).good + 1 == S.prove) = false := by simpa using hg
        have L := Lib.hid (H.out.set2 j hj ((S.l j).good + 1))
        rw [h3] at L
        clear h1 h3 e3
        go_enter Try.func77, Try.ntmps77
        go_wp2
        go_region
        go_wp2
        go_end0
        exact ⟨rfl, L.out.drew, gr_to_drew (gr_set _ _ _ _)⟩
    · rw [show goodO S (S.l j) = S.l j by unfold goodO; rw [if_neg h1, if_neg h3], QuarS.put_self]
      have h1' : ((S.l j).st == 1) = false := by simpa using h1
      have h3' : ((S.l j).st == 3) = false := by simpa using h3
      go_enter Try.func77, Try.ntmps77
      go_wp2
      go_end0
      exact ⟨rfl, H.out, gr_refl _ _⟩
end Go.Proofs.Ytihalkpcddnikaa.Q
