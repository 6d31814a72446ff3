/-
  The law WatchApart, walked.
-/
import Derived.Test.YtihalkpcddnikaaWatH
import Derived.Test.YtihalkpcddnikaaBaseB
namespace Go.Proofs.Ytihalkpcddnikaa
open Go.RowKit Go.Maps
set_option linter.unusedVariables false
set_option linter.unusedSimpArgs false

/-- Two judges beside each other. -/
structure ApAt (w : World) (p q : JB) (s : Int) (X Y : JS) (n : Nat) (wr : World) : Prop where
  x : JAt wr p X n
  y : JAt wr q Y n
  al : Alike s X Y
  bel : Below w.heap.size w wr
  hp : ∀ r ∈ p.all, w.heap.size ≤ r
  hq : ∀ r ∈ q.all, w.heap.size ≤ r
  di : ∀ r ∈ q.all, r ∉ p.all
theorem ApAt.dj {w wr : World} {p q : JB} {s : Int} {X Y : JS} {n : Nat} (h : ApAt w p q s X Y n wr) : ∀ r ∈ p.all, r ∉ q.all := fun r hr hq => h.di r hq hr
theorem ApAt.below {w wr wr' : World} {p q : JB} {s : Int} {X Y : JS} {n : Nat} (h : ApAt w p q s X Y n wr) (hb : Below wr.heap.size wr wr') : ApAt w p q s X Y n wr' :=
  ⟨h.x.below hb, h.y.below hb, h.al, h.bel.trans (hb.mono h.bel.size), h.hp, h.hq, h.di⟩
/-- Behind an act of another source. -/
theorem ApAt.other {w wr wr' : World} {p q : JB} {a : Ac} {s : Int} {X Y : JS} {n n' : Nat} (h : ApAt w p q s X Y n wr) (hs : 0 ≤ s) (hne : a.s ≠ s) (hj : JAt wr' p (doJ X a).2 n') (hn : n ≤ n') (hf : FrJ wr wr' p) : ApAt w p q s (doJ X a).2 Y n' wr' :=
  ⟨hj, (h.y.frame hf h.di).mono hn, (do_other X hs hne).trans h.al, h.bel.trans (hf.toBelow h.hp h.bel.size), h.hp, h.hq, h.di⟩
theorem ApAt.own {w wr wr' wz : World} {p q : JB} {a : Ac} {X Y : JS} {n n' : Nat} (h : ApAt w p q a.s X Y n wr) (hj : JAt wr' p (doJ X a).2 n') (hf : FrJ wr wr' p) (hk : JAt wz q (doJ Y a).2 n') (hg : FrJ wr' wz q) : ApAt w p q a.s (doJ X a).2 (doJ Y a).2 n' wz :=
  ⟨hj.frame hg h.dj, hk, (do_own h.al).2, (h.bel.trans (hf.toBelow h.hp h.bel.size)).trans (hg.toBelow h.hq (Nat.le_trans h.bel.size hf.size)), h.hp, h.hq, h.di⟩
theorem qlook_alike {s : Int} {X Y : JS} (h : Alike s X Y) : Q.qlookO X.Q s = Q.qlookO Y.Q s := by
  unfold Q.qlookO
  split
  · exact h.ql
  · rfl
set_option maxRecDepth 100000 in
set_option maxHeartbeats 3200000 in
theorem WatchApart_any (a : Option Addr) (len cap : Nat) (source : Int) (l2 : -9223372036854775808 ≤ source) (u2 : source ≤ 9223372036854775807) (w : World) (hr : Elems w acK a len) :
    Calls Try.prog 8 #[.slice a len cap, .int .i64 source] w (Gives w (.bool true)) := by
  have HR := Lib.hid hr
  have hlen := hr.1
  have hQ := amongV_bd source 3 (by omega)
  have HN := Lib.hid (fun W => jNew_good sp26_ok sp26_good W)
  have HSM := Lib.hid (fun W => small26 W)
  have HSV : Hid (sp26.v = .agg #[.int .i64 10, .int .i64 1, .int .i64 20, .int .i64 1, .int .i64 12, .int .i64 3, .int .i64 50, .int .i64 2, .int .i64 6, .int .i64 2]) := Lib.hid rfl
  rw [HSV.out] at HN HSM
  clear hr
  go_enter Try.func8, Try.ntmps8
  go_upto_region 4 with (first | (go_at_call 20; (first | with_reducible refine Calls.fold (works26 _) ?_ | with_reducible refine Calls.fresh (works26 _) ?_); intro x1) | (go_at_call 25; (first | with_reducible refine Calls.fold (HSM.out _) ?_ | with_reducible refine Calls.fresh (HSM.out _) ?_); intro x1) | (go_at_call 21; refine (HN.out _).mono ?_; rintro e2 w2 ⟨p, rfl, hp, hj, hb⟩))
  have HJ := Lib.hid (And.intro (show ∀ r ∈ p.all, w.heap.size ≤ r from fun r hr => Nat.le_trans (up_size w x1) (hp r hr)) (And.intro hj (Below.trans (up_below w x1) (hb.mono (up_size w x1)))))
  clear hp hj hb
  clear x1
  go_upto_region 5 with (first | (go_at_call 25; (first | with_reducible refine Calls.fold (HSM.out _) ?_ | with_reducible refine Calls.fresh (HSM.out _) ?_); intro x1) | (go_at_call 21; refine (HN.out _).mono ?_; rintro e3 w3 ⟨q, rfl, hq, hj, hb⟩))
  have hst : ApAt w p q (amongV source 3) js0 js0 0 w3 :=
    ⟨HJ.out.2.1.below (Below.trans (up_below w2 x1) (hb.mono (up_size w2 x1))), hj, Alike.refl _ _, HJ.out.2.2.trans ((Below.trans (up_below w2 x1) (hb.mono (up_size w2 x1))).mono HJ.out.2.2.size), HJ.out.1,
      fun r hr => Nat.le_trans HJ.out.2.2.size (Nat.le_trans (up_size w2 x1) (hq r hr)), fun r hr hm => by have h1 := HJ.out.2.1.lts r hm; have h2 := hq r hr; have h3 := up_size w2 x1; omega⟩
  have HST := Lib.hid hst
  clear hst hq hj hb HJ
  clear x1
  clear w2
  go_wp2_with (go_at_call 11; with_reducible refine Calls.tells (Among_any _ _ _ (by omega) (by omega)) ?_)
  generalize amongV source 3 = s at *
  have HS := Lib.hid (And.intro hQ (show I64 s from ⟨by omega, by omega⟩))
  clear hQ l2 u2
  go_loopw [9] (fun v9 wr => ∃ (k : Nat) (X Y : JS), k ≤ 50 ∧ v9 = .int .i64 k ∧ ApAt w p q s X Y (7 * k) wr) (fun v9 _ => 50 - (intOf v9).toNat)
  case atStart => exact ⟨0, js0, js0, by omega, rfl, HST.out⟩
  case round =>
    clear HST
    obtain ⟨k, X, Y, hk, rfl, ha⟩ := hrel
    have HA := Lib.hid ha
    clear ha
    by_cases hkl : k < len
    · by_cases hk50 : k < 50
      · obtain ⟨B, off, ⟨s0, ⟨ax, tk, ag, sy0, sy1, sy2, o0, o1, o2⟩, t⟩, rfl, hB, hs, hx, hc⟩ := ac_of HR.out hkl
        have HCE := Lib.hid (show ∀ W, Below w.heap.size w W → W.cell? ⟨B, off + k * 11, none⟩ = some (.int .i64 s0) ∧ W.cell? ⟨B, off + k * 11 + 1, none⟩ = some (.int .i64 ax) ∧ W.cell? ⟨B, off + k * 11 + 2, none⟩ = some (.int .i64 tk) ∧ W.cell? ⟨B, off + k * 11 + 3, none⟩ = some (.int .i64 ag) ∧ W.cell? ⟨B, off + k * 11 + 4, none⟩ = some (.int .i64 sy0) ∧ W.cell? ⟨B, off + k * 11 + 5, none⟩ = some (.int .i64 sy1) ∧ W.cell? ⟨B, off + k * 11 + 6, none⟩ = some (.int .i64 sy2) ∧ W.cell? ⟨B, off + k * 11 + 7, none⟩ = some (.int .i64 o0) ∧ W.cell? ⟨B, off + k * 11 + 8, none⟩ = some (.int .i64 o1) ∧ W.cell? ⟨B, off + k * 11 + 9, none⟩ = some (.int .i64 o2) ∧ W.cell? ⟨B, off + k * 11 + 10, none⟩ = some (.bool t) from fun W hb => ⟨cell_belowI hb hB (hc 0 _ rfl), cell_belowI hb hB (hc 1 _ rfl), cell_belowI hb hB (hc 2 _ rfl), cell_belowI hb hB (hc 3 _ rfl), cell_belowI hb hB (hc 4 _ rfl), cell_belowI hb hB (hc 5 _ rfl), cell_belowI hb hB (hc 6 _ rfl), cell_belowI hb hB (hc 7 _ rfl), cell_belowI hb hB (hc 8 _ rfl), cell_belowI hb hB (hc 9 _ rfl), cell_belowI hb hB (hc 10 _ rfl)⟩)
        have hI1 : (k : Int) < (len : Int) := by omega
        have hI2 : (k : Int) < 50 := by omega
        have HI := Lib.hid (And.intro hk (And.intro hkl hk50))
        have hd := do26_any HA.out.x (by omega) hs hx
        obtain ⟨ans, hans⟩ : ∃ r, (doJ X ⟨s0, ⟨ax, tk, ag, sy0, sy1, sy2, o0, o1, o2⟩, t⟩).1 = r := ⟨_, rfl⟩
        unfold JActR at hd
        rw [hans] at hd
        have HD := Lib.hid hd
        have HAN := Lib.hid hans
        have HSX := Lib.hid (And.intro hs hx)
        unfold Ac.v at HD
        dsimp only at HD
        clear hd hc hs hx hans hk hkl hk50
        obtain ⟨x0, x1, x2, x3, x4, x5, x6, x7, x8, x9, x10⟩ := HCE.out _ HA.out.bel
        go_upto_region 10 with (go_at_call 26; refine (HD.out).mono ?_; rintro e4 w4 ⟨rfl, hj4, hf4⟩)
        clear x0 x1 x2 x3 x4 x5 x6 x7 x8 x9 x10
        have hb4 := HA.out.bel.trans (hf4.toBelow HA.out.hp HA.out.bel.size)
        obtain ⟨x0, x1, x2, x3, x4, x5, x6, x7, x8, x9, x10⟩ := HCE.out _ hb4
        by_cases hss : s0 = s
        · obtain rfl : s = s0 := hss.symm
          have hown := (do_own (a := ⟨s, ⟨ax, tk, ag, sy0, sy1, sy2, o0, o1, o2⟩, t⟩) HA.out.al).1
          have hdy := do26_any (HA.out.y.frame hf4 HA.out.di) (by have := HI.out; omega) (a := ⟨s, ⟨ax, tk, ag, sy0, sy1, sy2, o0, o1, o2⟩, t⟩) HSX.out.1 HSX.out.2
          unfold JActR at hdy
          rw [← hown, HAN.out] at hdy
          have HDY := Lib.hid hdy
          unfold Ac.v at HDY
          dsimp only at HDY
          have HJ4 := Lib.hid (And.intro hj4 hf4)
          clear hdy hown hss hj4 hf4 HD
          go_upto_region 12 with (go_at_call 26; refine (HDY.out).mono ?_; rintro e5 w5 ⟨rfl, hj5, hf5⟩)
          have HA2 := Lib.hid (HA.out.own (a := ⟨s, ⟨ax, tk, ag, sy0, sy1, sy2, o0, o1, o2⟩, t⟩) HJ4.out.1 HJ4.out.2 hj5 hf5)
          clear hb4 hj5 hf5 HDY HJ4
          dsimp only at HA2
          generalize hX1 : (doJ X ⟨s, ⟨ax, tk, ag, sy0, sy1, sy2, o0, o1, o2⟩, t⟩).2 = X1 at HA2
          generalize hY1 : (doJ Y ⟨s, ⟨ax, tk, ag, sy0, sy1, sy2, o0, o1, o2⟩, t⟩).2 = Y1 at HA2
          clear hX1 hY1
          go_upto_region 12 with fail
          refine wp_gen (ApAt w p q s X1 Y1 (7 * k + 7)) HA2.out ?_
          clear HA2 x0 x1 x2 x3 x4 x5 x6 x7 x8 x9 x10
          clear w5
          clear w4
          intro W5 ha5
          have HA5 := Lib.hid ha5
          clear ha5
          go_wp2_with fail
          go_loopw [11] (fun v11 wr => ∃ j : Nat, j ≤ 3 ∧ v11 = .int .i64 j ∧ ApAt w p q s X1 Y1 (7 * k + 7) wr) (fun v11 _ => 3 - (intOf v11).toNat)
          case atStart => exact ⟨0, by omega, rfl, HA5.out⟩
          case round =>
            clear HA5
            clear W5
            obtain ⟨j, hj, rfl, ha5⟩ := hrel
            have HA5 := Lib.hid ha5
            clear ha5
            obtain rfl | rfl | rfl | rfl : j = 0 ∨ j = 1 ∨ j = 2 ∨ j = 3 := by omega
            · have HX := Lib.hid (jSums_any HA5.out.x HS.out.2 (show I64 0 from ⟨by omega, by omega⟩))
              have HY := Lib.hid (fun (W : World) (hW : Below wr.heap.size wr W) => jSums_any (HA5.out.below hW).y HS.out.2 (show I64 0 from ⟨by omega, by omega⟩))
              rw [HA5.out.al.G 0] at HX
              obtain ⟨⟨up, dn⟩, hg⟩ : ∃ g, Y1.G s 0 = g := ⟨_, rfl⟩
              rw [hg] at HX HY
              dsimp only at HX HY
              clear hg
              go_wp2_with (first | (go_at_call 27; with_reducible refine Calls.fresh (HX.out) ?_; intro x1) | (go_at_call 27; with_reducible refine Calls.fresh (HY.out _ (up_below _ _)) ?_; intro x2))
              exact ⟨⟨1, by omega, rfl, HA5.out.below ((up_below _ _).trans ((up_below _ _).mono (up_size _ _)))⟩, by simp [intOf]⟩
            · have HX := Lib.hid (jSums_any HA5.out.x HS.out.2 (show I64 1 from ⟨by omega, by omega⟩))
              have HY := Lib.hid (fun (W : World) (hW : Below wr.heap.size wr W) => jSums_any (HA5.out.below hW).y HS.out.2 (show I64 1 from ⟨by omega, by omega⟩))
              rw [HA5.out.al.G 1] at HX
              obtain ⟨⟨up, dn⟩, hg⟩ : ∃ g, Y1.G s 1 = g := ⟨_, rfl⟩
              rw [hg] at HX HY
              dsimp only at HX HY
              clear hg
              go_wp2_with (first | (go_at_call 27; with_reducible refine Calls.fresh (HX.out) ?_; intro x1) | (go_at_call 27; with_reducible refine Calls.fresh (HY.out _ (up_below _ _)) ?_; intro x2))
              exact ⟨⟨2, by omega, rfl, HA5.out.below ((up_below _ _).trans ((up_below _ _).mono (up_size _ _)))⟩, by simp [intOf]⟩
            · have HX := Lib.hid (jSums_any HA5.out.x HS.out.2 (show I64 2 from ⟨by omega, by omega⟩))
              have HY := Lib.hid (fun (W : World) (hW : Below wr.heap.size wr W) => jSums_any (HA5.out.below hW).y HS.out.2 (show I64 2 from ⟨by omega, by omega⟩))
              rw [HA5.out.al.G 2] at HX
              obtain ⟨⟨up, dn⟩, hg⟩ : ∃ g, Y1.G s 2 = g := ⟨_, rfl⟩
              rw [hg] at HX HY
              dsimp only at HX HY
              clear hg
              go_wp2_with (first | (go_at_call 27; with_reducible refine Calls.fresh (HX.out) ?_; intro x1) | (go_at_call 27; with_reducible refine Calls.fresh (HY.out _ (up_below _ _)) ?_; intro x2))
              exact ⟨⟨3, by omega, rfl, HA5.out.below ((up_below _ _).trans ((up_below _ _).mono (up_size _ _)))⟩, by simp [intOf]⟩
            · have HXS := Lib.hid (jState_any HA5.out.x s)
              have HXU := Lib.hid (jUntil_any HA5.out.x s)
              have HXT := Lib.hid (jTimes_any HA5.out.x s)
              have HYS := Lib.hid (jState_any HA5.out.y s)
              have HYU := Lib.hid (jUntil_any HA5.out.y s)
              have HYT := Lib.hid (jTimes_any HA5.out.y s)
              rw [qlook_alike HA5.out.al] at HXS HXU HXT
              generalize Q.qlookO Y1.Q s = qo at *
              obtain ⟨q1, q2, q3, q4, q5⟩ := qo
              dsimp only at HXS HXU HXT HYS HYU HYT
              go_wp2_with (first | (go_at_call 23; with_reducible refine Calls.tells (HXS.out) ?_) | (go_at_call 23; with_reducible refine Calls.tells (HYS.out) ?_) | (go_at_call 28; with_reducible refine Calls.tells (HXU.out) ?_) | (go_at_call 28; with_reducible refine Calls.tells (HYU.out) ?_) | (go_at_call 24; with_reducible refine Calls.tells (HXT.out) ?_) | (go_at_call 24; with_reducible refine Calls.tells (HYT.out) ?_))
              exact ⟨⟨k + 1, X1, Y1, by have := HI.out; omega, by go_num, HA5.out⟩, by have := HI.out; simp [intOf]; omega⟩
        · have hse : (s0 == s) = false := by simpa using hss
          have HA2 := Lib.hid (HA.out.other (a := ⟨s0, ⟨ax, tk, ag, sy0, sy1, sy2, o0, o1, o2⟩, t⟩) HS.out.1.1 hss hj4 (Nat.le_add_right _ _) hf4)
          clear hj4 hf4 hb4 HD
          generalize hX1 : (doJ X ⟨s0, ⟨ax, tk, ag, sy0, sy1, sy2, o0, o1, o2⟩, t⟩).2 = X1 at HA2
          obtain ⟨Y1, hY1⟩ : ∃ Y1, Y = Y1 := ⟨_, rfl⟩
          rw [hY1] at HA2
          clear hX1 hY1
          go_upto_region 12 with fail
          refine wp_gen (ApAt w p q s X1 Y1 (7 * k + 7)) HA2.out ?_
          clear HA2 x0 x1 x2 x3 x4 x5 x6 x7 x8 x9 x10 hse hss
          clear w4
          intro W5 ha5
          have HA5 := Lib.hid ha5
          clear ha5
          go_wp2_with fail
          go_loopw [11] (fun v11 wr => ∃ j : Nat, j ≤ 3 ∧ v11 = .int .i64 j ∧ ApAt w p q s X1 Y1 (7 * k + 7) wr) (fun v11 _ => 3 - (intOf v11).toNat)
          case atStart => exact ⟨0, by omega, rfl, HA5.out⟩
          case round =>
            clear HA5
            clear W5
            obtain ⟨j, hj, rfl, ha5⟩ := hrel
            have HA5 := Lib.hid ha5
            clear ha5
            obtain rfl | rfl | rfl | rfl : j = 0 ∨ j = 1 ∨ j = 2 ∨ j = 3 := by omega
            · have HX := Lib.hid (jSums_any HA5.out.x HS.out.2 (show I64 0 from ⟨by omega, by omega⟩))
              have HY := Lib.hid (fun (W : World) (hW : Below wr.heap.size wr W) => jSums_any (HA5.out.below hW).y HS.out.2 (show I64 0 from ⟨by omega, by omega⟩))
              rw [HA5.out.al.G 0] at HX
              obtain ⟨⟨up, dn⟩, hg⟩ : ∃ g, Y1.G s 0 = g := ⟨_, rfl⟩
              rw [hg] at HX HY
              dsimp only at HX HY
              clear hg
              go_wp2_with (first | (go_at_call 27; with_reducible refine Calls.fresh (HX.out) ?_; intro x1) | (go_at_call 27; with_reducible refine Calls.fresh (HY.out _ (up_below _ _)) ?_; intro x2))
              exact ⟨⟨1, by omega, rfl, HA5.out.below ((up_below _ _).trans ((up_below _ _).mono (up_size _ _)))⟩, by simp [intOf]⟩
            · have HX := Lib.hid (jSums_any HA5.out.x HS.out.2 (show I64 1 from ⟨by omega, by omega⟩))
              have HY := Lib.hid (fun (W : World) (hW : Below wr.heap.size wr W) => jSums_any (HA5.out.below hW).y HS.out.2 (show I64 1 from ⟨by omega, by omega⟩))
              rw [HA5.out.al.G 1] at HX
              obtain ⟨⟨up, dn⟩, hg⟩ : ∃ g, Y1.G s 1 = g := ⟨_, rfl⟩
              rw [hg] at HX HY
              dsimp only at HX HY
              clear hg
              go_wp2_with (first | (go_at_call 27; with_reducible refine Calls.fresh (HX.out) ?_; intro x1) | (go_at_call 27; with_reducible refine Calls.fresh (HY.out _ (up_below _ _)) ?_; intro x2))
              exact ⟨⟨2, by omega, rfl, HA5.out.below ((up_below _ _).trans ((up_below _ _).mono (up_size _ _)))⟩, by simp [intOf]⟩
            · have HX := Lib.hid (jSums_any HA5.out.x HS.out.2 (show I64 2 from ⟨by omega, by omega⟩))
              have HY := Lib.hid (fun (W : World) (hW : Below wr.heap.size wr W) => jSums_any (HA5.out.below hW).y HS.out.2 (show I64 2 from ⟨by omega, by omega⟩))
              rw [HA5.out.al.G 2] at HX
              obtain ⟨⟨up, dn⟩, hg⟩ : ∃ g, Y1.G s 2 = g := ⟨_, rfl⟩
              rw [hg] at HX HY
              dsimp only at HX HY
              clear hg
              go_wp2_with (first | (go_at_call 27; with_reducible refine Calls.fresh (HX.out) ?_; intro x1) | (go_at_call 27; with_reducible refine Calls.fresh (HY.out _ (up_below _ _)) ?_; intro x2))
              exact ⟨⟨3, by omega, rfl, HA5.out.below ((up_below _ _).trans ((up_below _ _).mono (up_size _ _)))⟩, by simp [intOf]⟩
            · have HXS := Lib.hid (jState_any HA5.out.x s)
              have HXU := Lib.hid (jUntil_any HA5.out.x s)
              have HXT := Lib.hid (jTimes_any HA5.out.x s)
              have HYS := Lib.hid (jState_any HA5.out.y s)
              have HYU := Lib.hid (jUntil_any HA5.out.y s)
              have HYT := Lib.hid (jTimes_any HA5.out.y s)
              rw [qlook_alike HA5.out.al] at HXS HXU HXT
              generalize Q.qlookO Y1.Q s = qo at *
              obtain ⟨q1, q2, q3, q4, q5⟩ := qo
              dsimp only at HXS HXU HXT HYS HYU HYT
              go_wp2_with (first | (go_at_call 23; with_reducible refine Calls.tells (HXS.out) ?_) | (go_at_call 23; with_reducible refine Calls.tells (HYS.out) ?_) | (go_at_call 28; with_reducible refine Calls.tells (HXU.out) ?_) | (go_at_call 28; with_reducible refine Calls.tells (HYU.out) ?_) | (go_at_call 24; with_reducible refine Calls.tells (HXT.out) ?_) | (go_at_call 24; with_reducible refine Calls.tells (HYT.out) ?_))
              exact ⟨⟨k + 1, X1, Y1, by have := HI.out; omega, by go_num, HA5.out⟩, by have := HI.out; simp [intOf]; omega⟩
      · go_wp2_with fail
        go_ret
        exact Gives.mk rfl HA.out.bel
    · go_wp2_with fail
      go_ret
      exact Gives.mk rfl HA.out.bel
end Go.Proofs.Ytihalkpcddnikaa
