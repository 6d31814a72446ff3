/-
  BankBytes: the walk.
-/
import Derived.Test.YtjkgodhoonkinaaBnkG
namespace Go.Proofs.Ytjkgodhoonkinaa
open Go.RowKit
set_option linter.unusedVariables false
set_option linter.unusedSimpArgs false

theorem bts_roomH {w : World} {a : Option Addr} {n c : Nat} {bs : List Nat} (h : Bts w (.slice a n c) bs) : n ≤ c := by
  obtain ⟨_, ⟨h1, _⟩ | ⟨_, _, h1, _⟩ | ⟨_, _, _, h1, h2, _⟩⟩ := h
  · cases h1; omega
  · cases h1; omega
  · cases h1; exact h2
set_option maxRecDepth 100000 in
set_option maxHeartbeats 8000000 in
theorem BankBytes_any (R : List Nat) (hR : RecOK R) (v : Value) (bs : List Nat) (w : World) (hv : Bts w v bs) :
    Calls Try.prog 10 #[.agg (recL R).toArray, v] w (Gives w (.bool true)) := by
  have HC := Lib.hid (hv.cutV 200)
  obtain ⟨va, vn, vc, rfl⟩ := hv.slice
  obtain rfl := hv.len
  have hroom := bts_roomH hv
  clear hv
  have HTK := Lib.hid (show (bs.take 200).length = min bs.length 200 by rw [List.length_take]; omega)
  generalize hn : bs.length = n at *
  obtain ⟨cs, hcs⟩ : ∃ cs, cs = bs.take 200 := ⟨_, rfl⟩
  rw [← hcs] at HC HTK
  clear hcs hn
  obtain ⟨m, hm⟩ : ∃ m, m = min n 200 := ⟨_, rfl⟩
  have i0 : (if (200 : Int) < (n : Int) then (200 : Int) else (n : Int)) = (m : Int) := by split <;> omega
  have i3 : (0 : Int) ≤ (m : Int) := by omega
  have i4 : (m : Int) ≤ (vc : Int) := by omega
  rw [show cutV 200 (.slice va n vc) = .slice va m vc from by simp [cutV]; omega] at HC
  have HM := Lib.hid (show cs.length = m ∧ m ≤ 200 from ⟨by have := HTK.out; omega, by omega⟩)
  clear hm hroom HTK
  have hokM : RecOK (bnkR cs) := bnkR_ok HC.out.1
  have HA := Lib.hid (rangeAt_boxed (w := w) (g := w.heap.size) (recL R) 50)
  have HBY := Lib.hid (fun W => Bytes_rec R W hR)
  have HRY := Lib.hid (fun W => rBytes_rec R W hR)
  have HPL := Lib.hid (fun W => plain_any R W hR)
  have HNX := Lib.hid (fun W => bNext_any R W hR)
  have HNY := Lib.hid (fun W => rNext_any R W hR)
  have HLL := Lib.hid (recL_length hR.1)
  have HPM := Lib.hid (fun W => plain_any (bnkR cs) W hokM)
  have HRD := Lib.hid (fun W v (h : Bts W v cs) => bRead_all v cs W h)
  have HRX := Lib.hid (fun W v (h : Bts W v cs) => rbRead_any v cs W h (by have := HM.out; omega))
  have HEQ := Lib.hid (rec_selfR (bnkR cs) hokM)
  have HMO := Lib.hid (And.intro (recL_length hokM.1) (recL_one hokM.1))
  obtain ⟨L, hL⟩ : ∃ L, L = recL R := ⟨_, rfl⟩
  rw [← hL] at HA HBY HRY HPL HNX HNY HLL ⊢
  obtain ⟨M, hM⟩ : ∃ M, M = recL (bnkR cs) := ⟨_, rfl⟩
  rw [← hM] at HPM HRD HRX HEQ HMO
  have HML := Lib.hid HMO.out.1
  clear hL hM hokM hR
  generalize bnkE R = be at *
  generalize bnkB R = bb at *
  generalize bnkF cs = bf at *
  generalize nextN R = nx at *
  go_enter Try.func10, Try.ntmps10
  go_upto_region 1 with fail
  refine wp_gen (fun W => Below w.heap.size w W ∧ W.rangeAt w.heap.size 0 L ∧ w.heap.size < W.heap.size) ⟨by (repeat (first | (with_reducible exact Below.refl _ _) | (with_reducible assumption) | (with_reducible refine Below.alloc ?_ (by (repeat (first | (with_reducible exact Nat.le_refl _) | (with_reducible assumption) | (with_reducible refine le_up ?_) | (with_reducible refine le_alloc ?_) | (with_reducible refine le_setCell ?_) | (with_reducible refine le_drew ?_) | (with_reducible refine le_drewN ?_) | omega))) _) | (with_reducible refine Below.drew ?_) | (with_reducible refine Below.drewN ?_ _) | (with_reducible refine Below.setCell ?_ (by (repeat (first | (with_reducible exact Nat.le_refl _) | (with_reducible assumption) | (with_reducible refine le_up ?_) | (with_reducible refine le_alloc ?_) | (with_reducible refine le_setCell ?_) | (with_reducible refine le_drew ?_) | (with_reducible refine le_drewN ?_) | omega))) _) | (with_reducible refine Below.up ?_ (by (repeat (first | (with_reducible exact Nat.le_refl _) | (with_reducible assumption) | (with_reducible refine le_up ?_) | (with_reducible refine le_alloc ?_) | (with_reducible refine le_setCell ?_) | (with_reducible refine le_drew ?_) | (with_reducible refine le_drewN ?_) | omega)))))), HA.out, by simp⟩ ?_
  rintro W0 ⟨hb0, hr0, hl0⟩
  have H0 := Lib.hid (And.intro hb0 (And.intro hr0 hl0))
  clear hb0 hr0 hl0 HA
  go_wp2_with (refine wpList_load_midG 50 (.tmp 2) (by with_reducible rfl) (by rfl) w.heap.size 0 (by rfl) L _ H0.out.2.1 Try.underlying50 (by rfl) (by rw [HLL.out]; kernel_rfl) ?_)
  refine (HBY.out W0).mono ?_
  rintro e1 w1 ⟨v1, rfl, ho1, hb1⟩
  have H1 := Lib.hid (show (Below w.heap.size w w1 ∧ w1.rangeAt w.heap.size 0 L ∧ w.heap.size < w1.heap.size) ∧ Bts w1 v1 bb from ⟨⟨H0.out.1.trans (hb1.mono H0.out.1.size), rangeAt_below hb1 H0.out.2.2 H0.out.2.1, Nat.lt_of_lt_of_le H0.out.2.2 hb1.size⟩, ho1.bts⟩)
  have HO1 := Lib.hid ho1
  clear ho1 hb1
  go_wp2_with (refine wpList_load_midG 50 (.tmp 2) (by with_reducible rfl) (by rfl) w.heap.size 0 (by rfl) L _ H1.out.1.2.1 Try.underlying50 (by rfl) (by rw [HLL.out]; kernel_rfl) ?_)
  refine (HPL.out w1).mono ?_
  rintro e2 w2 ⟨rfl, x2, rfl⟩
  go_wp2_with fail
  refine (HRY.out (up w1 x2)).mono ?_
  rintro e3 w3 ⟨v3, rfl, ho3, hb3⟩
  have hb13 : Below w1.heap.size w1 w3 := (up_below w1 x2).trans (hb3.mono (up_size _ _))
  have HO3 := Lib.hid (show Below w.heap.size w w3 ∧ w3.rangeAt w.heap.size 0 L ∧ w.heap.size < w3.heap.size ∧ OwnB w3 w.heap.size v1 bb ∧ OwnB w3 w.heap.size v3 bb from
    ⟨H1.out.1.1.trans (hb13.mono H1.out.1.1.size), rangeAt_below hb13 H1.out.1.2.2 H1.out.1.2.1, Nat.lt_of_lt_of_le H1.out.1.2.2 hb13.size, (HO1.out.mono H0.out.1.size).below hb13 (Nat.le_refl _), ho3.mono (Nat.le_trans H1.out.1.1.size (up_size _ _))⟩)
  clear ho3 hb3 hb13 HO1 H1 H0
  go_upto_region 4 with fail
  refine wp_gen (fun W => Below w.heap.size w W ∧ W.rangeAt w.heap.size 0 L ∧ w.heap.size < W.heap.size ∧ OwnB W w.heap.size v1 bb ∧ OwnB W w.heap.size v3 bb) HO3.out ?_
  clear HO3
  rintro W4 h4
  have H4 := Lib.hid h4
  clear h4 i0 i3 i4
  go_wp2_with fail
  refine (Bytes_any _ cs _ (HC.out.below H4.out.1) (by have := HM.out; omega)).mono ?_
  rintro e5 w5 ⟨g5, c5, rfl, hg5, hl5, ho5, hb5⟩
  have HRD5 := Lib.hid (HRD.out w5 _ ho5.bts)
  have H5 := Lib.hid hb5
  clear hg5 hl5 ho5 hb5
  go_wp2_with fail
  refine HRD5.out.mono ?_
  rintro e6 w6 ⟨rfl, x6, rfl⟩
  have hs := store_newR (up w5 x6) 50 M HMO.out.1 HMO.out.2
  have hst := hs.1
  have hml := HMO.out.1
  have HS := Lib.hid (And.intro hs.2.1 (And.intro hs.2.2.1 hs.2.2.2.2))
  have hb46 : Below W4.heap.size W4 (up w5 x6) := H5.out.trans ((up_below w5 x6).mono H5.out.size)
  clear hs
  go_upto_region 5 with fail
  obtain ⟨q, hq⟩ : ∃ q, q = (up w5 x6).heap.size := ⟨_, rfl⟩
  rw [← hq]
  rw [← hq] at HS
  have hqs : W4.heap.size ≤ q := hq ▸ hb46.size
  refine wp_gen (fun W => (Below w.heap.size w W ∧ W.rangeAt w.heap.size 0 L ∧ w.heap.size < W.heap.size ∧ OwnB W w.heap.size v1 bb ∧ OwnB W w.heap.size v3 bb) ∧ W.rangeAt q 0 M ∧ q < W.heap.size) ?_ ?_
  · have hb : Below W4.heap.size W4 _ := hb46.trans (HS.out.1.mono hqs)
    exact ⟨⟨H4.out.1.trans (hb.mono H4.out.1.size), rangeAt_below hb H4.out.2.2.1 H4.out.2.1, Nat.lt_of_lt_of_le H4.out.2.2.1 hb.size, H4.out.2.2.2.1.below hb (Nat.le_refl _), H4.out.2.2.2.2.below hb (Nat.le_refl _)⟩, HS.out.2.1, HS.out.2.2⟩
  clear hst hml HS hb46 hq hqs H4 H5 HRD5
  rintro W5 h5
  have H5 := Lib.hid h5
  clear h5
  have HRX5 := Lib.hid (HRX.out W5 _ (HC.out.below H5.out.1.1))
  go_wp2_with fail
  refine HRX5.out.mono ?_
  rintro e7 w7 ⟨rfl, x7, rfl⟩
  have hs := store_newR (up W5 x7) 69 M HMO.out.1 HMO.out.2
  have hst := hs.1
  have hml := HMO.out.1
  have HS := Lib.hid (And.intro hs.2.1 (And.intro hs.2.2.1 hs.2.2.2.2))
  have hb57 : Below W5.heap.size W5 (up W5 x7) := up_below W5 x7
  clear hs
  go_upto_region 6 with fail
  obtain ⟨r, hr⟩ : ∃ r, r = (up W5 x7).heap.size := ⟨_, rfl⟩
  rw [← hr]
  rw [← hr] at HS
  have hrs : W5.heap.size ≤ r := hr ▸ hb57.size
  refine wp_gen (fun W => (Below w.heap.size w W ∧ W.rangeAt w.heap.size 0 L ∧ w.heap.size < W.heap.size ∧ OwnB W w.heap.size v1 bb ∧ OwnB W w.heap.size v3 bb) ∧ (W.rangeAt q 0 M ∧ q < W.heap.size) ∧ W.rangeAt r 0 M ∧ r < W.heap.size) ?_ ?_
  · have hb : Below W5.heap.size W5 _ := hb57.trans (HS.out.1.mono hrs)
    exact ⟨⟨H5.out.1.1.trans (hb.mono H5.out.1.1.size), rangeAt_below hb H5.out.1.2.2.1 H5.out.1.2.1, Nat.lt_of_lt_of_le H5.out.1.2.2.1 hb.size, H5.out.1.2.2.2.1.below hb (Nat.le_refl _), H5.out.1.2.2.2.2.below hb (Nat.le_refl _)⟩, ⟨rangeAt_below hb H5.out.2.2 H5.out.2.1, Nat.lt_of_lt_of_le H5.out.2.2 hb.size⟩, HS.out.2.1, HS.out.2.2⟩
  clear hst hml HS hb57 hr hrs H5 HRX5
  rintro W6 h6
  have H6 := Lib.hid h6
  clear h6
  have HSB := Lib.hid (fun (W : World) (h : Below W6.heap.size W6 W) => show Calls Try.prog 25 #[v1, v3] W (Tells W (.bool true)) by
    have := SameBytes_any v1 v3 bb bb W (H6.out.1.2.2.2.1.bts.below h) (H6.out.1.2.2.2.2.bts.below h)
    rwa [show sameB bb bb = true from decide_eq_true rfl] at this)
  have HS0 := Lib.hid (show Below W6.heap.size W6 W6.drew from (Below.refl _ _).drew)
  have heq := HEQ.out
  refine wp_region_sched [23, 24, 28] [(0, 3), (1, 3), (2, 0), (3, 3), (4, 3), (5, 3), (6, 3), (7, 3), (8, 3), (9, 0), (11, 0), (10, 1), (12, 3), (13, 3), (14, 3), (15, 3), (16, 3), (17, 3), (18, 3), (19, 3), (20, 0), (22, 0), (21, 1), (23, 2), (24, 2), (25, 3), (26, 3), (27, 3), (28, 2), (29, 3), (30, 3)] (fun W => Below W6.heap.size W6 W) (by kernel_rfl) (by kernel_rfl) (fun d v c a w h => by cases d <;> exact h) HS0.out ?_
  refine wpSched_pure ?sv1 rfl (by rfl) (fun W => ?sh1) ?sr1; (case sh1 => (go_simp; try (with_reducible rfl))); simp only [Act.put, List.getElem_toArray, List.getElem_cons_zero, List.getElem_cons_succ, List.setIfInBounds_toArray, List.set_cons_zero, List.set_cons_succ]
  refine wpSched_pure ?sv2 rfl (by rfl) (fun W => ?sh2) ?sr2; (case sh2 => (go_simp; try (with_reducible rfl))); simp only [Act.put, List.getElem_toArray, List.getElem_cons_zero, List.getElem_cons_succ, List.setIfInBounds_toArray, List.set_cons_zero, List.set_cons_succ]
  refine wpSched_tells 25 #[v1, v3] (.bool true) rfl (by rfl) (fun W => by go_simp) (fun W hW => HSB.out W hW) ?_
  simp only [Act.put, List.getElem_toArray, List.getElem_cons_zero, List.getElem_cons_succ, List.setIfInBounds_toArray, List.set_cons_zero, List.set_cons_succ]
  refine wpSched_pure ?sv3 rfl (by rfl) (fun W => ?sh3) ?sr3; (case sh3 => (go_simp; try (with_reducible rfl))); simp only [Act.put, List.getElem_toArray, List.getElem_cons_zero, List.getElem_cons_succ, List.setIfInBounds_toArray, List.set_cons_zero, List.set_cons_succ]
  refine wpSched_pure ?sv4 rfl (by rfl) (fun W => ?sh4) ?sr4; (case sh4 => (go_simp; try (with_reducible rfl))); simp only [Act.put, List.getElem_toArray, List.getElem_cons_zero, List.getElem_cons_succ, List.setIfInBounds_toArray, List.set_cons_zero, List.set_cons_succ]
  refine wpSched_pure ?sv5 rfl (by rfl) (fun W => ?sh5) ?sr5; (case sh5 => (go_simp; try (with_reducible rfl))); simp only [Act.put, List.getElem_toArray, List.getElem_cons_zero, List.getElem_cons_succ, List.setIfInBounds_toArray, List.set_cons_zero, List.set_cons_succ]
  refine wpSched_pure ?sv6 rfl (by rfl) (fun W => ?sh6) ?sr6; (case sh6 => (go_simp; try (with_reducible rfl))); simp only [Act.put, List.getElem_toArray, List.getElem_cons_zero, List.getElem_cons_succ, List.setIfInBounds_toArray, List.set_cons_zero, List.set_cons_succ]
  refine wpSched_pure ?sv7 rfl (by rfl) (fun W => ?sh7) ?sr7; (case sh7 => (go_simp; try (with_reducible rfl))); simp only [Act.put, List.getElem_toArray, List.getElem_cons_zero, List.getElem_cons_succ, List.setIfInBounds_toArray, List.set_cons_zero, List.set_cons_succ]
  refine wpSched_pure ?sv8 rfl (by rfl) (fun W => ?sh8) ?sr8; (case sh8 => (go_simp; try (with_reducible rfl))); simp only [Act.put, List.getElem_toArray, List.getElem_cons_zero, List.getElem_cons_succ, List.setIfInBounds_toArray, List.set_cons_zero, List.set_cons_succ]
  refine wpSched_load 50 (.tmp 9) q 0 M _ rfl rfl (by rfl) (by rfl) (fun X hX => rangeAt_below hX H6.out.2.1.2 H6.out.2.1.1) Try.underlying50 (by rfl) (by rw [HML.out]; kernel_rfl) ?_
  simp only [Act.put, List.getElem_toArray, List.getElem_cons_zero, List.getElem_cons_succ, List.setIfInBounds_toArray, List.set_cons_zero, List.set_cons_succ]
  refine wpSched_load 69 (.tmp 11) r 0 M _ rfl rfl (by rfl) (by rfl) (fun X hX => rangeAt_below hX H6.out.2.2.2 H6.out.2.2.1) Try.underlying69 (by rfl) (by rw [HML.out]; kernel_rfl) ?_
  simp only [Act.put, List.getElem_toArray, List.getElem_cons_zero, List.getElem_cons_succ, List.setIfInBounds_toArray, List.set_cons_zero, List.set_cons_succ]
  refine wpSched_eff rfl (by rfl) (fun K hK => ?_); go_simp
  refine (HPM.out _).mono ?_
  rintro f1 u1 ⟨rfl, y1, rfl⟩
  have HS1 := Lib.hid (HS0.out.trans ((up_below _ y1).mono HS0.out.size))
  refine hK _ _ HS1.out ?_
  clear hK K
  refine wpSched_pure ?sv9 rfl (by rfl) (fun W => ?sh9) ?sr9; (case sh9 => (go_simp; try (with_reducible rfl))); simp only [Act.put, List.getElem_toArray, List.getElem_cons_zero, List.getElem_cons_succ, List.setIfInBounds_toArray, List.set_cons_zero, List.set_cons_succ]
  refine wpSched_pure ?sv10 rfl (by rfl) (fun W => ?sh10) ?sr10; (case sh10 => (go_simp; try (with_reducible rfl))); simp only [Act.put, List.getElem_toArray, List.getElem_cons_zero, List.getElem_cons_succ, List.setIfInBounds_toArray, List.set_cons_zero, List.set_cons_succ]
  refine wpSched_pure ?sv11 rfl (by rfl) (fun W => ?sh11) ?sr11; (case sh11 => (go_simp; try (with_reducible rfl))); simp only [Act.put, List.getElem_toArray, List.getElem_cons_zero, List.getElem_cons_succ, List.setIfInBounds_toArray, List.set_cons_zero, List.set_cons_succ]
  refine wpSched_pure ?sv12 rfl (by rfl) (fun W => ?sh12) ?sr12; (case sh12 => (go_simp; try (with_reducible rfl))); simp only [Act.put, List.getElem_toArray, List.getElem_cons_zero, List.getElem_cons_succ, List.setIfInBounds_toArray, List.set_cons_zero, List.set_cons_succ]
  refine wpSched_pure ?sv13 rfl (by rfl) (fun W => ?sh13) ?sr13; (case sh13 => (go_simp; try (with_reducible rfl))); simp only [Act.put, List.getElem_toArray, List.getElem_cons_zero, List.getElem_cons_succ, List.setIfInBounds_toArray, List.set_cons_zero, List.set_cons_succ]
  refine wpSched_pure ?sv14 rfl (by rfl) (fun W => ?sh14) ?sr14; (case sh14 => (go_simp; try (with_reducible rfl))); simp only [Act.put, List.getElem_toArray, List.getElem_cons_zero, List.getElem_cons_succ, List.setIfInBounds_toArray, List.set_cons_zero, List.set_cons_succ]
  refine wpSched_pure ?sv15 rfl (by rfl) (fun W => ?sh15) ?sr15; (case sh15 => (go_simp; try (with_reducible rfl))); simp only [Act.put, List.getElem_toArray, List.getElem_cons_zero, List.getElem_cons_succ, List.setIfInBounds_toArray, List.set_cons_zero, List.set_cons_succ]
  refine wpSched_pure ?sv16 rfl (by rfl) (fun W => ?sh16) ?sr16; (case sh16 => (go_simp; try (with_reducible rfl))); simp only [Act.put, List.getElem_toArray, List.getElem_cons_zero, List.getElem_cons_succ, List.setIfInBounds_toArray, List.set_cons_zero, List.set_cons_succ]
  refine wpSched_load 50 (.tmp 2) w.heap.size 0 L _ rfl rfl (by rfl) (by rfl) (fun X hX => rangeAt_below hX H6.out.1.2.2.1 H6.out.1.2.1) Try.underlying50 (by rfl) (by rw [HLL.out]; kernel_rfl) ?_
  simp only [Act.put, List.getElem_toArray, List.getElem_cons_zero, List.getElem_cons_succ, List.setIfInBounds_toArray, List.set_cons_zero, List.set_cons_succ]
  refine wpSched_load 50 (.tmp 2) w.heap.size 0 L _ rfl rfl (by rfl) (by rfl) (fun X hX => rangeAt_below hX H6.out.1.2.2.1 H6.out.1.2.1) Try.underlying50 (by rfl) (by rw [HLL.out]; kernel_rfl) ?_
  simp only [Act.put, List.getElem_toArray, List.getElem_cons_zero, List.getElem_cons_succ, List.setIfInBounds_toArray, List.set_cons_zero, List.set_cons_succ]
  refine wpSched_eff rfl (by rfl) (fun K hK => ?_); go_simp
  refine (HNX.out _).mono ?_
  rintro f2 u2 ⟨rfl, y2, rfl⟩
  have HS2 := Lib.hid (HS1.out.trans ((up_below _ y2).mono HS1.out.size))
  refine hK _ _ HS2.out ?_
  clear hK K
  refine wpSched_tail rfl (by rfl) (fun K hK => ?_); go_simp
  refine (HPL.out _).mono ?_
  rintro f3 u3 ⟨rfl, y3, rfl⟩
  have HS3 := Lib.hid (HS2.out.trans ((up_below _ y3).mono HS2.out.size))
  refine hK _ _ ?_
  clear hK K
  refine wpSched_tail rfl (by rfl) (fun K hK => ?_); go_simp
  refine (HNY.out _).mono ?_
  rintro f4 u4 ⟨rfl, y4, rfl⟩
  have HS4 := Lib.hid (HS3.out.trans ((up_below _ y4).mono HS3.out.size))
  refine hK _ _ ?_
  clear hK K
  refine wpSched_pure ?sv17 rfl (by rfl) (fun W => ?sh17) ?sr17; (case sh17 => (go_simp; try (with_reducible rfl))); simp only [Act.put, List.getElem_toArray, List.getElem_cons_zero, List.getElem_cons_succ, List.setIfInBounds_toArray, List.set_cons_zero, List.set_cons_succ]
  refine wpSched_pure ?sv18 rfl (by rfl) (fun W => ?sh18) ?sr18; (case sh18 => (go_simp; try (with_reducible rfl))); simp only [Act.put, List.getElem_toArray, List.getElem_cons_zero, List.getElem_cons_succ, List.setIfInBounds_toArray, List.set_cons_zero, List.set_cons_succ]
  refine wpSched_pure ?sv19 rfl (by rfl) (fun W => ?sh19) ?sr19; (case sh19 => (go_simp; try (with_reducible rfl))); simp only [Act.put, List.getElem_toArray, List.getElem_cons_zero, List.getElem_cons_succ, List.setIfInBounds_toArray, List.set_cons_zero, List.set_cons_succ]
  refine wpSched_tail rfl (by rfl) (fun K hK => ?_); go_simp
  refine (works30 _).mono ?_
  rintro f5 u5 ⟨rfl, y5, rfl⟩
  have HS5 := Lib.hid (HS4.out.trans ((up_below _ y5).mono HS4.out.size))
  refine hK _ _ ?_
  clear hK K
  refine wpSched_pure ?sv20 rfl (by rfl) (fun W => ?sh20) ?sr20; (case sh20 => (go_simp; try (with_reducible rfl))); simp only [Act.put, List.getElem_toArray, List.getElem_cons_zero, List.getElem_cons_succ, List.setIfInBounds_toArray, List.set_cons_zero, List.set_cons_succ]
  refine wpSched_pure ?sv21 rfl (by rfl) (fun W => ?sh21) ?sr21; (case sh21 => (go_simp; try (with_reducible rfl))); simp only [Act.put, List.getElem_toArray, List.getElem_cons_zero, List.getElem_cons_succ, List.setIfInBounds_toArray, List.set_cons_zero, List.set_cons_succ]
  refine wpSched_nil ?_
  go_wp2_with fail
  go_ret
  exact Gives.mk rfl (H6.out.1.1.trans (HS5.out.mono H6.out.1.1.size))
end Go.Proofs.Ytjkgodhoonkinaa
