/-
  Numbers of 128 bits: the product, bit by bit; the reference's difference and magnitude.
-/
import Derived.Test.YtihalkpcddnikaaWidG
import Derived.Test.YtihalkpcddnikaaFixP
namespace Go.Proofs.Ytihalkpcddnikaa
open Go.RowKit
set_option linter.unusedVariables false
set_option linter.unusedSimpArgs false

structure MulAt (w : World) (q gy cy : Nat) (ys : List Nat) (s x : Nat) (W : World) : Prop where
  bel : Below w.heap.size w W
  r0 : W.cell? ⟨w.heap.size, 0, none⟩ = some (.int .i64 0)
  r1 : W.cell? ⟨w.heap.size, 1, none⟩ = some (.int .u64 0)
  s0 : W.cell? ⟨w.heap.size + 1, 0, none⟩ = some (.int .i64 (hiV s))
  s1 : W.cell? ⟨w.heap.size + 1, 1, none⟩ = some (.int .u64 (loV s))
  x0 : W.cell? ⟨q, 0, none⟩ = some (.int .i64 (hiV x))
  x1 : W.cell? ⟨q, 1, none⟩ = some (.int .u64 (loV x))
  fr : ∀ i, W.frozen? ⟨w.heap.size, i, none⟩ = false
  fs : ∀ i, W.frozen? ⟨w.heap.size + 1, i, none⟩ = false
  fx : ∀ i, W.frozen? ⟨q, i, none⟩ = false
  oy : OwnD W 0 (.slice (some ⟨gy, 0, none⟩) 128 cy) ys
  ord : w.heap.size + 1 < gy ∧ gy < q ∧ q < W.heap.size
theorem MulAt.below {w : World} {q gy cy : Nat} {ys : List Nat} {s x : Nat} {W W' : World} (H : MulAt w q gy cy ys s x W) (hb : Below W.heap.size W W') : MulAt w q gy cy ys s x W' := by
  obtain ⟨o1, o2, o3⟩ := H.ord
  exact ⟨H.bel.trans (hb.mono H.bel.size), cell_belowI hb (by omega) H.r0, cell_belowI hb (by omega) H.r1, cell_belowI hb (by omega) H.s0, cell_belowI hb (by omega) H.s1, cell_belowI hb (by omega) H.x0, cell_belowI hb (by omega) H.x1,
    fun i => by rw [hb.frozen (p := ⟨w.heap.size, i, none⟩) (show w.heap.size < W.heap.size by omega)]; exact H.fr i, fun i => by rw [hb.frozen (p := ⟨w.heap.size + 1, i, none⟩) (show w.heap.size + 1 < W.heap.size by omega)]; exact H.fs i, fun i => by rw [hb.frozen (p := ⟨q, i, none⟩) (show q < W.heap.size by omega)]; exact H.fx i,
    H.oy.below hb (Nat.le_refl _), o1, o2, Nat.lt_of_lt_of_le o3 hb.size⟩
theorem cell_set2 {w : World} {b : Nat} {u v u' v' : Value} (h0 : w.cell? ⟨b, 0, none⟩ = some u') (h1 : w.cell? ⟨b, 1, none⟩ = some v') :
    ((w.setCell ⟨b, 0, none⟩ u).setCell ⟨b, 1, none⟩ v).cell? ⟨b, 0, none⟩ = some u ∧ ((w.setCell ⟨b, 0, none⟩ u).setCell ⟨b, 1, none⟩ v).cell? ⟨b, 1, none⟩ = some v := by
  have e1 : (w.setCell ⟨b, 0, none⟩ u).cell? ⟨b, 1, none⟩ = some v' := by rw [World.cell?_setCell_other _ _ _ _ (by intro e; injection e; omega)]; exact h1
  exact ⟨by rw [World.cell?_setCell_other _ _ _ _ (by intro e; injection e; omega), World.cell?_setCell_same _ _ _ h0], World.cell?_setCell_same _ _ _ e1⟩
theorem cell_setO {w : World} {b c o : Nat} {u v : Value} (h : c ≠ b) : ((w.setCell ⟨b, 0, none⟩ u).setCell ⟨b, 1, none⟩ v).cell? ⟨c, o, none⟩ = w.cell? ⟨c, o, none⟩ := by
  rw [World.cell?_setCell_other _ _ _ _ (by intro e; injection e; omega), World.cell?_setCell_other _ _ _ _ (by intro e; injection e; omega)]
theorem MulAt.setS {w : World} {q gy cy : Nat} {ys : List Nat} {s x : Nat} {W : World} (H : MulAt w q gy cy ys s x W) (z : Nat) : MulAt w q gy cy ys z x ((W.setCell ⟨w.heap.size + 1, 0, none⟩ (.int .i64 (hiV z))).setCell ⟨w.heap.size + 1, 1, none⟩ (.int .u64 (loV z))) := by
  obtain ⟨o1, o2, o3⟩ := H.ord
  have h2 := cell_set2 (u := .int .i64 (hiV z)) (v := .int .u64 (loV z)) H.s0 H.s1
  have hg := gr_trans (gr_set W (w.heap.size + 1) 0 (.int .i64 (hiV z))) (gr_set _ (w.heap.size + 1) 1 (.int .u64 (loV z)))
  exact ⟨(H.bel.setCell (by show w.heap.size ≤ w.heap.size + 1; omega) _).setCell (by show w.heap.size ≤ w.heap.size + 1; omega) _, by rw [cell_setO (by omega)]; exact H.r0, by rw [cell_setO (by omega)]; exact H.r1, h2.1, h2.2, by rw [cell_setO (by omega)]; exact H.x0, by rw [cell_setO (by omega)]; exact H.x1,
    fun i => by rw [World.frozen?_setCell, World.frozen?_setCell]; exact H.fr i, fun i => by rw [World.frozen?_setCell, World.frozen?_setCell]; exact H.fs i, fun i => by rw [World.frozen?_setCell, World.frozen?_setCell]; exact H.fx i,
    H.oy.kept hg (.inr (fun e => by simp only [Value.ownBlock, Option.some.injEq] at e; omega)), o1, o2, by rw [World.size_setCell, World.size_setCell]; exact o3⟩
theorem MulAt.setX {w : World} {q gy cy : Nat} {ys : List Nat} {s x : Nat} {W : World} (H : MulAt w q gy cy ys s x W) (z : Nat) : MulAt w q gy cy ys s z ((W.setCell ⟨q, 0, none⟩ (.int .i64 (hiV z))).setCell ⟨q, 1, none⟩ (.int .u64 (loV z))) := by
  obtain ⟨o1, o2, o3⟩ := H.ord
  have h2 := cell_set2 (u := .int .i64 (hiV z)) (v := .int .u64 (loV z)) H.x0 H.x1
  have hg := gr_trans (gr_set W q 0 (.int .i64 (hiV z))) (gr_set _ q 1 (.int .u64 (loV z)))
  exact ⟨(H.bel.setCell (by show w.heap.size ≤ q; omega) _).setCell (by show w.heap.size ≤ q; omega) _, by rw [cell_setO (by omega)]; exact H.r0, by rw [cell_setO (by omega)]; exact H.r1, by rw [cell_setO (by omega)]; exact H.s0, by rw [cell_setO (by omega)]; exact H.s1, h2.1, h2.2,
    fun i => by rw [World.frozen?_setCell, World.frozen?_setCell]; exact H.fr i, fun i => by rw [World.frozen?_setCell, World.frozen?_setCell]; exact H.fs i, fun i => by rw [World.frozen?_setCell, World.frozen?_setCell]; exact H.fx i,
    H.oy.kept hg (.inr (fun e => by simp only [Value.ownBlock, Option.some.injEq] at e; omega)), o1, o2, by rw [World.size_setCell, World.size_setCell]; exact o3⟩
/-- The product's end: what the highest bit says. -/
theorem mul_end {b : Int} {ys : List Nat} (hb1 : -9223372036854775808 ≤ b) (hb2 : b ≤ 9223372036854775807) (hy : numN ys = ofI b) (hl : ys.length = 128) (hbits : Bits ys) :
    (ys.getD 127 0 = 0 → (numN (ys.take 127) : Int) = b) ∧ (ys.getD 127 0 = 1 → (numN (ys.take 127) : Int) - 170141183460469231731687303715884105728 = b) := by
  have h1 := numN_take ys 127 (by omega)
  rw [List.take_of_length_le (by omega), hy] at h1
  have h2 := numN_lt (hbits.take 127)
  rw [List.length_take, hl, Nat.min_eq_left (by omega)] at h2
  have h3 : ofI b = (b % 340282366920938463463374607431768211456).toNat := rfl
  rw [h3] at h1
  refine ⟨fun h => ?_, fun h => ?_⟩
  · rw [h] at h1; omega
  · rw [h] at h1; omega
theorem hiV_zero : hiV 0 = 0 := by unfold hiV wrap64; omega
theorem loV_zero : loV 0 = 0 := rfl
set_option maxRecDepth 100000 in
set_option maxHeartbeats 4000000 in
theorem Mul_any (a b : Int) (w : World) (a1 : -9223372036854775808 ≤ a) (a2 : a ≤ 9223372036854775807) (b1 : -9223372036854775808 ≤ b) (b2 : b ≤ 9223372036854775807) :
    Calls Try.prog 35 #[.int .i64 a, .int .i64 b] w (Gives w (wideV (ofI (a * b)))) := by
  have HOA := Lib.hid (fun W => Of_any a W a1 a2)
  have HOB := Lib.hid (fun W => Of_any b W b1 b2)
  have HDG := Lib.hid (fun W => Digits_any (ofI b) W (ofI_lt b))
  have HAD := Lib.hid (fun n m W hn hm => Add_any n m W hn hm)
  have HNG := Lib.hid (fun n W hn => Neg_any n W hn)
  have HYS := Lib.hid (And.intro (bitsN_length 128 (ofI b)) (And.intro (bitsN_bits 128 (ofI b)) (show numN (bitsN 128 (ofI b)) = ofI b by rw [numN_bitsN]; exact Nat.mod_eq_of_lt (ofI_lt b))))
  have HEND := Lib.hid (mul_end b1 b2 HYS.out.2.2 HYS.out.1 HYS.out.2.1)
  generalize bitsN 128 (ofI b) = ys at *
  have HAI := Lib.hid (show ofI a = ofI (a * ((2 ^ 0 : Nat) : Int)) by simp)
  have HZI := Lib.hid (show (0 : Nat) = ofI (a * ((numN (ys.take 0) : Nat) : Int)) by simp [numN, ofI])
  clear a1 a2 b1 b2
  unfold wideV at HOA HOB HDG HAD HNG ⊢
  have HE := Lib.hid (show Below w.heap.size w (w.alloc (.cells #[.int .i64 0, .int .u64 0] 98)) from by (repeat (first | (with_reducible exact Below.refl _ _) | (with_reducible assumption) | (with_reducible refine Below.alloc ?_ (by (repeat (first | (with_reducible exact Nat.le_refl _) | (with_reducible assumption) | (with_reducible refine le_up ?_) | (with_reducible refine le_alloc ?_) | (with_reducible refine le_setCell ?_) | (with_reducible refine le_drew ?_) | (with_reducible refine le_drewN ?_) | omega))) _) | (with_reducible refine Below.drew ?_) | (with_reducible refine Below.drewN ?_ _) | (with_reducible refine Below.setCell ?_ (by (repeat (first | (with_reducible exact Nat.le_refl _) | (with_reducible assumption) | (with_reducible refine le_up ?_) | (with_reducible refine le_alloc ?_) | (with_reducible refine le_setCell ?_) | (with_reducible refine le_drew ?_) | (with_reducible refine le_drewN ?_) | omega))) _) | (with_reducible refine Below.up ?_ (by (repeat (first | (with_reducible exact Nat.le_refl _) | (with_reducible assumption) | (with_reducible refine le_up ?_) | (with_reducible refine le_alloc ?_) | (with_reducible refine le_setCell ?_) | (with_reducible refine le_drew ?_) | (with_reducible refine le_drewN ?_) | omega)))))))
  go_enter Try.func35, Try.ntmps35
  go_upto_region 2 with fail
  refine wp_gen (fun W => (Below w.heap.size w W ∧ w.heap.size + 2 ≤ W.heap.size) ∧ (W.cell? ⟨w.heap.size, 0, none⟩ = some (.int .i64 0) ∧ W.cell? ⟨w.heap.size, 1, none⟩ = some (.int .u64 0) ∧ W.cell? ⟨w.heap.size + 1, 0, none⟩ = some (.int .i64 0) ∧ W.cell? ⟨w.heap.size + 1, 1, none⟩ = some (.int .u64 0)) ∧ (∀ i, W.frozen? ⟨w.heap.size, i, none⟩ = false) ∧ (∀ i, W.frozen? ⟨w.heap.size + 1, i, none⟩ = false)) ?_ ?_
  · exact ⟨⟨by (repeat (first | (with_reducible exact Below.refl _ _) | (with_reducible assumption) | (with_reducible refine Below.alloc ?_ (by (repeat (first | (with_reducible exact Nat.le_refl _) | (with_reducible assumption) | (with_reducible refine le_up ?_) | (with_reducible refine le_alloc ?_) | (with_reducible refine le_setCell ?_) | (with_reducible refine le_drew ?_) | (with_reducible refine le_drewN ?_) | omega))) _) | (with_reducible refine Below.drew ?_) | (with_reducible refine Below.drewN ?_ _) | (with_reducible refine Below.setCell ?_ (by (repeat (first | (with_reducible exact Nat.le_refl _) | (with_reducible assumption) | (with_reducible refine le_up ?_) | (with_reducible refine le_alloc ?_) | (with_reducible refine le_setCell ?_) | (with_reducible refine le_drew ?_) | (with_reducible refine le_drewN ?_) | omega))) _) | (with_reducible refine Below.up ?_ (by (repeat (first | (with_reducible exact Nat.le_refl _) | (with_reducible assumption) | (with_reducible refine le_up ?_) | (with_reducible refine le_alloc ?_) | (with_reducible refine le_setCell ?_) | (with_reducible refine le_drew ?_) | (with_reducible refine le_drewN ?_) | omega)))))), by simp⟩, ⟨by simp, by simp, by simp, by simp⟩, fun i => by simp, fun i => by simp⟩
  clear HE
  rintro W1 h1
  have H1 := Lib.hid h1
  clear h1
  go_wp2_with (first | (go_at_call 53; (first | with_reducible refine Calls.fold (HOA.out _) ?_ | with_reducible refine Calls.fresh (HOA.out _) ?_); intro x1) | (go_at_call 53; (first | with_reducible refine Calls.fold (HOB.out _) ?_ | with_reducible refine Calls.fresh (HOB.out _) ?_); intro x1))
  refine (HDG.out _).mono ?_
  rintro e3 w3 ⟨gy, cy, rfl, hoy, hby, hgy⟩
  rw [HYS.out.1] at hoy ⊢
  have H3 := Lib.hid (show ((Below w.heap.size w w3 ∧ w.heap.size + 2 ≤ gy ∧ gy < w3.heap.size) ∧ (w3.cell? ⟨w.heap.size, 0, none⟩ = some (.int .i64 0) ∧ w3.cell? ⟨w.heap.size, 1, none⟩ = some (.int .u64 0) ∧ w3.cell? ⟨w.heap.size + 1, 0, none⟩ = some (.int .i64 0) ∧ w3.cell? ⟨w.heap.size + 1, 1, none⟩ = some (.int .u64 0)) ∧ (∀ i, w3.frozen? ⟨w.heap.size, i, none⟩ = false) ∧ (∀ i, w3.frozen? ⟨w.heap.size + 1, i, none⟩ = false)) ∧ OwnD w3 0 (.slice (some ⟨gy, 0, none⟩) 128 cy) ys from by
    obtain ⟨⟨k1, k2⟩, ⟨c1, c2, c3, c4⟩, f1, f2⟩ := H1.out
    have hb : Below W1.heap.size W1 w3 := (up_below W1 x1).trans (hby.mono (up_size _ _))
    have hgl := (hoy.own gy rfl).2
    have := up_size W1 x1
    exact ⟨⟨⟨k1.trans (hb.mono k1.size), by omega, hgl⟩, ⟨cell_belowI hb (by omega) c1, cell_belowI hb (by omega) c2, cell_belowI hb (by omega) c3, cell_belowI hb (by omega) c4⟩,
      fun i => by rw [hb.frozen (p := ⟨w.heap.size, i, none⟩) (show w.heap.size < W1.heap.size by omega)]; exact f1 i, fun i => by rw [hb.frozen (p := ⟨w.heap.size + 1, i, none⟩) (show w.heap.size + 1 < W1.heap.size by omega)]; exact f2 i⟩, hoy.mono (Nat.zero_le _)⟩)
  clear hoy hby hgy H1 HOA HOB HDG
  go_upto_region 3 with fail
  refine wp_gen (MulAt w w3.heap.size gy cy ys 0 (ofI a)) ?_ ?_
  · obtain ⟨⟨⟨k1, k2, k3⟩, ⟨c1, c2, c3, c4⟩, f1, f2⟩, oy⟩ := H3.out
    have hb : Below w3.heap.size w3 (w3.alloc (.cells #[.int .i64 (hiV (ofI a)), .int .u64 (loV (ofI a))] 98)) := (Below.refl _ _).alloc (Nat.le_refl _) _
    exact
      ⟨k1.trans (hb.mono k1.size), cell_belowI hb (by omega) c1, cell_belowI hb (by omega) c2, by rw [hiV_zero]; exact cell_belowI hb (by omega) c3, by rw [loV_zero]; exact cell_belowI hb (by omega) c4, by rw [cell_at]; rfl, by rw [cell_at]; rfl,
        fun i => by rw [hb.frozen (p := ⟨w.heap.size, i, none⟩) (show w.heap.size < w3.heap.size by omega)]; exact f1 i, fun i => by rw [hb.frozen (p := ⟨w.heap.size + 1, i, none⟩) (show w.heap.size + 1 < w3.heap.size by omega)]; exact f2 i, fun i => frozen_at _ _ _ _,
        oy.below hb (Nat.le_refl _), by omega, k3, by simp⟩
  have HQ := Lib.hid (show w.heap.size + 1 < w3.heap.size by have := H3.out.1.1; omega)
  clear H3
  generalize w3.heap.size = q at *
  rintro W4 h4
  have H4 := Lib.hid h4
  clear h4
  go_wp2_with fail
  go_loopw [8] (fun v8 wr => ∃ i : Nat, i ≤ 127 ∧ v8 = .int .i64 (i : Int) ∧ MulAt w q gy cy ys (ofI (a * ((numN (ys.take i) : Nat) : Int))) (ofI (a * ((2 ^ i : Nat) : Int))) wr) (fun v8 _ => 127 - (intOf v8).toNat)
  case atStart => exact ⟨0, by omega, rfl, by rw [← HAI.out, ← HZI.out]; exact H4.out⟩
  case round =>
    clear H4
    obtain ⟨i, hi, rfl, hM⟩ := hrel
    have c0 := hM.oy.cell i (by rw [HYS.out.1]; omega)
    have c127 := hM.oy.cell 127 (by rw [HYS.out.1]; omega)
    haveI : LtSize gy wr := ⟨by have := hM.ord; omega⟩
    haveI : LtSize q wr := ⟨hM.ord.2.2⟩
    haveI : LtSize (w.heap.size + 1) wr := ⟨by have := hM.ord; omega⟩
    have HM := Lib.hid hM
    clear hM
    by_cases hlt : i < 127
    · have hd := HYS.out.2.1.get i
      have hltI : (i : Int) < 127 := by omega
      have hs0 := HM.out.s0
      have hs1 := HM.out.s1
      have hx0 := HM.out.x0
      have hx1 := HM.out.x1
      have HTK := Lib.hid (numN_take ys i (by rw [HYS.out.1]; omega))
      have HX2 := Lib.hid (show (ofI (a * ((2 ^ i : Nat) : Int)) + ofI (a * ((2 ^ i : Nat) : Int))) % 340282366920938463463374607431768211456 = ofI (a * ((2 ^ (i + 1) : Nat) : Int)) from by
        rw [ofI_add, ← Int.mul_add, Nat.pow_succ]
        congr 2
        omega)
      have HS2 := Lib.hid (show (ofI (a * ((numN (ys.take i) : Nat) : Int)) + ofI (a * ((2 ^ i : Nat) : Int))) % 340282366920938463463374607431768211456 = ofI (a * ((numN (ys.take i) + 2 ^ i * 1 : Nat) : Int)) from by
        rw [ofI_add, ← Int.mul_add]
        congr 2
        omega)
      have HS3 := Lib.hid (show ofI (a * ((numN (ys.take i) : Nat) : Int)) = ofI (a * ((numN (ys.take i) + 2 ^ i * 0 : Nat) : Int)) from by simp)
      have HA1 := Lib.hid (fun W => HAD.out (ofI (a * ((numN (ys.take i) : Nat) : Int))) (ofI (a * ((2 ^ i : Nat) : Int))) W (ofI_lt _) (ofI_lt _))
      have HA2 := Lib.hid (fun W => HAD.out (ofI (a * ((2 ^ i : Nat) : Int))) (ofI (a * ((2 ^ i : Nat) : Int))) W (ofI_lt _) (ofI_lt _))
      rw [HX2.out] at HA2
      rw [HS2.out] at HA1
      have HNS1 := Lib.hid (show ys.getD i 0 = 1 → ofI (a * ((numN (ys.take i) + 2 ^ i * 1 : Nat) : Int)) = ofI (a * ((numN (ys.take (i + 1)) : Nat) : Int)) from fun h => by rw [HTK.out, h])
      have HNS0 := Lib.hid (show ys.getD i 0 = 0 → ofI (a * ((numN (ys.take i) : Nat) : Int)) = ofI (a * ((numN (ys.take (i + 1)) : Nat) : Int)) from fun h => by rw [HTK.out, h]; exact HS3.out)
      clear HX2 HS2 HS3 HTK
      generalize hS3e : ofI (a * ((numN (ys.take (i + 1)) : Nat) : Int)) = S3 at *
      have HSE := Lib.hid hS3e
      clear hS3e
      generalize ofI (a * ((numN (ys.take i) + 2 ^ i * 1 : Nat) : Int)) = S2 at *
      generalize hX2e : ofI (a * ((2 ^ (i + 1) : Nat) : Int)) = X2 at *
      have HXE := Lib.hid hX2e
      clear hX2e
      generalize ofI (a * ((numN (ys.take i) : Nat) : Int)) = S at *
      generalize ofI (a * ((2 ^ i : Nat) : Int)) = X at *
      rcases (show ys.getD i 0 = 0 ∨ ys.getD i 0 = 1 by omega) with hd0 | hd1
      · rw [hd0] at c0
        have hSS := HNS0.out hd0
        subst hSS
        go_upto_region 8 with fail
        refine wp_gen (MulAt w q gy cy ys S X) HM.out ?_
        clear HM hs0 hs1 hx0 hx1 c0 c127
        rintro WX hmx
        have HMX := Lib.hid hmx
        clear hmx
        have HA2W := Lib.hid (HA2.out WX)
        have hx0 := HMX.out.x0
        have hx1 := HMX.out.x1
        have fx0 := HMX.out.fx 0
        have fx1 := HMX.out.fx 1
        haveI : LtSize q WX := ⟨HMX.out.ord.2.2⟩
        go_wp2_with fail
        refine HA2W.out.mono ?_
        rintro e7 w7 ⟨rfl, y7, rfl⟩
        have HMZ := Lib.hid ((HMX.out.below (up_below WX y7)).setX X2)
        clear HA2W HMX
        go_wp2_with fail
        exact ⟨⟨i + 1, by omega, (by first | rfl | go_num), (by rw [HXE.out, HSE.out]; exact HMZ.out)⟩, by simp [intOf]; omega⟩
      · rw [hd1] at c0
        have hSS := HNS1.out hd1
        subst hSS
        have HA1W := Lib.hid (HA1.out wr)
        have fs0 := HM.out.fs 0
        have fs1 := HM.out.fs 1
        go_wp2_with fail
        refine HA1W.out.mono ?_
        rintro e6 w6 ⟨rfl, y6, rfl⟩
        go_upto_region 8 with fail
        refine wp_gen (MulAt w q gy cy ys S2 X) ((HM.out.below (up_below wr y6)).setS S2) ?_
        clear HM HA1W hs0 hs1 hx0 hx1 c0 c127
        rintro WX hmx
        have HMX := Lib.hid hmx
        clear hmx
        have HA2W := Lib.hid (HA2.out WX)
        have hx0 := HMX.out.x0
        have hx1 := HMX.out.x1
        have fx0 := HMX.out.fx 0
        have fx1 := HMX.out.fx 1
        haveI : LtSize q WX := ⟨HMX.out.ord.2.2⟩
        go_wp2_with fail
        refine HA2W.out.mono ?_
        rintro e7 w7 ⟨rfl, y7, rfl⟩
        have HMZ := Lib.hid ((HMX.out.below (up_below WX y7)).setX X2)
        clear HA2W HMX
        go_wp2_with fail
        exact ⟨⟨i + 1, by omega, (by first | rfl | go_num), (by rw [HXE.out, HSE.out]; exact HMZ.out)⟩, by simp [intOf]; omega⟩
    · obtain rfl : i = 127 := by omega
      rw [show ((127 : Nat) : Int) = 127 from rfl]
      have hd := HYS.out.2.1.get 127
      have HTE := Lib.hid HEND.out
      generalize hS : ofI (a * ((numN (ys.take 127) : Nat) : Int)) = S at *
      generalize hX : ofI (a * ((2 ^ 127 : Nat) : Int)) = X at *
      have HSX := Lib.hid (And.intro hS hX)
      clear hS hX c0
      rcases (show ys.getD 127 0 = 0 ∨ ys.getD 127 0 = 1 by omega) with hd0 | hd1
      · rw [hd0] at c127
        have hz : ofI (a * b) = S := by
          rw [← HSX.out.1, HTE.out.1 hd0]
        obtain ⟨zz, hzz⟩ : ∃ z, z = S := ⟨_, rfl⟩
        rw [← hzz] at HM hz
        have HZZ := Lib.hid hz
        clear hzz hz
        go_upto_region 11 with fail
        refine wp_gen (MulAt w q gy cy ys zz X) HM.out ?_
        clear HM c127
        rintro WL hml
        have HMA := Lib.hid hml
        clear hml
        have r0 := HMA.out.r0
        have r1 := HMA.out.r1
        have s0 := HMA.out.s0
        have s1 := HMA.out.s1
        have f0 := HMA.out.fr 0
        have f1 := HMA.out.fr 1
        haveI : LtSize w.heap.size WL := ⟨by have := HMA.out.ord; omega⟩
        haveI : LtSize (w.heap.size + 1) WL := ⟨by have := HMA.out.ord; omega⟩
        have HBL := Lib.hid HMA.out.bel
        clear HMA
        generalize hzh : hiV zz = zh at *
        generalize hzl : loV zz = zl at *
        have HZH := Lib.hid (And.intro hzh hzl)
        clear hzh hzl
        go_wp2_with fail
        refine bodyPost_ret (v := .agg #[.int .i64 zh, .int .u64 zl]) ?_ rfl (Gives.mk (by first | rw [HZZ.out, HZH.out.1, HZH.out.2] | with_reducible rfl) ?_)
        · simp only [results, show Try.f35.results = #[ResultVar.cell 4 98] from rfl]
          go_simp
        · exact Below.setCell (Below.setCell HBL.out (Nat.le_refl _) _) (Nat.le_refl _) _
      · rw [hd1] at c127
        have hz : (S + (340282366920938463463374607431768211456 - X) % 340282366920938463463374607431768211456) % 340282366920938463463374607431768211456 = ofI (a * b) := by
          rw [← HSX.out.1, ← HSX.out.2, ofI_neg, ofI_add, ← Int.mul_neg, ← Int.mul_add]
          congr 2
          have := HTE.out.2 hd1
          rw [← this]
          omega
        have hSl : S < 340282366920938463463374607431768211456 := HSX.out.1 ▸ ofI_lt _
        have hXl : X < 340282366920938463463374607431768211456 := HSX.out.2 ▸ ofI_lt _
        have HNX := Lib.hid (fun W => HNG.out X W hXl)
        have hYl : (340282366920938463463374607431768211456 - X) % 340282366920938463463374607431768211456 < 340282366920938463463374607431768211456 := Nat.mod_lt _ (by decide)
        generalize (340282366920938463463374607431768211456 - X) % 340282366920938463463374607431768211456 = Y at *
        have HA3 := Lib.hid (fun W => HAD.out S Y W hSl hYl)
        rw [hz] at HA3
        clear hz hSl hXl hYl
        generalize hzz : ofI (a * b) = zz at *
        have HZZ := Lib.hid hzz
        clear hzz
        have HMD := Lib.hid (show MulAt w q gy cy ys S X wr.drew from HM.out.below (Below.drew (Below.refl _ _)))
        have hs0 := HMD.out.s0
        have hs1 := HMD.out.s1
        have hx0 := HMD.out.x0
        have hx1 := HMD.out.x1
        have HS0 := Lib.hid (show wr.drew.cell? ⟨w.heap.size + 1, 0, none⟩ = some (.int .i64 (hiV S)) ∧ wr.drew.cell? ⟨w.heap.size + 1, 1, none⟩ = some (.int .u64 (loV S)) ∧ wr.drew.cell? ⟨q, 0, none⟩ = some (.int .i64 (hiV X)) ∧ wr.drew.cell? ⟨q, 1, none⟩ = some (.int .u64 (loV X)) from ⟨hs0, hs1, hx0, hx1⟩)
        have HNXW := Lib.hid (HNX.out wr.drew)
        clear HM hs0 hs1 hx0 hx1
        go_upto_region 10 with fail
        refine wp_region_slim [3, 4] [(0, 0), (1, 0), (2, 1), (3, 2), (4, 2)] (fun Z => Z.cell? ⟨w.heap.size + 1, 0, none⟩ = some (.int .i64 (hiV S)) ∧ Z.cell? ⟨w.heap.size + 1, 1, none⟩ = some (.int .u64 (loV S)) ∧ Z.cell? ⟨q, 0, none⟩ = some (.int .i64 (hiV X)) ∧ Z.cell? ⟨q, 1, none⟩ = some (.int .u64 (loV X))) (by kernel_rfl) (by kernel_rfl) (fun d v c a w h => by cases d <;> exact h) HS0.out ?_
        simp only [List.map_cons, List.map_nil, slim]
        refine wpSched_still ?sv1 rfl (by rfl) (fun W hW => ?sh1) ?sr1; (case sh1 => (obtain ⟨h1, h2, h3, h4⟩ := hW; go_simp; try (with_reducible rfl))); simp only [Act.put, List.getElem_toArray, List.getElem_cons_zero, List.getElem_cons_succ, List.setIfInBounds_toArray, List.set_cons_zero, List.set_cons_succ]
        refine wpSched_still ?sv2 rfl (by rfl) (fun W hW => ?sh2) ?sr2; (case sh2 => (obtain ⟨h1, h2, h3, h4⟩ := hW; go_simp; try (with_reducible rfl))); simp only [Act.put, List.getElem_toArray, List.getElem_cons_zero, List.getElem_cons_succ, List.setIfInBounds_toArray, List.set_cons_zero, List.set_cons_succ]
        refine wpSched_eff rfl (by rfl) (fun K hK => ?_); go_simp
        refine HNXW.out.mono ?_
        rintro e5 w5 ⟨rfl, y5, rfl⟩
        have HM5 := Lib.hid (HMD.out.below (up_below wr.drew y5))
        refine hK _ _ ⟨HM5.out.s0, HM5.out.s1, HM5.out.x0, HM5.out.x1⟩ ?_
        clear hK K HMD HNXW
        have HA3W := Lib.hid (HA3.out (up wr.drew y5))
        refine wpSched_tail rfl (by rfl) (fun K hK => ?_); go_simp
        refine HA3W.out.mono ?_
        rintro e6 w6 ⟨rfl, y6, rfl⟩
        refine hK _ _ ?_
        clear hK K
        have HM6 := Lib.hid (HM5.out.below (up_below _ y6))
        have f50 := HM6.out.fs 0
        have f51 := HM6.out.fs 1
        have g50 := HM6.out.s0
        have g51 := HM6.out.s1
        clear HA3W HM5
        refine wpSched_tail rfl (by rfl) (fun K hK => ?_); go_simp
        refine hK _ _ ?_
        clear hK K
        refine wpSched_nil ?_
        go_upto_region 11 with fail
        refine wp_gen (MulAt w q gy cy ys zz X) (HM6.out.setS zz) ?_
        clear HM6 f50 f51 g50 g51 c127 HS0
        rintro WL hml
        have HMA := Lib.hid hml
        clear hml
        have r0 := HMA.out.r0
        have r1 := HMA.out.r1
        have s0 := HMA.out.s0
        have s1 := HMA.out.s1
        have f0 := HMA.out.fr 0
        have f1 := HMA.out.fr 1
        haveI : LtSize w.heap.size WL := ⟨by have := HMA.out.ord; omega⟩
        haveI : LtSize (w.heap.size + 1) WL := ⟨by have := HMA.out.ord; omega⟩
        have HBL := Lib.hid HMA.out.bel
        clear HMA
        generalize hzh : hiV zz = zh at *
        generalize hzl : loV zz = zl at *
        have HZH := Lib.hid (And.intro hzh hzl)
        clear hzh hzl
        go_wp2_with fail
        refine bodyPost_ret (v := .agg #[.int .i64 zh, .int .u64 zl]) ?_ rfl (Gives.mk (by first | rw [HZZ.out, HZH.out.1, HZH.out.2] | with_reducible rfl) ?_)
        · simp only [results, show Try.f35.results = #[ResultVar.cell 4 98] from rfl]
          go_simp
        · exact Below.setCell (Below.setCell HBL.out (Nat.le_refl _) _) (Nat.le_refl _) _
theorem clipV_sub (a b : Int) : clipV (a - b) = subV a b := rfl
end Go.Proofs.Ytihalkpcddnikaa
