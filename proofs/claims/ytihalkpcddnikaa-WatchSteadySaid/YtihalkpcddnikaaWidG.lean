/-
  Numbers of 128 bits: negated, compared, clipped.
-/
import Derived.Test.YtihalkpcddnikaaWidF
namespace Go.Proofs.Ytihalkpcddnikaa
open Go.RowKit
set_option linter.unusedVariables false
set_option linter.unusedSimpArgs false

def flipN (i : Nat) (xs : List Nat) : List Nat := (xs.take i).map (fun d => 1 - d) ++ xs.drop i
theorem flipN_length (i : Nat) (xs : List Nat) : (flipN i xs).length = xs.length := by unfold flipN; simp; omega
theorem flipN_get {i : Nat} {xs : List Nat} (h : i < xs.length) : (flipN i xs).getD i 0 = xs.getD i 0 := by
  unfold flipN
  rw [List.getD_eq_getElem?_getD, List.getElem?_append_right (by simp; omega), List.getD_eq_getElem?_getD]
  simp [Nat.min_eq_left (Nat.le_of_lt h)]
theorem flipN_set {i : Nat} {xs : List Nat} (h : i < xs.length) : (flipN i xs).set i (1 - xs.getD i 0) = flipN (i + 1) xs := by
  unfold flipN
  have hl : ((xs.take i).map (fun d => 1 - d)).length = i := by simp; omega
  rw [List.set_append_right _ _ (by omega), hl, Nat.sub_self, List.drop_eq_getElem_cons h, List.set_cons_zero, take_end xs i h, List.map_append, List.append_assoc]
  rfl
theorem flipN_all (xs : List Nat) : flipN xs.length xs = xs.map (fun d => 1 - d) := by unfold flipN; simp
theorem numN_flip : ∀ {xs : List Nat}, Bits xs → numN (xs.map (fun d => 1 - d)) + numN xs + 1 = 2 ^ xs.length
  | [], _ => by simp [numN]
  | d :: xs, h => by
    have h1 := numN_flip (xs := xs) (fun x hx => h x (List.mem_cons_of_mem _ hx))
    have h2 := h d (List.mem_cons_self ..)
    rw [List.map_cons, numN, numN, List.length_cons, Nat.pow_succ]
    omega
structure NegAt (w : World) (W : World) : Prop where
  bel : Below w.heap.size w W
  r0 : W.cell? ⟨w.heap.size + 1, 0, none⟩ = some (.int .i64 0)
  r1 : W.cell? ⟨w.heap.size + 1, 1, none⟩ = some (.int .u64 0)
  f : ∀ i, W.frozen? ⟨w.heap.size + 1, i, none⟩ = false
  sz : w.heap.size + 2 ≤ W.heap.size
theorem NegAt.below {w W W' : World} (H : NegAt w W) (hb : Below W.heap.size W W') : NegAt w W' := by
  have := H.sz
  exact ⟨H.bel.trans (hb.mono H.bel.size), cell_belowI hb (by omega) H.r0, cell_belowI hb (by omega) H.r1, fun i => by rw [hb.frozen (p := ⟨w.heap.size + 1, i, none⟩) (show w.heap.size + 1 < W.heap.size by omega)]; exact H.f i, Nat.le_trans this hb.size⟩
theorem NegAt.set {w W : World} (H : NegAt w W) {g : Nat} (hg : w.heap.size + 2 ≤ g) (i : Nat) (v : Value) : NegAt w (W.setCell ⟨g, i, none⟩ v) := by
  have h := gr_set W g i v
  have hsz := H.sz
  exact ⟨H.bel.grown h H.bel.size (fun b e => by simp at e; omega), kept_cellR H.r0 h (by simp; omega), kept_cellR H.r1 h (by simp; omega), fun i => by rw [World.frozen?_setCell]; exact H.f i, by rw [World.size_setCell]; exact hsz⟩
set_option maxRecDepth 100000 in
set_option maxHeartbeats 3200000 in
theorem Neg_any (n : Nat) (w : World) (hn : n < 340282366920938463463374607431768211456) :
    Calls Try.prog 56 #[wideV n] w (Gives w (wideV ((340282366920938463463374607431768211456 - n) % 340282366920938463463374607431768211456))) := by
  have HDN := Lib.hid (fun W => Digits_any n W hn)
  have HOF := Lib.hid (fun W => Of_any 1 W (by omega) (by omega))
  unfold wideV at HDN ⊢
  have HE := Lib.hid (show NegAt w ((w.alloc (.cells #[.int .i64 (hiV n), .int .u64 (loV n)] 98)).alloc (.cells #[.int .i64 0, .int .u64 0] 98)) from
    ⟨by (repeat (first | (with_reducible exact Below.refl _ _) | (with_reducible assumption) | (with_reducible refine Below.alloc ?_ (by (repeat (first | (with_reducible exact Nat.le_refl _) | (with_reducible assumption) | (with_reducible refine le_up ?_) | (with_reducible refine le_alloc ?_) | (with_reducible refine le_setCell ?_) | (with_reducible refine le_drew ?_) | (with_reducible refine le_drewN ?_) | omega))) _) | (with_reducible refine Below.drew ?_) | (with_reducible refine Below.drewN ?_ _) | (with_reducible refine Below.setCell ?_ (by (repeat (first | (with_reducible exact Nat.le_refl _) | (with_reducible assumption) | (with_reducible refine le_up ?_) | (with_reducible refine le_alloc ?_) | (with_reducible refine le_setCell ?_) | (with_reducible refine le_drew ?_) | (with_reducible refine le_drewN ?_) | omega))) _) | (with_reducible refine Below.up ?_ (by (repeat (first | (with_reducible exact Nat.le_refl _) | (with_reducible assumption) | (with_reducible refine le_up ?_) | (with_reducible refine le_alloc ?_) | (with_reducible refine le_setCell ?_) | (with_reducible refine le_drew ?_) | (with_reducible refine le_drewN ?_) | omega)))))), by rw [cell_at]; rfl, by rw [cell_at]; rfl, fun i => frozen_at _ _ _ _, by simp⟩)
  go_enter Try.func56, Try.ntmps56
  go_wp2_with fail
  refine (HDN.out _).mono ?_
  rintro e1 w1 ⟨g, cap, rfl, ho, hb, hg⟩
  rw [bitsN_length] at ho ⊢
  have HNX := Lib.hid (show numN (bitsN 128 n) = n from by rw [numN_bitsN]; exact Nat.mod_eq_of_lt hn)
  have HXL := Lib.hid (And.intro (bitsN_length 128 n) (bitsN_bits 128 n))
  have HG := Lib.hid (show w.heap.size + 2 ≤ g by have := HE.out.sz; omega)
  have H1 := Lib.hid (show NegAt w w1 ∧ OwnD w1 0 (.slice (some ⟨g, 0, none⟩) 128 cap) (flipN 0 (bitsN 128 n)) from ⟨HE.out.below hb, by unfold flipN; simpa using ho.mono (Nat.zero_le _)⟩)
  clear ho hb hg hn HDN HE
  generalize bitsN 128 n = xs at *
  go_wp2_with fail
  go_loopw [4] (fun v4 wr => ∃ i : Nat, i ≤ 128 ∧ v4 = .int .i64 (i : Int) ∧ NegAt w wr ∧ OwnD wr 0 (.slice (some ⟨g, 0, none⟩) 128 cap) (flipN i xs)) (fun v4 _ => 128 - (intOf v4).toNat)
  case atStart => exact ⟨0, by omega, rfl, H1.out⟩
  case round =>
    clear H1
    obtain ⟨i, hi, rfl, hN, hO⟩ := hrel
    by_cases hlt : i < 128
    · have hd := HXL.out.2.get i
      have hfl := flipN_length i xs
      have c0 := hO.cell i (by rw [hfl, HXL.out.1]; exact hlt)
      rw [flipN_get (by rw [HXL.out.1]; exact hlt)] at c0
      have f0 := hO.free i
      haveI : LtSize g wr := ⟨(hO.own g rfl).2⟩
      have hltI : (i : Int) < 128 := by omega
      have HST := Lib.hid (show OwnD (wr.setCell ⟨g, i, none⟩ (.int .i64 (((1 - xs.getD i 0 : Nat)) : Int))) 0 (.slice (some ⟨g, 0, none⟩) 128 cap) (flipN (i + 1) xs) from by
        have := hO.store i (1 - xs.getD i 0)
        rwa [flipN_set (by rw [HXL.out.1]; exact hlt)] at this)
      have HN2 := Lib.hid (hN.set HG.out i (.int .i64 (((1 - xs.getD i 0 : Nat)) : Int)))
      clear hN hO hfl
      generalize xs.getD i 0 = d at *
      have hw : IntKind.i64.wrap (1 - (d : Int)) = ((1 - d : Nat) : Int) := by rw [IntKind.wrap_i64]; omega
      generalize 1 - d = d2 at *
      go_wp2_with fail
      exact ⟨⟨i + 1, by omega, (by first | rfl | go_num), HN2.out, HST.out⟩, by simp [intOf]; omega⟩
    · obtain rfl : i = 128 := by omega
      rw [show ((128 : Nat) : Int) = 128 from rfl]
      have hall : flipN 128 xs = xs.map (fun d => 1 - d) := by have := flipN_all xs; rwa [HXL.out.1] at this
      rw [hall] at hO
      have HNF := Lib.hid (show numN (xs.map (fun d => 1 - d)) + n + 1 = 340282366920938463463374607431768211456 from by
        have := numN_flip HXL.out.2
        rwa [HNX.out, HXL.out.1] at this)
      have HNR := Lib.hid (Number_any _ (xs.map (fun d => 1 - d)) 0 wr hO (fun d hd => by
        obtain ⟨e, _, rfl⟩ := List.mem_map.1 hd; omega) (by rw [List.length_map, HXL.out.1]))
      have HNA := Lib.hid hN
      generalize numN (xs.map (fun d => 1 - d)) = z at *
      have HAD := Lib.hid (fun W => Add_any z (ofI 1) W (by have := HNF.out; omega) (ofI_lt 1))
      have hz : (z + ofI 1) % 340282366920938463463374607431768211456 = (340282366920938463463374607431768211456 - n) % 340282366920938463463374607431768211456 := by
        have := HNF.out
        rw [show ofI 1 = 1 from rfl]; omega
      rw [hz] at HAD
      clear hN hO hall hz
      generalize (340282366920938463463374607431768211456 - n) % 340282366920938463463374607431768211456 = zz at *
      unfold wideV at HNR HOF HAD
      have r0 := HNA.out.r0
      have r1 := HNA.out.r1
      have f0 := HNA.out.f 0
      have f1 := HNA.out.f 1
      haveI : LtSize (w.heap.size + 1) wr := ⟨by have := HNA.out.sz; omega⟩
      go_wp2_with (first | (go_at_call 70; (first | with_reducible refine Calls.fold (HNR.out) ?_ | with_reducible refine Calls.fresh (HNR.out) ?_); intro x1) | (go_at_call 53; (first | with_reducible refine Calls.fold (HOF.out _) ?_ | with_reducible refine Calls.fresh (HOF.out _) ?_); intro x1) | (go_at_call 55; (first | with_reducible refine Calls.fold (HAD.out _) ?_ | with_reducible refine Calls.fresh (HAD.out _) ?_); intro x1))
      refine bodyPost_ret (v := wideV zz) ?_ rfl (Gives.mk rfl ?_)
      · simp only [results, show Try.f56.results = #[ResultVar.cell 2 98] from rfl]
        unfold wideV
        go_simp
      · have hbel := HNA.out.bel
        have hle := hbel.size
        exact Below.setCell (Below.setCell (Below.up hbel hle) (by show w.heap.size ≤ w.heap.size + 1; omega) _) (by show w.heap.size ≤ w.heap.size + 1; omega) _
set_option maxRecDepth 100000 in
theorem Less_any (n m : Nat) (w : World) (hn : n < 340282366920938463463374607431768211456) (hm : m < 340282366920938463463374607431768211456) :
    Calls Try.prog 52 #[wideV n, wideV m] w (Gives w (.bool (decide (toI n < toI m)))) := by
  rw [← lessW n m hn hm]
  unfold wideV
  generalize hiV n = h1
  generalize loV n = l1
  generalize hiV m = h2
  generalize loV m = l2
  clear hn hm
  by_cases hlt : h1 < h2
  · rw [decide_eq_true hlt, Bool.true_or]
    go_enter Try.func52, Try.ntmps52
    go_wp2_with fail
    go_ret
    exact Gives.mk rfl (by (repeat (first | (with_reducible exact Below.refl _ _) | (with_reducible assumption) | (with_reducible refine Below.alloc ?_ (by (repeat (first | (with_reducible exact Nat.le_refl _) | (with_reducible assumption) | (with_reducible refine le_up ?_) | (with_reducible refine le_alloc ?_) | (with_reducible refine le_setCell ?_) | (with_reducible refine le_drew ?_) | (with_reducible refine le_drewN ?_) | omega))) _) | (with_reducible refine Below.drew ?_) | (with_reducible refine Below.drewN ?_ _) | (with_reducible refine Below.setCell ?_ (by (repeat (first | (with_reducible exact Nat.le_refl _) | (with_reducible assumption) | (with_reducible refine le_up ?_) | (with_reducible refine le_alloc ?_) | (with_reducible refine le_setCell ?_) | (with_reducible refine le_drew ?_) | (with_reducible refine le_drewN ?_) | omega))) _) | (with_reducible refine Below.up ?_ (by (repeat (first | (with_reducible exact Nat.le_refl _) | (with_reducible assumption) | (with_reducible refine le_up ?_) | (with_reducible refine le_alloc ?_) | (with_reducible refine le_setCell ?_) | (with_reducible refine le_drew ?_) | (with_reducible refine le_drewN ?_) | omega)))))))
  · by_cases heq : h1 = h2
    · subst heq
      by_cases hl : l1 < l2
      · rw [decide_eq_false hlt, decide_eq_true rfl, decide_eq_true hl]
        go_enter Try.func52, Try.ntmps52
        go_wp2_with fail
        go_ret
        exact Gives.mk rfl (by (repeat (first | (with_reducible exact Below.refl _ _) | (with_reducible assumption) | (with_reducible refine Below.alloc ?_ (by (repeat (first | (with_reducible exact Nat.le_refl _) | (with_reducible assumption) | (with_reducible refine le_up ?_) | (with_reducible refine le_alloc ?_) | (with_reducible refine le_setCell ?_) | (with_reducible refine le_drew ?_) | (with_reducible refine le_drewN ?_) | omega))) _) | (with_reducible refine Below.drew ?_) | (with_reducible refine Below.drewN ?_ _) | (with_reducible refine Below.setCell ?_ (by (repeat (first | (with_reducible exact Nat.le_refl _) | (with_reducible assumption) | (with_reducible refine le_up ?_) | (with_reducible refine le_alloc ?_) | (with_reducible refine le_setCell ?_) | (with_reducible refine le_drew ?_) | (with_reducible refine le_drewN ?_) | omega))) _) | (with_reducible refine Below.up ?_ (by (repeat (first | (with_reducible exact Nat.le_refl _) | (with_reducible assumption) | (with_reducible refine le_up ?_) | (with_reducible refine le_alloc ?_) | (with_reducible refine le_setCell ?_) | (with_reducible refine le_drew ?_) | (with_reducible refine le_drewN ?_) | omega)))))))
      · rw [decide_eq_false hlt, decide_eq_true rfl, decide_eq_false hl]
        go_enter Try.func52, Try.ntmps52
        go_wp2_with fail
        go_ret
        exact Gives.mk rfl (by (repeat (first | (with_reducible exact Below.refl _ _) | (with_reducible assumption) | (with_reducible refine Below.alloc ?_ (by (repeat (first | (with_reducible exact Nat.le_refl _) | (with_reducible assumption) | (with_reducible refine le_up ?_) | (with_reducible refine le_alloc ?_) | (with_reducible refine le_setCell ?_) | (with_reducible refine le_drew ?_) | (with_reducible refine le_drewN ?_) | omega))) _) | (with_reducible refine Below.drew ?_) | (with_reducible refine Below.drewN ?_ _) | (with_reducible refine Below.setCell ?_ (by (repeat (first | (with_reducible exact Nat.le_refl _) | (with_reducible assumption) | (with_reducible refine le_up ?_) | (with_reducible refine le_alloc ?_) | (with_reducible refine le_setCell ?_) | (with_reducible refine le_drew ?_) | (with_reducible refine le_drewN ?_) | omega))) _) | (with_reducible refine Below.up ?_ (by (repeat (first | (with_reducible exact Nat.le_refl _) | (with_reducible assumption) | (with_reducible refine le_up ?_) | (with_reducible refine le_alloc ?_) | (with_reducible refine le_setCell ?_) | (with_reducible refine le_drew ?_) | (with_reducible refine le_drewN ?_) | omega)))))))
    · rw [decide_eq_false hlt, decide_eq_false heq]
      have hb : (h1 == h2) = false := by simpa using heq
      go_enter Try.func52, Try.ntmps52
      go_wp2_with fail
      go_ret
      exact Gives.mk rfl (by (repeat (first | (with_reducible exact Below.refl _ _) | (with_reducible assumption) | (with_reducible refine Below.alloc ?_ (by (repeat (first | (with_reducible exact Nat.le_refl _) | (with_reducible assumption) | (with_reducible refine le_up ?_) | (with_reducible refine le_alloc ?_) | (with_reducible refine le_setCell ?_) | (with_reducible refine le_drew ?_) | (with_reducible refine le_drewN ?_) | omega))) _) | (with_reducible refine Below.drew ?_) | (with_reducible refine Below.drewN ?_ _) | (with_reducible refine Below.setCell ?_ (by (repeat (first | (with_reducible exact Nat.le_refl _) | (with_reducible assumption) | (with_reducible refine le_up ?_) | (with_reducible refine le_alloc ?_) | (with_reducible refine le_setCell ?_) | (with_reducible refine le_drew ?_) | (with_reducible refine le_drewN ?_) | omega))) _) | (with_reducible refine Below.up ?_ (by (repeat (first | (with_reducible exact Nat.le_refl _) | (with_reducible assumption) | (with_reducible refine le_up ?_) | (with_reducible refine le_alloc ?_) | (with_reducible refine le_setCell ?_) | (with_reducible refine le_drew ?_) | (with_reducible refine le_drewN ?_) | omega)))))))
set_option maxRecDepth 100000 in
set_option maxHeartbeats 3200000 in
theorem Clip_any (n : Nat) (w : World) (hn : n < 340282366920938463463374607431768211456) :
    Calls Try.prog 34 #[wideV n] w (Gives w (.tuple #[.int .i64 (clipV (toI n)), .bool (clipO (toI n))])) := by
  have HO1 := Lib.hid (fun W => Of_any (-9223372036854775808) W (by omega) (by omega))
  have HO2 := Lib.hid (fun W => Of_any 9223372036854775807 W (by omega) (by omega))
  have HL1 := Lib.hid (fun W => Less_any n (ofI (-9223372036854775808)) W hn (ofI_lt _))
  have HL2 := Lib.hid (fun W => Less_any (ofI 9223372036854775807) n W (ofI_lt _) hn)
  rw [toI_ofI (by omega) (by omega)] at HL1 HL2
  have HLO := Lib.hid (lo_clip n hn)
  have hcv : clipV (toI n) = max (-9223372036854775808) (min 9223372036854775807 (toI n)) := rfl
  have hco : clipO (toI n) = decide (toI n < -9223372036854775808 ∨ 9223372036854775807 < toI n) := rfl
  unfold wideV at HO1 HO2 HL1 HL2 ⊢
  rw [hcv, hco]
  clear hcv hco hn
  generalize toI n = x at *
  generalize hiV n = h1 at *
  generalize loV n = l1 at *
  by_cases hx1 : x < -9223372036854775808
  · have HR := Lib.hid (show max (-9223372036854775808) (min 9223372036854775807 x) = -9223372036854775808 ∧ decide (x < -9223372036854775808 ∨ 9223372036854775807 < x) = true by
      refine ⟨by omega, by simp; omega⟩)
    rw [HR.out.1, HR.out.2]
    rw [decide_eq_true hx1] at HL1
    clear HR HLO HO2 HL2
    go_enter Try.func34, Try.ntmps34
    go_wp2_with (refine wp_region_up (by kernel_rfl) (by kernel_rfl) ?_; (repeat (go_big_quiet_step (first | (go_at_call 53; exact Calls.up_gives (HO1.out _)) | (go_at_call 52; exact Calls.up_gives (HL1.out _))))); refine wpQuiet_nil ?_; intro _ hw'; obtain ⟨xq, hw''⟩ := hw'; subst hw'')
    go_ret2
    exact Gives.mk rfl (by (repeat (first | (with_reducible exact Below.refl _ _) | (with_reducible assumption) | (with_reducible refine Below.alloc ?_ (by (repeat (first | (with_reducible exact Nat.le_refl _) | (with_reducible assumption) | (with_reducible refine le_up ?_) | (with_reducible refine le_alloc ?_) | (with_reducible refine le_setCell ?_) | (with_reducible refine le_drew ?_) | (with_reducible refine le_drewN ?_) | omega))) _) | (with_reducible refine Below.drew ?_) | (with_reducible refine Below.drewN ?_ _) | (with_reducible refine Below.setCell ?_ (by (repeat (first | (with_reducible exact Nat.le_refl _) | (with_reducible assumption) | (with_reducible refine le_up ?_) | (with_reducible refine le_alloc ?_) | (with_reducible refine le_setCell ?_) | (with_reducible refine le_drew ?_) | (with_reducible refine le_drewN ?_) | omega))) _) | (with_reducible refine Below.up ?_ (by (repeat (first | (with_reducible exact Nat.le_refl _) | (with_reducible assumption) | (with_reducible refine le_up ?_) | (with_reducible refine le_alloc ?_) | (with_reducible refine le_setCell ?_) | (with_reducible refine le_drew ?_) | (with_reducible refine le_drewN ?_) | omega)))))))
  · rw [decide_eq_false hx1] at HL1
    by_cases hx2 : 9223372036854775807 < x
    · have HR := Lib.hid (show max (-9223372036854775808) (min 9223372036854775807 x) = 9223372036854775807 ∧ decide (x < -9223372036854775808 ∨ 9223372036854775807 < x) = true by
        refine ⟨by omega, by simp; omega⟩)
      rw [HR.out.1, HR.out.2]
      rw [decide_eq_true hx2] at HL2
      clear HR HLO
      go_enter Try.func34, Try.ntmps34
      go_wp2_with (refine wp_region_up (by kernel_rfl) (by kernel_rfl) ?_; (repeat (go_big_quiet_step (first | (go_at_call 53; with_reducible exact Calls.up_gives (HO1.out _)) | (go_at_call 53; with_reducible exact Calls.up_gives (HO2.out _)) | (go_at_call 52; with_reducible exact Calls.up_gives (HL1.out _)) | (go_at_call 52; with_reducible exact Calls.up_gives (HL2.out _))))); refine wpQuiet_nil ?_; intro _ hw'; obtain ⟨xq, hw''⟩ := hw'; subst hw'')
      go_ret2
      exact Gives.mk rfl (by (repeat (first | (with_reducible exact Below.refl _ _) | (with_reducible assumption) | (with_reducible refine Below.alloc ?_ (by (repeat (first | (with_reducible exact Nat.le_refl _) | (with_reducible assumption) | (with_reducible refine le_up ?_) | (with_reducible refine le_alloc ?_) | (with_reducible refine le_setCell ?_) | (with_reducible refine le_drew ?_) | (with_reducible refine le_drewN ?_) | omega))) _) | (with_reducible refine Below.drew ?_) | (with_reducible refine Below.drewN ?_ _) | (with_reducible refine Below.setCell ?_ (by (repeat (first | (with_reducible exact Nat.le_refl _) | (with_reducible assumption) | (with_reducible refine le_up ?_) | (with_reducible refine le_alloc ?_) | (with_reducible refine le_setCell ?_) | (with_reducible refine le_drew ?_) | (with_reducible refine le_drewN ?_) | omega))) _) | (with_reducible refine Below.up ?_ (by (repeat (first | (with_reducible exact Nat.le_refl _) | (with_reducible assumption) | (with_reducible refine le_up ?_) | (with_reducible refine le_alloc ?_) | (with_reducible refine le_setCell ?_) | (with_reducible refine le_drew ?_) | (with_reducible refine le_drewN ?_) | omega)))))))
    · have HR := Lib.hid (show max (-9223372036854775808) (min 9223372036854775807 x) = wrap64 l1 ∧ decide (x < -9223372036854775808 ∨ 9223372036854775807 < x) = false by
        rw [HLO.out (by omega) (by omega)]
        refine ⟨by omega, by simp; omega⟩)
      rw [HR.out.1, HR.out.2]
      rw [decide_eq_false hx2] at HL2
      clear HR HLO
      go_enter Try.func34, Try.ntmps34
      go_wp2_with (refine wp_region_up (by kernel_rfl) (by kernel_rfl) ?_; (repeat (go_big_quiet_step (first | (go_at_call 53; with_reducible exact Calls.up_gives (HO1.out _)) | (go_at_call 53; with_reducible exact Calls.up_gives (HO2.out _)) | (go_at_call 52; with_reducible exact Calls.up_gives (HL1.out _)) | (go_at_call 52; with_reducible exact Calls.up_gives (HL2.out _))))); refine wpQuiet_nil ?_; intro _ hw'; obtain ⟨xq, hw''⟩ := hw'; subst hw'')
      go_ret2
      exact Gives.mk rfl (by (repeat (first | (with_reducible exact Below.refl _ _) | (with_reducible assumption) | (with_reducible refine Below.alloc ?_ (by (repeat (first | (with_reducible exact Nat.le_refl _) | (with_reducible assumption) | (with_reducible refine le_up ?_) | (with_reducible refine le_alloc ?_) | (with_reducible refine le_setCell ?_) | (with_reducible refine le_drew ?_) | (with_reducible refine le_drewN ?_) | omega))) _) | (with_reducible refine Below.drew ?_) | (with_reducible refine Below.drewN ?_ _) | (with_reducible refine Below.setCell ?_ (by (repeat (first | (with_reducible exact Nat.le_refl _) | (with_reducible assumption) | (with_reducible refine le_up ?_) | (with_reducible refine le_alloc ?_) | (with_reducible refine le_setCell ?_) | (with_reducible refine le_drew ?_) | (with_reducible refine le_drewN ?_) | omega))) _) | (with_reducible refine Below.up ?_ (by (repeat (first | (with_reducible exact Nat.le_refl _) | (with_reducible assumption) | (with_reducible refine le_up ?_) | (with_reducible refine le_alloc ?_) | (with_reducible refine le_setCell ?_) | (with_reducible refine le_drew ?_) | (with_reducible refine le_drewN ?_) | omega)))))))
end Go.Proofs.Ytihalkpcddnikaa
