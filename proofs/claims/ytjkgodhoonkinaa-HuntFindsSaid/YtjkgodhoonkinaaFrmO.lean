/-
  The walk over the law FrameTurned.
-/
import Derived.Test.YtjkgodhoonkinaaFrmN
import Derived.Test.YtjkgodhoonkinaaBaseB
import Derived.Laws.BitsAllLaws
namespace Go.Proofs.Ytjkgodhoonkinaa
open Go.RowKit
set_option linter.unusedVariables false
set_option linter.unusedSimpArgs false

theorem few_fits {w : World} {f : FrmS} {v : Value} (h : FrA w f v) (hE : putE (fewS f) = 0) : Fits (fewS f) := by
  obtain ⟨bv, _, hb, h2, h3, h4, h5⟩ := h
  have ho : (octB (fewS f).kind && octB (fewS f).source) = true := by
    cases hc : (octB (fewS f).kind && octB (fewS f).source)
    · rw [putE_bad hc] at hE; cases hE
    · rfl
  have hl : (fewS f).body.length ≤ 48 := by
    rcases Nat.lt_or_ge 48 (fewS f).body.length with h | h
    · rw [putE_long ho h] at hE; cases hE
    · exact h
  rw [Bool.and_eq_true] at ho
  exact ⟨ho.1, ho.2, h2, h3, hl, h4, fun y hy => hb.1 y (List.mem_of_mem_take hy), h5⟩
theorem putE_cases (f : FrmS) : putE f = 2 ∨ putE f = 3 ∨ putE f = 0 := by
  unfold putE
  split
  · split
    · exact .inr (.inr rfl)
    · exact .inr (.inl rfl)
  · exact .inl rfl
set_option maxRecDepth 100000 in
set_option maxHeartbeats 3200000 in
theorem FrameTurned_any (f : FrmS) (v : Value) (at_ : Int) (y : Nat) (w : World) (hv : FrA w f v) (hy : y < 256) :
    Calls Try.prog 5 #[v, .int .i64 at_, .int .u8 ((y : Nat) : Int)] w (Gives w (.bool true)) := by
  obtain ⟨L, rfl, hL, h1⟩ := hv.list
  have HFW := Lib.hid (fun (W : World) (h : Below w.heap.size w W) => few_any f _ W (hv.below h))
  have HFF := Lib.hid (few_fits hv)
  have HA := Lib.hid (rangeAt_at (g := w.heap.size) w L 28)
  have HL := Lib.hid hL
  clear hv hL h1
  go_enter Try.func5, Try.ntmps5
  go_upto_region 3 with (go_at_call 20; (first | with_reducible refine Calls.fold (works13 _) ?_ | with_reducible refine Calls.fresh (works13 _) ?_); intro x1)
  refine wp_gen (fun W => Below w.heap.size w W ∧ W.rangeAt w.heap.size 0 L) ⟨by (repeat (first | (with_reducible exact Below.refl _ _) | (with_reducible assumption) | (with_reducible refine Below.alloc ?_ (by (repeat (first | (with_reducible exact Nat.le_refl _) | (with_reducible assumption) | (with_reducible refine le_up ?_) | (with_reducible refine le_alloc ?_) | (with_reducible refine le_setCell ?_) | (with_reducible refine le_drew ?_) | (with_reducible refine le_drewN ?_) | omega))) _) | (with_reducible refine Below.drew ?_) | (with_reducible refine Below.drewN ?_ _) | (with_reducible refine Below.setCell ?_ (by (repeat (first | (with_reducible exact Nat.le_refl _) | (with_reducible assumption) | (with_reducible refine le_up ?_) | (with_reducible refine le_alloc ?_) | (with_reducible refine le_setCell ?_) | (with_reducible refine le_drew ?_) | (with_reducible refine le_drewN ?_) | omega))) _) | (with_reducible refine Below.up ?_ (by (repeat (first | (with_reducible exact Nat.le_refl _) | (with_reducible assumption) | (with_reducible refine le_up ?_) | (with_reducible refine le_alloc ?_) | (with_reducible refine le_setCell ?_) | (with_reducible refine le_drew ?_) | (with_reducible refine le_drewN ?_) | omega)))))), rangeAt_below (up_below _ _) (by simp) HA.out⟩ ?_
  rintro W ⟨hbw, hr⟩
  have HR := Lib.hid hr
  have HB := Lib.hid hbw
  clear hbw hr HA
  go_wp2_with (refine wpList_load_mid rfl 28 (.tmp 3) (by rfl) w.heap.size 0 (by rfl) L _ HR.out Try.underlying28 (by rfl) (by rw [HL.out]; kernel_rfl) ?_)
  refine (HFW.out W HB.out).mono ?_
  rintro e1 w1 ⟨v1, rfl, hf1, hb1⟩
  obtain ⟨L1, rfl, hL1, h11⟩ := hf1.list
  have HF1 := Lib.hid hf1
  have HB1 := Lib.hid (HB.out.trans (hb1.mono HB.out.size))
  clear hf1 hb1 hL1 h11 HR HB HL HFW
  go_wp2_with fail
  refine (fPutA (fewS f) _ w1 HF1.out).mono ?_
  rintro e2 w2 ⟨v2, rfl, ho2, hb2⟩
  have HB2 := Lib.hid (HB1.out.trans (hb2.mono HB1.out.size))
  have HO2 := Lib.hid (ho2.mono HB1.out.size)
  clear ho2 hb2 HB1 HF1
  rcases putE_cases (fewS f) with hE | hE | hE
  · rw [hE]
    obtain ⟨va, vn, vc, rfl⟩ := HO2.out.bts.slice
    go_wp2_with fail
    go_ret
    exact Gives.mk rfl HB2.out
  · rw [hE]
    obtain ⟨va, vn, vc, rfl⟩ := HO2.out.bts.slice
    go_wp2_with fail
    go_ret
    exact Gives.mk rfl HB2.out
  · have hF := HFF.out hE
    have hPl := putF_length (fewS f) hF.tag
    have HF := Lib.hid hF
    have hPR : putR (fewS f) = putF (fewS f) := by unfold putR; rw [if_pos hE]
    rw [hPR] at HO2
    have hb48 := hF.body
    have HPT := Lib.hid (fun (j : Nat) (h3 : 3 ≤ j) (hj : j < (putF (fewS f)).length) (h0 : y ≠ 0) => readE_turned hF h3 hj hy h0)
    have HP0 := Lib.hid (readE_put hF)
    rw [hE]
    clear hE hPR HFF
    generalize hm : (fewS f).body.length = m at *
    clear hm hF
    generalize putF (fewS f) = P at *
    obtain ⟨g2, c2, rfl, hg2, hl2⟩ := HO2.out.shape (fun e => by have h := HO2.out.bts; rw [e] at h; have := h.len; omega)
    rw [hPl] at HO2 ⊢
    have HPL := Lib.hid hPl
    clear hPl
    obtain ⟨A, hA⟩ : ∃ A, amongV at_ (34 + (m : Int)) = A := ⟨_, rfl⟩
    have hab := amongV_bd at_ (34 + (m : Int)) (by omega)
    rw [hA] at hab
    obtain ⟨j, rfl⟩ : ∃ j : Nat, A = (j : Int) := ⟨A.toNat, by omega⟩
    have hj : j < 34 + m := by omega
    have HAM := Lib.hid (fun (W : World) => hA ▸ Among_any at_ (34 + (m : Int)) W (by omega) (by omega))
    have hc0 := HO2.out.cell (3 + j) (by rw [HPL.out]; omega)
    have hf0 := HO2.out.free (3 + j)
    have hlt := HO2.out.bts.lt (3 + j)
    have HX := Lib.hid (u8_xor_nat (P.getD (3 + j) 0) y hlt hy)
    have hz := xor_byte hlt hy
    have HST := Lib.hid (HO2.out.store (3 + j) (P.getD (3 + j) 0 ^^^ y) hz)
    have HPT2 := Lib.hid (fun (h0 : y ≠ 0) => HPT.out (3 + j) (by omega) (by rw [HPL.out]; omega) h0)
    have HP02 := Lib.hid (show P.set (3 + j) (P.getD (3 + j) 0 ^^^ 0) = P by
      rw [Nat.xor_zero]
      refine List.ext_getElem (by simp) (fun i h1 h2 => ?_)
      rw [List.getElem_set]
      split
      · rename_i hij; subst hij; simp [List.getD_eq_getElem?_getD, List.getElem?_eq_getElem h2]
      · rfl)
    have hsl : ((37 : Int) + (m : Int) - 3) = 34 + (m : Int) := by omega
    have hw1 : IntKind.i64.wrap ((37 : Int) + (m : Int) - 3) = 34 + (m : Int) := by rw [IntKind.wrap_i64]; omega
    clear hA hab HPT hlt hz
    have HQL := Lib.hid (show (P.set (3 + j) (P.getD (3 + j) 0 ^^^ y)).length = 37 + m by rw [List.length_set, HPL.out])
    generalize hc0e : P.getD (3 + j) 0 = x0 at *
    clear hc0e
    have hxor := HX.out
    go_wp2_with (go_at_call 23; refine (HAM.out _).mono ?_; rintro e w1 ⟨rfl, rfl⟩)
    refine (fRead_any _ _ _ HST.out.bts (by rw [HQL.out]; omega)).mono ?_
    intro e3 w3 hg3
    obtain ⟨v3, rfl, hf3, hb3⟩ := hg3.fr HST.out.1
    obtain ⟨L3, rfl, hL3, h13⟩ := hf3.list
    have hs3 := store_new w3 L3 hL3 h13
    have hst3 := hs3.1
    have HS3 := Lib.hid hs3.2
    have HB3 := Lib.hid ((HB2.out.setCell (p := ⟨g2, 3 + j, none⟩) hg2 (.int .u8 (((x0 ^^^ y) : Nat) : Int))).trans (hb3.mono (by rw [World.size_setCell]; exact HB2.out.size)))
    clear hs3 hf3 hb3 hg3 h13 hc0 hf0 hxor
    by_cases h0 : y = 0
    · subst h0
      rw [HP02.out, HP0.out]
      generalize readN P = N at *
      go_wp2_with fail
      go_ret
      exact Gives.mk rfl (HB3.out.trans (HS3.out.1.mono HB3.out.size))
    · rw [HPT2.out h0]
      generalize readN (P.set (3 + j) (x0 ^^^ y)) = N at *
      have hy0 : ¬ ((y : Nat) : Int) = 0 := by omega
      go_wp2_with fail
      go_ret
      exact Gives.mk (ret_bool (by simp; omega)) (HB3.out.trans (HS3.out.1.mono HB3.out.size))
end Go.Proofs.Ytjkgodhoonkinaa
