/-
  The walk over the reference's Put of frames.
-/
import Derived.Test.YtjkgodhoonkinaaFrmX
namespace Go.Proofs.Ytjkgodhoonkinaa
open Go.RowKit
set_option linter.unusedVariables false
set_option linter.unusedSimpArgs false

theorem bts_of_range {w : World} {b o : Nat} {bs : List Nat} (h : w.rangeAt b o (byteVs bs)) (hb : ∀ x ∈ bs, x < 256) (hl : b < w.heap.size) (h63 : bs.length ≤ 9223372036854775807) : Bts w (.slice (some ⟨b, o, none⟩) bs.length bs.length) bs :=
  ⟨hb, .inr (.inr ⟨b, o, bs.length, rfl, Nat.le_refl _, h63, hl, fun i hi => h i _ (byteVs_get bs i hi)⟩)⟩
theorem rangeAt_right {w : World} {b o : Nat} (cs ds : List Value) (h : w.rangeAt b o (cs ++ ds)) : w.rangeAt b (o + cs.length) ds := fun j v hj => by
  rw [Nat.add_assoc]
  exact h (cs.length + j) v (by rw [List.getElem?_append_right (by omega), Nat.add_sub_cancel_left]; exact hj)
theorem frL_tag {w : World} {b : Nat} {f : FrmS} {bv : Value} (h : w.rangeAt b 0 (frL f bv)) : w.rangeAt b 5 (byteVs f.tag) := by
  have := rangeAt_right [.int .i64 f.kind, .int .i64 f.source, .int .u32 ((f.epoch : Nat) : Int), .int .u64 ((f.counter : Nat) : Int), bv] (byteVs f.tag) h
  simpa using this
set_option maxRecDepth 100000 in
theorem rPut_bad0 (f : FrmS) (bv : Value) (w : World) (h0 : f.kind < 0) :
    Calls Try.prog 24 #[.agg (frL f bv).toArray] w (Gives w (.tuple #[.slice none 0 0, .int .i64 2])) := by
  have l0 : (frL f bv)[0]? = some (.int .i64 f.kind) := rfl
  have l1 : (frL f bv)[1]? = some (.int .i64 f.source) := rfl
  obtain ⟨fk, fs, fe, fc, fb, ft⟩ := f
  dsimp only at *
  generalize frL ⟨fk, fs, fe, fc, fb, ft⟩ bv = L at *
  go_enter Try.func24, Try.ntmps24
  go_wp2_with fail
  go_ret2
  exact Gives.mk rfl (by (repeat (first | (with_reducible exact Below.refl _ _) | (with_reducible assumption) | (with_reducible refine Below.alloc ?_ (by (repeat (first | (with_reducible exact Nat.le_refl _) | (with_reducible assumption) | (with_reducible refine le_up ?_) | (with_reducible refine le_alloc ?_) | (with_reducible refine le_setCell ?_) | (with_reducible refine le_drew ?_) | (with_reducible refine le_drewN ?_) | omega))) _) | (with_reducible refine Below.drew ?_) | (with_reducible refine Below.drewN ?_ _) | (with_reducible refine Below.setCell ?_ (by (repeat (first | (with_reducible exact Nat.le_refl _) | (with_reducible assumption) | (with_reducible refine le_up ?_) | (with_reducible refine le_alloc ?_) | (with_reducible refine le_setCell ?_) | (with_reducible refine le_drew ?_) | (with_reducible refine le_drewN ?_) | omega))) _) | (with_reducible refine Below.up ?_ (by (repeat (first | (with_reducible exact Nat.le_refl _) | (with_reducible assumption) | (with_reducible refine le_up ?_) | (with_reducible refine le_alloc ?_) | (with_reducible refine le_setCell ?_) | (with_reducible refine le_drew ?_) | (with_reducible refine le_drewN ?_) | omega)))))))
set_option maxRecDepth 100000 in
theorem rPut_bad1 (f : FrmS) (bv : Value) (w : World) (h0 : ¬ f.kind < 0) (h1 : 255 < f.kind) :
    Calls Try.prog 24 #[.agg (frL f bv).toArray] w (Gives w (.tuple #[.slice none 0 0, .int .i64 2])) := by
  have l0 : (frL f bv)[0]? = some (.int .i64 f.kind) := rfl
  have l1 : (frL f bv)[1]? = some (.int .i64 f.source) := rfl
  obtain ⟨fk, fs, fe, fc, fb, ft⟩ := f
  dsimp only at *
  generalize frL ⟨fk, fs, fe, fc, fb, ft⟩ bv = L at *
  go_enter Try.func24, Try.ntmps24
  go_wp2_with fail
  go_ret2
  exact Gives.mk rfl (by (repeat (first | (with_reducible exact Below.refl _ _) | (with_reducible assumption) | (with_reducible refine Below.alloc ?_ (by (repeat (first | (with_reducible exact Nat.le_refl _) | (with_reducible assumption) | (with_reducible refine le_up ?_) | (with_reducible refine le_alloc ?_) | (with_reducible refine le_setCell ?_) | (with_reducible refine le_drew ?_) | (with_reducible refine le_drewN ?_) | omega))) _) | (with_reducible refine Below.drew ?_) | (with_reducible refine Below.drewN ?_ _) | (with_reducible refine Below.setCell ?_ (by (repeat (first | (with_reducible exact Nat.le_refl _) | (with_reducible assumption) | (with_reducible refine le_up ?_) | (with_reducible refine le_alloc ?_) | (with_reducible refine le_setCell ?_) | (with_reducible refine le_drew ?_) | (with_reducible refine le_drewN ?_) | omega))) _) | (with_reducible refine Below.up ?_ (by (repeat (first | (with_reducible exact Nat.le_refl _) | (with_reducible assumption) | (with_reducible refine le_up ?_) | (with_reducible refine le_alloc ?_) | (with_reducible refine le_setCell ?_) | (with_reducible refine le_drew ?_) | (with_reducible refine le_drewN ?_) | omega)))))))
set_option maxRecDepth 100000 in
theorem rPut_bad2 (f : FrmS) (bv : Value) (w : World) (h0 : ¬ f.kind < 0) (h1 : ¬ 255 < f.kind) (h2 : f.source < 0) :
    Calls Try.prog 24 #[.agg (frL f bv).toArray] w (Gives w (.tuple #[.slice none 0 0, .int .i64 2])) := by
  have l0 : (frL f bv)[0]? = some (.int .i64 f.kind) := rfl
  have l1 : (frL f bv)[1]? = some (.int .i64 f.source) := rfl
  obtain ⟨fk, fs, fe, fc, fb, ft⟩ := f
  dsimp only at *
  generalize frL ⟨fk, fs, fe, fc, fb, ft⟩ bv = L at *
  go_enter Try.func24, Try.ntmps24
  go_wp2_with fail
  go_ret2
  exact Gives.mk rfl (by (repeat (first | (with_reducible exact Below.refl _ _) | (with_reducible assumption) | (with_reducible refine Below.alloc ?_ (by (repeat (first | (with_reducible exact Nat.le_refl _) | (with_reducible assumption) | (with_reducible refine le_up ?_) | (with_reducible refine le_alloc ?_) | (with_reducible refine le_setCell ?_) | (with_reducible refine le_drew ?_) | (with_reducible refine le_drewN ?_) | omega))) _) | (with_reducible refine Below.drew ?_) | (with_reducible refine Below.drewN ?_ _) | (with_reducible refine Below.setCell ?_ (by (repeat (first | (with_reducible exact Nat.le_refl _) | (with_reducible assumption) | (with_reducible refine le_up ?_) | (with_reducible refine le_alloc ?_) | (with_reducible refine le_setCell ?_) | (with_reducible refine le_drew ?_) | (with_reducible refine le_drewN ?_) | omega))) _) | (with_reducible refine Below.up ?_ (by (repeat (first | (with_reducible exact Nat.le_refl _) | (with_reducible assumption) | (with_reducible refine le_up ?_) | (with_reducible refine le_alloc ?_) | (with_reducible refine le_setCell ?_) | (with_reducible refine le_drew ?_) | (with_reducible refine le_drewN ?_) | omega)))))))
set_option maxRecDepth 100000 in
theorem rPut_bad3 (f : FrmS) (bv : Value) (w : World) (h0 : ¬ f.kind < 0) (h1 : ¬ 255 < f.kind) (h2 : ¬ f.source < 0) (h3 : 255 < f.source) :
    Calls Try.prog 24 #[.agg (frL f bv).toArray] w (Gives w (.tuple #[.slice none 0 0, .int .i64 2])) := by
  have l0 : (frL f bv)[0]? = some (.int .i64 f.kind) := rfl
  have l1 : (frL f bv)[1]? = some (.int .i64 f.source) := rfl
  obtain ⟨fk, fs, fe, fc, fb, ft⟩ := f
  dsimp only at *
  generalize frL ⟨fk, fs, fe, fc, fb, ft⟩ bv = L at *
  go_enter Try.func24, Try.ntmps24
  go_wp2_with fail
  go_ret2
  exact Gives.mk rfl (by (repeat (first | (with_reducible exact Below.refl _ _) | (with_reducible assumption) | (with_reducible refine Below.alloc ?_ (by (repeat (first | (with_reducible exact Nat.le_refl _) | (with_reducible assumption) | (with_reducible refine le_up ?_) | (with_reducible refine le_alloc ?_) | (with_reducible refine le_setCell ?_) | (with_reducible refine le_drew ?_) | (with_reducible refine le_drewN ?_) | omega))) _) | (with_reducible refine Below.drew ?_) | (with_reducible refine Below.drewN ?_ _) | (with_reducible refine Below.setCell ?_ (by (repeat (first | (with_reducible exact Nat.le_refl _) | (with_reducible assumption) | (with_reducible refine le_up ?_) | (with_reducible refine le_alloc ?_) | (with_reducible refine le_setCell ?_) | (with_reducible refine le_drew ?_) | (with_reducible refine le_drewN ?_) | omega))) _) | (with_reducible refine Below.up ?_ (by (repeat (first | (with_reducible exact Nat.le_refl _) | (with_reducible assumption) | (with_reducible refine le_up ?_) | (with_reducible refine le_alloc ?_) | (with_reducible refine le_setCell ?_) | (with_reducible refine le_drew ?_) | (with_reducible refine le_drewN ?_) | omega)))))))
set_option maxRecDepth 100000 in
theorem rPut_long (f : FrmS) (bv : Value) (w : World) (hb : Bts w bv f.body) (h0 : ¬ f.kind < 0) (h1 : ¬ 255 < f.kind) (h2 : ¬ f.source < 0) (h3 : ¬ 255 < f.source) (hl : 48 < f.body.length) :
    Calls Try.prog 24 #[.agg (frL f bv).toArray] w (Gives w (.tuple #[.slice none 0 0, .int .i64 3])) := by
  obtain ⟨va, vn, vc, rfl⟩ := hb.slice
  obtain rfl := hb.len
  have l0 : (frL f (.slice va f.body.length vc))[0]? = some (.int .i64 f.kind) := rfl
  have l1 : (frL f (.slice va f.body.length vc))[1]? = some (.int .i64 f.source) := rfl
  have l4 : (frL f (.slice va f.body.length vc))[4]? = some (.slice va f.body.length vc) := rfl
  clear hb
  obtain ⟨fk, fs, fe, fc, fb, ft⟩ := f
  dsimp only at *
  have hI : (48 : Int) < (fb.length : Int) := by omega
  generalize frL ⟨fk, fs, fe, fc, fb, ft⟩ (.slice va fb.length vc) = L at *
  go_enter Try.func24, Try.ntmps24
  go_wp2_with fail
  go_ret2
  exact Gives.mk rfl (by (repeat (first | (with_reducible exact Below.refl _ _) | (with_reducible assumption) | (with_reducible refine Below.alloc ?_ (by (repeat (first | (with_reducible exact Nat.le_refl _) | (with_reducible assumption) | (with_reducible refine le_up ?_) | (with_reducible refine le_alloc ?_) | (with_reducible refine le_setCell ?_) | (with_reducible refine le_drew ?_) | (with_reducible refine le_drewN ?_) | omega))) _) | (with_reducible refine Below.drew ?_) | (with_reducible refine Below.drewN ?_ _) | (with_reducible refine Below.setCell ?_ (by (repeat (first | (with_reducible exact Nat.le_refl _) | (with_reducible assumption) | (with_reducible refine le_up ?_) | (with_reducible refine le_alloc ?_) | (with_reducible refine le_setCell ?_) | (with_reducible refine le_drew ?_) | (with_reducible refine le_drewN ?_) | omega))) _) | (with_reducible refine Below.up ?_ (by (repeat (first | (with_reducible exact Nat.le_refl _) | (with_reducible assumption) | (with_reducible refine le_up ?_) | (with_reducible refine le_alloc ?_) | (with_reducible refine le_setCell ?_) | (with_reducible refine le_drew ?_) | (with_reducible refine le_drewN ?_) | omega)))))))
set_option maxRecDepth 100000 in
set_option maxHeartbeats 3200000 in
theorem rPut_good (f : FrmS) (v : Value) (w : World) (h : FrA w f v) (h0 : ¬ f.kind < 0) (h1 : ¬ 255 < f.kind) (h2 : ¬ f.source < 0) (h3 : ¬ 255 < f.source) (hl : f.body.length ≤ 48) :
    Calls Try.prog 24 #[v] w (GivesPut w (putF f)) := by
  have hA := h
  obtain ⟨bv, rfl, hb, he, hc, ht, htl⟩ := h
  obtain ⟨va, vn, vc, rfl⟩ := hb.slice
  obtain rfl := hb.len
  have l0 : (frL f (.slice va f.body.length vc))[0]? = some (.int .i64 f.kind) := rfl
  have l1 : (frL f (.slice va f.body.length vc))[1]? = some (.int .i64 f.source) := rfl
  have l4 : (frL f (.slice va f.body.length vc))[4]? = some (.slice va f.body.length vc) := rfl
  have HSL := Lib.hid (signedB_length f)
  have HR := Lib.hid (rangeAt_at (g := w.heap.size) w (frL f (.slice va f.body.length vc)) 28)
  have HTR := Lib.hid (frL_tag (rangeAt_at (g := w.heap.size) w (frL f (.slice va f.body.length vc)) 28))
  have HL := Lib.hid (frL_length f (.slice va f.body.length vc) ht)
  have HTT := Lib.hid (And.intro ht htl)
  have HA := Lib.hid hA
  have HP := Lib.hid (show putF f = [165, 90] ++ putB ([(signedB f ++ f.tag).length % 256] ++ (signedB f ++ f.tag)) from rfl)
  clear hA hb he hc ht htl
  have hI : ¬ (48 : Int) < (f.body.length : Int) := by omega
  have HI := Lib.hid hl
  have HSG := Lib.hid (fun (W : World) (u : Value) (h : FrA W f u) => rSigned_any f u W h (by omega))
  generalize frL f (.slice va f.body.length vc) = L at *
  clear hl
  generalize f.body.length = n at *
  generalize f.kind = fk at *
  generalize f.source = fs at *
  generalize signedB f = S at *
  generalize f.tag = TG at *
  go_enter Try.func24, Try.ntmps24
  go_upto_region 5 with fail
  refine wp_region_sched [1, 4] [(0, 0), (2, 3), (3, 3), (1, 2), (4, 2), (5, 3)] (fun W => W.rangeAt w.heap.size 0 L) (by kernel_rfl) (by kernel_rfl) (fun d v c a w h => by cases d <;> exact h) HR.out ?_
  refine wpSched_load 28 (.tmp 1) w.heap.size 0 L _ rfl rfl (by rfl) (by rfl) (fun _ hW => hW) Try.underlying28 (by rfl) (by rw [HL.out]; kernel_rfl) ?_
  simp only [Act.put, List.getElem_toArray, List.getElem_cons_zero, List.getElem_cons_succ, List.setIfInBounds_toArray, List.set_cons_zero, List.set_cons_succ]
  refine wpSched_pure ?sv1 rfl (by rfl) (fun W => ?sh1) ?sr1; (case sh1 => (go_simp; try (with_reducible rfl))); simp only [Act.put, List.getElem_toArray, List.getElem_cons_zero, List.getElem_cons_succ, List.setIfInBounds_toArray, List.set_cons_zero, List.set_cons_succ]
  refine wpSched_pure ?sv2 rfl (by rfl) (fun W => ?sh2) ?sr2; (case sh2 => (go_simp; try (with_reducible rfl))); simp only [Act.put, List.getElem_toArray, List.getElem_cons_zero, List.getElem_cons_succ, List.setIfInBounds_toArray, List.set_cons_zero, List.set_cons_succ]
  refine wpSched_tail rfl (by rfl) (fun K hK => ?_); go_simp
  refine (HSG.out _ (.agg L.toArray) (HA.out.below (by (repeat (first | (with_reducible exact Below.refl _ _) | (with_reducible assumption) | (with_reducible refine Below.alloc ?_ (by (repeat (first | (with_reducible exact Nat.le_refl _) | (with_reducible assumption) | (with_reducible refine le_up ?_) | (with_reducible refine le_alloc ?_) | (with_reducible refine le_setCell ?_) | (with_reducible refine le_drew ?_) | (with_reducible refine le_drewN ?_) | omega))) _) | (with_reducible refine Below.drew ?_) | (with_reducible refine Below.drewN ?_ _) | (with_reducible refine Below.setCell ?_ (by (repeat (first | (with_reducible exact Nat.le_refl _) | (with_reducible assumption) | (with_reducible refine le_up ?_) | (with_reducible refine le_alloc ?_) | (with_reducible refine le_setCell ?_) | (with_reducible refine le_drew ?_) | (with_reducible refine le_drewN ?_) | omega))) _) | (with_reducible refine Below.up ?_ (by (repeat (first | (with_reducible exact Nat.le_refl _) | (with_reducible assumption) | (with_reducible refine le_up ?_) | (with_reducible refine le_alloc ?_) | (with_reducible refine le_setCell ?_) | (with_reducible refine le_drew ?_) | (with_reducible refine le_drewN ?_) | omega))))))))).mono ?_
  rintro e1 w1 ⟨g1, q1, rfl, hg1, hl1, ho1, hb1⟩
  have b1 : Below w.heap.size w w1 := Below.trans (by (repeat (first | (with_reducible exact Below.refl _ _) | (with_reducible assumption) | (with_reducible refine Below.alloc ?_ (by (repeat (first | (with_reducible exact Nat.le_refl _) | (with_reducible assumption) | (with_reducible refine le_up ?_) | (with_reducible refine le_alloc ?_) | (with_reducible refine le_setCell ?_) | (with_reducible refine le_drew ?_) | (with_reducible refine le_drewN ?_) | omega))) _) | (with_reducible refine Below.drew ?_) | (with_reducible refine Below.drewN ?_ _) | (with_reducible refine Below.setCell ?_ (by (repeat (first | (with_reducible exact Nat.le_refl _) | (with_reducible assumption) | (with_reducible refine le_up ?_) | (with_reducible refine le_alloc ?_) | (with_reducible refine le_setCell ?_) | (with_reducible refine le_drew ?_) | (with_reducible refine le_drewN ?_) | omega))) _) | (with_reducible refine Below.up ?_ (by (repeat (first | (with_reducible exact Nat.le_refl _) | (with_reducible assumption) | (with_reducible refine le_up ?_) | (with_reducible refine le_alloc ?_) | (with_reducible refine le_setCell ?_) | (with_reducible refine le_drew ?_) | (with_reducible refine le_drewN ?_) | omega))))))) (hb1.mono (by simp))
  have ht1 := rangeAt_below hb1 (show w.heap.size < (w.alloc (.cells L.toArray 28)).drew.heap.size by simp) HTR.out
  have HT1 := Lib.hid (bts_of_range ht1 HTT.out.2 (Nat.lt_of_lt_of_le (by simp) hb1.size) (by rw [HTT.out.1]; omega))
  have HO1 := Lib.hid (ho1.mono (show w.heap.size + 1 ≤ _ by simp))
  have B1 := Lib.hid b1
  have hz1 : w.heap.size + 1 ≤ w1.heap.size := by have := hb1.size; simpa using this
  refine hK _ _ ?_
  clear hK K ho1 hb1 b1 ht1 hl1 hg1
  rw [HTT.out.1] at HT1
  obtain ⟨v4, w4, hr4, ho4, hg4, hne4⟩ := run_append_bts (w := w1) 22 _ _ _ HO1.out _ _ HT1.out (by rw [HSL.out, HTT.out.1]; have := HI.out; omega) hz1
  refine wpSched_runT v4 rfl (by rfl) (exec_append (.tmp 28) (.tmp 30) 22 rfl (by rfl) (by rfl) hr4) ?_
  simp only [Act.put, List.getElem_toArray, List.getElem_cons_zero, List.getElem_cons_succ, List.setIfInBounds_toArray, List.set_cons_zero, List.set_cons_succ]
  have HO4 := Lib.hid ho4
  have B4 := Lib.hid (B1.out.grown hg4 B1.out.size (fun k hk => by have := HO1.out.own _ hk; omega))
  have HN4 := Lib.hid (hne4 (by simp))
  have hz4 := hg4.size
  clear ho4 hg4 hne4 hr4 HO1 HT1 B1 HR HTR HA HSG l0 l1 l4
  refine wpSched_pure ?sv3 rfl (by rfl) (fun W => ?sh3) ?sr3; (case sh3 => (go_simp; try (with_reducible rfl))); simp only [Act.put, List.getElem_toArray, List.getElem_cons_zero, List.getElem_cons_succ, List.setIfInBounds_toArray, List.set_cons_zero, List.set_cons_succ]
  refine wpSched_nil ?_
  have hSTl : (S ++ TG).length = 30 + n := by rw [List.length_append, HSL.out, HTT.out.1]; omega
  have HSTL := Lib.hid hSTl
  clear hSTl
  obtain ⟨ST, hST⟩ : ∃ x, x = S ++ TG := ⟨_, rfl⟩
  rw [← hST] at HO4 HP HSTL
  clear hST
  have hn48 := HI.out
  obtain ⟨g4, c4, rfl, hgg4, hgl4⟩ := HO4.out.shape HN4.out
  rw [HSTL.out] at HO4 ⊢
  have hw8 : IntKind.u8.wrap ((30 : Int) + (n : Int)) = 30 + (n : Int) := by simp [IntKind.wrap, IntKind.bits, IntKind.signed]; omega
  go_upto_region 6 with fail
  refine wp_gen (fun W => Below w.heap.size w W ∧ OwnB W (w.heap.size + 1) (.slice (some ⟨g4, 0, none⟩) (30 + n) c4) ST) ⟨B4.out, HO4.out⟩ ?_
  rintro W6 ⟨hb6, ho6⟩
  have H6 := Lib.hid (And.intro hb6 ho6)
  have HLIT1 := Lib.hid (OwnB.lit W6 (C := #[.int .u8 165, .int .u8 90]) (bs := [165, 90]) rfl (by decide) (by simp))
  have HLIT2 := Lib.hid (OwnB.lit (W6.alloc (.cells #[.int .u8 165, .int .u8 90] 5)) (C := #[.int .u8 (30 + (n : Int))]) (bs := [30 + n]) (by simp [byteVs]) (by simp; omega) (by simp))
  clear hb6 ho6 B4 HO4 HN4 hz4 hz1
  have hOL1 : OwnB ((W6.alloc (.cells #[.int .u8 165, .int .u8 90] 5)).alloc (.cells #[.int .u8 (30 + (n : Int))] 5)) W6.heap.size (.slice (some ⟨W6.heap.size, 0, none⟩) 2 2) [165, 90] := HLIT1.out.alloc _
  have hOL2 : OwnB ((W6.alloc (.cells #[.int .u8 165, .int .u8 90] 5)).alloc (.cells #[.int .u8 (30 + (n : Int))] 5)) (W6.heap.size + 1) (.slice (some ⟨W6.heap.size + 1, 0, none⟩) 1 1) [30 + n] := by simpa using HLIT2.out
  have HOL1 := Lib.hid hOL1
  have HOL2 := Lib.hid hOL2
  clear hOL1 hOL2 HLIT1 HLIT2
  go_wp2_with (at_builtin; refine wpList_append_bts rfl (.tmp 36) (.tmp 37) rfl (W6.heap.size + 1) (.slice (some ⟨W6.heap.size + 1, 0, none⟩) 1 1) [30 + n] (by rfl) HOL2.out (.slice (some ⟨g4, 0, none⟩) (30 + n) c4) ST (by rfl) H6.out.2.bts.alloc.alloc (by rw [HSTL.out]; simp; omega) (by simp) (fun v' w' ho hg hne => ?_); have HO7 := Lib.hid ho; have HG7 := Lib.hid hg; clear ho hg hne)
  have h7s : W6.heap.size + 2 ≤ w'.heap.size := by have := HG7.out.size; simpa using this
  have hz6 := H6.out.1.size
  refine (rPut_any _ _ _ HO7.out.bts (by rw [List.length_append, HSTL.out]; simp; omega)).mono ?_
  rintro e8 w8 ⟨g8, q8, rfl, hg8, hl8, ho8, hb8⟩
  have HOA := Lib.hid ((HOL1.out.kept HG7.out (.inr (by simp [Value.ownBlock]))).below hb8 (Nat.le_refl _))
  have HOB := Lib.hid ho8.bts
  have B8 := Lib.hid (Below.trans (Below.grownBy (B := w.heap.size) (w := (W6.alloc (.cells #[.int .u8 165, .int .u8 90] 5)).alloc (.cells #[.int .u8 (30 + (n : Int))] 5)) HG7.out (by simp; omega) (fun k hk => by cases hk; show w.heap.size ≤ W6.heap.size + 1; omega)) (hb8.mono (by omega)))
  have B8' := Lib.hid (Below.trans (H6.out.1.trans (((Below.refl W6.heap.size W6).alloc (Nat.le_refl _) (.cells #[.int .u8 165, .int .u8 90] 5)).alloc (by simp) (.cells #[.int .u8 (30 + (n : Int))] 5) |>.mono hz6)) B8.out)
  have h8s := hb8.size
  have hPl : (putB ([30 + n] ++ ST)).length = 35 + n := by rw [putB_length, List.length_append, HSTL.out]; simp; omega
  have hPF : putF f = [165, 90] ++ putB ([30 + n] ++ ST) := by rw [HP.out, HSTL.out, show (30 + n) % 256 = 30 + n by omega]
  generalize putB ([30 + n] ++ ST) = PB at *
  rw [hPl] at HOB ⊢
  have HPF := Lib.hid hPF
  have HPL := Lib.hid hPl
  clear ho8 hb8 hl8 hg8 HOL1 HOL2 HG7 HO7 hPF hPl B8
  go_wp2_with (at_builtin; refine wpList_append_bts rfl (.tmp 32) (.tmp 39) rfl W6.heap.size (.slice (some ⟨W6.heap.size, 0, none⟩) 2 2) [165, 90] (by rfl) HOA.out (.slice (some ⟨g8, 0, none⟩) (35 + n) q8) PB (by rfl) HOB.out (by rw [HPL.out]; simp; omega) (by omega) (fun v' w' ho hg hne => ?_); have HO9 := Lib.hid ho; have HG9 := Lib.hid hg; have HN9 := Lib.hid hne; clear ho hg hne)
  rw [← HPF.out] at HO9
  obtain ⟨g9, c9, rfl, hgg9, hgl9⟩ := HO9.out.shape (HN9.out (by simp))
  go_ret2
  exact ⟨g9, c9, rfl, by omega, hgl9, HO9.out.mono (by omega), B8'.out.grown HG9.out (by omega) (fun k hk => by cases hk; show w.heap.size ≤ W6.heap.size; omega)⟩
theorem rPutA (f : FrmS) (v : Value) (w : World) (h : FrA w f v) : Calls Try.prog 24 #[v] w (PutR w f) := by
  have hA := h
  obtain ⟨bv, rfl, hb, _⟩ := h
  have bad : (octB f.kind && octB f.source) = false → ∀ e w', Gives w (.tuple #[.slice none 0 0, .int .i64 2]) e w' → PutR w f e w' := fun ho e w' ⟨h1, x, h2⟩ => by
    have hE := putE_bad ho
    subst h1; subst h2
    exact ⟨.slice none 0 0, by rw [hE], by unfold putR; rw [hE]; exact OwnB.nil _ _, up_below _ _⟩
  by_cases h0 : f.kind < 0
  · exact (rPut_bad0 f bv w h0).mono (bad (by simp [octB]; omega))
  · by_cases h1 : 255 < f.kind
    · exact (rPut_bad1 f bv w h0 h1).mono (bad (by simp [octB]; omega))
    · by_cases h2 : f.source < 0
      · exact (rPut_bad2 f bv w h0 h1 h2).mono (bad (by simp [octB]; omega))
      · by_cases h3 : 255 < f.source
        · exact (rPut_bad3 f bv w h0 h1 h2 h3).mono (bad (by simp [octB]; omega))
        · have ho : (octB f.kind && octB f.source) = true := by simp [octB]; omega
          by_cases hl : f.body.length ≤ 48
          · refine (rPut_good f _ w hA h0 h1 h2 h3 hl).mono ?_
            rintro e1 w1 ⟨g, cap, rfl, h1, h2, h3, h4⟩
            have hE := putE_good ho hl
            exact ⟨_, by rw [hE], by unfold putR; rw [hE]; exact h3, h4⟩
          · refine (rPut_long f bv w hb h0 h1 h2 h3 (by omega)).mono ?_
            rintro e1 w1 ⟨rfl, x, rfl⟩
            have hE := putE_long ho (by omega)
            exact ⟨.slice none 0 0, by rw [hE], by unfold putR; rw [hE]; exact OwnB.nil _ _, up_below _ _⟩
end Go.Proofs.Ytjkgodhoonkinaa
