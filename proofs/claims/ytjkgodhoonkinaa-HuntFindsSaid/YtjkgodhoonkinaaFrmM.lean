/-
  The walk over the example of the frames' chapter.
-/
import Derived.Test.YtjkgodhoonkinaaFrmL
namespace Go.Proofs.Ytjkgodhoonkinaa
open Go.RowKit
set_option linter.unusedVariables false
set_option linter.unusedSimpArgs false

def exS : FrmS := ⟨9, 5, 0, 1, [], List.replicate 16 0⟩
theorem exS_fits : Fits exS := ⟨by decide, by decide, by decide, by decide, by decide, by decide, by decide, by decide⟩
theorem exS_putE : putE exS = 0 := by decide
theorem exS_put : putR exS = putF exS := by unfold putR; rw [exS_putE]; rfl
theorem exS_len : (putF exS).length = 37 := putF_length exS rfl
theorem exS_readE : readE (putF exS) = 0 := readE_put exS_fits
theorem exS_readN : readN (putF exS) = 37 := by unfold readN; rw [if_pos exS_readE, putF_two exS_fits]; rfl
theorem exS_readS : readS (putF exS) = exS := by unfold readS; rw [if_pos exS_readE, goodS_put exS_fits]
theorem nil_bts (w : World) : Bts w (.slice none 0 0) [] := ⟨(fun _ h => by cases h), .inl ⟨rfl, rfl⟩⟩
set_option maxRecDepth 100000 in
set_option maxHeartbeats 3200000 in
theorem works13 (w : World) : Calls Try.prog 20 #[] w (Gives w (.bool true)) := by
  go_enter Try.func20, Try.ntmps20
  go_wp2_with fail
  refine (fPutA exS _ w ⟨.slice none 0 0, rfl, nil_bts w, by decide, by decide, by decide, by decide⟩).mono ?_
  rintro e1 w1 ⟨v1, rfl, ho1, hb1⟩
  rw [exS_putE]
  rw [exS_put] at ho1
  obtain ⟨g1, c1, rfl, _, _⟩ := ho1.shape (fun e => by rw [e] at ho1; have := Bts.len ho1.bts; rw [exS_len] at this; omega)
  rw [exS_len] at ho1 ⊢
  have HO1 := Lib.hid ho1
  have HB1 := Lib.hid hb1
  clear ho1 hb1
  go_wp2_with fail
  refine (fRead_any _ (putF exS) w1 HO1.out.bts (by rw [exS_len]; omega)).mono ?_
  intro e2 w2 hg2
  obtain ⟨v2, rfl, hf2, hb2⟩ := hg2.fr HO1.out.1
  rw [exS_readE, exS_readN]
  rw [exS_readS] at hf2
  obtain ⟨bv, rfl, hbv, hok⟩ := hf2
  have l0 : (frL exS bv)[0]? = some (.int .i64 9) := rfl
  have l1 : (frL exS bv)[1]? = some (.int .i64 5) := rfl
  have l3 : (frL exS bv)[3]? = some (.int .u64 1) := rfl
  have hL := frL_length exS bv rfl
  have h1 := frL_one exS (one_slice hbv)
  have HFA := Lib.hid (show FrA w2 exS (.agg (frL exS bv).toArray) from ⟨bv, rfl, hbv, hok⟩)
  have HB2 := Lib.hid (Below.trans HB1.out (hb2.mono HB1.out.size))
  clear hbv hok hb2 hg2
  generalize frL exS bv = L at *
  have hz := res_zero (w2.alloc (.cells #[.int .i64 0, .int .i64 0, .int .u32 0, .int .u64 0, .slice none 0 0, .int .u8 0, .int .u8 0, .int .u8 0, .int .u8 0, .int .u8 0, .int .u8 0, .int .u8 0, .int .u8 0, .int .u8 0, .int .u8 0, .int .u8 0, .int .u8 0, .int .u8 0, .int .u8 0, .int .u8 0, .int .u8 0] 28)) w2.heap.size (there_new w2 _ _ 21 rfl) L hL h1
  have hst := hz.1
  clear hz
  have hrs := World.rangeAt_setCells_same (w2.alloc (.cells #[.int .i64 0, .int .i64 0, .int .u32 0, .int .u64 0, .slice none 0 0, .int .u8 0, .int .u8 0, .int .u8 0, .int .u8 0, .int .u8 0, .int .u8 0, .int .u8 0, .int .u8 0, .int .u8 0, .int .u8 0, .int .u8 0, .int .u8 0, .int .u8 0, .int .u8 0, .int .u8 0, .int .u8 0] 28)) w2.heap.size 0 L (by rw [hL]; exact there_new w2 _ _ 21 rfl)
  have HRS := Lib.hid hrs
  have HL := Lib.hid (And.intro l0 (And.intro l1 l3))
  have HL21 := Lib.hid hL
  clear hrs h1 l0 l1 l3
  go_upto_region 3 with fail
  have hbx : Below w2.heap.size w2 ((w2.alloc (.cells #[.int .i64 0, .int .i64 0, .int .u32 0, .int .u64 0, .slice none 0 0, .int .u8 0, .int .u8 0, .int .u8 0, .int .u8 0, .int .u8 0, .int .u8 0, .int .u8 0, .int .u8 0, .int .u8 0, .int .u8 0, .int .u8 0, .int .u8 0, .int .u8 0, .int .u8 0, .int .u8 0, .int .u8 0] 28)).setCells w2.heap.size 0 L) := ((Below.refl _ _).alloc (Nat.le_refl _) _).trans (below_setCells _ _ _ _ _ (Nat.le_refl _))
  refine wp_gen (fun W => Below w.heap.size w W ∧ W.rangeAt w2.heap.size 0 L ∧ FrA W exS (.agg L.toArray)) ⟨HB2.out.trans (hbx.mono HB2.out.size), HRS.out, HFA.out.below hbx⟩ ?_
  clear hbx hst hL
  rintro W ⟨hbw, hr, hfa⟩
  have x0 := hr 0 _ HL.out.1
  have x1 := hr 1 _ HL.out.2.1
  have x3 := hr 3 _ HL.out.2.2
  rw [Nat.zero_add] at x0 x1 x3
  have HW := Lib.hid (And.intro hbw (And.intro hr hfa))
  clear hbw hr hfa
  go_wp2_with (first | (refine wpList_load_mid' 28 (.tmp 3) (by with_reducible rfl) (by rfl) w2.heap.size 0 (by rfl) L _ HW.out.2.1 Try.underlying28 (by rfl) (by rw [HL21.out]; kernel_rfl) ?_) | (go_at_call 26; refine (SignedA exS _ W HW.out.2.2 (by decide)).mono ?_; intro e5 w5 hg5; obtain ⟨g5, c5, rfl, hx5, hy5, ho5, hb5⟩ := hg5.toB (by rw [signedB_length]; omega); rw [show (signedB exS).length = 14 from rfl]; have HB5 := Lib.hid hb5; clear ho5 hb5 hg5 hx5 hy5))
  go_ret
  exact Gives.mk rfl (HW.out.1.trans (HB5.out.mono HW.out.1.size))
end Go.Proofs.Ytjkgodhoonkinaa
