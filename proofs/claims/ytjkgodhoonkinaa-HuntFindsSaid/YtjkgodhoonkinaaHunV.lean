/-
  The walks over the example of the hunters' chapter, and over the law HuntVoid.
-/
import Derived.Test.YtjkgodhoonkinaaHunL
namespace Go.Proofs.Ytjkgodhoonkinaa
open Go.RowKit
set_option linter.unusedVariables false
set_option linter.unusedSimpArgs false

def exH : FrmS := ⟨9, 0, 0, 0, [], List.replicate 16 0⟩
theorem exH_fits : Fits exH := ⟨by decide, by decide, by decide, by decide, by decide, by decide, by decide, by decide⟩
theorem exH_putE : putE exH = 0 := by decide
theorem exH_put : putR exH = putF exH := by unfold putR; rw [exH_putE]; rfl
theorem exH_len : (putF exH).length = 37 := putF_length exH rfl
theorem exH_says : says ([] ++ ([1, 2] ++ putF exH)) = ⟨[exH], 2, 0, []⟩ := by
  have h := says_put exH_fits []
  rw [says_nil, List.append_nil] at h
  rw [List.nil_append, says_noise [1, 2] _ (by decide), h]
  rfl
set_option maxRecDepth 100000 in
set_option maxHeartbeats 3200000 in
theorem works14 (w : World) : Calls Try.prog 32 #[] w (Gives w (.bool true)) := by
  go_enter Try.func32, Try.ntmps32
  go_wp2_with fail
  refine (HNew_any _).mono ?_
  rintro e1 w1 ⟨rfl, hb1, hh1, hl1⟩
  have H1 := Lib.hid (And.intro hb1 (And.intro hh1 hl1))
  clear hb1 hh1 hl1
  go_wp2_with fail
  refine (rPutA exH _ w1 ⟨.slice none 0 0, rfl, nil_bts w1, by decide, by decide, by decide, by decide⟩).mono ?_
  rintro e2 w2 ⟨v2, rfl, ho2, hb2⟩
  rw [exH_putE]
  rw [exH_put] at ho2
  obtain ⟨g2, c2, rfl, _, _⟩ := ho2.shape (fun e => by rw [e] at ho2; have := Bts.len ho2.bts; rw [exH_len] at this; omega)
  rw [exH_len] at ho2 ⊢
  have HA := Lib.hid (show Below w2.heap.size w2 (w2.alloc (.cells #[.int .u8 1, .int .u8 2] 5)) from (Below.refl _ _).alloc (Nat.le_refl _) _)
  have HO := Lib.hid (show OwnB (w2.alloc (.cells #[.int .u8 1, .int .u8 2] 5)) w2.heap.size (.slice (some ⟨w2.heap.size, 0, none⟩) 2 2) [1, 2] from OwnB.lit w2 (bs := [1, 2]) rfl (by decide) (by decide))
  have HO2 := Lib.hid (ho2.bts.below HA.out)
  have H2 := Lib.hid (And.intro (H1.out.2.1.below hb2 H1.out.2.2) hb2)
  have HLN := Lib.hid (show ([1, 2] : List Nat).length + (putF exH).length ≤ 140737488355328 by rw [exH_len]; decide)
  clear ho2 hb2
  go_wp2_with (at_builtin; refine wpList_append_bts rfl _ _ rfl w2.heap.size (.slice (some ⟨w2.heap.size, 0, none⟩) 2 2) [1, 2] rfl HO.out _ (putF exH) rfl HO2.out HLN.out HA.out.size ?_; intro v3 w3 ho3 hg3 _; obtain ⟨a3, n3, c3, rfl⟩ := ho3.bts.slice; have H3 := Lib.hid (And.intro ho3 hg3); clear ho3 hg3)
  have hb3 : Below w2.heap.size w2 w3 := HA.out.grown H3.out.2 HA.out.size (fun k hk => by cases hk; exact Nat.le_refl _)
  have hh3 := H2.out.1.below (hb3.mono (Nat.le_refl _)) H2.out.1.lt
  refine (Feed_made w3 w.heap.size (.slice none 0 0) _ [] _ 0 0 hh3 (nil_bts _) H3.out.1.bts (by rw [List.length_append, exH_len]; decide) (by omega) (by omega)).mono ?_
  rw [exH_says]
  rintro e4 w4 ⟨v4, hv, rfl, hf4, hh4, hbt4, _, hg4, _⟩
  dsimp only at hf4 hh4 hbt4
  obtain ⟨fa, fc, rfl, hfc, hfs⟩ := hf4.shape
  obtain ⟨g4, rfl, hg4l⟩ := hfs.resolve_left (fun e => by cases e)
  obtain ⟨bv, hr, _, _⟩ := hf4.at 0 exH rfl
  have x0 : w4.cell? ⟨g4, 0, none⟩ = some (.int .i64 9) := hr 0 _ rfl
  obtain ⟨ha, hn, hc, rfl⟩ := hbt4.slice
  obtain rfl := hbt4.len
  have HN := Lib.hid (Noise_made w4 _ _ _ _ hh4)
  have HE := Lib.hid (Held_made w4 _ _ _ _ _ _ hh4)
  have HB4 := Lib.hid (show Below w.heap.size w w4 from (((H1.out.1.trans (H2.out.2.mono (Nat.le_of_lt H1.out.2.2))).trans (hb3.mono (by have := H2.out.1.lt; omega)))).grown hg4 (by have := hb3.size; have := H2.out.1.lt; omega) (fun k hk => by simp only [Option.some.injEq] at hk; omega))
  clear hf4 hh4 hbt4 hr hg4 hb3 hh3 hfc hfs
  go_wp2_with (first | (go_at_call 36; with_reducible refine Calls.tells (HN.out) ?_) | (go_at_call 38; with_reducible refine Calls.tells (HE.out) ?_))
  go_ret
  exact Gives.mk rfl HB4.out
set_option maxRecDepth 100000 in
set_option maxHeartbeats 3200000 in
theorem HuntVoid_any (v : Value) (w : World) : Calls Try.prog 12 #[v] w (Gives w (.bool true)) := by
  go_enter Try.func12, Try.ntmps12
  go_wp2_with (go_at_call 32; (first | with_reducible refine Calls.fold (works14 _) ?_ | with_reducible refine Calls.fresh (works14 _) ?_); intro x1)
  refine (Drop_no _ _ (is_nil _)).mono ?_
  rintro e2 w2 ⟨⟨_, rfl⟩, rfl⟩
  go_upto_region 6 with fail
  refine wp_gen (fun W => Below w.heap.size w W ∧ HunAt W (up w x1).heap.size (.slice none 0 0) 0 0 false) ⟨by (repeat (first | (with_reducible exact Below.refl _ _) | (with_reducible assumption) | (with_reducible refine Below.alloc ?_ (by (repeat (first | (with_reducible exact Nat.le_refl _) | (with_reducible assumption) | (with_reducible refine le_up ?_) | (with_reducible refine le_alloc ?_) | (with_reducible refine le_setCell ?_) | (with_reducible refine le_drew ?_) | (with_reducible refine le_drewN ?_) | omega))) _) | (with_reducible refine Below.drew ?_) | (with_reducible refine Below.drewN ?_ _) | (with_reducible refine Below.setCell ?_ (by (repeat (first | (with_reducible exact Nat.le_refl _) | (with_reducible assumption) | (with_reducible refine le_up ?_) | (with_reducible refine le_alloc ?_) | (with_reducible refine le_setCell ?_) | (with_reducible refine le_drew ?_) | (with_reducible refine le_drewN ?_) | omega))) _) | (with_reducible refine Below.up ?_ (by (repeat (first | (with_reducible exact Nat.le_refl _) | (with_reducible assumption) | (with_reducible refine le_up ?_) | (with_reducible refine le_alloc ?_) | (with_reducible refine le_setCell ?_) | (with_reducible refine le_drew ?_) | (with_reducible refine le_drewN ?_) | omega)))))), ⟨by simp, fun i hi => ?_, fun i => World.frozen?_alloc_new _ _ _ _⟩⟩ ?_
  · have : i = 0 ∨ i = 1 ∨ i = 2 ∨ i = 3 := by omega
    rcases this with rfl | rfl | rfl | rfl <;> simp [HunV]
  rintro W ⟨hb, hh⟩
  have HIS := Lib.hid (is_made W _ _ _ _ false hh)
  have HB := Lib.hid hb
  clear hh hb
  generalize (up w x1).heap.size = z at *
  go_wp2_with fail
  refine (Drop_no _ _ HIS.out).mono ?_
  rintro e3 w3 ⟨⟨_, rfl⟩, rfl⟩
  go_wp2_with (first | (go_at_call 34; with_reducible refine Calls.tells (Feed_no _ _ _ (is_nil _)) ?_) | (go_at_call 34; with_reducible refine Calls.tells (Feed_no _ _ _ HIS.out) ?_) | (go_at_call 36; with_reducible refine Calls.tells (hunt_no _ _ _ (.inl rfl) (is_nil _)) ?_) | (go_at_call 36; with_reducible refine Calls.tells (hunt_no _ _ _ (.inl rfl) HIS.out) ?_) | (go_at_call 37; with_reducible refine Calls.tells (hunt_no _ _ _ (.inr (.inl rfl)) (is_nil _)) ?_) | (go_at_call 37; with_reducible refine Calls.tells (hunt_no _ _ _ (.inr (.inl rfl)) HIS.out) ?_) | (go_at_call 38; with_reducible refine Calls.tells (hunt_no _ _ _ (.inr (.inr rfl)) (is_nil _)) ?_) | (go_at_call 38; with_reducible refine Calls.tells (hunt_no _ _ _ (.inr (.inr rfl)) HIS.out) ?_))
  go_ret
  exact Gives.mk rfl HB.out
end Go.Proofs.Ytjkgodhoonkinaa
