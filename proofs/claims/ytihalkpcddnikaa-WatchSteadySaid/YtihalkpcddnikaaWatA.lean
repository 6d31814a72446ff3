/-
  gate.Far of one to three numbers that lie behind one another in a block.
-/
import Derived.Test.YtihalkpcddnikaaWsmC
import Derived.Test.YtihalkpcddnikaaGateW
import Derived.Test.YtihalkpcddnikaaStuX
import Derived.Test.YtihalkpcddnikaaGen
import Derived.Deep.CutBlock
namespace Go.Proofs.Ytihalkpcddnikaa
open Go.RowKit
set_option linter.unusedVariables false
set_option linter.unusedSimpArgs false

theorem orM (v : Int) (h1 : 0 ≤ v) (h2 : v ≤ 7) :
    ∃ y0 y1 y2, bits .or .i64 v 1 = y0 ∧ bits .or .i64 v 2 = y1 ∧ bits .or .i64 v 4 = y2 ∧ 1 ≤ y0 ∧ y0 ≤ 7 ∧ 1 ≤ y1 ∧ y1 ≤ 7 ∧ 1 ≤ y2 ∧ y2 ≤ 7 := by
  refine ⟨_, _, _, rfl, rfl, rfl, ?_⟩
  have : v = 0 ∨ v = 1 ∨ v = 2 ∨ v = 3 ∨ v = 4 ∨ v = 5 ∨ v = 6 ∨ v = 7 := by omega
  rcases this with rfl | rfl | rfl | rfl | rfl | rfl | rfl | rfl <;> decide
/-- Is one of the first n numbers far? -/
def far3 (lim : Int) (n : Nat) (o : Nat → Int) : Bool := (decide (0 < n) && decide (lim < absV (o 0))) || ((decide (1 < n) && decide (lim < absV (o 1))) || (decide (2 < n) && decide (lim < absV (o 2))))
def FarR (w : World) (F : Bool) (e : Ending) (w' : World) : Prop := ∃ v x : _, e = .returned (.tuple #[.int .i64 v, .int .i64 0]) ∧ (v == 0) = !F ∧ w' = up w x
set_option maxRecDepth 100000 in
theorem Far_1 (o g m a : Int) (b : Nat) (w : World) (hb : b < w.heap.size) (h : G.gateOK o g m = true) (hm : m ≤ 9223372036854775807) (r : Nat → Int) (hr : ∀ k, I64 (r k)) (c0 : w.cell? ⟨b, 6, none⟩ = some (.int .i64 (r 0))) (c1 : w.cell? ⟨b, 7, none⟩ = some (.int .i64 (r 1))) (c2 : w.cell? ⟨b, 8, none⟩ = some (.int .i64 (r 2))) :
    Calls Try.prog 60 #[.agg #[.int .i64 o, .int .i64 g, .int .i64 m], .int .i64 a, .slice (some ⟨b, 6, none⟩) 1 3] w (FarR w (far3 (G.limV o g m a) 1 r)) := by
  have HL := Lib.hid (fun W => G.Limit_t o g m a W h hm)
  generalize G.limV o g m a = lim at *
  have HC := Lib.hid (And.intro c0 (And.intro c1 c2))
  have HR := Lib.hid hr
  clear h hm c0 c1 c2 hr
  go_enter Try.func60, Try.ntmps60
  go_upto_block 0 with (go_at_call 71; (first | with_reducible refine Calls.fold (HL.out _) ?_ | with_reducible refine Calls.fresh (HL.out _) ?_); intro x1)
  refine wp_gen (fun W => ∃ x, W = up w x) (ex_up (by (repeat (first | (with_reducible exact Below.refl _ _) | (with_reducible assumption) | (with_reducible refine Below.alloc ?_ (by (repeat (first | (with_reducible exact Nat.le_refl _) | (with_reducible assumption) | (with_reducible refine le_up ?_) | (with_reducible refine le_alloc ?_) | (with_reducible refine le_setCell ?_) | (with_reducible refine le_drew ?_) | (with_reducible refine le_drewN ?_) | omega))) _) | (with_reducible refine Below.drew ?_) | (with_reducible refine Below.drewN ?_ _) | (with_reducible refine Below.setCell ?_ (by (repeat (first | (with_reducible exact Nat.le_refl _) | (with_reducible assumption) | (with_reducible refine le_up ?_) | (with_reducible refine le_alloc ?_) | (with_reducible refine le_setCell ?_) | (with_reducible refine le_drew ?_) | (with_reducible refine le_drewN ?_) | omega))) _) | (with_reducible refine Below.up ?_ (by (repeat (first | (with_reducible exact Nat.le_refl _) | (with_reducible assumption) | (with_reducible refine le_up ?_) | (with_reducible refine le_alloc ?_) | (with_reducible refine le_setCell ?_) | (with_reducible refine le_drew ?_) | (with_reducible refine le_drewN ?_) | omega)))))))) ?_
  rintro W ⟨x, hW⟩
  have HX := Lib.hid hW
  have hbW : b < W.heap.size := by rw [hW]; exact Nat.lt_of_lt_of_le hb (up_size w x)
  have c0 : W.cell? ⟨b, 6, none⟩ = some (.int .i64 (r 0)) := by rw [hW]; exact cell_belowI (up_below w x) hb HC.out.1
  have c1 : W.cell? ⟨b, 7, none⟩ = some (.int .i64 (r 1)) := by rw [hW]; exact cell_belowI (up_below w x) hb HC.out.2.1
  have c2 : W.cell? ⟨b, 8, none⟩ = some (.int .i64 (r 2)) := by rw [hW]; exact cell_belowI (up_below w x) hb HC.out.2.2
  clear hW
  go_wp2_with fail
  go_loop [10, 30] (fun v10 v30 => ∃ (k : Nat) (v : Int), k ≤ 1 ∧ v30 = .int .i64 (k : Int) ∧ v10 = .int .i64 v ∧ 0 ≤ v ∧ v ≤ 7 ∧ (v == 0) = !(far3 lim k r)) (fun _ v30 => 1 - (intOf v30).toNat)
  case atStart => exact ⟨0, 0, by omega, rfl, rfl, by omega, by omega, by rfl⟩
  case round =>
    obtain ⟨k, v, hk, rfl, rfl, hv1, hv2, hvf⟩ := hrel
    have HV := Lib.hid hvf
    clear hvf
    obtain ⟨y0, y1, y2, hy0, hy1, hy2, z1, z2, z3, z4, z5, z6⟩ := orM v hv1 hv2
    obtain rfl | rfl : k = 0 ∨ k = 1 := by omega
    · have HA := Lib.hid (fun W => fixAbs_any (r 0) W (HR.out 0).1 (HR.out 0).2)
      have HF := Lib.hid (show far3 lim 1 r = (far3 lim 0 r || decide (lim < absV (r 0))) by simp [far3, Bool.or_assoc])
      generalize r 0 = x0 at HA HF c0
      by_cases hf : lim < absV x0
      · go_wp2_with (go_at_call 51; refine (HA.out _).mono ?_; rintro e w1 ⟨rfl, rfl⟩)
        exact ⟨⟨1, _, by omega, rfl, rfl, by omega, by omega, by rw [HF.out]; simp [hf]; omega⟩, by simp [intOf]⟩
      · go_wp2_with (go_at_call 51; refine (HA.out _).mono ?_; rintro e w1 ⟨rfl, rfl⟩)
        exact ⟨⟨1, _, by omega, rfl, rfl, by omega, by omega, by rw [HF.out, HV.out]; simp [hf]⟩, by simp [intOf]⟩
    · go_wp2_with fail
      go_ret2
      exact ⟨v, x, rfl, HV.out, HX.out⟩
set_option maxRecDepth 100000 in
theorem Far_2 (o g m a : Int) (b : Nat) (w : World) (hb : b < w.heap.size) (h : G.gateOK o g m = true) (hm : m ≤ 9223372036854775807) (r : Nat → Int) (hr : ∀ k, I64 (r k)) (c0 : w.cell? ⟨b, 6, none⟩ = some (.int .i64 (r 0))) (c1 : w.cell? ⟨b, 7, none⟩ = some (.int .i64 (r 1))) (c2 : w.cell? ⟨b, 8, none⟩ = some (.int .i64 (r 2))) :
    Calls Try.prog 60 #[.agg #[.int .i64 o, .int .i64 g, .int .i64 m], .int .i64 a, .slice (some ⟨b, 6, none⟩) 2 3] w (FarR w (far3 (G.limV o g m a) 2 r)) := by
  have HL := Lib.hid (fun W => G.Limit_t o g m a W h hm)
  generalize G.limV o g m a = lim at *
  have HC := Lib.hid (And.intro c0 (And.intro c1 c2))
  have HR := Lib.hid hr
  clear h hm c0 c1 c2 hr
  go_enter Try.func60, Try.ntmps60
  go_upto_block 0 with (go_at_call 71; (first | with_reducible refine Calls.fold (HL.out _) ?_ | with_reducible refine Calls.fresh (HL.out _) ?_); intro x1)
  refine wp_gen (fun W => ∃ x, W = up w x) (ex_up (by (repeat (first | (with_reducible exact Below.refl _ _) | (with_reducible assumption) | (with_reducible refine Below.alloc ?_ (by (repeat (first | (with_reducible exact Nat.le_refl _) | (with_reducible assumption) | (with_reducible refine le_up ?_) | (with_reducible refine le_alloc ?_) | (with_reducible refine le_setCell ?_) | (with_reducible refine le_drew ?_) | (with_reducible refine le_drewN ?_) | omega))) _) | (with_reducible refine Below.drew ?_) | (with_reducible refine Below.drewN ?_ _) | (with_reducible refine Below.setCell ?_ (by (repeat (first | (with_reducible exact Nat.le_refl _) | (with_reducible assumption) | (with_reducible refine le_up ?_) | (with_reducible refine le_alloc ?_) | (with_reducible refine le_setCell ?_) | (with_reducible refine le_drew ?_) | (with_reducible refine le_drewN ?_) | omega))) _) | (with_reducible refine Below.up ?_ (by (repeat (first | (with_reducible exact Nat.le_refl _) | (with_reducible assumption) | (with_reducible refine le_up ?_) | (with_reducible refine le_alloc ?_) | (with_reducible refine le_setCell ?_) | (with_reducible refine le_drew ?_) | (with_reducible refine le_drewN ?_) | omega)))))))) ?_
  rintro W ⟨x, hW⟩
  have HX := Lib.hid hW
  have hbW : b < W.heap.size := by rw [hW]; exact Nat.lt_of_lt_of_le hb (up_size w x)
  have c0 : W.cell? ⟨b, 6, none⟩ = some (.int .i64 (r 0)) := by rw [hW]; exact cell_belowI (up_below w x) hb HC.out.1
  have c1 : W.cell? ⟨b, 7, none⟩ = some (.int .i64 (r 1)) := by rw [hW]; exact cell_belowI (up_below w x) hb HC.out.2.1
  have c2 : W.cell? ⟨b, 8, none⟩ = some (.int .i64 (r 2)) := by rw [hW]; exact cell_belowI (up_below w x) hb HC.out.2.2
  clear hW
  go_wp2_with fail
  go_loop [10, 30] (fun v10 v30 => ∃ (k : Nat) (v : Int), k ≤ 2 ∧ v30 = .int .i64 (k : Int) ∧ v10 = .int .i64 v ∧ 0 ≤ v ∧ v ≤ 7 ∧ (v == 0) = !(far3 lim k r)) (fun _ v30 => 2 - (intOf v30).toNat)
  case atStart => exact ⟨0, 0, by omega, rfl, rfl, by omega, by omega, by rfl⟩
  case round =>
    obtain ⟨k, v, hk, rfl, rfl, hv1, hv2, hvf⟩ := hrel
    have HV := Lib.hid hvf
    clear hvf
    obtain ⟨y0, y1, y2, hy0, hy1, hy2, z1, z2, z3, z4, z5, z6⟩ := orM v hv1 hv2
    obtain rfl | rfl | rfl : k = 0 ∨ k = 1 ∨ k = 2 := by omega
    · have HA := Lib.hid (fun W => fixAbs_any (r 0) W (HR.out 0).1 (HR.out 0).2)
      have HF := Lib.hid (show far3 lim 1 r = (far3 lim 0 r || decide (lim < absV (r 0))) by simp [far3, Bool.or_assoc])
      generalize r 0 = x0 at HA HF c0
      by_cases hf : lim < absV x0
      · go_wp2_with (go_at_call 51; refine (HA.out _).mono ?_; rintro e w1 ⟨rfl, rfl⟩)
        exact ⟨⟨1, _, by omega, rfl, rfl, by omega, by omega, by rw [HF.out]; simp [hf]; omega⟩, by simp [intOf]⟩
      · go_wp2_with (go_at_call 51; refine (HA.out _).mono ?_; rintro e w1 ⟨rfl, rfl⟩)
        exact ⟨⟨1, _, by omega, rfl, rfl, by omega, by omega, by rw [HF.out, HV.out]; simp [hf]⟩, by simp [intOf]⟩
    · have HA := Lib.hid (fun W => fixAbs_any (r 1) W (HR.out 1).1 (HR.out 1).2)
      have HF := Lib.hid (show far3 lim 2 r = (far3 lim 1 r || decide (lim < absV (r 1))) by simp [far3, Bool.or_assoc])
      generalize r 1 = x1 at HA HF c1
      by_cases hf : lim < absV x1
      · go_wp2_with (go_at_call 51; refine (HA.out _).mono ?_; rintro e w1 ⟨rfl, rfl⟩)
        exact ⟨⟨2, _, by omega, rfl, rfl, by omega, by omega, by rw [HF.out]; simp [hf]; omega⟩, by simp [intOf]⟩
      · go_wp2_with (go_at_call 51; refine (HA.out _).mono ?_; rintro e w1 ⟨rfl, rfl⟩)
        exact ⟨⟨2, _, by omega, rfl, rfl, by omega, by omega, by rw [HF.out, HV.out]; simp [hf]⟩, by simp [intOf]⟩
    · go_wp2_with fail
      go_ret2
      exact ⟨v, x, rfl, HV.out, HX.out⟩
set_option maxRecDepth 100000 in
theorem Far_3 (o g m a : Int) (b : Nat) (w : World) (hb : b < w.heap.size) (h : G.gateOK o g m = true) (hm : m ≤ 9223372036854775807) (r : Nat → Int) (hr : ∀ k, I64 (r k)) (c0 : w.cell? ⟨b, 6, none⟩ = some (.int .i64 (r 0))) (c1 : w.cell? ⟨b, 7, none⟩ = some (.int .i64 (r 1))) (c2 : w.cell? ⟨b, 8, none⟩ = some (.int .i64 (r 2))) :
    Calls Try.prog 60 #[.agg #[.int .i64 o, .int .i64 g, .int .i64 m], .int .i64 a, .slice (some ⟨b, 6, none⟩) 3 3] w (FarR w (far3 (G.limV o g m a) 3 r)) := by
  have HL := Lib.hid (fun W => G.Limit_t o g m a W h hm)
  generalize G.limV o g m a = lim at *
  have HC := Lib.hid (And.intro c0 (And.intro c1 c2))
  have HR := Lib.hid hr
  clear h hm c0 c1 c2 hr
  go_enter Try.func60, Try.ntmps60
  go_upto_block 0 with (go_at_call 71; (first | with_reducible refine Calls.fold (HL.out _) ?_ | with_reducible refine Calls.fresh (HL.out _) ?_); intro x1)
  refine wp_gen (fun W => ∃ x, W = up w x) (ex_up (by (repeat (first | (with_reducible exact Below.refl _ _) | (with_reducible assumption) | (with_reducible refine Below.alloc ?_ (by (repeat (first | (with_reducible exact Nat.le_refl _) | (with_reducible assumption) | (with_reducible refine le_up ?_) | (with_reducible refine le_alloc ?_) | (with_reducible refine le_setCell ?_) | (with_reducible refine le_drew ?_) | (with_reducible refine le_drewN ?_) | omega))) _) | (with_reducible refine Below.drew ?_) | (with_reducible refine Below.drewN ?_ _) | (with_reducible refine Below.setCell ?_ (by (repeat (first | (with_reducible exact Nat.le_refl _) | (with_reducible assumption) | (with_reducible refine le_up ?_) | (with_reducible refine le_alloc ?_) | (with_reducible refine le_setCell ?_) | (with_reducible refine le_drew ?_) | (with_reducible refine le_drewN ?_) | omega))) _) | (with_reducible refine Below.up ?_ (by (repeat (first | (with_reducible exact Nat.le_refl _) | (with_reducible assumption) | (with_reducible refine le_up ?_) | (with_reducible refine le_alloc ?_) | (with_reducible refine le_setCell ?_) | (with_reducible refine le_drew ?_) | (with_reducible refine le_drewN ?_) | omega)))))))) ?_
  rintro W ⟨x, hW⟩
  have HX := Lib.hid hW
  have hbW : b < W.heap.size := by rw [hW]; exact Nat.lt_of_lt_of_le hb (up_size w x)
  have c0 : W.cell? ⟨b, 6, none⟩ = some (.int .i64 (r 0)) := by rw [hW]; exact cell_belowI (up_below w x) hb HC.out.1
  have c1 : W.cell? ⟨b, 7, none⟩ = some (.int .i64 (r 1)) := by rw [hW]; exact cell_belowI (up_below w x) hb HC.out.2.1
  have c2 : W.cell? ⟨b, 8, none⟩ = some (.int .i64 (r 2)) := by rw [hW]; exact cell_belowI (up_below w x) hb HC.out.2.2
  clear hW
  go_wp2_with fail
  go_loop [10, 30] (fun v10 v30 => ∃ (k : Nat) (v : Int), k ≤ 3 ∧ v30 = .int .i64 (k : Int) ∧ v10 = .int .i64 v ∧ 0 ≤ v ∧ v ≤ 7 ∧ (v == 0) = !(far3 lim k r)) (fun _ v30 => 3 - (intOf v30).toNat)
  case atStart => exact ⟨0, 0, by omega, rfl, rfl, by omega, by omega, by rfl⟩
  case round =>
    obtain ⟨k, v, hk, rfl, rfl, hv1, hv2, hvf⟩ := hrel
    have HV := Lib.hid hvf
    clear hvf
    obtain ⟨y0, y1, y2, hy0, hy1, hy2, z1, z2, z3, z4, z5, z6⟩ := orM v hv1 hv2
    obtain rfl | rfl | rfl | rfl : k = 0 ∨ k = 1 ∨ k = 2 ∨ k = 3 := by omega
    · have HA := Lib.hid (fun W => fixAbs_any (r 0) W (HR.out 0).1 (HR.out 0).2)
      have HF := Lib.hid (show far3 lim 1 r = (far3 lim 0 r || decide (lim < absV (r 0))) by simp [far3, Bool.or_assoc])
      generalize r 0 = x0 at HA HF c0
      by_cases hf : lim < absV x0
      · go_wp2_with (go_at_call 51; refine (HA.out _).mono ?_; rintro e w1 ⟨rfl, rfl⟩)
        exact ⟨⟨1, _, by omega, rfl, rfl, by omega, by omega, by rw [HF.out]; simp [hf]; omega⟩, by simp [intOf]⟩
      · go_wp2_with (go_at_call 51; refine (HA.out _).mono ?_; rintro e w1 ⟨rfl, rfl⟩)
        exact ⟨⟨1, _, by omega, rfl, rfl, by omega, by omega, by rw [HF.out, HV.out]; simp [hf]⟩, by simp [intOf]⟩
    · have HA := Lib.hid (fun W => fixAbs_any (r 1) W (HR.out 1).1 (HR.out 1).2)
      have HF := Lib.hid (show far3 lim 2 r = (far3 lim 1 r || decide (lim < absV (r 1))) by simp [far3, Bool.or_assoc])
      generalize r 1 = x1 at HA HF c1
      by_cases hf : lim < absV x1
      · go_wp2_with (go_at_call 51; refine (HA.out _).mono ?_; rintro e w1 ⟨rfl, rfl⟩)
        exact ⟨⟨2, _, by omega, rfl, rfl, by omega, by omega, by rw [HF.out]; simp [hf]; omega⟩, by simp [intOf]⟩
      · go_wp2_with (go_at_call 51; refine (HA.out _).mono ?_; rintro e w1 ⟨rfl, rfl⟩)
        exact ⟨⟨2, _, by omega, rfl, rfl, by omega, by omega, by rw [HF.out, HV.out]; simp [hf]⟩, by simp [intOf]⟩
    · have HA := Lib.hid (fun W => fixAbs_any (r 2) W (HR.out 2).1 (HR.out 2).2)
      have HF := Lib.hid (show far3 lim 3 r = (far3 lim 2 r || decide (lim < absV (r 2))) by simp [far3, Bool.or_assoc])
      generalize r 2 = x2 at HA HF c2
      by_cases hf : lim < absV x2
      · go_wp2_with (go_at_call 51; refine (HA.out _).mono ?_; rintro e w1 ⟨rfl, rfl⟩)
        exact ⟨⟨3, _, by omega, rfl, rfl, by omega, by omega, by rw [HF.out]; simp [hf]; omega⟩, by simp [intOf]⟩
      · go_wp2_with (go_at_call 51; refine (HA.out _).mono ?_; rintro e w1 ⟨rfl, rfl⟩)
        exact ⟨⟨3, _, by omega, rfl, rfl, by omega, by omega, by rw [HF.out, HV.out]; simp [hf]⟩, by simp [intOf]⟩
    · go_wp2_with fail
      go_ret2
      exact ⟨v, x, rfl, HV.out, HX.out⟩
theorem Far_any (o g m a : Int) (b n : Nat) (w : World) (hb : b < w.heap.size) (h : G.gateOK o g m = true) (hm : m ≤ 9223372036854775807) (hn1 : 1 ≤ n) (hn3 : n ≤ 3) (r : Nat → Int) (hr : ∀ k, I64 (r k)) (c0 : w.cell? ⟨b, 6, none⟩ = some (.int .i64 (r 0))) (c1 : w.cell? ⟨b, 7, none⟩ = some (.int .i64 (r 1))) (c2 : w.cell? ⟨b, 8, none⟩ = some (.int .i64 (r 2))) :
    Calls Try.prog 60 #[.agg #[.int .i64 o, .int .i64 g, .int .i64 m], .int .i64 a, .slice (some ⟨b, 6, none⟩) n 3] w (FarR w (far3 (G.limV o g m a) n r)) := by
  obtain rfl | rfl | rfl : n = 1 ∨ n = 2 ∨ n = 3 := by omega
  · exact Far_1 o g m a b w hb h hm r hr c0 c1 c2
  · exact Far_2 o g m a b w hb h hm r hr c0 c1 c2
  · exact Far_3 o g m a b w hb h hm r hr c0 c1 c2
end Go.Proofs.Ytihalkpcddnikaa
