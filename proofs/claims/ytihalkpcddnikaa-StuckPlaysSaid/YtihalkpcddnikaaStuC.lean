/-
  Both watchers beside each other: a reading to both, a clearing of both.
-/
import Derived.Test.YtihalkpcddnikaaStuB
namespace Go.Proofs.Ytihalkpcddnikaa
open Go.RowKit
set_option linter.unusedVariables false
set_option linter.unusedSimpArgs false

set_option maxRecDepth 100000 in
set_option maxHeartbeats 1600000 in
theorem rsTake_bad (d : Nat) (s : Int) (same rate : Int) (l : Nat → StO) (x y z t : Int) (w : World) (H : RsAt w d same rate l) (h : srcB s = false ∨ (srcB s = true ∧ (t < (l s.toNat).tk ∨ 1099511627776 < t) ∧ 0 ≤ (l s.toNat).tk)) :
    Calls Try.prog 17 #[.pointer (some ⟨d, 0, none⟩), .int .i64 s, .agg #[.int .i64 x, .int .i64 y, .int .i64 z], .int .i64 t] w (Gives w (.tuple #[.int .i64 0, .int .i64 2])) := by
  rcases h with hs | ⟨hs, ht, h0⟩
  · clear H
    rcases src_out hs with h | ⟨h1, h2⟩
    · clear hs
      go_enter Try.func17, Try.ntmps17
      go_wp2_with fail
      go_ret2
      exact Gives.mk rfl (by (repeat (first | (with_reducible exact Below.refl _ _) | (with_reducible assumption) | (with_reducible refine Below.alloc ?_ (by (repeat (first | (with_reducible exact Nat.le_refl _) | (with_reducible assumption) | (with_reducible refine le_up ?_) | (with_reducible refine le_alloc ?_) | (with_reducible refine le_setCell ?_) | (with_reducible refine le_drew ?_) | (with_reducible refine le_drewN ?_) | omega))) _) | (with_reducible refine Below.drew ?_) | (with_reducible refine Below.drewN ?_ _) | (with_reducible refine Below.setCell ?_ (by (repeat (first | (with_reducible exact Nat.le_refl _) | (with_reducible assumption) | (with_reducible refine le_up ?_) | (with_reducible refine le_alloc ?_) | (with_reducible refine le_setCell ?_) | (with_reducible refine le_drew ?_) | (with_reducible refine le_drewN ?_) | omega))) _) | (with_reducible refine Below.up ?_ (by (repeat (first | (with_reducible exact Nat.le_refl _) | (with_reducible assumption) | (with_reducible refine le_up ?_) | (with_reducible refine le_alloc ?_) | (with_reducible refine le_setCell ?_) | (with_reducible refine le_drew ?_) | (with_reducible refine le_drewN ?_) | omega)))))))
    · have h3 : 7 < s := by omega
      clear hs
      go_enter Try.func17, Try.ntmps17
      go_wp2_with fail
      go_ret2
      exact Gives.mk rfl (by (repeat (first | (with_reducible exact Below.refl _ _) | (with_reducible assumption) | (with_reducible refine Below.alloc ?_ (by (repeat (first | (with_reducible exact Nat.le_refl _) | (with_reducible assumption) | (with_reducible refine le_up ?_) | (with_reducible refine le_alloc ?_) | (with_reducible refine le_setCell ?_) | (with_reducible refine le_drew ?_) | (with_reducible refine le_drewN ?_) | omega))) _) | (with_reducible refine Below.drew ?_) | (with_reducible refine Below.drewN ?_ _) | (with_reducible refine Below.setCell ?_ (by (repeat (first | (with_reducible exact Nat.le_refl _) | (with_reducible assumption) | (with_reducible refine le_up ?_) | (with_reducible refine le_alloc ?_) | (with_reducible refine le_setCell ?_) | (with_reducible refine le_drew ?_) | (with_reducible refine le_drewN ?_) | omega))) _) | (with_reducible refine Below.up ?_ (by (repeat (first | (with_reducible exact Nat.le_refl _) | (with_reducible assumption) | (with_reducible refine le_up ?_) | (with_reducible refine le_alloc ?_) | (with_reducible refine le_setCell ?_) | (with_reducible refine le_drew ?_) | (with_reducible refine le_drewN ?_) | omega)))))))
  · obtain ⟨k1, k2⟩ := src_in hs
    obtain ⟨m, rfl⟩ := Int.eq_ofNat_of_zero_le k1
    rw [Int.toNat_natCast] at ht h0
    have c3 := H.cell (s := m) (by omega) 3 (by omega)
    simp only [oneF] at c3
    have h1 : ¬ (m : Int) < 0 := by omega
    have h2 : ¬ 7 < (m : Int) := by omega
    haveI : LtSize d w := ⟨H.lt⟩
    generalize (l m).tk = ok at *
    clear hs H
    by_cases ht0 : t < 0
    · clear ht
      go_enter Try.func17, Try.ntmps17
      go_wp2_with fail
      go_ret2
      exact Gives.mk rfl (by (repeat (first | (with_reducible exact Below.refl _ _) | (with_reducible assumption) | (with_reducible refine Below.alloc ?_ (by (repeat (first | (with_reducible exact Nat.le_refl _) | (with_reducible assumption) | (with_reducible refine le_up ?_) | (with_reducible refine le_alloc ?_) | (with_reducible refine le_setCell ?_) | (with_reducible refine le_drew ?_) | (with_reducible refine le_drewN ?_) | omega))) _) | (with_reducible refine Below.drew ?_) | (with_reducible refine Below.drewN ?_ _) | (with_reducible refine Below.setCell ?_ (by (repeat (first | (with_reducible exact Nat.le_refl _) | (with_reducible assumption) | (with_reducible refine le_up ?_) | (with_reducible refine le_alloc ?_) | (with_reducible refine le_setCell ?_) | (with_reducible refine le_drew ?_) | (with_reducible refine le_drewN ?_) | omega))) _) | (with_reducible refine Below.up ?_ (by (repeat (first | (with_reducible exact Nat.le_refl _) | (with_reducible assumption) | (with_reducible refine le_up ?_) | (with_reducible refine le_alloc ?_) | (with_reducible refine le_setCell ?_) | (with_reducible refine le_drew ?_) | (with_reducible refine le_drewN ?_) | omega)))))))
    · by_cases htm : 1099511627776 < t
      · clear ht
        go_enter Try.func17, Try.ntmps17
        go_wp2_with fail
        go_ret2
        exact Gives.mk rfl (by (repeat (first | (with_reducible exact Below.refl _ _) | (with_reducible assumption) | (with_reducible refine Below.alloc ?_ (by (repeat (first | (with_reducible exact Nat.le_refl _) | (with_reducible assumption) | (with_reducible refine le_up ?_) | (with_reducible refine le_alloc ?_) | (with_reducible refine le_setCell ?_) | (with_reducible refine le_drew ?_) | (with_reducible refine le_drewN ?_) | omega))) _) | (with_reducible refine Below.drew ?_) | (with_reducible refine Below.drewN ?_ _) | (with_reducible refine Below.setCell ?_ (by (repeat (first | (with_reducible exact Nat.le_refl _) | (with_reducible assumption) | (with_reducible refine le_up ?_) | (with_reducible refine le_alloc ?_) | (with_reducible refine le_setCell ?_) | (with_reducible refine le_drew ?_) | (with_reducible refine le_drewN ?_) | omega))) _) | (with_reducible refine Below.up ?_ (by (repeat (first | (with_reducible exact Nat.le_refl _) | (with_reducible assumption) | (with_reducible refine le_up ?_) | (with_reducible refine le_alloc ?_) | (with_reducible refine le_setCell ?_) | (with_reducible refine le_drew ?_) | (with_reducible refine le_drewN ?_) | omega)))))))
      · have hlt : t < ok := by omega
        clear ht
        go_enter Try.func17, Try.ntmps17
        go_wp2_with fail
        go_ret2
        exact Gives.mk rfl (by (repeat (first | (with_reducible exact Below.refl _ _) | (with_reducible assumption) | (with_reducible refine Below.alloc ?_ (by (repeat (first | (with_reducible exact Nat.le_refl _) | (with_reducible assumption) | (with_reducible refine le_up ?_) | (with_reducible refine le_alloc ?_) | (with_reducible refine le_setCell ?_) | (with_reducible refine le_drew ?_) | (with_reducible refine le_drewN ?_) | omega))) _) | (with_reducible refine Below.drew ?_) | (with_reducible refine Below.drewN ?_ _) | (with_reducible refine Below.setCell ?_ (by (repeat (first | (with_reducible exact Nat.le_refl _) | (with_reducible assumption) | (with_reducible refine le_up ?_) | (with_reducible refine le_alloc ?_) | (with_reducible refine le_setCell ?_) | (with_reducible refine le_drew ?_) | (with_reducible refine le_drewN ?_) | omega))) _) | (with_reducible refine Below.up ?_ (by (repeat (first | (with_reducible exact Nat.le_refl _) | (with_reducible assumption) | (with_reducible refine le_up ?_) | (with_reducible refine le_alloc ?_) | (with_reducible refine le_setCell ?_) | (with_reducible refine le_drew ?_) | (with_reducible refine le_drewN ?_) | omega)))))))
/-! ### beside each other -/
def lastL (f : Int → Option StO) (j : Nat) : StO := lastO f (j : Int)
structure Stu2 (w : World) (c b d n : Nat) (same rate : Int) (f : Int → Option StO) (l : Nat → StO) (W : World) : Prop where
  x : StAt W c b n same rate f
  y : RsAt W d same rate l
  bel : Below w.heap.size w W
  ord : w.heap.size ≤ c ∧ w.heap.size ≤ b ∧ w.heap.size ≤ d
  cd : c ≠ d
  bd : b ≠ d
theorem Stu2.below {w W W' : World} {c b d n : Nat} {same rate : Int} {f : Int → Option StO} {l : Nat → StO} (H : Stu2 w c b d n same rate f l W) (hb : Below W.heap.size W W') : Stu2 w c b d n same rate f l W' :=
  ⟨H.x.below' hb, H.y.below hb H.y.lt, H.bel.trans (hb.mono H.bel.size), H.ord, H.cd, H.bd⟩
theorem Stu2.px {w W W' : World} {c b d n n' : Nat} {same rate : Int} {f f' : Int → Option StO} {l : Nat → StO} (H : Stu2 w c b d n same rate f l W) (hx : StAt W' c b n' same rate f') (hg : W.grownBy W' (some b)) : Stu2 w c b d n' same rate f' l W' :=
  ⟨hx, H.y.kept hg (by have := H.bd; simp; omega), H.bel.grown hg H.bel.size (fun k e => by have := H.ord; simp at e; omega), H.ord, H.cd, H.bd⟩
theorem Stu2.py {w W W' : World} {c b d n : Nat} {same rate : Int} {f : Int → Option StO} {l l' : Nat → StO} (H : Stu2 w c b d n same rate f l W) (hy : RsAt W' d same rate l') (hg : W.grownBy W' (some d)) : Stu2 w c b d n same rate f l' W' :=
  ⟨H.x.kept hg (by have := H.cd; simp; omega) (by have := H.bd; simp; omega), hy, H.bel.grown hg H.bel.size (fun k e => by have := H.ord; simp at e; omega), H.ord, H.cd, H.bd⟩
theorem Stu2.same {w W : World} {c b d n : Nat} {same rate : Int} {f : Int → Option StO} {l l' : Nat → StO} (H : Stu2 w c b d n same rate f l W) (h : ∀ j, j < 8 → l j = l' j) : Stu2 w c b d n same rate f l' W :=
  ⟨H.x, H.y.same (fun i hi => by
    unfold RsV
    by_cases h0 : i = 0
    · rw [if_pos h0, if_pos h0]
    · by_cases h1 : i = 1
      · rw [if_neg h0, if_neg h0, if_pos h1, if_pos h1]
      · rw [if_neg h0, if_neg h0, if_neg h1, if_neg h1, h ((i - 2) / 5) (by omega)]), H.bel, H.ord, H.cd, H.bd⟩
theorem last_some {same rate : Int} {f : Int → Option StO} {k : Int} (ok : StOK same rate f k) (s : Int) : (f s).isSome = decide (0 < (lastO f s).row) ∧ 0 ≤ (lastO f s).row ∧ (lastO f s).row ≤ max k 0 ∧ I64 (lastO f s).a ∧ I64 (lastO f s).b ∧ I64 (lastO f s).c := by
  unfold lastO
  cases hf : f s with
  | none => exact ⟨rfl, by simp [StO.zero], by simp [StO.zero]; omega, by simp [StO.zero, I64], by simp [StO.zero, I64], by simp [StO.zero, I64]⟩
  | some m =>
    have h1 := ok.w0 s m hf
    have h2 := ok.v s m hf
    refine ⟨?_, by simp; omega, by simp; omega, h2.a, h2.b, h2.c⟩
    simp
    omega
theorem row_same {same rate : Int} {f : Int → Option StO} {k : Int} (ok : StOK same rate f k) (s x y z : Int) : rowO (lastO f s) x y z = nowRow f s x y z := by
  unfold rowO nowRow
  rw [(last_some ok s).1]
  by_cases h : 0 < (lastO f s).row <;> cases sameV (lastO f s) x y z <;> simp [h]
  omega
theorem fl_same {same rate : Int} {f : Int → Option StO} {k : Int} (ok : StOK same rate f k) {s t : Int} (x y z : Int) (he : tkE f s t = 0) : rtkO same rate (lastO f s) x y z t = tkFl same rate f s x y z t := by
  unfold rtkO tkFl
  rw [if_pos he, row_same ok, (last_some ok s).1]
  congr 1
  by_cases h : 0 < (lastO f s).row <;> cases fastB ⟨x, y, z, 0, 0⟩ (lastO f s) (limV rate (t - (lastO f s).tk)) <;> simp [h]
theorem tkFl_bd (same rate : Int) (f : Int → Option StO) (s x y z t : Int) : 0 ≤ tkFl same rate f s x y z t ∧ tkFl same rate f s x y z t ≤ 3 := by
  unfold tkFl
  split
  · split <;> split <;> omega
  · omega
/-- A reading to the reference: as the program's. -/
theorem rsTake_any {w W : World} {c b d n : Nat} {same rate : Int} {f f' : Int → Option StO} {k : Int} (H : Stu2 w c b d n same rate f' (lastL f) W) (ok : StOK same rate f k) (hk : k ≤ 1000000) (s x y z t : Int) (hx : I64 x) (hy : I64 y) (hz : I64 z) :
    Calls Try.prog 17 #[.pointer (some ⟨d, 0, none⟩), .int .i64 s, .agg #[.int .i64 x, .int .i64 y, .int .i64 z], .int .i64 t] W
      (fun e W' => e = .returned (.tuple #[.int .i64 (tkFl same rate f s x y z t), .int .i64 (tkE f s t)]) ∧ Stu2 w c b d n same rate f' (lastL (tkF f s x y z t)) W') := by
  rcases tkE_cases f s t with ⟨hs, e⟩ | ⟨hs, hb, e⟩ | ⟨hs, h1, h2, e⟩
  · rw [show tkFl same rate f s x y z t = 0 by unfold tkFl; rw [if_neg (by omega)], show tkF f s x y z t = f by unfold tkF; rw [if_neg (by omega)], e]
    refine (rsTake_bad d s same rate _ x y z t W H.y (.inl hs)).mono ?_
    rintro e W' ⟨rfl, y1, rfl⟩
    exact ⟨rfl, H.below (up_below _ _)⟩
  · rw [show tkFl same rate f s x y z t = 0 by unfold tkFl; rw [if_neg (by omega)], show tkF f s x y z t = f by unfold tkF; rw [if_neg (by omega)], e]
    obtain ⟨k1, k2⟩ := src_in hs
    have hsn : lastL f s.toNat = lastO f s := by unfold lastL; rw [Int.toNat_of_nonneg k1]
    refine (rsTake_bad d s same rate _ x y z t W H.y (.inr ⟨hs, by rw [hsn]; exact hb, by rw [hsn]; exact ok.last s⟩)).mono ?_
    rintro e W' ⟨rfl, y1, rfl⟩
    exact ⟨rfl, H.below (up_below _ _)⟩
  · obtain ⟨k1, k2⟩ := src_in hs
    obtain ⟨m, rfl⟩ := Int.eq_ofNat_of_zero_le k1
    obtain ⟨_, l1, l2, l3, l4, l5⟩ := last_some ok (m : Int)
    have hlm : lastL f m = lastO f (m : Int) := rfl
    refine (rsTake_ok d m same rate (lastL f) x y z t W H.y (by omega) hx hy hz ok.r1 ok.r2 h2 (by rw [hlm]; exact ok.last _) (by rw [hlm]; exact h1) (by rw [hlm]; exact l1) (by rw [hlm]; omega) (by rw [hlm]; exact l3) (by rw [hlm]; exact l4) (by rw [hlm]; exact l5)).mono ?_
    rintro e' W' ⟨rfl, hy', hg⟩
    refine ⟨by rw [hlm, fl_same ok x y z e, e], (H.py hy' hg).same fun j hj => ?_⟩
    try dsimp only
    unfold lastL tkF
    rw [if_pos e]
    by_cases hjm : j = m
    · subst hjm
      rw [if_pos rfl]
      unfold lastO
      rw [updS_same]
      show _ = StO.mk x y z t _
      rw [← row_same ok]
      rfl
    · rw [if_neg hjm]
      unfold lastO
      rw [updS_other _ _ (by omega)]
theorem rsClear_any {w W : World} {c b d n : Nat} {same rate : Int} {f f' : Int → Option StO} (H : Stu2 w c b d n same rate f' (lastL f) W) (s : Int) :
    Calls Try.prog 16 #[.pointer (some ⟨d, 0, none⟩), .int .i64 s] W
      (fun e W' => e = .returned (.int .i64 (clrE s)) ∧ Stu2 w c b d n same rate f' (lastL (clrF f s)) W') := by
  unfold clrE clrF
  cases hs : srcB s
  · refine (rsClear_out d s W hs).mono ?_
    rintro e W' ⟨rfl, rfl⟩
    exact ⟨rfl, H⟩
  · obtain ⟨k1, k2⟩ := src_in hs
    obtain ⟨m, rfl⟩ := Int.eq_ofNat_of_zero_le k1
    refine (rsClear_in d m same rate (lastL f) W H.y (by omega)).mono ?_
    rintro e W' ⟨rfl, rfl⟩
    refine ⟨rfl, (H.py (H.y.set5 (by omega) StO.zero) (gr_set5 _ _ _ _)).same fun j hj => ?_⟩
    try dsimp only
    unfold lastL
    by_cases hjm : j = m
    · subst hjm
      rw [if_pos rfl]
      unfold lastO delS
      rw [if_pos rfl, if_pos rfl]
      rfl
    · rw [if_neg hjm]
      unfold lastO delS
      rw [if_pos rfl, if_neg (by omega)]
end Go.Proofs.Ytihalkpcddnikaa
