/-
  A store that no call made.
-/
import Derived.Test.YtjkgodhoonkinaaBnkB
import Derived.Test.YtjkgodhoonkinaaFlat
namespace Go.Proofs.Ytjkgodhoonkinaa
open Go.RowKit
set_option linter.unusedVariables false
set_option linter.unusedSimpArgs false

theorem wpList_load_midG {P : Program} {ops : Array Oper} {rest : List Oper} {op : Oper} {a : Act} {w : World} {Q : Exit → Act → World → Prop} (ty : TypeId) (x : Operand) (ho : op.op = .load ty x) (hgd : Region.wanted op (yielded ops a.tmps) = true)
    (b o : Nat) (hx : a.eval x = .pointer (some ⟨b, o, none⟩)) (cs : List Value) (d : TypeDesc) (hc : w.rangeAt b o cs)
    (hu : P.underlying ty = some d) (hd : d.isRow = true) (hi : (P.info? ty).map (·.size) = some cs.length)
    (h : wpList P ops Q rest (a.put op.dst (.agg cs.toArray)) w) : wpList P ops Q (op :: rest) a w :=
  wpList_step fun K hK => by simp only [hgd, if_true]; exact wp_load_mid ty x ho b o hx cs d hc hu hd hi (hK _ _ h)
theorem Bank_no (w : World) (p : Option Addr) (H : Calls Try.prog 76 #[.pointer p] w (Tells w (.bool false))) :
    Calls Try.prog 52 #[.pointer p, .int .i64 0] w (Tells w (.tuple #[.slice none 0 0, .int .i64 1])) := by
  have HH := Lib.hid H
  clear H
  go_enter Try.func52, Try.ntmps52
  go_wp2_with (go_at_call 76; with_reducible refine Calls.tells (HH.out) ?_)
  go_ret2
  exact Tells.mk rfl
theorem Spoil_no (w : World) (p : Option Addr) (H : Calls Try.prog 76 #[.pointer p] w (Tells w (.bool false))) :
    Calls Try.prog 53 #[.pointer p, .int .i64 0, .int .i64 0, .int .u8 1] w (Tells w (.int .i64 1)) := by
  have HH := Lib.hid H
  clear H
  go_enter Try.func53, Try.ntmps53
  go_wp2_with (go_at_call 76; with_reducible refine Calls.tells (HH.out) ?_)
  go_ret
  exact Tells.mk rfl
theorem Empty_no (w : World) (p : Option Addr) (H : ∀ W, Below w.heap.size w W → Calls Try.prog 76 #[.pointer p] W (Tells W (.bool false))) :
    Calls Try.prog 57 #[.pointer p] w (Gives w (.bool false)) := by
  have HH := Lib.hid H
  clear H
  go_enter Try.func57, Try.ntmps57
  go_wp2_with (refine wp_region_up (by kernel_rfl) (by kernel_rfl) ?_; (repeat (go_big_quiet_step ((go_at_call 76; exact Calls.up_tells (HH.out _ (up_below _ _)))))); refine wpQuiet_nil ?_; intro _ hw'; obtain ⟨xq, hw''⟩ := hw'; subst hw'')
  go_ret
  exact Gives.mk rfl (by (repeat (first | (with_reducible exact Below.refl _ _) | (with_reducible assumption) | (with_reducible refine Below.alloc ?_ (by (repeat (first | (with_reducible exact Nat.le_refl _) | (with_reducible assumption) | (with_reducible refine le_up ?_) | (with_reducible refine le_alloc ?_) | (with_reducible refine le_setCell ?_) | (with_reducible refine le_drew ?_) | (with_reducible refine le_drewN ?_) | omega))) _) | (with_reducible refine Below.drew ?_) | (with_reducible refine Below.drewN ?_ _) | (with_reducible refine Below.setCell ?_ (by (repeat (first | (with_reducible exact Nat.le_refl _) | (with_reducible assumption) | (with_reducible refine le_up ?_) | (with_reducible refine le_alloc ?_) | (with_reducible refine le_setCell ?_) | (with_reducible refine le_drew ?_) | (with_reducible refine le_drewN ?_) | omega))) _) | (with_reducible refine Below.up ?_ (by (repeat (first | (with_reducible exact Nat.le_refl _) | (with_reducible assumption) | (with_reducible refine le_up ?_) | (with_reducible refine le_alloc ?_) | (with_reducible refine le_setCell ?_) | (with_reducible refine le_drew ?_) | (with_reducible refine le_drewN ?_) | omega)))))))
structure VoidAt (w : World) (L : List Value) (z : Nat) (W : World) : Prop where
  bel : Below w.heap.size w W
  box : W.rangeAt w.heap.size 0 L
  sto : StoAt W z (.slice none 0 0) (.slice none 0 0) 0 false
  lt : w.heap.size < W.heap.size
theorem VoidAt.below {w : World} {L : List Value} {z : Nat} {W W' : World} (H : VoidAt w L z W) (hb : Below W.heap.size W W') : VoidAt w L z W' :=
  ⟨H.bel.trans (hb.mono H.bel.size), rangeAt_below hb H.lt H.box, H.sto.below hb H.sto.lt, Nat.lt_of_lt_of_le H.lt hb.size⟩
theorem VoidAt.is {w : World} {L : List Value} {z : Nat} {W : World} (H : VoidAt w L z W) (W' : World) (hb : Below W.heap.size W W') : Calls Try.prog 76 #[.pointer (some ⟨z, 0, none⟩)] W' (Tells W' (.bool false)) :=
  bis_made _ _ _ _ _ _ (H.below hb).sto
set_option maxRecDepth 100000 in
set_option maxHeartbeats 4000000 in
theorem BankVoid_any (R : List Nat) (hR : RecOK R) (w : World) : Calls Try.prog 15 #[.agg (recL R).toArray] w (Gives w (.bool true)) := by
  have HA := Lib.hid (rangeAt_boxed (w := w) (g := w.heap.size) (recL R) 50)
  have HBN := Lib.hid (fun (W : World) (p : Option Addr) => Begin_no W p R hR.1)
  have HLL := Lib.hid (recL_length hR.1)
  obtain ⟨L, hL⟩ : ∃ L, L = recL R := ⟨_, rfl⟩
  rw [← hL] at HA HBN HLL ⊢
  clear hL hR
  have HRN := Lib.hid (fun (W : World) (p : Option Addr) => Recover_no W p)
  have HZ := Lib.hid (And.intro (recL_length (R := zeroR) rfl) (recL_one (R := zeroR) rfl))
  obtain ⟨Z, hZ⟩ : ∃ Z, Z = recL zeroR := ⟨_, rfl⟩
  rw [← hZ] at HRN HZ
  clear hZ
  go_enter Try.func15, Try.ntmps15
  go_upto_region 1 with fail
  refine wp_gen (fun W => Below w.heap.size w W ∧ W.rangeAt w.heap.size 0 L ∧ w.heap.size < W.heap.size) ⟨by (repeat (first | (with_reducible exact Below.refl _ _) | (with_reducible assumption) | (with_reducible refine Below.alloc ?_ (by (repeat (first | (with_reducible exact Nat.le_refl _) | (with_reducible assumption) | (with_reducible refine le_up ?_) | (with_reducible refine le_alloc ?_) | (with_reducible refine le_setCell ?_) | (with_reducible refine le_drew ?_) | (with_reducible refine le_drewN ?_) | omega))) _) | (with_reducible refine Below.drew ?_) | (with_reducible refine Below.drewN ?_ _) | (with_reducible refine Below.setCell ?_ (by (repeat (first | (with_reducible exact Nat.le_refl _) | (with_reducible assumption) | (with_reducible refine le_up ?_) | (with_reducible refine le_alloc ?_) | (with_reducible refine le_setCell ?_) | (with_reducible refine le_drew ?_) | (with_reducible refine le_drewN ?_) | omega))) _) | (with_reducible refine Below.up ?_ (by (repeat (first | (with_reducible exact Nat.le_refl _) | (with_reducible assumption) | (with_reducible refine le_up ?_) | (with_reducible refine le_alloc ?_) | (with_reducible refine le_setCell ?_) | (with_reducible refine le_drew ?_) | (with_reducible refine le_drewN ?_) | omega)))))), HA.out, by simp⟩ ?_
  rintro W0 ⟨hb0, hr0, hl0⟩
  have H0 := Lib.hid (And.intro hb0 (And.intro hr0 hl0))
  clear hb0 hr0 hl0 HA
  go_wp2_with fail
  refine (works30 W0).mono ?_
  rintro e1 w1 ⟨rfl, x1, rfl⟩
  go_upto_region 4 with fail
  refine wp_gen (fun W => Below w.heap.size w W ∧ W.rangeAt w.heap.size 0 L ∧ w.heap.size < W.heap.size) ⟨below_up H0.out.1 H0.out.1.size x1, rangeAt_below (up_below W0 x1) H0.out.2.2 H0.out.2.1, Nat.lt_of_lt_of_le H0.out.2.2 (up_size _ _)⟩ ?_
  rintro W1 ⟨hb1, hr1, hl1⟩
  have H1 := Lib.hid (And.intro hb1 (And.intro hr1 hl1))
  clear hb1 hr1 hl1 H0
  go_upto_region 5 with fail
  refine wp_gen (VoidAt w L W1.heap.size) ?_ ?_
  · have hb := (Below.refl W1.heap.size W1).alloc (Nat.le_refl _) (.cells #[.slice none 0 0, .slice none 0 0, .int .i64 0, .bool false] 103)
    refine ⟨H1.out.1.trans (hb.mono H1.out.1.size), rangeAt_below hb H1.out.2.2 H1.out.2.1, ⟨by simp, fun i hi => ?_, fun i => World.frozen?_alloc_new _ _ _ _⟩, Nat.lt_of_lt_of_le H1.out.2.2 hb.size⟩
    have : i = 0 ∨ i = 1 ∨ i = 2 ∨ i = 3 := by omega
    rcases this with rfl | rfl | rfl | rfl <;> simp [StoV]
  clear H1
  generalize W1.heap.size = z
  rintro W2 h2
  have H2 := Lib.hid h2
  clear h2
  go_wp2_with fail
  refine (Lose_no W2 none (bis_nil W2)).mono ?_
  rintro e2 w2 ⟨⟨v2, rfl⟩, rfl⟩
  go_wp2_with fail
  refine (Lose_no W2 _ (H2.out.is _ (Below.refl _ _))).mono ?_
  rintro e3 w3 ⟨⟨v3, rfl⟩, rfl⟩
  go_wp2_with fail
  refine (HRN.out W2 none (fun W _ => bis_nil W)).mono ?_
  rintro e4 w4 ⟨rfl, x2, rfl⟩
  have hs := store_newR (up W2 x2) 50 Z HZ.out.1 HZ.out.2
  have hst := hs.1
  have hzl := HZ.out.1
  have HS := Lib.hid hs.2.1
  clear hs
  go_upto_region 8 with fail
  refine wp_gen (VoidAt w L z) (H2.out.below ((up_below W2 x2).trans (HS.out.mono (up_size W2 x2)))) ?_
  clear hst hzl HS H2
  rintro W3 h3
  have H3 := Lib.hid h3
  clear h3
  go_wp2_with fail
  refine (HRN.out W3 _ H3.out.is).mono ?_
  rintro e5 w5 ⟨rfl, x3, rfl⟩
  have hs := store_newR (up W3 x3) 50 Z HZ.out.1 HZ.out.2
  have hst := hs.1
  have hzl := HZ.out.1
  have HS := Lib.hid hs.2.1
  clear hs
  go_upto_region 9 with fail
  refine wp_gen (VoidAt w L z) (H3.out.below ((up_below W3 x3).trans (HS.out.mono (up_size W3 x3)))) ?_
  clear hst hzl HS H3
  rintro W4 h4
  have H4 := Lib.hid h4
  clear h4
  go_wp2_with fail
  refine (Bank_no W4 none (bis_nil W4)).mono ?_
  rintro e6 w6 ⟨rfl, rfl⟩
  go_wp2_with (refine wpList_load_midG 50 (.tmp 1) (by with_reducible rfl) (by rfl) w.heap.size 0 (by rfl) L _ H4.out.box Try.underlying50 (by rfl) (by rw [HLL.out]; kernel_rfl) ?_)
  refine (HBN.out W4 none (fun W _ => bis_nil W)).mono ?_
  rintro e7 w7 ⟨rfl, x4, rfl⟩
  have H5 := Lib.hid (H4.out.below (up_below W4 x4))
  go_wp2_with (refine wpList_load_midG 50 (.tmp 1) (by with_reducible rfl) (by rfl) w.heap.size 0 (by rfl) L _ H5.out.box Try.underlying50 (by rfl) (by rw [HLL.out]; kernel_rfl) ?_)
  refine (HBN.out _ _ H5.out.is).mono ?_
  rintro e8 w8 ⟨rfl, x5, rfl⟩
  have H6 := Lib.hid (H5.out.below (up_below _ x5))
  clear H5 H4
  go_wp2_with fail
  refine (Finish_no _ none (bis_nil _)).mono ?_
  rintro e9 w9 ⟨rfl, rfl⟩
  go_wp2_with fail
  refine (Finish_no _ _ (H6.out.is _ (Below.refl _ _))).mono ?_
  rintro e10 w10 ⟨rfl, rfl⟩
  go_wp2_with fail
  refine (Spoil_no _ _ (H6.out.is _ (Below.refl _ _))).mono ?_
  rintro e11 w11 ⟨rfl, rfl⟩
  go_wp2_with fail
  refine (Empty_no _ none (fun W _ => bis_nil W)).mono ?_
  rintro e12 w12 ⟨rfl, x6, rfl⟩
  have H7 := Lib.hid (H6.out.below (up_below _ x6))
  go_wp2_with fail
  refine (Empty_no _ _ H7.out.is).mono ?_
  rintro e13 w13 ⟨rfl, x7, rfl⟩
  go_wp2_with fail
  go_ret
  exact Gives.mk rfl (H7.out.below (up_below _ x7)).bel
/-! ### a record, opened -/
def kw : IntKind → Nat
  | .u8 => 1
  | .u32 => 4
  | .u64 => 8
  | _ => 0
theorem ints_zip : ∀ (ks : List IntKind), (∀ k ∈ ks, k = .u8 ∨ k = .u32 ∨ k = .u64) → ∀ l, IntCells (ks.map some) l → ∃ R : List Nat, R.length = ks.length ∧ l = List.zipWith (fun k (x : Nat) => Value.int k (x : Int)) ks R ∧ ∀ j, j < ks.length → R.getD j 0 < 256 ^ (ks.map kw).getD j 0
  | [], _, l, h => ⟨[], rfl, IntCells.nil h, fun j hj => absurd hj (Nat.not_lt_zero _)⟩
  | k :: ks, hk, l, h => by
    obtain ⟨n, l', rfl, w, r⟩ := IntCells.cons h
    obtain ⟨R, h1, h2, h3⟩ := ints_zip ks (fun k h => hk k (List.mem_cons_of_mem _ h)) l' r
    have hb : ∃ m : Nat, n = (m : Int) ∧ m < 256 ^ kw k := by
      rcases hk k (List.mem_cons_self ..) with rfl | rfl | rfl
      · obtain ⟨l, u⟩ := bounds_u8 w
        exact ⟨n.toNat, by omega, by show n.toNat < 256 ^ 1; omega⟩
      · obtain ⟨l, u⟩ := bounds_u32 w
        exact ⟨n.toNat, by omega, by show n.toNat < 256 ^ 4; omega⟩
      · obtain ⟨l, u⟩ := bounds_u64 w
        exact ⟨n.toNat, by omega, by show n.toNat < 256 ^ 8; omega⟩
    obtain ⟨m, rfl, hm⟩ := hb
    refine ⟨m :: R, by simp [h1], by rw [h2]; rfl, fun j hj => ?_⟩
    cases j with
    | zero => exact hm
    | succ j => exact h3 j (by simpa using hj)
theorem recs_of {l : List Value} (h : IntCells (kinds.map some) l) : ∃ R, RecOK R ∧ l = recL R := by
  obtain ⟨R, h1, h2, h3⟩ := ints_zip kinds (by decide) l h
  exact ⟨R, ⟨h1, fun j hj => h3 j hj⟩, h2⟩
end Go.Proofs.Ytjkgodhoonkinaa
