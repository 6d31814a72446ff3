/-
  The walk over crc.Right.
-/
import Derived.Test.YtjkgodhoonkinaaRight
import Derived.ChangeKeysEq
namespace Go.Proofs.Ytjkgodhoonkinaa
open Go.RowKit

theorem first_get (bs : List Nat) (i : Nat) (h : i < bs.length) : bs[i]? = some (bs.getD i 0) := by
  rw [List.getD_eq_getElem?_getD, List.getElem?_eq_getElem h]; rfl
theorem right_law {bs : List Nat} {m : Nat} (h : bs.length = m + 4) : sameB (putB (bs.take m)) bs =
    (decide (bs.getD m 0 = cof (bs.take m) % 256) && decide (bs.getD (m + 1) 0 = cof (bs.take m) / 256 % 256) && decide (bs.getD (m + 2) 0 = cof (bs.take m) / 65536 % 256) && decide (bs.getD (m + 3) 0 = cof (bs.take m) / 16777216 % 256)) := by
  have hd : bs = bs.take m ++ [bs.getD m 0, bs.getD (m + 1) 0, bs.getD (m + 2) 0, bs.getD (m + 3) 0] := by
    apply List.ext_getElem?
    intro i
    rcases Nat.lt_or_ge i m with hi | hi
    · rw [List.getElem?_append_left (by rw [List.length_take]; omega), List.getElem?_take_of_lt hi]
    · rw [List.getElem?_append_right (by rw [List.length_take]; omega), List.length_take, Nat.min_eq_left (by omega)]
      rcases Nat.lt_or_ge i (m + 4) with hj | hj
      · obtain ⟨j, rfl⟩ : ∃ j, i = m + j := ⟨i - m, by omega⟩
        rw [Nat.add_sub_cancel_left]
        have : j = 0 ∨ j = 1 ∨ j = 2 ∨ j = 3 := by omega
        rcases this with rfl | rfl | rfl | rfl <;> exact (first_get bs _ (by omega))
      · rw [List.getElem?_eq_none (by omega), List.getElem?_eq_none (by simp; omega)]
  unfold sameB
  rw [← Bool.decide_and, ← Bool.decide_and, ← Bool.decide_and, decide_eq_decide]
  conv => lhs; rhs; rw [hd]
  unfold putB sumB
  rw [List.append_cancel_left_eq]
  simp only [List.cons.injEq, and_true]
  constructor
  · rintro ⟨a, b, c, d⟩; exact ⟨⟨⟨a.symm, b.symm⟩, c.symm⟩, d.symm⟩
  · rintro ⟨⟨⟨a, b⟩, c⟩, d⟩; exact ⟨a.symm, b.symm, c.symm, d.symm⟩

theorem eq4 (W : World) (a0 a1 a2 a3 b0 b1 b2 b3 : Int) : (Op.equalIn 10000 120 (.agg #[.int .u8 a0, .int .u8 a1, .int .u8 a2, .int .u8 a3]) (.agg #[.int .u8 b0, .int .u8 b1, .int .u8 b2, .int .u8 b3])).run Try.prog W = .ok (a0 == b0 && (a1 == b1 && (a2 == b2 && a3 == b3))) W := by
  obtain ⟨i0, hi, hz0, hz1, hz2⟩ := info_parts info_u8
  have hc : Try.prog.cellsOf 5 = 1 := by kernel_rfl
  rw [run_equalIn_array W 9999 _ _ Try.underlying120 hi, hc]
  have hu := Try.underlying5
  simp [Op.eqItems, List.range_succ, part, isAgg, run_underlying hu, run_equalIn_int W _ 5 .u8 .u8 _ _ hu]
  repeat split
  all_goals simp_all
theorem sum_ex (v : Value) (bs : List Nat) (C : Nat) (w : World) (hv : Bts w v bs) (hC : cof bs = C) :
    Calls Try.prog 84 #[v] w (Gives w (.agg #[.int .u8 ((C % 256 : Nat) : Int), .int .u8 ((C / 256 % 256 : Nat) : Int), .int .u8 ((C / 65536 % 256 : Nat) : Int), .int .u8 ((C / 16777216 % 256 : Nat) : Int)])) := by
  subst hC
  exact sum_any v bs w hv
theorem run_arr4 (W : World) (a : Addr) (c : Nat) : (Instr.arrayAt 120 (.slice (some a) 4 c)).run Try.prog W = .ok (.pointer (some a)) W := by
  simp [Instr.arrayAt, run_underlying Try.underlying120]
set_option maxRecDepth 100000 in
theorem Right_any (v : Value) (bs : List Nat) (w : World) (hv : Bts w v bs) (hn : bs.length ≤ 1000000) :
    Calls Try.prog 59 #[v] w (Gives w (.bool (rightB bs))) := by
  by_cases h4 : bs.length < 4
  · rw [rightB_short h4]
    obtain ⟨va, vn, vc, rfl⟩ := hv.slice
    obtain rfl := hv.len
    clear hv
    go_enter Try.func59, Try.ntmps59
    have i5 : IntKind.i64.wrap ((bs.length : Int) - 4) = (bs.length : Int) - 4 := by rw [IntKind.wrap_i64]; omega
    have i6 : decide ((4 : Int) ≤ (bs.length : Int)) = false := decide_eq_false (by omega)
    go_wp2_with (refine wp_region_up (by kernel_rfl) (by kernel_rfl) ?_; (repeat (go_big_quiet_step (fail))); refine wpQuiet_nil ?_; intro _ hw'; obtain ⟨xq, hw''⟩ := hw'; subst hw'')
    go_ret
    exact Gives.mk rfl (by (repeat (first | (with_reducible exact Below.refl _ _) | (with_reducible assumption) | (with_reducible refine Below.alloc ?_ (by (repeat (first | (with_reducible exact Nat.le_refl _) | (with_reducible assumption) | (with_reducible refine le_up ?_) | (with_reducible refine le_alloc ?_) | (with_reducible refine le_setCell ?_) | (with_reducible refine le_drew ?_) | (with_reducible refine le_drewN ?_) | omega))) _) | (with_reducible refine Below.drew ?_) | (with_reducible refine Below.drewN ?_ _) | (with_reducible refine Below.setCell ?_ (by (repeat (first | (with_reducible exact Nat.le_refl _) | (with_reducible assumption) | (with_reducible refine le_up ?_) | (with_reducible refine le_alloc ?_) | (with_reducible refine le_setCell ?_) | (with_reducible refine le_drew ?_) | (with_reducible refine le_drewN ?_) | omega))) _) | (with_reducible refine Below.up ?_ (by (repeat (first | (with_reducible exact Nat.le_refl _) | (with_reducible assumption) | (with_reducible refine le_up ?_) | (with_reducible refine le_alloc ?_) | (with_reducible refine le_setCell ?_) | (with_reducible refine le_drew ?_) | (with_reducible refine le_drewN ?_) | omega)))))))
  · obtain ⟨m, hm⟩ : ∃ m, bs.length = m + 4 := ⟨bs.length - 4, by omega⟩
    rw [rightB_long hm, right_law hm]
    obtain ⟨b, off, cap, rfl, hlc, hc, hb, hcell⟩ := hv.some (by omega)
    have HM := Lib.hid (hv.cut m (by omega))
    have c0 := hcell m (by omega)
    have c1 := hcell (m + 1) (by omega)
    have c2 := hcell (m + 2) (by omega)
    have c3 := hcell (m + 3) (by omega)
    clear hv hcell
    rw [hm] at hlc h4 ⊢
    rw [← Nat.add_assoc] at c1 c2 c3
    have i1 : (0 : Int) ≤ (m : Int) := by omega
    have i2 : (m : Int) ≤ (cap : Int) := by omega
    have i4 : IntKind.i64.wrap (m : Int) = m := by rw [IntKind.wrap_i64]; omega
    haveI : LtSize b w := ⟨hb⟩
    generalize bs.getD m 0 = y0 at *
    generalize bs.getD (m + 1) 0 = y1 at *
    generalize bs.getD (m + 2) 0 = y2 at *
    generalize bs.getD (m + 3) 0 = y3 at *
    generalize hC : cof (bs.take m) = C at *
    have HC := Lib.hid hC
    clear hm hC
    go_enter Try.func59, Try.ntmps59
    have hsa := run_arr4
    have heq := eq4
    go_wp2_with fail
    refine wp_region_up (by kernel_rfl) (by kernel_rfl) ?_
    repeat (go_big_quiet_step ((go_at_call 84; exact Calls.up_gives (sum_ex _ (bs.take m) C _ HM.out.up HC.out))))
    refine wpQuiet_nil ?_
    intro _ hw'
    obtain ⟨xq, hw''⟩ := hw'
    subst hw''
    go_wp2_with fail
    go_ret
    refine Gives.mk (ret_bool ?_) (by (repeat (first | (with_reducible exact Below.refl _ _) | (with_reducible assumption) | (with_reducible refine Below.alloc ?_ (by (repeat (first | (with_reducible exact Nat.le_refl _) | (with_reducible assumption) | (with_reducible refine le_up ?_) | (with_reducible refine le_alloc ?_) | (with_reducible refine le_setCell ?_) | (with_reducible refine le_drew ?_) | (with_reducible refine le_drewN ?_) | omega))) _) | (with_reducible refine Below.drew ?_) | (with_reducible refine Below.drewN ?_ _) | (with_reducible refine Below.setCell ?_ (by (repeat (first | (with_reducible exact Nat.le_refl _) | (with_reducible assumption) | (with_reducible refine le_up ?_) | (with_reducible refine le_alloc ?_) | (with_reducible refine le_setCell ?_) | (with_reducible refine le_drew ?_) | (with_reducible refine le_drewN ?_) | omega))) _) | (with_reducible refine Below.up ?_ (by (repeat (first | (with_reducible exact Nat.le_refl _) | (with_reducible assumption) | (with_reducible refine le_up ?_) | (with_reducible refine le_alloc ?_) | (with_reducible refine le_setCell ?_) | (with_reducible refine le_drew ?_) | (with_reducible refine le_drewN ?_) | omega)))))))
    rw [Bool.eq_iff_iff]
    simp
    omega
end Go.Proofs.Ytjkgodhoonkinaa
