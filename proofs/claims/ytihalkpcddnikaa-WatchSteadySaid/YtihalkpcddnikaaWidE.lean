/-
  Numbers of 128 bits: a number out of its bits.
-/
import Derived.Test.YtihalkpcddnikaaWidD
namespace Go.Proofs.Ytihalkpcddnikaa
open Go.RowKit
set_option linter.unusedVariables false
set_option linter.unusedSimpArgs false

theorem pow_le63 {i : Nat} (h : i < 64) : 2 * 2 ^ i ≤ 18446744073709551616 ∧ 0 < 2 ^ i := by
  have := Nat.pow_le_pow_right (n := 2) (by decide) (show i + 1 ≤ 64 by omega)
  rw [Nat.pow_succ] at this
  exact ⟨by omega, Nat.pow_pos (by decide)⟩
set_option maxRecDepth 100000 in
set_option maxHeartbeats 3200000 in
theorem Number_any (v : Value) (ds : List Nat) (base : Nat) (w : World) (hv : OwnD w base v ds) (hb : Bits ds) (hl : ds.length = 128) :
    Calls Try.prog 70 #[v] w (Gives w (wideV (numN ds))) := by
  obtain ⟨g, cap, rfl, hg, hgl⟩ := hv.shape (fun e => by subst e; have := OwnD.len hv; omega)
  have HV := Lib.hid hv
  have HBT := Lib.hid hb
  have HL := Lib.hid hl
  have HSP := Lib.hid (show numN ds = numN (ds.take 64) + 2 ^ 64 * numN (ds.drop 64) ∧ numN (ds.take 64) < 2 ^ 64 ∧ numN (ds.drop 64) < 2 ^ 64 from by
    have h1 := numN_append (ds.take 64) (ds.drop 64)
    have h2 := numN_lt (hb.take 64)
    have h3 := numN_lt (hb.drop 64)
    rw [List.take_append_drop] at h1
    rw [List.length_take, hl] at h1 h2
    rw [List.length_drop, hl] at h3
    exact ⟨h1, h2, h3⟩)
  clear hv hb
  rw [hl]
  clear hl
  go_enter Try.func70, Try.ntmps70
  go_wp2_with fail
  have HW0 := Lib.hid (show ∀ i : Nat, i < 128 → (w.alloc (.cells #[.int .i64 0, .int .u64 0] 98)).cell? ⟨g, i, none⟩ = some (.int .i64 ((ds.getD i 0 : Nat) : Int)) from fun i hi => by
    have := HV.out.cell i (by rw [HL.out]; exact hi)
    have hb := (Below.refl w.heap.size w).alloc (Nat.le_refl _) (.cells #[.int .i64 0, .int .u64 0] 98)
    rw [hb.cell (p := ⟨g, i, none⟩) hgl]; exact this)
  have HR := Lib.hid (show Below w.heap.size w (w.alloc (.cells #[.int .i64 0, .int .u64 0] 98)) ∧ (w.alloc (.cells #[.int .i64 0, .int .u64 0] 98)).cell? ⟨w.heap.size, 0, none⟩ = some (.int .i64 0) ∧ (w.alloc (.cells #[.int .i64 0, .int .u64 0] 98)).cell? ⟨w.heap.size, 1, none⟩ = some (.int .u64 0) ∧ (∀ i, (w.alloc (.cells #[.int .i64 0, .int .u64 0] 98)).frozen? ⟨w.heap.size, i, none⟩ = false) ∧ (w.alloc (.cells #[.int .i64 0, .int .u64 0] 98)).heap.size = w.heap.size + 1 from ⟨by (repeat (first | (with_reducible exact Below.refl _ _) | (with_reducible assumption) | (with_reducible refine Below.alloc ?_ (by (repeat (first | (with_reducible exact Nat.le_refl _) | (with_reducible assumption) | (with_reducible refine le_up ?_) | (with_reducible refine le_alloc ?_) | (with_reducible refine le_setCell ?_) | (with_reducible refine le_drew ?_) | (with_reducible refine le_drewN ?_) | omega))) _) | (with_reducible refine Below.drew ?_) | (with_reducible refine Below.drewN ?_ _) | (with_reducible refine Below.setCell ?_ (by (repeat (first | (with_reducible exact Nat.le_refl _) | (with_reducible assumption) | (with_reducible refine le_up ?_) | (with_reducible refine le_alloc ?_) | (with_reducible refine le_setCell ?_) | (with_reducible refine le_drew ?_) | (with_reducible refine le_drewN ?_) | omega))) _) | (with_reducible refine Below.up ?_ (by (repeat (first | (with_reducible exact Nat.le_refl _) | (with_reducible assumption) | (with_reducible refine le_up ?_) | (with_reducible refine le_alloc ?_) | (with_reducible refine le_setCell ?_) | (with_reducible refine le_drew ?_) | (with_reducible refine le_drewN ?_) | omega)))))), by simp, by simp, fun i => World.frozen?_alloc_new _ _ _ _, by simp⟩)
  generalize w.alloc (.cells #[.int .i64 0, .int .u64 0] 98) = W at *
  haveI : LtSize g W := ⟨by have := HR.out.2.2.2.2; omega⟩
  go_loopw [3, 5, 6] (fun v3 v5 v6 wr => W = wr ∧ ∃ i : Nat, i ≤ 64 ∧ v6 = .int .i64 (i : Int) ∧ v3 = .int .u64 ((numN (ds.take i) : Nat) : Int) ∧ v5 = .int .u64 ((2 ^ i % 18446744073709551616 : Nat) : Int)) (fun _ _ v6 _ => 64 - (intOf v6).toNat)
  case atStart => exact ⟨(by first | rfl | trivial), 0, by omega, rfl, rfl, rfl⟩
  case round =>
    obtain ⟨rfl, i, hi64, rfl, rfl, rfl⟩ := hrel
    by_cases hlt : i < 64
    · have hd : ds.getD i 0 < 2 := HBT.out.get i
      have hlb : numN (ds.take i) < 2 ^ i := by
        have := numN_lt (HBT.out.take i)
        rwa [List.length_take, HL.out, Nat.min_eq_left (by omega)] at this
      have HS := Lib.hid (numN_take ds i (by rw [HL.out]; omega))
      have c0 := HW0.out i (by omega)
      have hl128 : (i : Int) < 128 := by omega
      generalize numN (ds.take i) = l at *
      generalize ds.getD i 0 = d at *
      have hP := pow_le63 hlt
      have HPS := Lib.hid (show 2 ^ (i + 1) % 18446744073709551616 = 2 * 2 ^ i % 18446744073709551616 by rw [Nat.pow_succ, Nat.mul_comm])
      have hPm : 2 ^ i % 18446744073709551616 = 2 ^ i := Nat.mod_eq_of_lt (by omega)
      rw [hPm]
      have hltI : (i : Int) < 64 := by omega
      have hle : d * 2 ^ i ≤ 1 * 2 ^ i := Nat.mul_le_mul_right _ (by omega)
      have hle' : 2 ^ i * d ≤ 2 ^ i := by rw [Nat.mul_comm]; omega
      generalize 2 ^ i = P at *
      have hw0 : IntKind.u64.wrap (d : Int) = (d : Int) := by simp [IntKind.wrap, IntKind.bits, IntKind.signed]; omega
      have hw1 : IntKind.u64.wrap ((d : Int) * (P : Int)) = (d : Int) * (P : Int) := by
        rw [← Int.natCast_mul]
        simp [IntKind.wrap, IntKind.bits, IntKind.signed]; omega
      have hw2 : IntKind.u64.wrap ((l : Int) + (d : Int) * (P : Int)) = (l : Int) + (d : Int) * (P : Int) := by
        rw [← Int.natCast_mul]
        simp [IntKind.wrap, IntKind.bits, IntKind.signed]; omega
      have hw3 : IntKind.u64.wrap (2 * (P : Int)) = ((2 * P % 18446744073709551616 : Nat) : Int) := by simp [IntKind.wrap, IntKind.bits, IntKind.signed]
      have HCA := Lib.hid (show ((l + P * d : Nat) : Int) = (l : Int) + (d : Int) * (P : Int) by rw [Int.natCast_add, Int.natCast_mul, Int.mul_comm])
      generalize 2 * P % 18446744073709551616 = P2 at *
      clear hle hle' hP hPm
      go_wp2_with fail
      exact ⟨⟨(by first | rfl | trivial), i + 1, by omega, (by first | rfl | go_num), (by rw [HS.out, HCA.out]), (by rw [HPS.out])⟩, by simp [intOf]; omega⟩
    · obtain rfl : i = 64 := by omega
      rw [show ((64 : Nat) : Int) = 64 from rfl]
      generalize hl0 : numN (ds.take 64) = lo at *
      have HLO := Lib.hid hl0
      clear hl0
      generalize 2 ^ 64 % 18446744073709551616 = P0 at *
      go_wp2_with fail
      go_loopw [4, 5, 7] (fun v4 v5 v7 wr => W = wr ∧ ∃ i : Nat, i ≤ 64 ∧ v7 = .int .i64 (((64 + i : Nat)) : Int) ∧ v4 = .int .u64 ((numN ((ds.drop 64).take i) : Nat) : Int) ∧ v5 = .int .u64 ((2 ^ i % 18446744073709551616 : Nat) : Int)) (fun _ _ v7 _ => 128 - (intOf v7).toNat)
      case atStart => exact ⟨(by first | rfl | trivial), 0, by omega, rfl, rfl, rfl⟩
      case round =>
        obtain ⟨rfl, i, hi64, rfl, rfl, rfl⟩ := hrel
        by_cases hlt : i < 64
        · have hd : ds.getD (64 + i) 0 < 2 := HBT.out.get (64 + i)
          have hlb : numN ((ds.drop 64).take i) < 2 ^ i := by
            have := numN_lt ((HBT.out.drop 64).take i)
            rwa [List.length_take, List.length_drop, HL.out, Nat.min_eq_left (by omega)] at this
          have HS := Lib.hid (show numN ((ds.drop 64).take (i + 1)) = numN ((ds.drop 64).take i) + 2 ^ i * ds.getD (64 + i) 0 from by
            have := numN_take (ds.drop 64) i (by rw [List.length_drop, HL.out]; omega)
            rw [this]
            congr 2
            rw [List.getD_eq_getElem?_getD, List.getD_eq_getElem?_getD, List.getElem?_drop])
          have c0 := HW0.out (64 + i) (by omega)
          have hl128 : (((64 + i : Nat)) : Int) < 128 := by omega
          have hj : (64 + i : Nat) < 128 := by omega
          have HJ := Lib.hid (show 64 + (i + 1) = 64 + i + 1 from rfl)
          generalize numN ((ds.drop 64).take i) = l at *
          generalize ds.getD (64 + i) 0 = d at *
          have hP := pow_le63 hlt
          have HPS := Lib.hid (show 2 ^ (i + 1) % 18446744073709551616 = 2 * 2 ^ i % 18446744073709551616 by rw [Nat.pow_succ, Nat.mul_comm])
          have hPm : 2 ^ i % 18446744073709551616 = 2 ^ i := Nat.mod_eq_of_lt (by omega)
          rw [hPm]
          have hltI : (i : Int) < 64 := by omega
          have hle : d * 2 ^ i ≤ 1 * 2 ^ i := Nat.mul_le_mul_right _ (by omega)
          have hle' : 2 ^ i * d ≤ 2 ^ i := by rw [Nat.mul_comm]; omega
          generalize 2 ^ i = P at *
          have hw0 : IntKind.u64.wrap (d : Int) = (d : Int) := by simp [IntKind.wrap, IntKind.bits, IntKind.signed]; omega
          have hw1 : IntKind.u64.wrap ((d : Int) * (P : Int)) = (d : Int) * (P : Int) := by
            rw [← Int.natCast_mul]
            simp [IntKind.wrap, IntKind.bits, IntKind.signed]; omega
          have hw2 : IntKind.u64.wrap ((l : Int) + (d : Int) * (P : Int)) = (l : Int) + (d : Int) * (P : Int) := by
            rw [← Int.natCast_mul]
            simp [IntKind.wrap, IntKind.bits, IntKind.signed]; omega
          have hw3 : IntKind.u64.wrap (2 * (P : Int)) = ((2 * P % 18446744073709551616 : Nat) : Int) := by simp [IntKind.wrap, IntKind.bits, IntKind.signed]
          have HCA := Lib.hid (show ((l + P * d : Nat) : Int) = (l : Int) + (d : Int) * (P : Int) by rw [Int.natCast_add, Int.natCast_mul, Int.mul_comm])
          generalize 2 * P % 18446744073709551616 = P2 at *
          clear hle hle' hP hPm
          clear hltI
          generalize 64 + i = j at *
          go_wp2_with fail
          exact ⟨⟨(by first | rfl | trivial), i + 1, by omega, (by rw [HJ.out]; first | rfl | go_num), (by rw [HS.out, HCA.out]), (by rw [HPS.out])⟩, by simp [intOf]; omega⟩
        · obtain rfl : i = 64 := by omega
          rw [show ((64 + 64 : Nat) : Int) = 128 from rfl]
          have htd : (ds.drop 64).take 64 = ds.drop 64 := List.take_of_length_le (by rw [List.length_drop, HL.out]; omega)
          rw [htd]
          generalize hh0 : numN (ds.drop 64) = hi at *
          have HHI := Lib.hid hh0
          clear hh0 htd
          generalize 2 ^ 64 % 18446744073709551616 = P1 at *
          have r0 := HR.out.2.1
          have r1 := HR.out.2.2.1
          have f0 := HR.out.2.2.2.1 0
          have f1 := HR.out.2.2.2.1 1
          haveI : LtSize w.heap.size W := ⟨by have := HR.out.2.2.2.2; omega⟩
          have HE := Lib.hid (show hiV (numN ds) = wrap64 (hi : Int) ∧ loV (numN ds) = (lo : Int) from by
            obtain ⟨s1, s2, s3⟩ := HSP.out
            rw [s1]
            unfold hiV loV wrap64
            omega)
          have hbel := HR.out.1
          go_wp2_with fail
          refine bodyPost_ret (v := .agg #[.int .i64 (wrap64 (hi : Int)), .int .u64 (lo : Int)]) ?_ rfl (Gives.mk (by unfold wideV; rw [HE.out.1, HE.out.2]) ?_)
          · simp only [results, show Try.f70.results = #[ResultVar.cell 2 98] from rfl]
            go_simp
          · (repeat (first | (with_reducible exact Below.refl _ _) | (with_reducible assumption) | (with_reducible refine Below.alloc ?_ (by (repeat (first | (with_reducible exact Nat.le_refl _) | (with_reducible assumption) | (with_reducible refine le_up ?_) | (with_reducible refine le_alloc ?_) | (with_reducible refine le_setCell ?_) | (with_reducible refine le_drew ?_) | (with_reducible refine le_drewN ?_) | omega))) _) | (with_reducible refine Below.drew ?_) | (with_reducible refine Below.drewN ?_ _) | (with_reducible refine Below.setCell ?_ (by (repeat (first | (with_reducible exact Nat.le_refl _) | (with_reducible assumption) | (with_reducible refine le_up ?_) | (with_reducible refine le_alloc ?_) | (with_reducible refine le_setCell ?_) | (with_reducible refine le_drew ?_) | (with_reducible refine le_drewN ?_) | omega))) _) | (with_reducible refine Below.up ?_ (by (repeat (first | (with_reducible exact Nat.le_refl _) | (with_reducible assumption) | (with_reducible refine le_up ?_) | (with_reducible refine le_alloc ?_) | (with_reducible refine le_setCell ?_) | (with_reducible refine le_drew ?_) | (with_reducible refine le_drewN ?_) | omega))))))
end Go.Proofs.Ytihalkpcddnikaa
