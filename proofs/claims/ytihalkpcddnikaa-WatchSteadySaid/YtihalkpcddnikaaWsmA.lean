/-
  The program's numbers of 128 bits (wide.Of, Add, Clip), and fix's of and clip.
-/
import Derived.Test.YtihalkpcddnikaaWidM
import Derived.Laws.StructEq
namespace Go.Proofs.Ytihalkpcddnikaa
open Go.RowKit
set_option linter.unusedVariables false
set_option linter.unusedSimpArgs false

set_option maxRecDepth 100000 in
theorem wOf_any (x : Int) (w : World) (h1 : -9223372036854775808 ≤ x) (h2 : x ≤ 9223372036854775807) :
    Calls Try.prog 81 #[.int .i64 x] w (Gives w (wideV (ofI x))) := by
  have HV := Lib.hid (show hiV (ofI x) = x / 9223372036854775808 ∧ loV (ofI x) = IntKind.u64.wrap x from by
    unfold hiV loV ofI wrap64
    simp [IntKind.wrap, IntKind.bits, IntKind.signed]
    omega)
  go_enter Try.func81, Try.ntmps81
  go_wp2_with fail
  refine bodyPost_ret (v := .agg #[.int .i64 (x / 9223372036854775808), .int .u64 (IntKind.u64.wrap x)]) ?_ rfl (Gives.mk (by unfold wideV; rw [HV.out.1, HV.out.2]) (by (repeat (first | (with_reducible exact Below.refl _ _) | (with_reducible assumption) | (with_reducible refine Below.alloc ?_ (by (repeat (first | (with_reducible exact Nat.le_refl _) | (with_reducible assumption) | (with_reducible refine le_up ?_) | (with_reducible refine le_alloc ?_) | (with_reducible refine le_setCell ?_) | (with_reducible refine le_drew ?_) | (with_reducible refine le_drewN ?_) | omega))) _) | (with_reducible refine Below.drew ?_) | (with_reducible refine Below.drewN ?_ _) | (with_reducible refine Below.setCell ?_ (by (repeat (first | (with_reducible exact Nat.le_refl _) | (with_reducible assumption) | (with_reducible refine le_up ?_) | (with_reducible refine le_alloc ?_) | (with_reducible refine le_setCell ?_) | (with_reducible refine le_drew ?_) | (with_reducible refine le_drewN ?_) | omega))) _) | (with_reducible refine Below.up ?_ (by (repeat (first | (with_reducible exact Nat.le_refl _) | (with_reducible assumption) | (with_reducible refine le_up ?_) | (with_reducible refine le_alloc ?_) | (with_reducible refine le_setCell ?_) | (with_reducible refine le_drew ?_) | (with_reducible refine le_drewN ?_) | omega))))))))
  simp only [results, show Try.f81.results = #[ResultVar.cell 2 98] from rfl]
  go_simp
theorem hiV_u64 (n : Nat) (h : n < 340282366920938463463374607431768211456) : IntKind.u64.wrap (hiV n) = ((n / 18446744073709551616 : Nat) : Int) := by
  unfold hiV wrap64
  simp [IntKind.wrap, IntKind.bits, IntKind.signed]
  omega
set_option maxRecDepth 100000 in
theorem wAdd_any (n m : Nat) (w : World) (hn : n < 340282366920938463463374607431768211456) (hm : m < 340282366920938463463374607431768211456) :
    Calls Try.prog 78 #[wideV n, wideV m] w (Gives w (wideV ((n + m) % 340282366920938463463374607431768211456))) := by
  have hu1 := hiV_u64 n hn
  have hu2 := hiV_u64 m hm
  have HLN := Lib.hid (show loV n = ((n % 18446744073709551616 : Nat) : Int) ∧ loV m = ((m % 18446744073709551616 : Nat) : Int) from ⟨rfl, rfl⟩)
  have HH := Lib.hid (show hiV ((n + m) % 340282366920938463463374607431768211456) = wrap64 (((n + m) % 340282366920938463463374607431768211456 / 18446744073709551616 % 18446744073709551616 : Nat) : Int) ∧ loV ((n + m) % 340282366920938463463374607431768211456) = ((((n + m) % 340282366920938463463374607431768211456) % 18446744073709551616 : Nat) : Int) from ⟨rfl, rfl⟩)
  unfold wideV
  rw [HLN.out.1, HLN.out.2]
  generalize hz : (n + m) % 340282366920938463463374607431768211456 = z at *
  obtain ⟨l1, hl1⟩ : ∃ l, l = n % 18446744073709551616 := ⟨_, rfl⟩
  obtain ⟨l2, hl2⟩ : ∃ l, l = m % 18446744073709551616 := ⟨_, rfl⟩
  obtain ⟨h1, hh1⟩ : ∃ l, l = n / 18446744073709551616 := ⟨_, rfl⟩
  obtain ⟨h2, hh2⟩ : ∃ l, l = m / 18446744073709551616 := ⟨_, rfl⟩
  rw [← hh1] at hu1
  rw [← hh2] at hu2
  rw [← hl1, ← hl2]
  have b1 : l1 < 18446744073709551616 := by omega
  have b2 : l2 < 18446744073709551616 := by omega
  have b3 : h1 < 18446744073709551616 := by omega
  have b4 : h2 < 18446744073709551616 := by omega
  by_cases hc : l1 + l2 < 18446744073709551616
  · have HF := Lib.hid (show z % 18446744073709551616 = l1 + l2 ∧ z / 18446744073709551616 % 18446744073709551616 = (h1 + h2) % 18446744073709551616 by omega)
    rw [HF.out.1, HF.out.2] at HH
    have hw1 : IntKind.u64.wrap ((l1 : Int) + (l2 : Int)) = (l1 : Int) + (l2 : Int) := by simp [IntKind.wrap, IntKind.bits, IntKind.signed]; omega
    have hw2 : IntKind.u64.wrap ((h1 : Int) + (h2 : Int)) = (((h1 + h2) % 18446744073709551616 : Nat) : Int) := by simp [IntKind.wrap, IntKind.bits, IntKind.signed]
    have hlt : ¬ (l1 : Int) + (l2 : Int) < (l1 : Int) := by omega
    have hlt2 : ¬ l2 < 0 := by omega
    generalize (h1 + h2) % 18446744073709551616 = hh at *
    generalize hiV n = v1 at *
    generalize hiV m = v2 at *
    clear hl1 hl2 hh1 hh2 hz HF HLN hn hm
    go_enter Try.func78, Try.ntmps78
    go_wp2_with fail
    refine bodyPost_ret (v := .agg #[.int .i64 (wrap64 (hh : Int)), .int .u64 ((l1 : Int) + (l2 : Int))]) ?_ rfl (Gives.mk (by rw [HH.out.1, HH.out.2]; rfl) (by (repeat (first | (with_reducible exact Below.refl _ _) | (with_reducible assumption) | (with_reducible refine Below.alloc ?_ (by (repeat (first | (with_reducible exact Nat.le_refl _) | (with_reducible assumption) | (with_reducible refine le_up ?_) | (with_reducible refine le_alloc ?_) | (with_reducible refine le_setCell ?_) | (with_reducible refine le_drew ?_) | (with_reducible refine le_drewN ?_) | omega))) _) | (with_reducible refine Below.drew ?_) | (with_reducible refine Below.drewN ?_ _) | (with_reducible refine Below.setCell ?_ (by (repeat (first | (with_reducible exact Nat.le_refl _) | (with_reducible assumption) | (with_reducible refine le_up ?_) | (with_reducible refine le_alloc ?_) | (with_reducible refine le_setCell ?_) | (with_reducible refine le_drew ?_) | (with_reducible refine le_drewN ?_) | omega))) _) | (with_reducible refine Below.up ?_ (by (repeat (first | (with_reducible exact Nat.le_refl _) | (with_reducible assumption) | (with_reducible refine le_up ?_) | (with_reducible refine le_alloc ?_) | (with_reducible refine le_setCell ?_) | (with_reducible refine le_drew ?_) | (with_reducible refine le_drewN ?_) | omega))))))))
    simp only [results, show Try.f78.results = #[ResultVar.cell 4 98] from rfl]
    go_simp
  · have HF := Lib.hid (show z % 18446744073709551616 = l1 + l2 - 18446744073709551616 ∧ z / 18446744073709551616 % 18446744073709551616 = (h1 + h2 + 1) % 18446744073709551616 by omega)
    rw [HF.out.1, HF.out.2] at HH
    obtain ⟨ls, hls⟩ : ∃ l, l = l1 + l2 - 18446744073709551616 := ⟨_, rfl⟩
    rw [← hls] at HH
    have hw1 : IntKind.u64.wrap ((l1 : Int) + (l2 : Int)) = (ls : Int) := by simp [IntKind.wrap, IntKind.bits, IntKind.signed]; omega
    obtain ⟨hs, hhs⟩ : ∃ l, l = (h1 + h2) % 18446744073709551616 := ⟨_, rfl⟩
    have hw2 : IntKind.u64.wrap ((h1 : Int) + (h2 : Int)) = (hs : Int) := by rw [hhs]; simp [IntKind.wrap, IntKind.bits, IntKind.signed]
    have hw3 : IntKind.u64.wrap ((hs : Int) + 1) = (((h1 + h2 + 1) % 18446744073709551616 : Nat) : Int) := by rw [hhs]; simp [IntKind.wrap, IntKind.bits, IntKind.signed]
    have hlt : (ls : Int) < (l1 : Int) := by omega
    have hltN : ls < l1 := by omega
    generalize (h1 + h2 + 1) % 18446744073709551616 = hh at *
    generalize hiV n = v1 at *
    generalize hiV m = v2 at *
    clear hl1 hl2 hh1 hh2 hz HF HLN hn hm hls hhs
    go_enter Try.func78, Try.ntmps78
    go_wp2_with fail
    refine bodyPost_ret (v := .agg #[.int .i64 (wrap64 (hh : Int)), .int .u64 (ls : Int)]) ?_ rfl (Gives.mk (by rw [HH.out.1, HH.out.2]) (by (repeat (first | (with_reducible exact Below.refl _ _) | (with_reducible assumption) | (with_reducible refine Below.alloc ?_ (by (repeat (first | (with_reducible exact Nat.le_refl _) | (with_reducible assumption) | (with_reducible refine le_up ?_) | (with_reducible refine le_alloc ?_) | (with_reducible refine le_setCell ?_) | (with_reducible refine le_drew ?_) | (with_reducible refine le_drewN ?_) | omega))) _) | (with_reducible refine Below.drew ?_) | (with_reducible refine Below.drewN ?_ _) | (with_reducible refine Below.setCell ?_ (by (repeat (first | (with_reducible exact Nat.le_refl _) | (with_reducible assumption) | (with_reducible refine le_up ?_) | (with_reducible refine le_alloc ?_) | (with_reducible refine le_setCell ?_) | (with_reducible refine le_drew ?_) | (with_reducible refine le_drewN ?_) | omega))) _) | (with_reducible refine Below.up ?_ (by (repeat (first | (with_reducible exact Nat.le_refl _) | (with_reducible assumption) | (with_reducible refine le_up ?_) | (with_reducible refine le_alloc ?_) | (with_reducible refine le_setCell ?_) | (with_reducible refine le_drew ?_) | (with_reducible refine le_drewN ?_) | omega))))))))
    simp only [results, show Try.f78.results = #[ResultVar.cell 4 98] from rfl]
    go_simp
end Go.Proofs.Ytihalkpcddnikaa
