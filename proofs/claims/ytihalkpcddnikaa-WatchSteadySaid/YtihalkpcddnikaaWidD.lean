/-
  Numbers of 128 bits: out of a number, and their bits.
-/
import Derived.Test.YtihalkpcddnikaaWidP
import Derived.Test.YtihalkpcddnikaaWidI
import Derived.Test.YtihalkpcddnikaaLib2
import Derived.Test.YtihalkpcddnikaaGen
namespace Go.Proofs.Ytihalkpcddnikaa
open Go.RowKit
set_option linter.unusedVariables false
set_option linter.unusedSimpArgs false

theorem Of_any (x : Int) (w : World) (h1 : -9223372036854775808 ≤ x) (h2 : x ≤ 9223372036854775807) :
    Calls Try.prog 53 #[.int .i64 x] w (Gives w (wideV (ofI x))) := by
  by_cases h : x < 0
  · have hv := Lib.hid (show hiV (ofI x) = -1 ∧ loV (ofI x) = IntKind.u64.wrap x from by
      unfold hiV loV ofI wrap64
      simp [IntKind.wrap, IntKind.bits, IntKind.signed]
      omega)
    go_enter Try.func53, Try.ntmps53
    go_wp2_with fail
    refine bodyPost_ret (v := .agg #[.int .i64 (-1), .int .u64 (IntKind.u64.wrap x)]) ?_ rfl (Gives.mk (by unfold wideV; rw [hv.out.1, hv.out.2]) (by (repeat (first | (with_reducible exact Below.refl _ _) | (with_reducible assumption) | (with_reducible refine Below.alloc ?_ (by (repeat (first | (with_reducible exact Nat.le_refl _) | (with_reducible assumption) | (with_reducible refine le_up ?_) | (with_reducible refine le_alloc ?_) | (with_reducible refine le_setCell ?_) | (with_reducible refine le_drew ?_) | (with_reducible refine le_drewN ?_) | omega))) _) | (with_reducible refine Below.drew ?_) | (with_reducible refine Below.drewN ?_ _) | (with_reducible refine Below.setCell ?_ (by (repeat (first | (with_reducible exact Nat.le_refl _) | (with_reducible assumption) | (with_reducible refine le_up ?_) | (with_reducible refine le_alloc ?_) | (with_reducible refine le_setCell ?_) | (with_reducible refine le_drew ?_) | (with_reducible refine le_drewN ?_) | omega))) _) | (with_reducible refine Below.up ?_ (by (repeat (first | (with_reducible exact Nat.le_refl _) | (with_reducible assumption) | (with_reducible refine le_up ?_) | (with_reducible refine le_alloc ?_) | (with_reducible refine le_setCell ?_) | (with_reducible refine le_drew ?_) | (with_reducible refine le_drewN ?_) | omega))))))))
    simp only [results, show Try.f53.results = #[ResultVar.cell 2 98] from rfl]
    go_simp
  · have hv := Lib.hid (show hiV (ofI x) = 0 ∧ loV (ofI x) = x from by
      unfold hiV loV ofI wrap64
      omega)
    go_enter Try.func53, Try.ntmps53
    go_wp2_with fail
    refine bodyPost_ret (v := .agg #[.int .i64 0, .int .u64 x]) ?_ rfl (Gives.mk (by unfold wideV; rw [hv.out.1, hv.out.2]) (by (repeat (first | (with_reducible exact Below.refl _ _) | (with_reducible assumption) | (with_reducible refine Below.alloc ?_ (by (repeat (first | (with_reducible exact Nat.le_refl _) | (with_reducible assumption) | (with_reducible refine le_up ?_) | (with_reducible refine le_alloc ?_) | (with_reducible refine le_setCell ?_) | (with_reducible refine le_drew ?_) | (with_reducible refine le_drewN ?_) | omega))) _) | (with_reducible refine Below.drew ?_) | (with_reducible refine Below.drewN ?_ _) | (with_reducible refine Below.setCell ?_ (by (repeat (first | (with_reducible exact Nat.le_refl _) | (with_reducible assumption) | (with_reducible refine le_up ?_) | (with_reducible refine le_alloc ?_) | (with_reducible refine le_setCell ?_) | (with_reducible refine le_drew ?_) | (with_reducible refine le_drewN ?_) | omega))) _) | (with_reducible refine Below.up ?_ (by (repeat (first | (with_reducible exact Nat.le_refl _) | (with_reducible assumption) | (with_reducible refine le_up ?_) | (with_reducible refine le_alloc ?_) | (with_reducible refine le_setCell ?_) | (with_reducible refine le_drew ?_) | (with_reducible refine le_drewN ?_) | omega))))))))
    simp only [results, show Try.f53.results = #[ResultVar.cell 2 98] from rfl]
    go_simp
/-- The bits, in a slice of the call's own. -/
def DigR (w : World) (ds : List Nat) (e : Ending) (w' : World) : Prop := ∃ g cap, e = .returned (.slice (some ⟨g, 0, none⟩) ds.length cap) ∧ OwnD w' w.heap.size (.slice (some ⟨g, 0, none⟩) ds.length cap) ds ∧ Below w.heap.size w w' ∧ w.heap.size ≤ g
structure DigAt (w : World) (h : Int) (lo : Int) (ds : List Nat) (v : Value) (wr : World) : Prop where
  own : OwnD wr (w.heap.size + 1) v ds
  bel : Below w.heap.size w wr
  nn : v ≠ .slice none 0 0
  c0 : wr.cell? ⟨w.heap.size, 0, none⟩ = some (.int .i64 h)
  c1 : wr.cell? ⟨w.heap.size, 1, none⟩ = some (.int .u64 lo)
  sz : w.heap.size + 1 ≤ wr.heap.size
theorem kept_cellR {w w' : World} {x o : Nat} {v : Value} {row : Option Nat} (hc : w.cell? ⟨x, o, none⟩ = some v) (hg : w.grownBy w' row) (hne : row ≠ some x) : w'.cell? ⟨x, o, none⟩ = some v := by
  have hlt : x < w.heap.size := World.block_lt_of_cell? w ⟨x, o, none⟩ hc
  rw [World.cell?_of_block (a := ⟨x, o, none⟩) (hg.block x hlt (fun e => hne e.symm))]; exact hc
theorem DigAt.step {w wr w2 : World} {h lo : Int} {ds : List Nat} {v v2 : Value} {d : Nat} {o : Obj} (H : DigAt w h lo ds v wr) (ho : OwnD w2 (w.heap.size + 1) v2 (ds ++ [d])) (hg : (wr.alloc o).grownBy w2 v.ownBlock) (hn : v2 ≠ .slice none 0 0) : DigAt w h lo (ds ++ [d]) v2 w2 := by
  have hr : ∀ b, v.ownBlock = some b → w.heap.size + 1 ≤ b := fun b hb => (H.own.own b hb).1
  have hb : Below wr.heap.size wr (wr.alloc o) := (Below.refl _ _).alloc (Nat.le_refl _) _
  have hne : v.ownBlock ≠ some w.heap.size := fun e => by have := hr _ e; omega
  have hs := H.sz
  exact ⟨ho, (H.bel.trans (hb.mono H.bel.size)).grown hg (Nat.le_trans H.bel.size hb.size) (fun b e => by have := hr b e; omega), hn,
    kept_cellR (by rw [hb.cell (p := ⟨w.heap.size, 0, none⟩) (show w.heap.size < wr.heap.size by omega)]; exact H.c0) hg hne,
    kept_cellR (by rw [hb.cell (p := ⟨w.heap.size, 1, none⟩) (show w.heap.size < wr.heap.size by omega)]; exact H.c1) hg hne,
    Nat.le_trans H.sz (Nat.le_trans hb.size hg.size)⟩
set_option maxRecDepth 100000 in
set_option maxHeartbeats 3200000 in
theorem Digits_any (n : Nat) (w : World) (hn : n < 340282366920938463463374607431768211456) :
    Calls Try.prog 54 #[wideV n] w (DigR w (bitsN 128 n)) := by
  obtain ⟨hi, hhi⟩ : ∃ h, h = n / 18446744073709551616 := ⟨_, rfl⟩
  obtain ⟨lo, hlo⟩ : ∃ l, l = n % 18446744073709551616 := ⟨_, rfl⟩
  have hloV : loV n = ((lo : Nat) : Int) := by rw [hlo]; rfl
  have hhb : hi < 18446744073709551616 := by omega
  have hlb : lo < 18446744073709551616 := by omega
  have hH : IntKind.u64.wrap (hiV n) = ((hi : Nat) : Int) := by
    rw [hhi]; unfold hiV wrap64
    simp [IntKind.wrap, IntKind.bits, IntKind.signed]
    omega
  have HALL := Lib.hid (show bitsN 128 n = bitsN 64 lo ++ bitsN 64 hi from by
    rw [show (128 : Nat) = 64 + 64 from rfl, bitsN_append, hhi]
    congr 1
    rw [hlo]
    clear hH hloV hhb hlb hlo hhi hn
    have : ∀ k m, k ≤ 64 → bitsN k (m % 2 ^ 64) = bitsN k m := fun k m hk => by
      have h1 := bitsN_numN (bitsN_bits k (m % 2 ^ 64))
      have h2 := bitsN_numN (bitsN_bits k m)
      rw [bitsN_length, numN_bitsN, Nat.mod_mod_of_dvd _ (Nat.pow_dvd_pow 2 hk)] at h1
      rw [bitsN_length, numN_bitsN] at h2
      rw [← h1, h2]
    exact (this 64 n (Nat.le_refl _)).symm)
  unfold wideV
  rw [hloV]
  generalize hiV n = hv at *
  clear hhi hlo hloV hn
  have he := Lib.hid (OwnD.empty (w.alloc (.cells #[.int .i64 hv, .int .u64 ((lo : Nat) : Int)] 98)))
  go_enter Try.func54, Try.ntmps54
  go_wp2_with fail
  go_loopw [3, 4, 5] (fun v3 v4 v5 wr => ∃ i : Nat, i ≤ 64 ∧ v5 = .int .i64 (i : Int) ∧ v4 = .int .u64 ((lo / 2 ^ i : Nat) : Int) ∧ DigAt w hv ((lo : Nat) : Int) (bitsN i lo) v3 wr) (fun _ _ v5 _ => 64 - (intOf v5).toNat)
  case atStart =>
    refine ⟨0, by omega, rfl, by simp, ⟨by have := he.out; simpa [bitsN] using this, by (repeat (first | (with_reducible exact Below.refl _ _) | (with_reducible assumption) | (with_reducible refine Below.alloc ?_ (by (repeat (first | (with_reducible exact Nat.le_refl _) | (with_reducible assumption) | (with_reducible refine le_up ?_) | (with_reducible refine le_alloc ?_) | (with_reducible refine le_setCell ?_) | (with_reducible refine le_drew ?_) | (with_reducible refine le_drewN ?_) | omega))) _) | (with_reducible refine Below.drew ?_) | (with_reducible refine Below.drewN ?_ _) | (with_reducible refine Below.setCell ?_ (by (repeat (first | (with_reducible exact Nat.le_refl _) | (with_reducible assumption) | (with_reducible refine le_up ?_) | (with_reducible refine le_alloc ?_) | (with_reducible refine le_setCell ?_) | (with_reducible refine le_drew ?_) | (with_reducible refine le_drewN ?_) | omega))) _) | (with_reducible refine Below.up ?_ (by (repeat (first | (with_reducible exact Nat.le_refl _) | (with_reducible assumption) | (with_reducible refine le_up ?_) | (with_reducible refine le_alloc ?_) | (with_reducible refine le_setCell ?_) | (with_reducible refine le_drew ?_) | (with_reducible refine le_drewN ?_) | omega)))))), by simp, by simp, by simp, by simp⟩⟩
  case round =>
    clear he
    obtain ⟨i, hi64, rfl, rfl, hD⟩ := hrel
    have hdl : (bitsN i lo).length ≤ 1000000 := by rw [bitsN_length]; omega
    by_cases hlt : i < 64
    · have hqb : lo / 2 ^ i < 18446744073709551616 := Nat.lt_of_le_of_lt (Nat.div_le_self _ _) hlb
      have HS := Lib.hid (show bitsN (i + 1) lo = bitsN i lo ++ [lo / 2 ^ i % 2] ∧ lo / 2 ^ (i + 1) = lo / 2 ^ i / 2 from ⟨bitsN_end i lo, by rw [Nat.pow_succ, Nat.div_div_eq_div_mul]⟩)
      have hltI : (i : Int) < 64 := by omega
      generalize lo / 2 ^ i = q at *
      generalize hds : bitsN i lo = ds at *
      have hq : q < 18446744073709551616 := hqb
      have hb2 : q % 2 < 2 := Nat.mod_lt _ (by decide)
      have hw1 : IntKind.i64.wrap ((q : Int) % 2) = (q : Int) % 2 := by rw [IntKind.wrap_i64]; omega
      have HB2 := Lib.hid (show ((q : Int) % 2) = ((q % 2 : Nat) : Int) by omega)
      have HNV := Lib.hid hD.nn
      obtain ⟨g, cap, hve, hg1, hg2⟩ := hD.own.shape hD.nn
      have HD := Lib.hid hD
      clear hD
      go_wp2_with (at_builtin; refine wpList_append_int rfl _ _ rfl (w.heap.size + 1) _ ds (q % 2) wr.heap.size 1 (by rfl) (HD.out.own.below ((Below.refl _ _).alloc (Nat.le_refl _) _) (Nat.le_refl _)) (by rfl) (by rw [← HB2.out]; simp) hdl (by have := HD.out.sz; simp; omega) (fun v2 w2 ho2 hg2 hne2 => ?_); have HO2 := Lib.hid ho2; have HG2 := Lib.hid hg2; have HN2 := Lib.hid hne2; clear ho2 hg2 hne2)
      have HST := Lib.hid (HD.out.step HO2.out HG2.out HN2.out)
      exact ⟨⟨i + 1, by omega, (by first | rfl | go_num), (by rw [HS.out.2]; go_num), (by rw [HS.out.1]; exact HST.out)⟩, by simp [intOf]; omega⟩
    · obtain rfl : i = 64 := by omega
      rw [show ((64 : Nat) : Int) = 64 from rfl]
      have c0 := hD.c0
      have HD0 := Lib.hid hD
      haveI : LtSize w.heap.size wr := ⟨by have := hD.sz; omega⟩
      have hnn := hD.nn
      clear hD
      generalize lo / 2 ^ 64 = q at *
      go_wp2_with fail
      clear c0
      go_loopw [3, 6, 7] (fun v3 v6 v7 wr => ∃ i : Nat, i ≤ 64 ∧ v7 = .int .i64 (i : Int) ∧ v6 = .int .u64 ((hi / 2 ^ i : Nat) : Int) ∧ DigAt w hv ((lo : Nat) : Int) (bitsN 64 lo ++ bitsN i hi) v3 wr) (fun _ _ v7 _ => 64 - (intOf v7).toNat)
      case atStart => exact ⟨0, by omega, rfl, by simp, by have := HD0.out; simpa [bitsN] using this⟩
      case round =>
        clear HD0 hnn
        obtain ⟨i, hi64, rfl, rfl, hD⟩ := hrel
        have hdl : (bitsN 64 lo ++ bitsN i hi).length ≤ 1000000 := by rw [List.length_append, bitsN_length, bitsN_length]; omega
        by_cases hlt : i < 64
        · have hqb : hi / 2 ^ i < 18446744073709551616 := Nat.lt_of_le_of_lt (Nat.div_le_self _ _) hhb
          have HS := Lib.hid (show bitsN 64 lo ++ bitsN (i + 1) hi = (bitsN 64 lo ++ bitsN i hi) ++ [hi / 2 ^ i % 2] ∧ hi / 2 ^ (i + 1) = hi / 2 ^ i / 2 from ⟨by rw [bitsN_end i hi, List.append_assoc], by rw [Nat.pow_succ, Nat.div_div_eq_div_mul]⟩)
          have hltI : (i : Int) < 64 := by omega
          generalize hi / 2 ^ i = q at *
          generalize hds : bitsN 64 lo ++ bitsN i hi = ds at *
          have hq : q < 18446744073709551616 := hqb
          have hb2 : q % 2 < 2 := Nat.mod_lt _ (by decide)
          have hw1 : IntKind.i64.wrap ((q : Int) % 2) = (q : Int) % 2 := by rw [IntKind.wrap_i64]; omega
          have HB2 := Lib.hid (show ((q : Int) % 2) = ((q % 2 : Nat) : Int) by omega)
          have HNV := Lib.hid hD.nn
          obtain ⟨g, cap, hve, hg1, hg2⟩ := hD.own.shape hD.nn
          have HD := Lib.hid hD
          clear hD
          go_wp2_with (at_builtin; refine wpList_append_int rfl _ _ rfl (w.heap.size + 1) _ ds (q % 2) wr.heap.size 1 (by rfl) (HD.out.own.below ((Below.refl _ _).alloc (Nat.le_refl _) _) (Nat.le_refl _)) (by rfl) (by rw [← HB2.out]; simp) hdl (by have := HD.out.sz; simp; omega) (fun v2 w2 ho2 hg2 hne2 => ?_); have HO2 := Lib.hid ho2; have HG2 := Lib.hid hg2; have HN2 := Lib.hid hne2; clear ho2 hg2 hne2)
          have HST := Lib.hid (HD.out.step HO2.out HG2.out HN2.out)
          exact ⟨⟨i + 1, by omega, (by first | rfl | go_num), (by rw [HS.out.2]; go_num), (by rw [HS.out.1]; exact HST.out)⟩, by simp [intOf]; omega⟩
        · obtain rfl : i = 64 := by omega
          have HD := Lib.hid hD
          have hnn := hD.nn
          clear hD
          generalize hi / 2 ^ 64 = q2 at *
          rename_i v3
          go_wp2_with fail
          go_ret
          obtain ⟨g, cap, hve, hg1, hg2⟩ := HD.out.own.shape hnn
          rw [← HALL.out] at hve
          refine ⟨g, cap, by rw [hve]; rfl, ?_, HD.out.bel, by omega⟩
          rw [← hve, HALL.out]
          exact HD.out.own.mono (by omega)
end Go.Proofs.Ytihalkpcddnikaa
