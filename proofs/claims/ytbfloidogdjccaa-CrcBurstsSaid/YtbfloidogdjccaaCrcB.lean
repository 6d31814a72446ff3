/-
  The law CrcBursts, walked: it answers true.
-/
import Derived.Test.YtbfloidogdjccaaCrcX
import Derived.Test.YtbfloidogdjccaaBase
namespace Go.Proofs.Ytbfloidogdjccaa
open Go.RowKit

/-! ### the plain law -/
theorem burst_ne {cs ds : List Nat} (hc : ∀ x ∈ cs, x < 256) (hd : ∀ x ∈ ds, x < 256) (hl : ds.length = cs.length) {k y : Nat} (hk : k ≤ 8 * cs.length) (hy : y < 4294967296)
    (hn : cnum ds = cnum cs ^^^ (2 ^ k * y)) : (cof ds = cof cs) ↔ y = 0 := by
  rw [cof_turned hc hd hl hn, xor_eq_self, csteps_mul hk]
  constructor
  · intro h
    rcases Nat.eq_zero_or_pos y with h0 | h0
    · exact h0
    · exact absurd h (csteps_ne _ _ hy (by omega))
  · rintro rfl; exact csteps_zero _
/-- One bit more. -/
theorem bit_more (y i : Nat) : y % 2 ^ (i + 1) = y % 2 ^ i ^^^ (2 ^ i * (y / 2 ^ i % 2)) := by
  have h := Nat.mod_pow_succ (x := y) (b := 2) (k := i)
  rw [h]
  have hlt : y % 2 ^ i < 2 ^ i := Nat.mod_lt _ (Nat.two_pow_pos i)
  rcases Nat.mod_two_eq_zero_or_one (y / 2 ^ i) with h0 | h0
  · rw [h0]; simp
  · rw [h0, Nat.mul_one]
    have h2 := Nat.two_pow_add_eq_or_of_lt hlt 1
    rw [Nat.mul_one] at h2
    rw [Nat.add_comm, h2]
    apply Nat.eq_of_testBit_eq
    intro j
    rw [Nat.testBit_or, Nat.testBit_xor, Nat.testBit_two_pow]
    by_cases hj : i = j
    · subst hj; rw [Nat.testBit_lt_two_pow hlt]; simp
    · simp [hj]
theorem flip_bit {cs ds : List Nat} (hd : ∀ x ∈ ds, x < 256) {k i y : Nat} (hk : (k + i) / 8 < ds.length) (hn : cnum ds = cnum cs ^^^ (2 ^ k * (y % 2 ^ i))) (h1 : y / 2 ^ i % 2 = 1) :
    cnum (ds.set ((k + i) / 8) (ds.getD ((k + i) / 8) 0 ^^^ 2 ^ ((k + i) % 8))) = cnum cs ^^^ (2 ^ k * (y % 2 ^ (i + 1))) := by
  have h8 : 2 ^ ((k + i) % 8) < 256 := by
    have := Nat.pow_lt_pow_right (a := 2) (by omega) (show (k + i) % 8 < 8 by omega)
    simpa using this
  rw [cnum_set h8 ds _ hd hk, hn, bit_more, h1, Nat.mul_one, mul_pow_xor, Nat.xor_assoc]
  congr 2
  rw [← Nat.pow_add, ← Nat.pow_add]; congr 1; omega
theorem bit_test {y i : Nat} (hy : y < 4294967296) : bits BinOp.and IntKind.u32 ((y : Int) / 2 ^ i) 1 = ((y / 2 ^ i % 2 : Nat) : Int) := by
  have h : y / 2 ^ i < 4294967296 := Nat.lt_of_le_of_lt (Nat.div_le_self _ _) hy
  have := u32_and_nat (y / 2 ^ i) 1 h (by decide)
  rw [nat_mask1, Int.natCast_ediv, Int.natCast_pow] at this
  exact this
theorem pow8_lt {n : Nat} (hn : n < 8) : 2 ^ n < 256 := by
  have := Nat.pow_lt_pow_right (a := 2) (by omega) hn
  simpa using this
theorem bit_store {c0 n : Nat} (h : c0 < 256) (hn : n < 8) : bits BinOp.xor IntKind.u8 (c0 : Int) (2 ^ n % 256) = ((c0 ^^^ 2 ^ n : Nat) : Int) := by
  have h2 := pow8_lt hn
  have e : ((2 : Int) ^ n % 256) = ((2 ^ n : Nat) : Int) := by
    have h3 : ((2 : Int) ^ n) = ((2 ^ n : Nat) : Int) := by rw [Int.natCast_pow]; rfl
    rw [h3]; generalize 2 ^ n = m at h2 ⊢; omega
  rw [e]; exact u8_xor_nat c0 (2 ^ n) h h2
theorem keep_bit {cs ds : List Nat} {k i y : Nat} (hn : cnum ds = cnum cs ^^^ (2 ^ k * (y % 2 ^ i))) (h1 : y / 2 ^ i % 2 = 0) : cnum ds = cnum cs ^^^ (2 ^ k * (y % 2 ^ (i + 1))) := by
  rw [hn, bit_more, h1]; simp

/-- Behind i rounds. -/
def BurstRel (w : World) (base g cap : Nat) (cs : List Nat) (k y : Nat) (v9 : Value) (wr : World) : Prop :=
  ∃ i : Nat, i ≤ 32 ∧ v9 = .int .i64 i ∧ ∃ ds, OwnB wr base (.slice (some ⟨g, 0, none⟩) cs.length cap) ds ∧ ds.length = cs.length ∧ cnum ds = cnum cs ^^^ (2 ^ k * (y % 2 ^ i)) ∧ Below w.heap.size w wr

set_option maxHeartbeats 1600000 in
theorem CrcBursts_any (v : Value) (bs : List Nat) (a : Int) (y : Nat) (w : World) (hv : Bts w v bs) (hy : y < 4294967296) :
    Calls Try.prog 3 #[v, .int .i64 a, .int .u32 (y : Int)] w (Gives w (.bool true)) := by
  have HV2 := Lib.hid (hv.cutV 300)
  have HL := Lib.hid (show (bs.take 300).length ≤ 300 by rw [List.length_take]; omega)
  obtain ⟨cs, hcs⟩ : ∃ cs, cs = bs.take 300 := ⟨_, rfl⟩
  rw [← hcs] at HV2 HL
  clear hcs
  obtain ⟨hb, ⟨rfl, rfl⟩ | ⟨ad, cap, rfl, rfl⟩ | ⟨b, off, cap, rfl, hlc, hcap, hbs, hcell⟩⟩ := hv
  · clear hb
    go_enter Try.func3, Try.ntmps3
    go_wp2_with (go_at_call 13; (first | with_reducible refine Calls.fold (works11 _) ?_ | with_reducible refine Calls.fresh (works11 _) ?_); intro x1)
    refine (Bytes_any _ cs _ HV2.out.up (by have := HL.out; omega)).mono ?_
    rintro e W1 ⟨g, cap1, rfl, hg1, hg2, ho, hb1⟩
    have HO := Lib.hid ho
    have HCS := Lib.hid ho.1
    clear ho
    haveI : LtSize g W1 := ⟨hg2⟩
    have hb2 : Below w.heap.size w W1 := ((up_below w x1)).trans (hb1.mono (up_size w x1))
    have hz2 := hb2.size
    have hg3 : w.heap.size ≤ g := Nat.le_trans (up_size w x1) hg1
    clear hb1 hg1
    have hcl := HL.out
    by_cases hl5 : cs.length < 5
    · go_wp2_with fail
      go_ret
      exact Gives.mk rfl (by (repeat (first | (with_reducible exact Below.refl _ _) | (with_reducible assumption) | (with_reducible refine Below.alloc ?_ (by (repeat (first | (with_reducible exact Nat.le_refl _) | (with_reducible assumption) | (with_reducible refine le_up ?_) | (with_reducible refine le_alloc ?_) | (with_reducible refine le_setCell ?_) | (with_reducible refine le_drew ?_) | (with_reducible refine le_drewN ?_) | omega))) _) | (with_reducible refine Below.drew ?_) | (with_reducible refine Below.drewN ?_ _) | (with_reducible refine Below.setCell ?_ (by (repeat (first | (with_reducible exact Nat.le_refl _) | (with_reducible assumption) | (with_reducible refine le_up ?_) | (with_reducible refine le_alloc ?_) | (with_reducible refine le_setCell ?_) | (with_reducible refine le_drew ?_) | (with_reducible refine le_drewN ?_) | omega))) _) | (with_reducible refine Below.up ?_ (by (repeat (first | (with_reducible exact Nat.le_refl _) | (with_reducible assumption) | (with_reducible refine le_up ?_) | (with_reducible refine le_alloc ?_) | (with_reducible refine le_setCell ?_) | (with_reducible refine le_drew ?_) | (with_reducible refine le_drewN ?_) | omega)))))))
    · go_wp2_with fail
      refine (Of_any _ _ _ (BtsL.one (g := W1.heap.size) HO.out.bts)).mono ?_
      rintro e w1 ⟨rfl, rfl⟩
      rw [show [cs].flatten = cs from by simp]
      obtain ⟨ka1, ka2⟩ := amongV_bd a (8 * (cs.length : Int) - 31) (by omega)
      obtain ⟨k, hka⟩ := Int.eq_ofNat_of_zero_le ka1
      rw [hka] at ka1 ka2
      have HKA := Lib.hid hka
      clear hka
      go_wp2_with (go_at_call 16; refine (Among_any _ _ _ (by omega) (by omega)).mono ?_; rintro e w1 ⟨rfl, rfl⟩)
      rw [HKA.out]
      go_loopw [9] (fun v9 wr => BurstRel w (up w x1).heap.size g cap1 cs k y v9 wr) (fun v9 _ => 32 - (intOf v9).toNat)
      case atStart => exact ⟨0, by omega, rfl, cs, HO.out.alloc _, rfl, by simp [Nat.mod_one], by (repeat (first | (with_reducible exact Below.refl _ _) | (with_reducible assumption) | (with_reducible refine Below.alloc ?_ (by (repeat (first | (with_reducible exact Nat.le_refl _) | (with_reducible assumption) | (with_reducible refine le_up ?_) | (with_reducible refine le_alloc ?_) | (with_reducible refine le_setCell ?_) | (with_reducible refine le_drew ?_) | (with_reducible refine le_drewN ?_) | omega))) _) | (with_reducible refine Below.drew ?_) | (with_reducible refine Below.drewN ?_ _) | (with_reducible refine Below.setCell ?_ (by (repeat (first | (with_reducible exact Nat.le_refl _) | (with_reducible assumption) | (with_reducible refine le_up ?_) | (with_reducible refine le_alloc ?_) | (with_reducible refine le_setCell ?_) | (with_reducible refine le_drew ?_) | (with_reducible refine le_drewN ?_) | omega))) _) | (with_reducible refine Below.up ?_ (by (repeat (first | (with_reducible exact Nat.le_refl _) | (with_reducible assumption) | (with_reducible refine le_up ?_) | (with_reducible refine le_alloc ?_) | (with_reducible refine le_setCell ?_) | (with_reducible refine le_drew ?_) | (with_reducible refine le_drewN ?_) | omega))))))⟩
      case round =>
        obtain ⟨i, hi, rfl, ds, hds, hlen, hnum, hbel⟩ := hrel
        have HD := Lib.hid hds
        have HN := Lib.hid hnum
        have HLN := Lib.hid hlen
        have hzr := hbel.size
        haveI : LtSize g wr := ⟨(hds.2.lt g rfl).2⟩
        clear hds hnum hlen
        by_cases hi32 : i < 32
        · have hidx : (k + i) / 8 < cs.length := by omega
          rcases Nat.mod_two_eq_zero_or_one (y / 2 ^ i) with hbit | hbit
          · have hbt : (bits BinOp.and IntKind.u32 ((y : Int) / 2 ^ i) 1 == 1) = false := by rw [bit_test hy, hbit]; rfl
            have HK := Lib.hid (keep_bit HN.out hbit)
            clear hbit
            go_wp2_with fail
            exact ⟨⟨i + 1, by omega, by go_num, ds, HD.out, HLN.out, HK.out, hbel⟩, by simp [intOf]; omega⟩
          · have hbt : (bits BinOp.and IntKind.u32 ((y : Int) / 2 ^ i) 1 == 1) = true := by rw [bit_test hy, hbit]; rfl
            have HF := Lib.hid (flip_bit HD.out.1 (by rw [HLN.out]; exact hidx) HN.out hbit)
            clear hbit
            have hc0 := HD.out.cell ((k + i) / 8) (by rw [HLN.out]; exact hidx)
            have hf0 := HD.out.free ((k + i) / 8)
            have hx : ds.getD ((k + i) / 8) 0 < 256 := Bts.lt HD.out.bts _
            generalize ds.getD ((k + i) / 8) 0 = c0 at *
            go_wp2_with fail
            refine ⟨⟨i + 1, by omega, by go_num, ds.set ((k + i) / 8) (c0 ^^^ 2 ^ ((k + i) % 8)), ?_, by rw [List.length_set]; exact HLN.out, HF.out, hbel.setCell hg3 _⟩, by simp [intOf]; omega⟩
            rw [bit_store hx (by omega)]
            exact HD.out.store _ _ (xor_byte hx (pow8_lt (by omega)))
        · obtain rfl : i = 32 := by omega
          have hbn := burst_ne (k := k) HCS.out HD.out.1 HLN.out (by omega) hy (by rw [HN.out, Nat.mod_eq_of_lt hy])
          have hof : [ds].flatten = ds := by simp
          have HB := Lib.hid hbn
          have HOF := Lib.hid hof
          clear hbn hof
          go_wp2_with fail
          refine (Of_any _ _ _ (BtsL.one (g := wr.heap.size) HD.out.bts)).mono ?_
          rintro e w1 ⟨rfl, rfl⟩
          rw [HOF.out]
          by_cases hy0 : y = 0
          · rw [HB.out.2 hy0]
            subst hy0
            go_wp2_with fail
            go_ret
            exact Gives.mk rfl (by (repeat (first | (with_reducible exact Below.refl _ _) | (with_reducible assumption) | (with_reducible refine Below.alloc ?_ (by (repeat (first | (with_reducible exact Nat.le_refl _) | (with_reducible assumption) | (with_reducible refine le_up ?_) | (with_reducible refine le_alloc ?_) | (with_reducible refine le_setCell ?_) | (with_reducible refine le_drew ?_) | (with_reducible refine le_drewN ?_) | omega))) _) | (with_reducible refine Below.drew ?_) | (with_reducible refine Below.drewN ?_ _) | (with_reducible refine Below.setCell ?_ (by (repeat (first | (with_reducible exact Nat.le_refl _) | (with_reducible assumption) | (with_reducible refine le_up ?_) | (with_reducible refine le_alloc ?_) | (with_reducible refine le_setCell ?_) | (with_reducible refine le_drew ?_) | (with_reducible refine le_drewN ?_) | omega))) _) | (with_reducible refine Below.up ?_ (by (repeat (first | (with_reducible exact Nat.le_refl _) | (with_reducible assumption) | (with_reducible refine le_up ?_) | (with_reducible refine le_alloc ?_) | (with_reducible refine le_setCell ?_) | (with_reducible refine le_drew ?_) | (with_reducible refine le_drewN ?_) | omega)))))))
          · have e1 : (((cof ds : Nat) : Int) == ((cof cs : Nat) : Int)) = false := by
              rw [beq_eq_false_iff_ne]; intro h; exact hy0 (HB.out.1 (by omega))
            have e2 : ((y : Int) == 0) = false := by rw [beq_eq_false_iff_ne]; omega
            go_wp2_with fail
            go_ret
            exact Gives.mk rfl (by (repeat (first | (with_reducible exact Below.refl _ _) | (with_reducible assumption) | (with_reducible refine Below.alloc ?_ (by (repeat (first | (with_reducible exact Nat.le_refl _) | (with_reducible assumption) | (with_reducible refine le_up ?_) | (with_reducible refine le_alloc ?_) | (with_reducible refine le_setCell ?_) | (with_reducible refine le_drew ?_) | (with_reducible refine le_drewN ?_) | omega))) _) | (with_reducible refine Below.drew ?_) | (with_reducible refine Below.drewN ?_ _) | (with_reducible refine Below.setCell ?_ (by (repeat (first | (with_reducible exact Nat.le_refl _) | (with_reducible assumption) | (with_reducible refine le_up ?_) | (with_reducible refine le_alloc ?_) | (with_reducible refine le_setCell ?_) | (with_reducible refine le_drew ?_) | (with_reducible refine le_drewN ?_) | omega))) _) | (with_reducible refine Below.up ?_ (by (repeat (first | (with_reducible exact Nat.le_refl _) | (with_reducible assumption) | (with_reducible refine le_up ?_) | (with_reducible refine le_alloc ?_) | (with_reducible refine le_setCell ?_) | (with_reducible refine le_drew ?_) | (with_reducible refine le_drewN ?_) | omega)))))))
  · clear hb
    rw [show cutV 300 (.slice (some ad) 0 cap) = .slice (some ad) 0 cap from by simp [cutV]] at HV2
    go_enter Try.func3, Try.ntmps3
    go_wp2_with (go_at_call 13; (first | with_reducible refine Calls.fold (works11 _) ?_ | with_reducible refine Calls.fresh (works11 _) ?_); intro x1)
    refine (Bytes_any _ cs _ HV2.out.up (by have := HL.out; omega)).mono ?_
    rintro e W1 ⟨g, cap1, rfl, hg1, hg2, ho, hb1⟩
    have HO := Lib.hid ho
    have HCS := Lib.hid ho.1
    clear ho
    haveI : LtSize g W1 := ⟨hg2⟩
    have hb2 : Below w.heap.size w W1 := ((up_below w x1)).trans (hb1.mono (up_size w x1))
    have hz2 := hb2.size
    have hg3 : w.heap.size ≤ g := Nat.le_trans (up_size w x1) hg1
    clear hb1 hg1
    have hcl := HL.out
    by_cases hl5 : cs.length < 5
    · go_wp2_with fail
      go_ret
      exact Gives.mk rfl (by (repeat (first | (with_reducible exact Below.refl _ _) | (with_reducible assumption) | (with_reducible refine Below.alloc ?_ (by (repeat (first | (with_reducible exact Nat.le_refl _) | (with_reducible assumption) | (with_reducible refine le_up ?_) | (with_reducible refine le_alloc ?_) | (with_reducible refine le_setCell ?_) | (with_reducible refine le_drew ?_) | (with_reducible refine le_drewN ?_) | omega))) _) | (with_reducible refine Below.drew ?_) | (with_reducible refine Below.drewN ?_ _) | (with_reducible refine Below.setCell ?_ (by (repeat (first | (with_reducible exact Nat.le_refl _) | (with_reducible assumption) | (with_reducible refine le_up ?_) | (with_reducible refine le_alloc ?_) | (with_reducible refine le_setCell ?_) | (with_reducible refine le_drew ?_) | (with_reducible refine le_drewN ?_) | omega))) _) | (with_reducible refine Below.up ?_ (by (repeat (first | (with_reducible exact Nat.le_refl _) | (with_reducible assumption) | (with_reducible refine le_up ?_) | (with_reducible refine le_alloc ?_) | (with_reducible refine le_setCell ?_) | (with_reducible refine le_drew ?_) | (with_reducible refine le_drewN ?_) | omega)))))))
    · go_wp2_with fail
      refine (Of_any _ _ _ (BtsL.one (g := W1.heap.size) HO.out.bts)).mono ?_
      rintro e w1 ⟨rfl, rfl⟩
      rw [show [cs].flatten = cs from by simp]
      obtain ⟨ka1, ka2⟩ := amongV_bd a (8 * (cs.length : Int) - 31) (by omega)
      obtain ⟨k, hka⟩ := Int.eq_ofNat_of_zero_le ka1
      rw [hka] at ka1 ka2
      have HKA := Lib.hid hka
      clear hka
      go_wp2_with (go_at_call 16; refine (Among_any _ _ _ (by omega) (by omega)).mono ?_; rintro e w1 ⟨rfl, rfl⟩)
      rw [HKA.out]
      go_loopw [9] (fun v9 wr => BurstRel w (up w x1).heap.size g cap1 cs k y v9 wr) (fun v9 _ => 32 - (intOf v9).toNat)
      case atStart => exact ⟨0, by omega, rfl, cs, HO.out.alloc _, rfl, by simp [Nat.mod_one], by (repeat (first | (with_reducible exact Below.refl _ _) | (with_reducible assumption) | (with_reducible refine Below.alloc ?_ (by (repeat (first | (with_reducible exact Nat.le_refl _) | (with_reducible assumption) | (with_reducible refine le_up ?_) | (with_reducible refine le_alloc ?_) | (with_reducible refine le_setCell ?_) | (with_reducible refine le_drew ?_) | (with_reducible refine le_drewN ?_) | omega))) _) | (with_reducible refine Below.drew ?_) | (with_reducible refine Below.drewN ?_ _) | (with_reducible refine Below.setCell ?_ (by (repeat (first | (with_reducible exact Nat.le_refl _) | (with_reducible assumption) | (with_reducible refine le_up ?_) | (with_reducible refine le_alloc ?_) | (with_reducible refine le_setCell ?_) | (with_reducible refine le_drew ?_) | (with_reducible refine le_drewN ?_) | omega))) _) | (with_reducible refine Below.up ?_ (by (repeat (first | (with_reducible exact Nat.le_refl _) | (with_reducible assumption) | (with_reducible refine le_up ?_) | (with_reducible refine le_alloc ?_) | (with_reducible refine le_setCell ?_) | (with_reducible refine le_drew ?_) | (with_reducible refine le_drewN ?_) | omega))))))⟩
      case round =>
        obtain ⟨i, hi, rfl, ds, hds, hlen, hnum, hbel⟩ := hrel
        have HD := Lib.hid hds
        have HN := Lib.hid hnum
        have HLN := Lib.hid hlen
        have hzr := hbel.size
        haveI : LtSize g wr := ⟨(hds.2.lt g rfl).2⟩
        clear hds hnum hlen
        by_cases hi32 : i < 32
        · have hidx : (k + i) / 8 < cs.length := by omega
          rcases Nat.mod_two_eq_zero_or_one (y / 2 ^ i) with hbit | hbit
          · have hbt : (bits BinOp.and IntKind.u32 ((y : Int) / 2 ^ i) 1 == 1) = false := by rw [bit_test hy, hbit]; rfl
            have HK := Lib.hid (keep_bit HN.out hbit)
            clear hbit
            go_wp2_with fail
            exact ⟨⟨i + 1, by omega, by go_num, ds, HD.out, HLN.out, HK.out, hbel⟩, by simp [intOf]; omega⟩
          · have hbt : (bits BinOp.and IntKind.u32 ((y : Int) / 2 ^ i) 1 == 1) = true := by rw [bit_test hy, hbit]; rfl
            have HF := Lib.hid (flip_bit HD.out.1 (by rw [HLN.out]; exact hidx) HN.out hbit)
            clear hbit
            have hc0 := HD.out.cell ((k + i) / 8) (by rw [HLN.out]; exact hidx)
            have hf0 := HD.out.free ((k + i) / 8)
            have hx : ds.getD ((k + i) / 8) 0 < 256 := Bts.lt HD.out.bts _
            generalize ds.getD ((k + i) / 8) 0 = c0 at *
            go_wp2_with fail
            refine ⟨⟨i + 1, by omega, by go_num, ds.set ((k + i) / 8) (c0 ^^^ 2 ^ ((k + i) % 8)), ?_, by rw [List.length_set]; exact HLN.out, HF.out, hbel.setCell hg3 _⟩, by simp [intOf]; omega⟩
            rw [bit_store hx (by omega)]
            exact HD.out.store _ _ (xor_byte hx (pow8_lt (by omega)))
        · obtain rfl : i = 32 := by omega
          have hbn := burst_ne (k := k) HCS.out HD.out.1 HLN.out (by omega) hy (by rw [HN.out, Nat.mod_eq_of_lt hy])
          have hof : [ds].flatten = ds := by simp
          have HB := Lib.hid hbn
          have HOF := Lib.hid hof
          clear hbn hof
          go_wp2_with fail
          refine (Of_any _ _ _ (BtsL.one (g := wr.heap.size) HD.out.bts)).mono ?_
          rintro e w1 ⟨rfl, rfl⟩
          rw [HOF.out]
          by_cases hy0 : y = 0
          · rw [HB.out.2 hy0]
            subst hy0
            go_wp2_with fail
            go_ret
            exact Gives.mk rfl (by (repeat (first | (with_reducible exact Below.refl _ _) | (with_reducible assumption) | (with_reducible refine Below.alloc ?_ (by (repeat (first | (with_reducible exact Nat.le_refl _) | (with_reducible assumption) | (with_reducible refine le_up ?_) | (with_reducible refine le_alloc ?_) | (with_reducible refine le_setCell ?_) | (with_reducible refine le_drew ?_) | (with_reducible refine le_drewN ?_) | omega))) _) | (with_reducible refine Below.drew ?_) | (with_reducible refine Below.drewN ?_ _) | (with_reducible refine Below.setCell ?_ (by (repeat (first | (with_reducible exact Nat.le_refl _) | (with_reducible assumption) | (with_reducible refine le_up ?_) | (with_reducible refine le_alloc ?_) | (with_reducible refine le_setCell ?_) | (with_reducible refine le_drew ?_) | (with_reducible refine le_drewN ?_) | omega))) _) | (with_reducible refine Below.up ?_ (by (repeat (first | (with_reducible exact Nat.le_refl _) | (with_reducible assumption) | (with_reducible refine le_up ?_) | (with_reducible refine le_alloc ?_) | (with_reducible refine le_setCell ?_) | (with_reducible refine le_drew ?_) | (with_reducible refine le_drewN ?_) | omega)))))))
          · have e1 : (((cof ds : Nat) : Int) == ((cof cs : Nat) : Int)) = false := by
              rw [beq_eq_false_iff_ne]; intro h; exact hy0 (HB.out.1 (by omega))
            have e2 : ((y : Int) == 0) = false := by rw [beq_eq_false_iff_ne]; omega
            go_wp2_with fail
            go_ret
            exact Gives.mk rfl (by (repeat (first | (with_reducible exact Below.refl _ _) | (with_reducible assumption) | (with_reducible refine Below.alloc ?_ (by (repeat (first | (with_reducible exact Nat.le_refl _) | (with_reducible assumption) | (with_reducible refine le_up ?_) | (with_reducible refine le_alloc ?_) | (with_reducible refine le_setCell ?_) | (with_reducible refine le_drew ?_) | (with_reducible refine le_drewN ?_) | omega))) _) | (with_reducible refine Below.drew ?_) | (with_reducible refine Below.drewN ?_ _) | (with_reducible refine Below.setCell ?_ (by (repeat (first | (with_reducible exact Nat.le_refl _) | (with_reducible assumption) | (with_reducible refine le_up ?_) | (with_reducible refine le_alloc ?_) | (with_reducible refine le_setCell ?_) | (with_reducible refine le_drew ?_) | (with_reducible refine le_drewN ?_) | omega))) _) | (with_reducible refine Below.up ?_ (by (repeat (first | (with_reducible exact Nat.le_refl _) | (with_reducible assumption) | (with_reducible refine le_up ?_) | (with_reducible refine le_alloc ?_) | (with_reducible refine le_setCell ?_) | (with_reducible refine le_drew ?_) | (with_reducible refine le_drewN ?_) | omega)))))))
  · clear hb hcell
    by_cases hn3 : bs.length ≤ 300
    · rw [show cutV 300 (.slice (some ⟨b, off, none⟩) bs.length cap) = .slice (some ⟨b, off, none⟩) bs.length cap from by simp [cutV]; omega] at HV2
      go_enter Try.func3, Try.ntmps3
      go_wp2_with (go_at_call 13; (first | with_reducible refine Calls.fold (works11 _) ?_ | with_reducible refine Calls.fresh (works11 _) ?_); intro x1)
      refine (Bytes_any _ cs _ HV2.out.up (by have := HL.out; omega)).mono ?_
      rintro e W1 ⟨g, cap1, rfl, hg1, hg2, ho, hb1⟩
      have HO := Lib.hid ho
      have HCS := Lib.hid ho.1
      clear ho
      haveI : LtSize g W1 := ⟨hg2⟩
      have hb2 : Below w.heap.size w W1 := ((up_below w x1)).trans (hb1.mono (up_size w x1))
      have hz2 := hb2.size
      have hg3 : w.heap.size ≤ g := Nat.le_trans (up_size w x1) hg1
      clear hb1 hg1
      have hcl := HL.out
      by_cases hl5 : cs.length < 5
      · go_wp2_with fail
        go_ret
        exact Gives.mk rfl (by (repeat (first | (with_reducible exact Below.refl _ _) | (with_reducible assumption) | (with_reducible refine Below.alloc ?_ (by (repeat (first | (with_reducible exact Nat.le_refl _) | (with_reducible assumption) | (with_reducible refine le_up ?_) | (with_reducible refine le_alloc ?_) | (with_reducible refine le_setCell ?_) | (with_reducible refine le_drew ?_) | (with_reducible refine le_drewN ?_) | omega))) _) | (with_reducible refine Below.drew ?_) | (with_reducible refine Below.drewN ?_ _) | (with_reducible refine Below.setCell ?_ (by (repeat (first | (with_reducible exact Nat.le_refl _) | (with_reducible assumption) | (with_reducible refine le_up ?_) | (with_reducible refine le_alloc ?_) | (with_reducible refine le_setCell ?_) | (with_reducible refine le_drew ?_) | (with_reducible refine le_drewN ?_) | omega))) _) | (with_reducible refine Below.up ?_ (by (repeat (first | (with_reducible exact Nat.le_refl _) | (with_reducible assumption) | (with_reducible refine le_up ?_) | (with_reducible refine le_alloc ?_) | (with_reducible refine le_setCell ?_) | (with_reducible refine le_drew ?_) | (with_reducible refine le_drewN ?_) | omega)))))))
      · go_wp2_with fail
        refine (Of_any _ _ _ (BtsL.one (g := W1.heap.size) HO.out.bts)).mono ?_
        rintro e w1 ⟨rfl, rfl⟩
        rw [show [cs].flatten = cs from by simp]
        obtain ⟨ka1, ka2⟩ := amongV_bd a (8 * (cs.length : Int) - 31) (by omega)
        obtain ⟨k, hka⟩ := Int.eq_ofNat_of_zero_le ka1
        rw [hka] at ka1 ka2
        have HKA := Lib.hid hka
        clear hka
        go_wp2_with (go_at_call 16; refine (Among_any _ _ _ (by omega) (by omega)).mono ?_; rintro e w1 ⟨rfl, rfl⟩)
        rw [HKA.out]
        go_loopw [9] (fun v9 wr => BurstRel w (up w x1).heap.size g cap1 cs k y v9 wr) (fun v9 _ => 32 - (intOf v9).toNat)
        case atStart => exact ⟨0, by omega, rfl, cs, HO.out.alloc _, rfl, by simp [Nat.mod_one], by (repeat (first | (with_reducible exact Below.refl _ _) | (with_reducible assumption) | (with_reducible refine Below.alloc ?_ (by (repeat (first | (with_reducible exact Nat.le_refl _) | (with_reducible assumption) | (with_reducible refine le_up ?_) | (with_reducible refine le_alloc ?_) | (with_reducible refine le_setCell ?_) | (with_reducible refine le_drew ?_) | (with_reducible refine le_drewN ?_) | omega))) _) | (with_reducible refine Below.drew ?_) | (with_reducible refine Below.drewN ?_ _) | (with_reducible refine Below.setCell ?_ (by (repeat (first | (with_reducible exact Nat.le_refl _) | (with_reducible assumption) | (with_reducible refine le_up ?_) | (with_reducible refine le_alloc ?_) | (with_reducible refine le_setCell ?_) | (with_reducible refine le_drew ?_) | (with_reducible refine le_drewN ?_) | omega))) _) | (with_reducible refine Below.up ?_ (by (repeat (first | (with_reducible exact Nat.le_refl _) | (with_reducible assumption) | (with_reducible refine le_up ?_) | (with_reducible refine le_alloc ?_) | (with_reducible refine le_setCell ?_) | (with_reducible refine le_drew ?_) | (with_reducible refine le_drewN ?_) | omega))))))⟩
        case round =>
          obtain ⟨i, hi, rfl, ds, hds, hlen, hnum, hbel⟩ := hrel
          have HD := Lib.hid hds
          have HN := Lib.hid hnum
          have HLN := Lib.hid hlen
          have hzr := hbel.size
          haveI : LtSize g wr := ⟨(hds.2.lt g rfl).2⟩
          clear hds hnum hlen
          by_cases hi32 : i < 32
          · have hidx : (k + i) / 8 < cs.length := by omega
            rcases Nat.mod_two_eq_zero_or_one (y / 2 ^ i) with hbit | hbit
            · have hbt : (bits BinOp.and IntKind.u32 ((y : Int) / 2 ^ i) 1 == 1) = false := by rw [bit_test hy, hbit]; rfl
              have HK := Lib.hid (keep_bit HN.out hbit)
              clear hbit
              go_wp2_with fail
              exact ⟨⟨i + 1, by omega, by go_num, ds, HD.out, HLN.out, HK.out, hbel⟩, by simp [intOf]; omega⟩
            · have hbt : (bits BinOp.and IntKind.u32 ((y : Int) / 2 ^ i) 1 == 1) = true := by rw [bit_test hy, hbit]; rfl
              have HF := Lib.hid (flip_bit HD.out.1 (by rw [HLN.out]; exact hidx) HN.out hbit)
              clear hbit
              have hc0 := HD.out.cell ((k + i) / 8) (by rw [HLN.out]; exact hidx)
              have hf0 := HD.out.free ((k + i) / 8)
              have hx : ds.getD ((k + i) / 8) 0 < 256 := Bts.lt HD.out.bts _
              generalize ds.getD ((k + i) / 8) 0 = c0 at *
              go_wp2_with fail
              refine ⟨⟨i + 1, by omega, by go_num, ds.set ((k + i) / 8) (c0 ^^^ 2 ^ ((k + i) % 8)), ?_, by rw [List.length_set]; exact HLN.out, HF.out, hbel.setCell hg3 _⟩, by simp [intOf]; omega⟩
              rw [bit_store hx (by omega)]
              exact HD.out.store _ _ (xor_byte hx (pow8_lt (by omega)))
          · obtain rfl : i = 32 := by omega
            have hbn := burst_ne (k := k) HCS.out HD.out.1 HLN.out (by omega) hy (by rw [HN.out, Nat.mod_eq_of_lt hy])
            have hof : [ds].flatten = ds := by simp
            have HB := Lib.hid hbn
            have HOF := Lib.hid hof
            clear hbn hof
            go_wp2_with fail
            refine (Of_any _ _ _ (BtsL.one (g := wr.heap.size) HD.out.bts)).mono ?_
            rintro e w1 ⟨rfl, rfl⟩
            rw [HOF.out]
            by_cases hy0 : y = 0
            · rw [HB.out.2 hy0]
              subst hy0
              go_wp2_with fail
              go_ret
              exact Gives.mk rfl (by (repeat (first | (with_reducible exact Below.refl _ _) | (with_reducible assumption) | (with_reducible refine Below.alloc ?_ (by (repeat (first | (with_reducible exact Nat.le_refl _) | (with_reducible assumption) | (with_reducible refine le_up ?_) | (with_reducible refine le_alloc ?_) | (with_reducible refine le_setCell ?_) | (with_reducible refine le_drew ?_) | (with_reducible refine le_drewN ?_) | omega))) _) | (with_reducible refine Below.drew ?_) | (with_reducible refine Below.drewN ?_ _) | (with_reducible refine Below.setCell ?_ (by (repeat (first | (with_reducible exact Nat.le_refl _) | (with_reducible assumption) | (with_reducible refine le_up ?_) | (with_reducible refine le_alloc ?_) | (with_reducible refine le_setCell ?_) | (with_reducible refine le_drew ?_) | (with_reducible refine le_drewN ?_) | omega))) _) | (with_reducible refine Below.up ?_ (by (repeat (first | (with_reducible exact Nat.le_refl _) | (with_reducible assumption) | (with_reducible refine le_up ?_) | (with_reducible refine le_alloc ?_) | (with_reducible refine le_setCell ?_) | (with_reducible refine le_drew ?_) | (with_reducible refine le_drewN ?_) | omega)))))))
            · have e1 : (((cof ds : Nat) : Int) == ((cof cs : Nat) : Int)) = false := by
                rw [beq_eq_false_iff_ne]; intro h; exact hy0 (HB.out.1 (by omega))
              have e2 : ((y : Int) == 0) = false := by rw [beq_eq_false_iff_ne]; omega
              go_wp2_with fail
              go_ret
              exact Gives.mk rfl (by (repeat (first | (with_reducible exact Below.refl _ _) | (with_reducible assumption) | (with_reducible refine Below.alloc ?_ (by (repeat (first | (with_reducible exact Nat.le_refl _) | (with_reducible assumption) | (with_reducible refine le_up ?_) | (with_reducible refine le_alloc ?_) | (with_reducible refine le_setCell ?_) | (with_reducible refine le_drew ?_) | (with_reducible refine le_drewN ?_) | omega))) _) | (with_reducible refine Below.drew ?_) | (with_reducible refine Below.drewN ?_ _) | (with_reducible refine Below.setCell ?_ (by (repeat (first | (with_reducible exact Nat.le_refl _) | (with_reducible assumption) | (with_reducible refine le_up ?_) | (with_reducible refine le_alloc ?_) | (with_reducible refine le_setCell ?_) | (with_reducible refine le_drew ?_) | (with_reducible refine le_drewN ?_) | omega))) _) | (with_reducible refine Below.up ?_ (by (repeat (first | (with_reducible exact Nat.le_refl _) | (with_reducible assumption) | (with_reducible refine le_up ?_) | (with_reducible refine le_alloc ?_) | (with_reducible refine le_setCell ?_) | (with_reducible refine le_drew ?_) | (with_reducible refine le_drewN ?_) | omega)))))))
    · rw [show cutV 300 (.slice (some ⟨b, off, none⟩) bs.length cap) = .slice (some ⟨b, off, none⟩) 300 cap from by simp [cutV]; omega] at HV2
      go_enter Try.func3, Try.ntmps3
      go_wp2_with (go_at_call 13; (first | with_reducible refine Calls.fold (works11 _) ?_ | with_reducible refine Calls.fresh (works11 _) ?_); intro x1)
      refine (Bytes_any _ cs _ HV2.out.up (by have := HL.out; omega)).mono ?_
      rintro e W1 ⟨g, cap1, rfl, hg1, hg2, ho, hb1⟩
      have HO := Lib.hid ho
      have HCS := Lib.hid ho.1
      clear ho
      haveI : LtSize g W1 := ⟨hg2⟩
      have hb2 : Below w.heap.size w W1 := ((up_below w x1)).trans (hb1.mono (up_size w x1))
      have hz2 := hb2.size
      have hg3 : w.heap.size ≤ g := Nat.le_trans (up_size w x1) hg1
      clear hb1 hg1
      have hcl := HL.out
      by_cases hl5 : cs.length < 5
      · go_wp2_with fail
        go_ret
        exact Gives.mk rfl (by (repeat (first | (with_reducible exact Below.refl _ _) | (with_reducible assumption) | (with_reducible refine Below.alloc ?_ (by (repeat (first | (with_reducible exact Nat.le_refl _) | (with_reducible assumption) | (with_reducible refine le_up ?_) | (with_reducible refine le_alloc ?_) | (with_reducible refine le_setCell ?_) | (with_reducible refine le_drew ?_) | (with_reducible refine le_drewN ?_) | omega))) _) | (with_reducible refine Below.drew ?_) | (with_reducible refine Below.drewN ?_ _) | (with_reducible refine Below.setCell ?_ (by (repeat (first | (with_reducible exact Nat.le_refl _) | (with_reducible assumption) | (with_reducible refine le_up ?_) | (with_reducible refine le_alloc ?_) | (with_reducible refine le_setCell ?_) | (with_reducible refine le_drew ?_) | (with_reducible refine le_drewN ?_) | omega))) _) | (with_reducible refine Below.up ?_ (by (repeat (first | (with_reducible exact Nat.le_refl _) | (with_reducible assumption) | (with_reducible refine le_up ?_) | (with_reducible refine le_alloc ?_) | (with_reducible refine le_setCell ?_) | (with_reducible refine le_drew ?_) | (with_reducible refine le_drewN ?_) | omega)))))))
      · go_wp2_with fail
        refine (Of_any _ _ _ (BtsL.one (g := W1.heap.size) HO.out.bts)).mono ?_
        rintro e w1 ⟨rfl, rfl⟩
        rw [show [cs].flatten = cs from by simp]
        obtain ⟨ka1, ka2⟩ := amongV_bd a (8 * (cs.length : Int) - 31) (by omega)
        obtain ⟨k, hka⟩ := Int.eq_ofNat_of_zero_le ka1
        rw [hka] at ka1 ka2
        have HKA := Lib.hid hka
        clear hka
        go_wp2_with (go_at_call 16; refine (Among_any _ _ _ (by omega) (by omega)).mono ?_; rintro e w1 ⟨rfl, rfl⟩)
        rw [HKA.out]
        go_loopw [9] (fun v9 wr => BurstRel w (up w x1).heap.size g cap1 cs k y v9 wr) (fun v9 _ => 32 - (intOf v9).toNat)
        case atStart => exact ⟨0, by omega, rfl, cs, HO.out.alloc _, rfl, by simp [Nat.mod_one], by (repeat (first | (with_reducible exact Below.refl _ _) | (with_reducible assumption) | (with_reducible refine Below.alloc ?_ (by (repeat (first | (with_reducible exact Nat.le_refl _) | (with_reducible assumption) | (with_reducible refine le_up ?_) | (with_reducible refine le_alloc ?_) | (with_reducible refine le_setCell ?_) | (with_reducible refine le_drew ?_) | (with_reducible refine le_drewN ?_) | omega))) _) | (with_reducible refine Below.drew ?_) | (with_reducible refine Below.drewN ?_ _) | (with_reducible refine Below.setCell ?_ (by (repeat (first | (with_reducible exact Nat.le_refl _) | (with_reducible assumption) | (with_reducible refine le_up ?_) | (with_reducible refine le_alloc ?_) | (with_reducible refine le_setCell ?_) | (with_reducible refine le_drew ?_) | (with_reducible refine le_drewN ?_) | omega))) _) | (with_reducible refine Below.up ?_ (by (repeat (first | (with_reducible exact Nat.le_refl _) | (with_reducible assumption) | (with_reducible refine le_up ?_) | (with_reducible refine le_alloc ?_) | (with_reducible refine le_setCell ?_) | (with_reducible refine le_drew ?_) | (with_reducible refine le_drewN ?_) | omega))))))⟩
        case round =>
          obtain ⟨i, hi, rfl, ds, hds, hlen, hnum, hbel⟩ := hrel
          have HD := Lib.hid hds
          have HN := Lib.hid hnum
          have HLN := Lib.hid hlen
          have hzr := hbel.size
          haveI : LtSize g wr := ⟨(hds.2.lt g rfl).2⟩
          clear hds hnum hlen
          by_cases hi32 : i < 32
          · have hidx : (k + i) / 8 < cs.length := by omega
            rcases Nat.mod_two_eq_zero_or_one (y / 2 ^ i) with hbit | hbit
            · have hbt : (bits BinOp.and IntKind.u32 ((y : Int) / 2 ^ i) 1 == 1) = false := by rw [bit_test hy, hbit]; rfl
              have HK := Lib.hid (keep_bit HN.out hbit)
              clear hbit
              go_wp2_with fail
              exact ⟨⟨i + 1, by omega, by go_num, ds, HD.out, HLN.out, HK.out, hbel⟩, by simp [intOf]; omega⟩
            · have hbt : (bits BinOp.and IntKind.u32 ((y : Int) / 2 ^ i) 1 == 1) = true := by rw [bit_test hy, hbit]; rfl
              have HF := Lib.hid (flip_bit HD.out.1 (by rw [HLN.out]; exact hidx) HN.out hbit)
              clear hbit
              have hc0 := HD.out.cell ((k + i) / 8) (by rw [HLN.out]; exact hidx)
              have hf0 := HD.out.free ((k + i) / 8)
              have hx : ds.getD ((k + i) / 8) 0 < 256 := Bts.lt HD.out.bts _
              generalize ds.getD ((k + i) / 8) 0 = c0 at *
              go_wp2_with fail
              refine ⟨⟨i + 1, by omega, by go_num, ds.set ((k + i) / 8) (c0 ^^^ 2 ^ ((k + i) % 8)), ?_, by rw [List.length_set]; exact HLN.out, HF.out, hbel.setCell hg3 _⟩, by simp [intOf]; omega⟩
              rw [bit_store hx (by omega)]
              exact HD.out.store _ _ (xor_byte hx (pow8_lt (by omega)))
          · obtain rfl : i = 32 := by omega
            have hbn := burst_ne (k := k) HCS.out HD.out.1 HLN.out (by omega) hy (by rw [HN.out, Nat.mod_eq_of_lt hy])
            have hof : [ds].flatten = ds := by simp
            have HB := Lib.hid hbn
            have HOF := Lib.hid hof
            clear hbn hof
            go_wp2_with fail
            refine (Of_any _ _ _ (BtsL.one (g := wr.heap.size) HD.out.bts)).mono ?_
            rintro e w1 ⟨rfl, rfl⟩
            rw [HOF.out]
            by_cases hy0 : y = 0
            · rw [HB.out.2 hy0]
              subst hy0
              go_wp2_with fail
              go_ret
              exact Gives.mk rfl (by (repeat (first | (with_reducible exact Below.refl _ _) | (with_reducible assumption) | (with_reducible refine Below.alloc ?_ (by (repeat (first | (with_reducible exact Nat.le_refl _) | (with_reducible assumption) | (with_reducible refine le_up ?_) | (with_reducible refine le_alloc ?_) | (with_reducible refine le_setCell ?_) | (with_reducible refine le_drew ?_) | (with_reducible refine le_drewN ?_) | omega))) _) | (with_reducible refine Below.drew ?_) | (with_reducible refine Below.drewN ?_ _) | (with_reducible refine Below.setCell ?_ (by (repeat (first | (with_reducible exact Nat.le_refl _) | (with_reducible assumption) | (with_reducible refine le_up ?_) | (with_reducible refine le_alloc ?_) | (with_reducible refine le_setCell ?_) | (with_reducible refine le_drew ?_) | (with_reducible refine le_drewN ?_) | omega))) _) | (with_reducible refine Below.up ?_ (by (repeat (first | (with_reducible exact Nat.le_refl _) | (with_reducible assumption) | (with_reducible refine le_up ?_) | (with_reducible refine le_alloc ?_) | (with_reducible refine le_setCell ?_) | (with_reducible refine le_drew ?_) | (with_reducible refine le_drewN ?_) | omega)))))))
            · have e1 : (((cof ds : Nat) : Int) == ((cof cs : Nat) : Int)) = false := by
                rw [beq_eq_false_iff_ne]; intro h; exact hy0 (HB.out.1 (by omega))
              have e2 : ((y : Int) == 0) = false := by rw [beq_eq_false_iff_ne]; omega
              go_wp2_with fail
              go_ret
              exact Gives.mk rfl (by (repeat (first | (with_reducible exact Below.refl _ _) | (with_reducible assumption) | (with_reducible refine Below.alloc ?_ (by (repeat (first | (with_reducible exact Nat.le_refl _) | (with_reducible assumption) | (with_reducible refine le_up ?_) | (with_reducible refine le_alloc ?_) | (with_reducible refine le_setCell ?_) | (with_reducible refine le_drew ?_) | (with_reducible refine le_drewN ?_) | omega))) _) | (with_reducible refine Below.drew ?_) | (with_reducible refine Below.drewN ?_ _) | (with_reducible refine Below.setCell ?_ (by (repeat (first | (with_reducible exact Nat.le_refl _) | (with_reducible assumption) | (with_reducible refine le_up ?_) | (with_reducible refine le_alloc ?_) | (with_reducible refine le_setCell ?_) | (with_reducible refine le_drew ?_) | (with_reducible refine le_drewN ?_) | omega))) _) | (with_reducible refine Below.up ?_ (by (repeat (first | (with_reducible exact Nat.le_refl _) | (with_reducible assumption) | (with_reducible refine le_up ?_) | (with_reducible refine le_alloc ?_) | (with_reducible refine le_setCell ?_) | (with_reducible refine le_drew ?_) | (with_reducible refine le_drewN ?_) | omega)))))))
end Go.Proofs.Ytbfloidogdjccaa
