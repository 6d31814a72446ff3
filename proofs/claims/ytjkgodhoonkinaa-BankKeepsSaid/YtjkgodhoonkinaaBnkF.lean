/-
  The law BankKeeps, walked.
-/
import Derived.Test.YtjkgodhoonkinaaBnkQ
namespace Go.Proofs.Ytjkgodhoonkinaa
open Go.RowKit
set_option linter.unusedVariables false
set_option linter.unusedSimpArgs false

set_option maxRecDepth 100000 in
set_option maxHeartbeats 16000000 in
theorem BankKeeps_any (a : Option Addr) (len cap : Nat) (at_ by_ : Int) (hby : 0 ≤ by_ ∧ by_ < 256) (w : World) (hr : Elems w actK a len) :
    Calls Try.prog 13 #[.slice a len cap, .int .i64 at_, .int .u8 by_] w (Gives w (.bool true)) := by
  have HR := Lib.hid hr
  have hlen := hr.1
  clear hr
  obtain ⟨Z, hZ⟩ : ∃ Z, Z = recL zeroR := ⟨_, rfl⟩
  have hzl : Z.length = 50 := by rw [hZ]; rfl
  have HZO := Lib.hid (show Z.toArray.all (·.oneCell') = true by rw [hZ]; exact recL_one rfl)
  have HZB := Lib.hid (fun W => (show (Instr.build 50 #[]).run Try.prog W = .ok (.agg Z.toArray) W by rw [hZ]; exact run_bld0 W))
  have HZE := Lib.hid hZ
  have HZL := Lib.hid hzl
  clear hZ hzl
  go_enter Try.func13, Try.ntmps13
  go_wp2_with fail
  refine (works30 w).mono ?_
  rintro e1 w1 ⟨rfl, x1, rfl⟩
  go_wp2_with fail
  refine (bNew_any (up w x1)).mono ?_
  rintro e2 w2 ⟨rfl, hb2, hs2, hl2⟩
  obtain ⟨s, hs⟩ : ∃ s, s = (up w x1).heap.size := ⟨_, rfl⟩
  rw [← hs] at hb2 hs2 hl2 ⊢
  have H2 := Lib.hid (show Below w.heap.size w w2 ∧ StoAt w2 s (.slice none 0 0) (.slice none 0 0) (-1) true ∧ w.heap.size ≤ s from ⟨(up_below w x1).trans (hb2.mono (hs ▸ up_size w x1)), hs2, hs ▸ up_size w x1⟩)
  clear hb2 hs2 hs
  have HL2 := Lib.hid hl2
  clear hl2
  go_upto_region 4 with fail
  have h3 := store_three w2 (((w2.alloc (.cells #[.int .u32 0, .int .u32 0, .int .u64 0, .int .u32 0, .int .u64 0, .int .u32 0, .int .u64 0, .int .u32 0, .int .u64 0, .int .u32 0, .int .u64 0, .int .u32 0, .int .u64 0, .int .u32 0, .int .u64 0, .int .u32 0, .int .u64 0, .int .u32 0, .int .u8 0, .int .u8 0, .int .u8 0, .int .u8 0, .int .u8 0, .int .u8 0, .int .u8 0, .int .u8 0, .int .u8 0, .int .u8 0, .int .u8 0, .int .u8 0, .int .u8 0, .int .u8 0, .int .u8 0, .int .u8 0, .int .u8 0, .int .u8 0, .int .u8 0, .int .u8 0, .int .u8 0, .int .u8 0, .int .u8 0, .int .u8 0, .int .u8 0, .int .u8 0, .int .u8 0, .int .u8 0, .int .u8 0, .int .u8 0, .int .u8 0, .int .u8 0] 50)).alloc (.cells #[.int .u32 0, .int .u32 0, .int .u64 0, .int .u32 0, .int .u64 0, .int .u32 0, .int .u64 0, .int .u32 0, .int .u64 0, .int .u32 0, .int .u64 0, .int .u32 0, .int .u64 0, .int .u32 0, .int .u64 0, .int .u32 0, .int .u64 0, .int .u32 0, .int .u8 0, .int .u8 0, .int .u8 0, .int .u8 0, .int .u8 0, .int .u8 0, .int .u8 0, .int .u8 0, .int .u8 0, .int .u8 0, .int .u8 0, .int .u8 0, .int .u8 0, .int .u8 0, .int .u8 0, .int .u8 0, .int .u8 0, .int .u8 0, .int .u8 0, .int .u8 0, .int .u8 0, .int .u8 0, .int .u8 0, .int .u8 0, .int .u8 0, .int .u8 0, .int .u8 0, .int .u8 0, .int .u8 0, .int .u8 0, .int .u8 0, .int .u8 0] 50)).alloc (.cells #[.int .u32 0, .int .u32 0, .int .u64 0, .int .u32 0, .int .u64 0, .int .u32 0, .int .u64 0, .int .u32 0, .int .u64 0, .int .u32 0, .int .u64 0, .int .u32 0, .int .u64 0, .int .u32 0, .int .u64 0, .int .u32 0, .int .u64 0, .int .u32 0, .int .u8 0, .int .u8 0, .int .u8 0, .int .u8 0, .int .u8 0, .int .u8 0, .int .u8 0, .int .u8 0, .int .u8 0, .int .u8 0, .int .u8 0, .int .u8 0, .int .u8 0, .int .u8 0, .int .u8 0, .int .u8 0, .int .u8 0, .int .u8 0, .int .u8 0, .int .u8 0, .int .u8 0, .int .u8 0, .int .u8 0, .int .u8 0, .int .u8 0, .int .u8 0, .int .u8 0, .int .u8 0, .int .u8 0, .int .u8 0, .int .u8 0, .int .u8 0] 50)) w2.heap.size (by (repeat (first | (with_reducible exact Below.refl _ _) | (with_reducible assumption) | (with_reducible refine Below.alloc ?_ (by (repeat (first | (with_reducible exact Nat.le_refl _) | (with_reducible assumption) | (with_reducible refine le_up ?_) | (with_reducible refine le_alloc ?_) | (with_reducible refine le_setCell ?_) | (with_reducible refine le_drew ?_) | (with_reducible refine le_drewN ?_) | omega))) _) | (with_reducible refine Below.drew ?_) | (with_reducible refine Below.drewN ?_ _) | (with_reducible refine Below.setCell ?_ (by (repeat (first | (with_reducible exact Nat.le_refl _) | (with_reducible assumption) | (with_reducible refine le_up ?_) | (with_reducible refine le_alloc ?_) | (with_reducible refine le_setCell ?_) | (with_reducible refine le_drew ?_) | (with_reducible refine le_drewN ?_) | omega))) _) | (with_reducible refine Below.up ?_ (by (repeat (first | (with_reducible exact Nat.le_refl _) | (with_reducible assumption) | (with_reducible refine le_up ?_) | (with_reducible refine le_alloc ?_) | (with_reducible refine le_setCell ?_) | (with_reducible refine le_drew ?_) | (with_reducible refine le_drewN ?_) | omega))))))) (Nat.le_refl _) (by simp) (there_alloc (there_alloc (there_at (g := w2.heap.size) _ _ _ 50 rfl) (by simp) _) (by simp; omega) _) (there_alloc (there_at (g := w2.heap.size + 1) _ _ _ 50 rfl) (by simp) _) (there_at (g := w2.heap.size + 1 + 1) _ _ _ 50 rfl) Z HZL.out HZO.out
  have e1 := h3.1
  have e2 := h3.2.1
  have e3 := h3.2.2.1
  have H3 := Lib.hid h3.2.2.2
  clear h3
  go_upto_region 5 with (refine wpList_bld0 rfl 50 rfl (.agg Z.toArray) HZB.out ?_)
  obtain ⟨pb, hpb⟩ : ∃ p, p = w2.heap.size + 1 + 1 := ⟨_, rfl⟩
  rw [← hpb] at H3 ⊢
  obtain ⟨pa, hpa⟩ : ∃ p, p = w2.heap.size + 1 := ⟨_, rfl⟩
  rw [← hpa] at H3 hpb ⊢
  obtain ⟨pl, hpl⟩ : ∃ p, p = w2.heap.size := ⟨_, rfl⟩
  rw [← hpl] at H3 hpa HL2 ⊢
  refine wp_gen (fun W => KMem w s pl pa pb (.slice none 0 0) (.slice none 0 0) [] [] (-1) zeroR zeroR zeroR W) ?_ ?_
  · obtain ⟨b3, z3, ⟨r0, r1, r2⟩, t0, t1, t2⟩ := H3.out
    have hz := HZE.out
    rw [hz] at b3 z3 r0 r1 r2 t0 t1 t2 ⊢
    have hls := HL2.out
    have hle := H2.out.2.2
    exact ⟨H2.out.1.trans (b3.mono (by have := H2.out.1.size; omega)), ⟨hle, hls, by omega, by omega, by omega⟩, H2.out.2.1.below b3 (hpl ▸ hls), OwnB.nil _ _, OwnB.nil _ _, fun b h => by simp [Value.ownBlock] at h, r0, r1, r2, t0, t1, t2⟩
  clear e1 e2 e3 H3 hpb hpa hpl HL2 H2
  rintro W0 hk0
  have HREL := Lib.hid (show KeepRel w s pl pa pb (.int .u32 0) (.int .i64 0) W0 from ⟨0, 0, _, _, _, _, _, _, _, _, by omega, rfl, rfl, Nat.le_refl _, Keep.start, hk0⟩)
  clear hk0
  go_wp2_with fail
  go_loopw [11, 12] (fun v11 v12 wr => KeepRel w s pl pa pb v11 v12 wr) (fun _ v12 _ => 40 - (intOf v12).toNat)
  case atStart => exact HREL.out
  case round =>
    clear HREL
    obtain ⟨k, sq, v0, v1, x0, x1, bg, L, A, B, hk⟩ := hrel
    have hk40 := hk.k40
    obtain rfl := hk.e11
    obtain rfl := hk.e12
    have HK := Lib.hid hk
    clear hk
    by_cases hend : k < len ∧ k < 40
    · skip
      obtain ⟨hkl, hk4⟩ := hend
      obtain ⟨Bq, off, d, R, nx, bk, at2, b2, rfl, hBq, hR, hb2, hrow⟩ := acts_at HR.out hkl
      have hkd : decide ((k : Int) < 40) = true := by simp; omega
      have hkI : (k : Int) < 40 := by omega
      obtain ⟨CS, hCS⟩ : ∃ C, C = actL d R nx bk at2 b2 := ⟨_, rfl⟩
      have hcl : CS.length = 55 := by rw [hCS]; exact actL_length hR.1
      have hs := store_newA wr CS hcl (by rw [hCS]; exact actL_one hR.1)
      have HA := Lib.hid (show wr.rangeAt Bq (off + k * 55) CS by rw [hCS]; exact rangeAt_below HK.out.mem.bel hBq hrow)
      have HCL := Lib.hid hcl
      have HCS := Lib.hid (And.intro hCS hR)
      have hst := hs.1
      have HS := Lib.hid hs.2
      clear hs hcl hCS hrow hBq hR
      go_upto_region 10 with (refine wpList_load_mid rfl 86 (.tmp 41) (by rfl) Bq (off + k * 55) (by rfl) CS _ HA.out Try.underlying86 (by rfl) (by rw [HCL.out]; kernel_rfl) ?_)
      obtain ⟨q, hq⟩ : ∃ q, q = wr.heap.size := ⟨_, rfl⟩
      rw [← hq]
      rw [← hq] at HS
      refine wp_gen (fun W => Below q wr W ∧ W.rangeAt q 0 CS ∧ W.there q 0 55 ∧ q < W.heap.size) HS.out ?_
      have HQ := Lib.hid hq
      clear hst HS HA hq
      rintro W1 ⟨hb1, hr1, ht1, hl1⟩
      have z0 : W1.cell? ⟨q, 0, none⟩ = some (.int .i64 d) := by
        have := hr1 0 (.int .i64 d) (by rw [HCS.out.1]; rfl)
        exact this
      have HM1 := Lib.hid (show KMem w s pl pa pb v0 v1 x0 x1 bg L A B W1 from HK.out.mem.below (by rw [← HQ.out]; exact hb1))
      have H1 := Lib.hid (And.intro hb1 (And.intro hr1 (And.intro ht1 hl1)))
      have hm := amongV_bd d 9 (by omega)
      have HAM := Lib.hid (Among_any d 9 W1 (by omega) (by omega))
      clear hb1 hr1 ht1 hl1
      generalize amongV d 9 = m at *
      haveI hlq : LtSize q W1 := ⟨H1.out.2.2.2⟩
      by_cases hm4 : m < 4
      · have hok := set_ok HCS.out.2 (n := sq + 1) (by have := HK.out.sqk; omega)
        have wq : IntKind.u32.wrap ((sq : Int) + 1) = (sq : Int) + 1 := by
          have := HK.out.sqk
          simp [IntKind.wrap, IntKind.bits, IntKind.signed]; omega
        obtain ⟨R1, hR1⟩ : ∃ R1, R1 = R.set 0 (sq + 1) := ⟨_, rfl⟩
        have HRR := Lib.hid (show W1.rangeAt q 1 (recL R) by have := rangeAt_sub H1.out.2.1 1 50; rwa [HCS.out.1, actL_rec HCS.out.2.1, Nat.zero_add] at this)
        have c1 : W1.cell? ⟨q, 1, none⟩ = some (.int .u32 ((R.getD 0 0 : Nat) : Int)) := by
          have := HRR.out 0 _ (recL_get HCS.out.2.1 0 (by omega))
          exact this
        have f1 : W1.frozen? ⟨q, 1, none⟩ = false := (H1.out.2.2.1 1 (by omega)).2
        rw [← hR1] at hok
        have HRE := Lib.hid hR1
        clear hR1
        generalize R.getD 0 0 = r0 at c1
        go_upto_region 16 with (go_at_call 23; with_reducible refine Calls.tells (HAM.out) ?_)
        obtain ⟨RL, hRL⟩ : ∃ RL, RL = recL R1 := ⟨_, rfl⟩
        refine wp_gen (fun W => KMem w s pl pa pb v0 v1 x0 x1 bg L A B W ∧ W.rangeAt q 1 RL ∧ q < W.heap.size) ?_ ?_
        · have hb2 : Below q wr (W1.setCell ⟨q, 1, none⟩ (.int .u32 ((sq : Int) + 1))) := H1.out.1.setCell (Nat.le_refl _) _
          refine ⟨HK.out.mem.below (by rw [← HQ.out]; exact hb2), ?_, by rw [World.size_setCell]; exact H1.out.2.2.2⟩
          have := rangeAt_set HRR.out 0 (.int .u32 ((sq : Int) + 1))
          rw [hRL, HRE.out, recL_set HCS.out.2.1]
          exact this
        clear c1 f1 HRR H1 HM1 HAM z0 hlq
        rintro W2 ⟨hk2, hr2, hl2⟩
        have H2 := Lib.hid (And.intro hk2 (And.intro hr2 hl2))
        have HRL := Lib.hid (And.intro hRL (show RL.length = 50 ∧ RL.toArray.all (·.oneCell') = true by rw [hRL]; exact ⟨recL_length hok.1.1, recL_one hok.1.1⟩))
        have HOK := Lib.hid hok
        have HBG := Lib.hid (K_begin hk2 HK.out.law.l0 HK.out.law.l1 hok.1 (by omega))
        rw [← hRL] at HBG
        clear hk2 hr2 hl2 hRL hok
        go_wp2_with (refine wpList_load_mid rfl 50 (.tmp 58) (by rfl) q 1 (by rfl) RL _ H2.out.2.1 Try.underlying50 (by rfl) (by rw [HRL.out.2.1]; kernel_rfl) ?_)
        refine HBG.out.mono ?_
        rintro e3 W3 ⟨rfl, hg3, v0', v1', hm3⟩
        have hsq : q ≠ s := by have := HK.out.mem.ord; have := HQ.out; omega
        have hk5 := hm3.setB (R := R1) HOK.out.1.1
        rw [← HRL.out.1] at hk5
        have hk6 := hk5.setA (R := zeroR) rfl
        rw [← HZE.out] at hk6
        have hst := run_storeCells_mid W3 pb 0 RL (by rw [HRL.out.2.1]; exact hm3.tb) HRL.out.2.2
        have hst2 := run_storeCells_mid (W3.setCells pb 0 RL) pa 0 Z (by rw [HZL.out]; exact hk5.ta) HZO.out
        have hrl := HRL.out.2.1
        have hzl := HZL.out
        have H3 := Lib.hid (rangeAt_kept H2.out.2.1 H2.out.2.2 hg3 (by simpa using hsq))
        have HB := Lib.hid (And.intro (HK.out.law.begin HOK.out.1 HOK.out.2) hk6)
        clear hm3 hk5 hk6 hg3 hsq HBG
        go_upto_region 26 with (first | (refine wpList_load_mid rfl 50 (.tmp 62) (by rfl) q 1 (by rfl) RL _ H3.out Try.underlying50 (by rfl) (by rw [HRL.out.2.1]; kernel_rfl) ?_) | (refine wpList_bld0 rfl 50 rfl (.agg Z.toArray) HZB.out ?_))
        obtain ⟨sqn, hsqn⟩ : ∃ n : Nat, n = sq + 1 := ⟨_, rfl⟩
        rw [show ((sq : Int) + 1) = ((sqn : Nat) : Int) by omega]
        have HSQ := Lib.hid (show sqn ≤ k + 1 by have := HK.out.sqk; omega)
        refine wp_gen (KeepW w s pl pa pb sqn) ⟨_, _, _, _, _, _, _, _, hsqn ▸ HB.out.1, HB.out.2⟩ ?_
        clear hst hst2 hrl hzl H3 HB H2 hsqn HRL HOK HRE wq HK
        rintro W5 ⟨v0, v1, x0, x1, bg, L, A, B, law, mem⟩
        obtain ⟨er, her⟩ : ∃ er : Int, er = if seqOf L = 0 then 300 else 0 := ⟨_, rfl⟩
        have HRC := Lib.hid (K_recover mem law.l0 law.l1 (show rcvR x0 x1 = L ∧ rcvE x0 x1 = er by rw [her]; exact law.rcv))
        have HW := Lib.hid (And.intro law mem)
        obtain ⟨LL, hLL⟩ : ∃ LL, LL = recL L := ⟨_, rfl⟩
        have HEQ := Lib.hid (rec_self L law.okL.1 (rec_ints law.okL))
        rw [← hLL] at HRC HEQ
        have HLL := Lib.hid (And.intro hLL (show LL.length = 50 ∧ LL.toArray.all (·.oneCell') = true by rw [hLL]; exact ⟨recL_length law.okL.1, recL_one law.okL.1⟩))
        have HER := Lib.hid her
        clear law mem hLL her
        go_wp2_with fail
        refine HRC.out.mono ?_
        rintro e6 w6 ⟨rfl, x6, rfl⟩
        have hs := store_newR (up W5 x6) 50 LL HLL.out.2.1 HLL.out.2.2
        have hst := hs.1
        have hll := HLL.out.2.1
        have HS := Lib.hid hs.2
        clear hs
        go_upto_region 27 with fail
        refine wp_gen (fun W => KMem w s pl pa pb v0 v1 x0 x1 bg L A B W ∧ W.rangeAt (up W5 x6).heap.size 0 LL) ⟨HW.out.2.below ((up_below W5 x6).trans (HS.out.1.mono (up_size W5 x6))), HS.out.2.1⟩ ?_
        clear hst HS HRC hll
        generalize (up W5 x6).heap.size = r
        rintro W7 ⟨mem7, hr7⟩
        have H7 := Lib.hid (And.intro mem7 hr7)
        have H7L := Lib.hid (show W7.rangeAt pl 0 LL by rw [HLL.out.1]; exact mem7.rl)
        obtain ⟨ls, hls⟩ : ∃ n, n = seqOf L := ⟨_, rfl⟩
        have zl : W7.cell? ⟨pl, 0, none⟩ = some (.int .u32 ((ls : Nat) : Int)) := by
          have := mem7.rl 0 _ (recL_get HW.out.1.okL.1 0 (by omega))
          rw [hls]; exact this
        have heq := HEQ.out
        have HLS := Lib.hid hls
        haveI : LtSize pl W7 := ⟨by have := mem7.ord; omega⟩
        clear mem7 hr7 hls
        by_cases hl0 : ls = 0
        · have he : er = 300 := by rw [HER.out, ← HLS.out, if_pos hl0]
          subst he
          subst hl0
          go_wp2_with (first | (refine wpList_load_midG 50 (.tmp 16) (by with_reducible rfl) (by rfl) r 0 (by rfl) LL _ H7.out.2 Try.underlying50 (by rfl) (by rw [HLL.out.2.1]; kernel_rfl) ?_) | (refine wpList_load_midG 50 (.tmp 8) (by with_reducible rfl) (by rfl) pl 0 (by rfl) LL _ H7L.out Try.underlying50 (by rfl) (by rw [HLL.out.2.1]; kernel_rfl) ?_))
          exact ⟨⟨k + 1, sqn, _, _, _, _, _, _, _, _, by omega, rfl, (by first | rfl | go_num), HSQ.out, HW.out.1, H7.out.1⟩, by simp [intOf]; omega⟩
        · have he : er = 0 := by rw [HER.out, ← HLS.out, if_neg hl0]
          subst he
          have hlp : (0 : Int) < (ls : Int) := by omega
          have hlpN : 0 < ls := by omega
          go_wp2_with (first | (refine wpList_load_midG 50 (.tmp 16) (by with_reducible rfl) (by rfl) r 0 (by rfl) LL _ H7.out.2 Try.underlying50 (by rfl) (by rw [HLL.out.2.1]; kernel_rfl) ?_) | (refine wpList_load_midG 50 (.tmp 8) (by with_reducible rfl) (by rfl) pl 0 (by rfl) LL _ H7L.out Try.underlying50 (by rfl) (by rw [HLL.out.2.1]; kernel_rfl) ?_))
          exact ⟨⟨k + 1, sqn, _, _, _, _, _, _, _, _, by omega, rfl, (by first | rfl | go_num), HSQ.out, HW.out.1, H7.out.1⟩, by simp [intOf]; omega⟩
      · obtain ⟨sqn, hsqn⟩ : ∃ n : Nat, n = sq := ⟨_, rfl⟩
        have HSQ := Lib.hid (show sqn ≤ k + 1 by have := HK.out.sqk; omega)
        subst hsqn
        by_cases hm7 : m < 7
        · go_upto_region 20 with (go_at_call 23; with_reducible refine Calls.tells (HAM.out) ?_)
          refine wp_gen (fun W => KMem w s pl pa pb v0 v1 x0 x1 bg L A B W) HM1.out ?_
          clear HM1 H1 HAM z0 hlq
          rintro W2 hm2
          rcases HK.out.law.begun with ⟨rfl, rfl⟩ | rfl | rfl
          · have HF := Lib.hid (Finish_none W2 s v0 v1 hm2.sto)
            have zb : W2.cell? ⟨pb, 0, none⟩ = some (.int .u32 0) := hm2.rb 0 _ rfl
            haveI : LtSize pb W2 := ⟨by have := hm2.ord; omega⟩
            have HB := Lib.hid (And.intro HK.out.law hm2)
            clear hm2
            go_upto_region 26 with (go_at_call 49; with_reducible refine Calls.tells (HF.out) ?_)
            refine wp_gen (KeepW w s pl pa pb sqn) ⟨_, _, _, _, _, _, _, _, HB.out⟩ ?_
            clear HB HF HK zb
            rintro W5 ⟨v0, v1, x0, x1, bg, L, A, B, law, mem⟩
            obtain ⟨er, her⟩ : ∃ er : Int, er = if seqOf L = 0 then 300 else 0 := ⟨_, rfl⟩
            have HRC := Lib.hid (K_recover mem law.l0 law.l1 (show rcvR x0 x1 = L ∧ rcvE x0 x1 = er by rw [her]; exact law.rcv))
            have HW := Lib.hid (And.intro law mem)
            obtain ⟨LL, hLL⟩ : ∃ LL, LL = recL L := ⟨_, rfl⟩
            have HEQ := Lib.hid (rec_self L law.okL.1 (rec_ints law.okL))
            rw [← hLL] at HRC HEQ
            have HLL := Lib.hid (And.intro hLL (show LL.length = 50 ∧ LL.toArray.all (·.oneCell') = true by rw [hLL]; exact ⟨recL_length law.okL.1, recL_one law.okL.1⟩))
            have HER := Lib.hid her
            clear law mem hLL her
            go_wp2_with fail
            refine HRC.out.mono ?_
            rintro e6 w6 ⟨rfl, x6, rfl⟩
            have hs := store_newR (up W5 x6) 50 LL HLL.out.2.1 HLL.out.2.2
            have hst := hs.1
            have hll := HLL.out.2.1
            have HS := Lib.hid hs.2
            clear hs
            go_upto_region 27 with fail
            refine wp_gen (fun W => KMem w s pl pa pb v0 v1 x0 x1 bg L A B W ∧ W.rangeAt (up W5 x6).heap.size 0 LL) ⟨HW.out.2.below ((up_below W5 x6).trans (HS.out.1.mono (up_size W5 x6))), HS.out.2.1⟩ ?_
            clear hst HS HRC hll
            generalize (up W5 x6).heap.size = r
            rintro W7 ⟨mem7, hr7⟩
            have H7 := Lib.hid (And.intro mem7 hr7)
            have H7L := Lib.hid (show W7.rangeAt pl 0 LL by rw [HLL.out.1]; exact mem7.rl)
            obtain ⟨ls, hls⟩ : ∃ n, n = seqOf L := ⟨_, rfl⟩
            have zl : W7.cell? ⟨pl, 0, none⟩ = some (.int .u32 ((ls : Nat) : Int)) := by
              have := mem7.rl 0 _ (recL_get HW.out.1.okL.1 0 (by omega))
              rw [hls]; exact this
            have heq := HEQ.out
            have HLS := Lib.hid hls
            haveI : LtSize pl W7 := ⟨by have := mem7.ord; omega⟩
            clear mem7 hr7 hls
            by_cases hl0 : ls = 0
            · have he : er = 300 := by rw [HER.out, ← HLS.out, if_pos hl0]
              subst he
              subst hl0
              go_wp2_with (first | (refine wpList_load_midG 50 (.tmp 16) (by with_reducible rfl) (by rfl) r 0 (by rfl) LL _ H7.out.2 Try.underlying50 (by rfl) (by rw [HLL.out.2.1]; kernel_rfl) ?_) | (refine wpList_load_midG 50 (.tmp 8) (by with_reducible rfl) (by rfl) pl 0 (by rfl) LL _ H7L.out Try.underlying50 (by rfl) (by rw [HLL.out.2.1]; kernel_rfl) ?_))
              exact ⟨⟨k + 1, sqn, _, _, _, _, _, _, _, _, by omega, rfl, (by first | rfl | go_num), HSQ.out, HW.out.1, H7.out.1⟩, by simp [intOf]; omega⟩
            · have he : er = 0 := by rw [HER.out, ← HLS.out, if_neg hl0]
              subst he
              have hlp : (0 : Int) < (ls : Int) := by omega
              have hlpN : 0 < ls := by omega
              go_wp2_with (first | (refine wpList_load_midG 50 (.tmp 16) (by with_reducible rfl) (by rfl) r 0 (by rfl) LL _ H7.out.2 Try.underlying50 (by rfl) (by rw [HLL.out.2.1]; kernel_rfl) ?_) | (refine wpList_load_midG 50 (.tmp 8) (by with_reducible rfl) (by rfl) pl 0 (by rfl) LL _ H7L.out Try.underlying50 (by rfl) (by rw [HLL.out.2.1]; kernel_rfl) ?_))
              exact ⟨⟨k + 1, sqn, _, _, _, _, _, _, _, _, by omega, rfl, (by first | rfl | go_num), HSQ.out, HW.out.1, H7.out.1⟩, by simp [intOf]; omega⟩
          · obtain ⟨hp, hbq, hlaw⟩ := HK.out.law.finish0
            have HF := Lib.hid (K_finish0 hm2 hp)
            clear hm2 hp
            go_wp2_with fail
            refine HF.out.mono ?_
            rintro e3 W3 ⟨rfl, hmem⟩
            clear HF
            generalize x0.set 0 165 = yy0 at *
            obtain ⟨yy1, hyy⟩ : ∃ y, y = x1 := ⟨_, rfl⟩
            rw [← hyy] at hmem hlaw
            clear hyy
            have HMN := Lib.hid (And.intro (show Keep yy0 yy1 (-1) B L zeroR sqn from hlaw) hmem)
            have hB0 : seqOf B ≠ 0 := hbq
            obtain ⟨bs, hbs⟩ : ∃ n, n = seqOf B := ⟨_, rfl⟩
            have zb : W3.cell? ⟨pb, 0, none⟩ = some (.int .u32 ((bs : Nat) : Int)) := by
              have := hmem.rb 0 _ (recL_get HK.out.law.okB.1 0 (by omega))
              rw [hbs]; exact this
            have hbp : (0 : Int) < (bs : Int) := by omega
            have hbpN : 0 < bs := by omega
            haveI : LtSize pb W3 := ⟨by have := hmem.ord; omega⟩
            have HLL := Lib.hid (show (recL L).length = 50 ∧ (recL L).toArray.all (·.oneCell') = true from ⟨recL_length HK.out.law.okL.1, recL_one HK.out.law.okL.1⟩)
            have HBL := Lib.hid (show (recL B).length = 50 ∧ (recL B).toArray.all (·.oneCell') = true from ⟨recL_length HK.out.law.okB.1, recL_one HK.out.law.okB.1⟩)
            obtain ⟨LL, hLL⟩ : ∃ LL, LL = recL L := ⟨_, rfl⟩
            obtain ⟨BL, hBL⟩ : ∃ BL, BL = recL B := ⟨_, rfl⟩
            rw [← hLL] at HLL
            rw [← hBL] at HBL
            have HM3 := Lib.hid (show KMem w s pl pa pb v0 v1 yy0 yy1 (-1) B L zeroR (((W3.drew.setCells pa 0 LL).setCells pl 0 BL).setCells pb 0 Z) from by
              have h1 := hmem.drew.setA (R := L) HK.out.law.okL.1
              have h2 := h1.setL (R := B) HK.out.law.okB.1
              have h3 := h2.setB (R := zeroR) rfl
              rw [hLL, hBL, HZE.out]
              exact h3)
            have HT := Lib.hid (show W3.drew.there pa 0 50 ∧ (W3.drew.setCells pa 0 LL).there pl 0 50 ∧ ((W3.drew.setCells pa 0 LL).setCells pl 0 BL).there pb 0 50 from
              ⟨hmem.drew.ta, World.there_setCells hmem.drew.tl _ _ _, World.there_setCells (World.there_setCells hmem.drew.tb _ _ _) _ _ _⟩)
            have HRS := Lib.hid (show (W3.rangeAt pl 0 LL ∧ W3.rangeAt pb 0 BL) ∧ (W3.drew.setCells pa 0 LL).rangeAt pl 0 LL ∧ (W3.drew.setCells pa 0 LL).rangeAt pb 0 BL from by
              have h1 := hmem.drew.setA (R := L) HK.out.law.okL.1
              rw [hLL, hBL]
              exact ⟨⟨hmem.rl, hmem.rb⟩, h1.rl, h1.rb⟩)
            clear hmem hbs hB0 hLL hBL hlaw hbq
            go_upto_region 25 with fail
            refine wp_region_slim [4, 5] [(0, 0), (1, 0), (2, 3), (3, 1), (4, 2), (5, 2)] (fun X => X.rangeAt pl 0 LL ∧ X.rangeAt pb 0 BL) (by kernel_rfl) (by kernel_rfl) (fun d v c a w h => by cases d <;> exact h) HRS.out.1 ?_
            simp only [List.map_cons, List.map_nil, slim]
            refine wpSched_load 50 (.tmp 8) pl 0 LL _ rfl rfl (by rfl) (by rfl) (fun X hX => hX.1) Try.underlying50 (by rfl) (by rw [HLL.out.1]; kernel_rfl) ?_
            simp only [Act.put, List.getElem_toArray, List.getElem_cons_zero, List.getElem_cons_succ, List.setIfInBounds_toArray, List.set_cons_zero, List.set_cons_succ]
            refine wpSched_load 50 (.tmp 10) pb 0 BL _ rfl rfl (by rfl) (by rfl) (fun X hX => hX.2) Try.underlying50 (by rfl) (by rw [HBL.out.1]; kernel_rfl) ?_
            simp only [Act.put, List.getElem_toArray, List.getElem_cons_zero, List.getElem_cons_succ, List.setIfInBounds_toArray, List.set_cons_zero, List.set_cons_succ]
            refine wpSched_pure (.agg Z.toArray) rfl (by rfl) (exec_bld0 50 rfl _ HZB.out) ?_
            simp only [Act.put, List.getElem_toArray, List.getElem_cons_zero, List.getElem_cons_succ, List.setIfInBounds_toArray, List.set_cons_zero, List.set_cons_succ]
            refine wpSched_store rfl (by rfl) (exec_store 50 (.tmp 9) (.tmp 78) pa 0 LL rfl (by rfl) (by rfl) (by rw [HLL.out.1]; exact HT.out.1) (by rw [HLL.out.1]; kernel_rfl) HLL.out.2) HRS.out.2 ?_
            simp only [Act.put, List.getElem_toArray, List.getElem_cons_zero, List.getElem_cons_succ, List.setIfInBounds_toArray, List.set_cons_zero, List.set_cons_succ]
            refine wpSched_storeT rfl (by rfl) (exec_store 50 (.tmp 8) (.tmp 79) pl 0 BL rfl (by rfl) (by rfl) (by rw [HBL.out.1]; exact HT.out.2.1) (by rw [HBL.out.1]; kernel_rfl) HBL.out.2) ?_
            simp only [Act.put, List.getElem_toArray, List.getElem_cons_zero, List.getElem_cons_succ, List.setIfInBounds_toArray, List.set_cons_zero, List.set_cons_succ]
            refine wpSched_storeT rfl (by rfl) (exec_store 50 (.tmp 10) (.tmp 80) pb 0 Z rfl (by rfl) (by rfl) (by rw [HZL.out]; exact HT.out.2.2) (by rw [HZL.out]; kernel_rfl) HZO.out) ?_
            simp only [Act.put, List.getElem_toArray, List.getElem_cons_zero, List.getElem_cons_succ, List.setIfInBounds_toArray, List.set_cons_zero, List.set_cons_succ]
            refine wpSched_nil ?_
            go_upto_region 26 with fail
            refine wp_gen (KeepW w s pl pa pb sqn) ⟨_, _, _, _, _, _, _, _, HMN.out.1, HM3.out⟩ ?_
            clear HM3 HT HRS HMN HK zb hbp hbpN
            rintro W5 ⟨v0, v1, x0, x1, bg, L, A, B, law, mem⟩
            obtain ⟨er, her⟩ : ∃ er : Int, er = if seqOf L = 0 then 300 else 0 := ⟨_, rfl⟩
            have HRC := Lib.hid (K_recover mem law.l0 law.l1 (show rcvR x0 x1 = L ∧ rcvE x0 x1 = er by rw [her]; exact law.rcv))
            have HW := Lib.hid (And.intro law mem)
            obtain ⟨LL, hLL⟩ : ∃ LL, LL = recL L := ⟨_, rfl⟩
            have HEQ := Lib.hid (rec_self L law.okL.1 (rec_ints law.okL))
            rw [← hLL] at HRC HEQ
            have HLL := Lib.hid (And.intro hLL (show LL.length = 50 ∧ LL.toArray.all (·.oneCell') = true by rw [hLL]; exact ⟨recL_length law.okL.1, recL_one law.okL.1⟩))
            have HER := Lib.hid her
            clear law mem hLL her
            go_wp2_with fail
            refine HRC.out.mono ?_
            rintro e6 w6 ⟨rfl, x6, rfl⟩
            have hs := store_newR (up W5 x6) 50 LL HLL.out.2.1 HLL.out.2.2
            have hst := hs.1
            have hll := HLL.out.2.1
            have HS := Lib.hid hs.2
            clear hs
            go_upto_region 27 with fail
            refine wp_gen (fun W => KMem w s pl pa pb v0 v1 x0 x1 bg L A B W ∧ W.rangeAt (up W5 x6).heap.size 0 LL) ⟨HW.out.2.below ((up_below W5 x6).trans (HS.out.1.mono (up_size W5 x6))), HS.out.2.1⟩ ?_
            clear hst HS HRC hll
            generalize (up W5 x6).heap.size = r
            rintro W7 ⟨mem7, hr7⟩
            have H7 := Lib.hid (And.intro mem7 hr7)
            have H7L := Lib.hid (show W7.rangeAt pl 0 LL by rw [HLL.out.1]; exact mem7.rl)
            obtain ⟨ls, hls⟩ : ∃ n, n = seqOf L := ⟨_, rfl⟩
            have zl : W7.cell? ⟨pl, 0, none⟩ = some (.int .u32 ((ls : Nat) : Int)) := by
              have := mem7.rl 0 _ (recL_get HW.out.1.okL.1 0 (by omega))
              rw [hls]; exact this
            have heq := HEQ.out
            have HLS := Lib.hid hls
            haveI : LtSize pl W7 := ⟨by have := mem7.ord; omega⟩
            clear mem7 hr7 hls
            by_cases hl0 : ls = 0
            · have he : er = 300 := by rw [HER.out, ← HLS.out, if_pos hl0]
              subst he
              subst hl0
              go_wp2_with (first | (refine wpList_load_midG 50 (.tmp 16) (by with_reducible rfl) (by rfl) r 0 (by rfl) LL _ H7.out.2 Try.underlying50 (by rfl) (by rw [HLL.out.2.1]; kernel_rfl) ?_) | (refine wpList_load_midG 50 (.tmp 8) (by with_reducible rfl) (by rfl) pl 0 (by rfl) LL _ H7L.out Try.underlying50 (by rfl) (by rw [HLL.out.2.1]; kernel_rfl) ?_))
              exact ⟨⟨k + 1, sqn, _, _, _, _, _, _, _, _, by omega, rfl, (by first | rfl | go_num), HSQ.out, HW.out.1, H7.out.1⟩, by simp [intOf]; omega⟩
            · have he : er = 0 := by rw [HER.out, ← HLS.out, if_neg hl0]
              subst he
              have hlp : (0 : Int) < (ls : Int) := by omega
              have hlpN : 0 < ls := by omega
              go_wp2_with (first | (refine wpList_load_midG 50 (.tmp 16) (by with_reducible rfl) (by rfl) r 0 (by rfl) LL _ H7.out.2 Try.underlying50 (by rfl) (by rw [HLL.out.2.1]; kernel_rfl) ?_) | (refine wpList_load_midG 50 (.tmp 8) (by with_reducible rfl) (by rfl) pl 0 (by rfl) LL _ H7L.out Try.underlying50 (by rfl) (by rw [HLL.out.2.1]; kernel_rfl) ?_))
              exact ⟨⟨k + 1, sqn, _, _, _, _, _, _, _, _, by omega, rfl, (by first | rfl | go_num), HSQ.out, HW.out.1, H7.out.1⟩, by simp [intOf]; omega⟩
          · obtain ⟨hp, hbq, hlaw⟩ := HK.out.law.finish1
            have HF := Lib.hid (K_finish1 hm2 hp)
            clear hm2 hp
            go_wp2_with fail
            refine HF.out.mono ?_
            rintro e3 W3 ⟨rfl, hmem⟩
            clear HF
            generalize x1.set 0 165 = yy1 at *
            obtain ⟨yy0, hyy⟩ : ∃ y, y = x0 := ⟨_, rfl⟩
            rw [← hyy] at hmem hlaw
            clear hyy
            have HMN := Lib.hid (And.intro (show Keep yy0 yy1 (-1) B L zeroR sqn from hlaw) hmem)
            have hB0 : seqOf B ≠ 0 := hbq
            obtain ⟨bs, hbs⟩ : ∃ n, n = seqOf B := ⟨_, rfl⟩
            have zb : W3.cell? ⟨pb, 0, none⟩ = some (.int .u32 ((bs : Nat) : Int)) := by
              have := hmem.rb 0 _ (recL_get HK.out.law.okB.1 0 (by omega))
              rw [hbs]; exact this
            have hbp : (0 : Int) < (bs : Int) := by omega
            have hbpN : 0 < bs := by omega
            haveI : LtSize pb W3 := ⟨by have := hmem.ord; omega⟩
            have HLL := Lib.hid (show (recL L).length = 50 ∧ (recL L).toArray.all (·.oneCell') = true from ⟨recL_length HK.out.law.okL.1, recL_one HK.out.law.okL.1⟩)
            have HBL := Lib.hid (show (recL B).length = 50 ∧ (recL B).toArray.all (·.oneCell') = true from ⟨recL_length HK.out.law.okB.1, recL_one HK.out.law.okB.1⟩)
            obtain ⟨LL, hLL⟩ : ∃ LL, LL = recL L := ⟨_, rfl⟩
            obtain ⟨BL, hBL⟩ : ∃ BL, BL = recL B := ⟨_, rfl⟩
            rw [← hLL] at HLL
            rw [← hBL] at HBL
            have HM3 := Lib.hid (show KMem w s pl pa pb v0 v1 yy0 yy1 (-1) B L zeroR (((W3.drew.setCells pa 0 LL).setCells pl 0 BL).setCells pb 0 Z) from by
              have h1 := hmem.drew.setA (R := L) HK.out.law.okL.1
              have h2 := h1.setL (R := B) HK.out.law.okB.1
              have h3 := h2.setB (R := zeroR) rfl
              rw [hLL, hBL, HZE.out]
              exact h3)
            have HT := Lib.hid (show W3.drew.there pa 0 50 ∧ (W3.drew.setCells pa 0 LL).there pl 0 50 ∧ ((W3.drew.setCells pa 0 LL).setCells pl 0 BL).there pb 0 50 from
              ⟨hmem.drew.ta, World.there_setCells hmem.drew.tl _ _ _, World.there_setCells (World.there_setCells hmem.drew.tb _ _ _) _ _ _⟩)
            have HRS := Lib.hid (show (W3.rangeAt pl 0 LL ∧ W3.rangeAt pb 0 BL) ∧ (W3.drew.setCells pa 0 LL).rangeAt pl 0 LL ∧ (W3.drew.setCells pa 0 LL).rangeAt pb 0 BL from by
              have h1 := hmem.drew.setA (R := L) HK.out.law.okL.1
              rw [hLL, hBL]
              exact ⟨⟨hmem.rl, hmem.rb⟩, h1.rl, h1.rb⟩)
            clear hmem hbs hB0 hLL hBL hlaw hbq
            go_upto_region 25 with fail
            refine wp_region_slim [4, 5] [(0, 0), (1, 0), (2, 3), (3, 1), (4, 2), (5, 2)] (fun X => X.rangeAt pl 0 LL ∧ X.rangeAt pb 0 BL) (by kernel_rfl) (by kernel_rfl) (fun d v c a w h => by cases d <;> exact h) HRS.out.1 ?_
            simp only [List.map_cons, List.map_nil, slim]
            refine wpSched_load 50 (.tmp 8) pl 0 LL _ rfl rfl (by rfl) (by rfl) (fun X hX => hX.1) Try.underlying50 (by rfl) (by rw [HLL.out.1]; kernel_rfl) ?_
            simp only [Act.put, List.getElem_toArray, List.getElem_cons_zero, List.getElem_cons_succ, List.setIfInBounds_toArray, List.set_cons_zero, List.set_cons_succ]
            refine wpSched_load 50 (.tmp 10) pb 0 BL _ rfl rfl (by rfl) (by rfl) (fun X hX => hX.2) Try.underlying50 (by rfl) (by rw [HBL.out.1]; kernel_rfl) ?_
            simp only [Act.put, List.getElem_toArray, List.getElem_cons_zero, List.getElem_cons_succ, List.setIfInBounds_toArray, List.set_cons_zero, List.set_cons_succ]
            refine wpSched_pure (.agg Z.toArray) rfl (by rfl) (exec_bld0 50 rfl _ HZB.out) ?_
            simp only [Act.put, List.getElem_toArray, List.getElem_cons_zero, List.getElem_cons_succ, List.setIfInBounds_toArray, List.set_cons_zero, List.set_cons_succ]
            refine wpSched_store rfl (by rfl) (exec_store 50 (.tmp 9) (.tmp 78) pa 0 LL rfl (by rfl) (by rfl) (by rw [HLL.out.1]; exact HT.out.1) (by rw [HLL.out.1]; kernel_rfl) HLL.out.2) HRS.out.2 ?_
            simp only [Act.put, List.getElem_toArray, List.getElem_cons_zero, List.getElem_cons_succ, List.setIfInBounds_toArray, List.set_cons_zero, List.set_cons_succ]
            refine wpSched_storeT rfl (by rfl) (exec_store 50 (.tmp 8) (.tmp 79) pl 0 BL rfl (by rfl) (by rfl) (by rw [HBL.out.1]; exact HT.out.2.1) (by rw [HBL.out.1]; kernel_rfl) HBL.out.2) ?_
            simp only [Act.put, List.getElem_toArray, List.getElem_cons_zero, List.getElem_cons_succ, List.setIfInBounds_toArray, List.set_cons_zero, List.set_cons_succ]
            refine wpSched_storeT rfl (by rfl) (exec_store 50 (.tmp 10) (.tmp 80) pb 0 Z rfl (by rfl) (by rfl) (by rw [HZL.out]; exact HT.out.2.2) (by rw [HZL.out]; kernel_rfl) HZO.out) ?_
            simp only [Act.put, List.getElem_toArray, List.getElem_cons_zero, List.getElem_cons_succ, List.setIfInBounds_toArray, List.set_cons_zero, List.set_cons_succ]
            refine wpSched_nil ?_
            go_upto_region 26 with fail
            refine wp_gen (KeepW w s pl pa pb sqn) ⟨_, _, _, _, _, _, _, _, HMN.out.1, HM3.out⟩ ?_
            clear HM3 HT HRS HMN HK zb hbp hbpN
            rintro W5 ⟨v0, v1, x0, x1, bg, L, A, B, law, mem⟩
            obtain ⟨er, her⟩ : ∃ er : Int, er = if seqOf L = 0 then 300 else 0 := ⟨_, rfl⟩
            have HRC := Lib.hid (K_recover mem law.l0 law.l1 (show rcvR x0 x1 = L ∧ rcvE x0 x1 = er by rw [her]; exact law.rcv))
            have HW := Lib.hid (And.intro law mem)
            obtain ⟨LL, hLL⟩ : ∃ LL, LL = recL L := ⟨_, rfl⟩
            have HEQ := Lib.hid (rec_self L law.okL.1 (rec_ints law.okL))
            rw [← hLL] at HRC HEQ
            have HLL := Lib.hid (And.intro hLL (show LL.length = 50 ∧ LL.toArray.all (·.oneCell') = true by rw [hLL]; exact ⟨recL_length law.okL.1, recL_one law.okL.1⟩))
            have HER := Lib.hid her
            clear law mem hLL her
            go_wp2_with fail
            refine HRC.out.mono ?_
            rintro e6 w6 ⟨rfl, x6, rfl⟩
            have hs := store_newR (up W5 x6) 50 LL HLL.out.2.1 HLL.out.2.2
            have hst := hs.1
            have hll := HLL.out.2.1
            have HS := Lib.hid hs.2
            clear hs
            go_upto_region 27 with fail
            refine wp_gen (fun W => KMem w s pl pa pb v0 v1 x0 x1 bg L A B W ∧ W.rangeAt (up W5 x6).heap.size 0 LL) ⟨HW.out.2.below ((up_below W5 x6).trans (HS.out.1.mono (up_size W5 x6))), HS.out.2.1⟩ ?_
            clear hst HS HRC hll
            generalize (up W5 x6).heap.size = r
            rintro W7 ⟨mem7, hr7⟩
            have H7 := Lib.hid (And.intro mem7 hr7)
            have H7L := Lib.hid (show W7.rangeAt pl 0 LL by rw [HLL.out.1]; exact mem7.rl)
            obtain ⟨ls, hls⟩ : ∃ n, n = seqOf L := ⟨_, rfl⟩
            have zl : W7.cell? ⟨pl, 0, none⟩ = some (.int .u32 ((ls : Nat) : Int)) := by
              have := mem7.rl 0 _ (recL_get HW.out.1.okL.1 0 (by omega))
              rw [hls]; exact this
            have heq := HEQ.out
            have HLS := Lib.hid hls
            haveI : LtSize pl W7 := ⟨by have := mem7.ord; omega⟩
            clear mem7 hr7 hls
            by_cases hl0 : ls = 0
            · have he : er = 300 := by rw [HER.out, ← HLS.out, if_pos hl0]
              subst he
              subst hl0
              go_wp2_with (first | (refine wpList_load_midG 50 (.tmp 16) (by with_reducible rfl) (by rfl) r 0 (by rfl) LL _ H7.out.2 Try.underlying50 (by rfl) (by rw [HLL.out.2.1]; kernel_rfl) ?_) | (refine wpList_load_midG 50 (.tmp 8) (by with_reducible rfl) (by rfl) pl 0 (by rfl) LL _ H7L.out Try.underlying50 (by rfl) (by rw [HLL.out.2.1]; kernel_rfl) ?_))
              exact ⟨⟨k + 1, sqn, _, _, _, _, _, _, _, _, by omega, rfl, (by first | rfl | go_num), HSQ.out, HW.out.1, H7.out.1⟩, by simp [intOf]; omega⟩
            · have he : er = 0 := by rw [HER.out, ← HLS.out, if_neg hl0]
              subst he
              have hlp : (0 : Int) < (ls : Int) := by omega
              have hlpN : 0 < ls := by omega
              go_wp2_with (first | (refine wpList_load_midG 50 (.tmp 16) (by with_reducible rfl) (by rfl) r 0 (by rfl) LL _ H7.out.2 Try.underlying50 (by rfl) (by rw [HLL.out.2.1]; kernel_rfl) ?_) | (refine wpList_load_midG 50 (.tmp 8) (by with_reducible rfl) (by rfl) pl 0 (by rfl) LL _ H7L.out Try.underlying50 (by rfl) (by rw [HLL.out.2.1]; kernel_rfl) ?_))
              exact ⟨⟨k + 1, sqn, _, _, _, _, _, _, _, _, by omega, rfl, (by first | rfl | go_num), HSQ.out, HW.out.1, H7.out.1⟩, by simp [intOf]; omega⟩
        · have hm4' : ¬ m < 4 := hm4
          go_upto_region 11 with (go_at_call 23; with_reducible refine Calls.tells (HAM.out) ?_)
          refine wp_gen (fun W => KMem w s pl pa pb v0 v1 x0 x1 bg L A B W) HM1.out ?_
          clear HM1 H1 HAM z0 hlq
          rintro W2 hm2
          have HF := Lib.hid (K_lose hm2)
          clear hm2
          go_wp2_with fail
          refine HF.out.mono ?_
          rintro e3 W3 ⟨⟨v3, rfl⟩, hm3⟩
          have hst := run_storeCells_mid W3 pb 0 Z (by rw [HZL.out]; exact hm3.tb) HZO.out
          have hk5 := hm3.setB (R := zeroR) rfl
          rw [← HZE.out] at hk5
          have hzl := HZL.out
          have HB := Lib.hid (And.intro HK.out.law.lose hk5)
          clear hm3 hk5 HF
          go_upto_region 26 with (refine wpList_bld0 rfl 50 rfl (.agg Z.toArray) HZB.out ?_)
          refine wp_gen (KeepW w s pl pa pb sqn) ⟨_, _, _, _, _, _, _, _, HB.out⟩ ?_
          clear HB hst hzl HK
          rintro W5 ⟨v0, v1, x0, x1, bg, L, A, B, law, mem⟩
          obtain ⟨er, her⟩ : ∃ er : Int, er = if seqOf L = 0 then 300 else 0 := ⟨_, rfl⟩
          have HRC := Lib.hid (K_recover mem law.l0 law.l1 (show rcvR x0 x1 = L ∧ rcvE x0 x1 = er by rw [her]; exact law.rcv))
          have HW := Lib.hid (And.intro law mem)
          obtain ⟨LL, hLL⟩ : ∃ LL, LL = recL L := ⟨_, rfl⟩
          have HEQ := Lib.hid (rec_self L law.okL.1 (rec_ints law.okL))
          rw [← hLL] at HRC HEQ
          have HLL := Lib.hid (And.intro hLL (show LL.length = 50 ∧ LL.toArray.all (·.oneCell') = true by rw [hLL]; exact ⟨recL_length law.okL.1, recL_one law.okL.1⟩))
          have HER := Lib.hid her
          clear law mem hLL her
          go_wp2_with fail
          refine HRC.out.mono ?_
          rintro e6 w6 ⟨rfl, x6, rfl⟩
          have hs := store_newR (up W5 x6) 50 LL HLL.out.2.1 HLL.out.2.2
          have hst := hs.1
          have hll := HLL.out.2.1
          have HS := Lib.hid hs.2
          clear hs
          go_upto_region 27 with fail
          refine wp_gen (fun W => KMem w s pl pa pb v0 v1 x0 x1 bg L A B W ∧ W.rangeAt (up W5 x6).heap.size 0 LL) ⟨HW.out.2.below ((up_below W5 x6).trans (HS.out.1.mono (up_size W5 x6))), HS.out.2.1⟩ ?_
          clear hst HS HRC hll
          generalize (up W5 x6).heap.size = r
          rintro W7 ⟨mem7, hr7⟩
          have H7 := Lib.hid (And.intro mem7 hr7)
          have H7L := Lib.hid (show W7.rangeAt pl 0 LL by rw [HLL.out.1]; exact mem7.rl)
          obtain ⟨ls, hls⟩ : ∃ n, n = seqOf L := ⟨_, rfl⟩
          have zl : W7.cell? ⟨pl, 0, none⟩ = some (.int .u32 ((ls : Nat) : Int)) := by
            have := mem7.rl 0 _ (recL_get HW.out.1.okL.1 0 (by omega))
            rw [hls]; exact this
          have heq := HEQ.out
          have HLS := Lib.hid hls
          haveI : LtSize pl W7 := ⟨by have := mem7.ord; omega⟩
          clear mem7 hr7 hls
          by_cases hl0 : ls = 0
          · have he : er = 300 := by rw [HER.out, ← HLS.out, if_pos hl0]
            subst he
            subst hl0
            go_wp2_with (first | (refine wpList_load_midG 50 (.tmp 16) (by with_reducible rfl) (by rfl) r 0 (by rfl) LL _ H7.out.2 Try.underlying50 (by rfl) (by rw [HLL.out.2.1]; kernel_rfl) ?_) | (refine wpList_load_midG 50 (.tmp 8) (by with_reducible rfl) (by rfl) pl 0 (by rfl) LL _ H7L.out Try.underlying50 (by rfl) (by rw [HLL.out.2.1]; kernel_rfl) ?_))
            exact ⟨⟨k + 1, sqn, _, _, _, _, _, _, _, _, by omega, rfl, (by first | rfl | go_num), HSQ.out, HW.out.1, H7.out.1⟩, by simp [intOf]; omega⟩
          · have he : er = 0 := by rw [HER.out, ← HLS.out, if_neg hl0]
            subst he
            have hlp : (0 : Int) < (ls : Int) := by omega
            have hlpN : 0 < ls := by omega
            go_wp2_with (first | (refine wpList_load_midG 50 (.tmp 16) (by with_reducible rfl) (by rfl) r 0 (by rfl) LL _ H7.out.2 Try.underlying50 (by rfl) (by rw [HLL.out.2.1]; kernel_rfl) ?_) | (refine wpList_load_midG 50 (.tmp 8) (by with_reducible rfl) (by rfl) pl 0 (by rfl) LL _ H7L.out Try.underlying50 (by rfl) (by rw [HLL.out.2.1]; kernel_rfl) ?_))
            exact ⟨⟨k + 1, sqn, _, _, _, _, _, _, _, _, by omega, rfl, (by first | rfl | go_num), HSQ.out, HW.out.1, H7.out.1⟩, by simp [intOf]; omega⟩
    · by_cases hkl : k < len
      · have hk4 : ¬ (k : Int) < 40 := by omega
        have hk5 : decide ((k : Int) < 40) = false := by simp; omega
        clear hend
        have HL := Lib.hid (show Keep x0 x1 bg L A B sq ∧ KMem w s pl pa pb v0 v1 x0 x1 bg L A B wr from ⟨HK.out.law, HK.out.mem⟩)
        obtain ⟨ls, hls⟩ : ∃ n, n = seqOf L := ⟨_, rfl⟩
        obtain ⟨la, has⟩ : ∃ n, n = seqOf A := ⟨_, rfl⟩
        have zl : wr.cell? ⟨pl, 0, none⟩ = some (.int .u32 ((ls : Nat) : Int)) := by
          have := HL.out.2.rl 0 _ (recL_get HL.out.1.okL.1 0 (by omega))
          rw [hls]; exact this
        have za : wr.cell? ⟨pa, 0, none⟩ = some (.int .u32 ((la : Nat) : Int)) := by
          have := HL.out.2.ra 0 _ (recL_get HL.out.1.okA.1 0 (by omega))
          rw [has]; exact this
        have HLS := Lib.hid (And.intro hls has)
        have hls40 : ls ≤ 40 := by have := HL.out.1.lq; have := HK.out.sqk; omega
        clear hls has HK
        haveI : LtSize pl wr := ⟨by have := HL.out.2.ord; omega⟩
        haveI : LtSize pa wr := ⟨by have := HL.out.2.ord; omega⟩
        by_cases hl0 : ls = 0
        · subst hl0
          go_wp2_with fail
          go_ret
          exact Gives.mk rfl HL.out.2.bel
        by_cases ha0 : la = 0
        · subst ha0
          go_wp2_with fail
          go_ret
          exact Gives.mk rfl HL.out.2.bel
        have hl1 : ((ls : Int) == 0) = false := by simp; omega
        have ha1 : ((la : Int) == 0) = false := by simp; omega
        have hl2 : ¬ (ls : Int) = 0 := by omega
        have ha2 : ¬ (la : Int) = 0 := by omega
        have hw24 : IntKind.u8.wrap ((ls : Int) / 16777216) = 0 := by
          have : (ls : Int) / 16777216 = 0 := by omega
          rw [this]; rfl
        have hw16 : IntKind.u8.wrap ((ls : Int) / 65536) = 0 := by
          have : (ls : Int) / 65536 = 0 := by omega
          rw [this]; rfl
        have hw8 : IntKind.u8.wrap ((ls : Int) / 256) = 0 := by
          have : (ls : Int) / 256 = 0 := by omega
          rw [this]; rfl
        have hw0 : IntKind.u8.wrap (ls : Int) = (ls : Int) := by simp [IntKind.wrap, IntKind.bits, IntKind.signed]; omega
        obtain ⟨bn, rfl⟩ := Int.eq_ofNat_of_zero_le hby.1
        have hbn : bn < 256 := by have := hby.2; omega
        have HBK := Lib.hid (Bank_made0 wr s v0 v1 bg x0 HL.out.2.sto HL.out.2.o0.bts (by have := HL.out.1.l0; omega))
        go_wp2_with fail
        refine HBK.out.mono ?_
        clear HBK
        rintro e2 w2 ⟨vb, rfl, hbt, hbl⟩
        have HTW := Lib.hid (HL.out.1.two (by rw [← HLS.out.1]; exact hl0) (by rw [← HLS.out.2]; exact ha0))
        have hl141 : x0.length = 141 := by
          rcases HTW.out with ⟨h, _⟩ | ⟨h, _⟩ <;> rw [h, List.length_cons]
          · rw [putB_small HL.out.1.okL.1]
          · rw [putB_small HL.out.1.okA.1]
        obtain ⟨g, off, cap2, rfl, hlc, hc63, hgb, hcell⟩ := hbt.some (by omega)
        rw [hl141] at hcell hlc ⊢
        have HM2 := Lib.hid (HL.out.2.below hbl)
        have zl2 : w2.cell? ⟨pl, 0, none⟩ = some (.int .u32 ((ls : Nat) : Int)) := by rw [hbl.cell (p := ⟨pl, 0, none⟩) (show pl < wr.heap.size by have := HL.out.2.ord; omega)]; exact zl
        have hlpN : 0 < ls := by omega
        haveI : LtSize g w2 := ⟨hgb⟩
        haveI : LtSize pl w2 := ⟨by have := HM2.out.ord; omega⟩
        have y1 := hcell 1 (by omega)
        have y2 := hcell 2 (by omega)
        have y3 := hcell 3 (by omega)
        have y4 := hcell 4 (by omega)
        clear hcell hlc hc63 hgb hbl hbt zl za hl141
        rcases HTW.out with ⟨hx0, hx1⟩ | ⟨hx0, hx1, hlt⟩
        · obtain ⟨b1, b2, b3, b4⟩ := full_at HL.out.1.okL (by rw [← HLS.out.1]; omega) 165
          rw [hx0] at y1 y2 y3 y4
          rw [b1] at y1; rw [b2] at y2; rw [b3] at y3; rw [b4, ← HLS.out.1] at y4
          have HX := Lib.hid (And.intro hx0 hx1)
          clear b1 b2 b3 b4 hx0 hx1
          go_upto_region 33 with fail
          refine wp_region_slim [] [(0, 3), (1, 3), (2, 3), (3, 3), (4, 3), (5, 3), (6, 0), (7, 3), (8, 0), (9, 3), (10, 3), (11, 3), (12, 3), (13, 3), (14, 3), (15, 3), (16, 0), (17, 3), (18, 0), (19, 3), (20, 3), (21, 3), (22, 3), (23, 3), (24, 3), (25, 3), (26, 0), (27, 3), (28, 0), (29, 3), (30, 3), (31, 3), (32, 3), (33, 3), (34, 3), (35, 3), (36, 0), (37, 3), (38, 0), (39, 3), (40, 3), (41, 3)] (fun X => X.cell? ⟨g, off + 1, none⟩ = some (.int .u8 0) ∧ X.cell? ⟨g, off + 2, none⟩ = some (.int .u8 0) ∧ X.cell? ⟨g, off + 3, none⟩ = some (.int .u8 0) ∧ X.cell? ⟨g, off + 4, none⟩ = some (.int .u8 ((ls : Nat) : Int)) ∧ X.cell? ⟨pl, 0, none⟩ = some (.int .u32 ((ls : Nat) : Int))) (by kernel_rfl) (by kernel_rfl) (fun d v c a w h => by cases d <;> exact h) ⟨y1, y2, y3, y4, zl2⟩ ?_
          simp only [List.map_cons, List.map_nil, slim]
          refine wpSched_pure ?sv1 rfl (by rfl) (fun W => ?sh1) ?sr1; (case sh1 => (go_simp; try (with_reducible rfl))); simp only [Act.put, List.getElem_toArray, List.getElem_cons_zero, List.getElem_cons_succ, List.setIfInBounds_toArray, List.set_cons_zero, List.set_cons_succ]
          refine wpSched_pure ?sv2 rfl (by rfl) (fun W => ?sh2) ?sr2; (case sh2 => (go_simp; try (with_reducible rfl))); simp only [Act.put, List.getElem_toArray, List.getElem_cons_zero, List.getElem_cons_succ, List.setIfInBounds_toArray, List.set_cons_zero, List.set_cons_succ]
          refine wpSched_pure ?sv3 rfl (by rfl) (fun W => ?sh3) ?sr3; (case sh3 => (go_simp; try (with_reducible rfl))); simp only [Act.put, List.getElem_toArray, List.getElem_cons_zero, List.getElem_cons_succ, List.setIfInBounds_toArray, List.set_cons_zero, List.set_cons_succ]
          refine wpSched_pure ?sv4 rfl (by rfl) (fun W => ?sh4) ?sr4; (case sh4 => (go_simp; try (with_reducible rfl))); simp only [Act.put, List.getElem_toArray, List.getElem_cons_zero, List.getElem_cons_succ, List.setIfInBounds_toArray, List.set_cons_zero, List.set_cons_succ]
          refine wpSched_pure ?sv5 rfl (by rfl) (fun W => ?sh5) ?sr5; (case sh5 => (go_simp; try (with_reducible rfl))); simp only [Act.put, List.getElem_toArray, List.getElem_cons_zero, List.getElem_cons_succ, List.setIfInBounds_toArray, List.set_cons_zero, List.set_cons_succ]
          refine wpSched_pure ?sv6 rfl (by rfl) (fun W => ?sh6) ?sr6; (case sh6 => (go_simp; try (with_reducible rfl))); simp only [Act.put, List.getElem_toArray, List.getElem_cons_zero, List.getElem_cons_succ, List.setIfInBounds_toArray, List.set_cons_zero, List.set_cons_succ]
          refine wpSched_still ?sv7 rfl (by rfl) (fun W hW => ?sh7) ?sr7; (case sh7 => (obtain ⟨q1, q2, q3, q4, q5⟩ := hW; go_simp; try (with_reducible rfl))); simp only [Act.put, List.getElem_toArray, List.getElem_cons_zero, List.getElem_cons_succ, List.setIfInBounds_toArray, List.set_cons_zero, List.set_cons_succ]
          refine wpSched_pure ?sv8 rfl (by rfl) (fun W => ?sh8) ?sr8; (case sh8 => (go_simp; try (with_reducible rfl))); simp only [Act.put, List.getElem_toArray, List.getElem_cons_zero, List.getElem_cons_succ, List.setIfInBounds_toArray, List.set_cons_zero, List.set_cons_succ]
          refine wpSched_still ?sv9 rfl (by rfl) (fun W hW => ?sh9) ?sr9; (case sh9 => (obtain ⟨q1, q2, q3, q4, q5⟩ := hW; go_simp; try (with_reducible rfl))); simp only [Act.put, List.getElem_toArray, List.getElem_cons_zero, List.getElem_cons_succ, List.setIfInBounds_toArray, List.set_cons_zero, List.set_cons_succ]
          refine wpSched_pure ?sv10 rfl (by rfl) (fun W => ?sh10) ?sr10; (case sh10 => (go_simp; try (with_reducible rfl))); simp only [Act.put, List.getElem_toArray, List.getElem_cons_zero, List.getElem_cons_succ, List.setIfInBounds_toArray, List.set_cons_zero, List.set_cons_succ]
          refine wpSched_pure ?sv11 rfl (by rfl) (fun W => ?sh11) ?sr11; (case sh11 => (go_simp; try (with_reducible rfl))); simp only [Act.put, List.getElem_toArray, List.getElem_cons_zero, List.getElem_cons_succ, List.setIfInBounds_toArray, List.set_cons_zero, List.set_cons_succ]
          refine wpSched_pure ?sv12 rfl (by rfl) (fun W => ?sh12) ?sr12; (case sh12 => (go_simp; try (with_reducible rfl))); simp only [Act.put, List.getElem_toArray, List.getElem_cons_zero, List.getElem_cons_succ, List.setIfInBounds_toArray, List.set_cons_zero, List.set_cons_succ]
          refine wpSched_pure ?sv13 rfl (by rfl) (fun W => ?sh13) ?sr13; (case sh13 => (go_simp; try (with_reducible rfl))); simp only [Act.put, List.getElem_toArray, List.getElem_cons_zero, List.getElem_cons_succ, List.setIfInBounds_toArray, List.set_cons_zero, List.set_cons_succ]
          refine wpSched_pure ?sv14 rfl (by rfl) (fun W => ?sh14) ?sr14; (case sh14 => (go_simp; try (with_reducible rfl))); simp only [Act.put, List.getElem_toArray, List.getElem_cons_zero, List.getElem_cons_succ, List.setIfInBounds_toArray, List.set_cons_zero, List.set_cons_succ]
          refine wpSched_pure ?sv15 rfl (by rfl) (fun W => ?sh15) ?sr15; (case sh15 => (go_simp; try (with_reducible rfl))); simp only [Act.put, List.getElem_toArray, List.getElem_cons_zero, List.getElem_cons_succ, List.setIfInBounds_toArray, List.set_cons_zero, List.set_cons_succ]
          refine wpSched_pure ?sv16 rfl (by rfl) (fun W => ?sh16) ?sr16; (case sh16 => (go_simp; try (with_reducible rfl))); simp only [Act.put, List.getElem_toArray, List.getElem_cons_zero, List.getElem_cons_succ, List.setIfInBounds_toArray, List.set_cons_zero, List.set_cons_succ]
          refine wpSched_still ?sv17 rfl (by rfl) (fun W hW => ?sh17) ?sr17; (case sh17 => (obtain ⟨q1, q2, q3, q4, q5⟩ := hW; go_simp; try (with_reducible rfl))); simp only [Act.put, List.getElem_toArray, List.getElem_cons_zero, List.getElem_cons_succ, List.setIfInBounds_toArray, List.set_cons_zero, List.set_cons_succ]
          refine wpSched_pure ?sv18 rfl (by rfl) (fun W => ?sh18) ?sr18; (case sh18 => (go_simp; try (with_reducible rfl))); simp only [Act.put, List.getElem_toArray, List.getElem_cons_zero, List.getElem_cons_succ, List.setIfInBounds_toArray, List.set_cons_zero, List.set_cons_succ]
          refine wpSched_still ?sv19 rfl (by rfl) (fun W hW => ?sh19) ?sr19; (case sh19 => (obtain ⟨q1, q2, q3, q4, q5⟩ := hW; go_simp; try (with_reducible rfl))); simp only [Act.put, List.getElem_toArray, List.getElem_cons_zero, List.getElem_cons_succ, List.setIfInBounds_toArray, List.set_cons_zero, List.set_cons_succ]
          refine wpSched_pure ?sv20 rfl (by rfl) (fun W => ?sh20) ?sr20; (case sh20 => (go_simp; try (with_reducible rfl))); simp only [Act.put, List.getElem_toArray, List.getElem_cons_zero, List.getElem_cons_succ, List.setIfInBounds_toArray, List.set_cons_zero, List.set_cons_succ]
          refine wpSched_pure ?sv21 rfl (by rfl) (fun W => ?sh21) ?sr21; (case sh21 => (go_simp; try (with_reducible rfl))); simp only [Act.put, List.getElem_toArray, List.getElem_cons_zero, List.getElem_cons_succ, List.setIfInBounds_toArray, List.set_cons_zero, List.set_cons_succ]
          refine wpSched_pure ?sv22 rfl (by rfl) (fun W => ?sh22) ?sr22; (case sh22 => (go_simp; try (with_reducible rfl))); simp only [Act.put, List.getElem_toArray, List.getElem_cons_zero, List.getElem_cons_succ, List.setIfInBounds_toArray, List.set_cons_zero, List.set_cons_succ]
          refine wpSched_pure ?sv23 rfl (by rfl) (fun W => ?sh23) ?sr23; (case sh23 => (go_simp; try (with_reducible rfl))); simp only [Act.put, List.getElem_toArray, List.getElem_cons_zero, List.getElem_cons_succ, List.setIfInBounds_toArray, List.set_cons_zero, List.set_cons_succ]
          refine wpSched_pure ?sv24 rfl (by rfl) (fun W => ?sh24) ?sr24; (case sh24 => (go_simp; try (with_reducible rfl))); simp only [Act.put, List.getElem_toArray, List.getElem_cons_zero, List.getElem_cons_succ, List.setIfInBounds_toArray, List.set_cons_zero, List.set_cons_succ]
          refine wpSched_pure ?sv25 rfl (by rfl) (fun W => ?sh25) ?sr25; (case sh25 => (go_simp; try (with_reducible rfl))); simp only [Act.put, List.getElem_toArray, List.getElem_cons_zero, List.getElem_cons_succ, List.setIfInBounds_toArray, List.set_cons_zero, List.set_cons_succ]
          refine wpSched_pure ?sv26 rfl (by rfl) (fun W => ?sh26) ?sr26; (case sh26 => (go_simp; try (with_reducible rfl))); simp only [Act.put, List.getElem_toArray, List.getElem_cons_zero, List.getElem_cons_succ, List.setIfInBounds_toArray, List.set_cons_zero, List.set_cons_succ]
          refine wpSched_still ?sv27 rfl (by rfl) (fun W hW => ?sh27) ?sr27; (case sh27 => (obtain ⟨q1, q2, q3, q4, q5⟩ := hW; go_simp; try (with_reducible rfl))); simp only [Act.put, List.getElem_toArray, List.getElem_cons_zero, List.getElem_cons_succ, List.setIfInBounds_toArray, List.set_cons_zero, List.set_cons_succ]
          refine wpSched_pure ?sv28 rfl (by rfl) (fun W => ?sh28) ?sr28; (case sh28 => (go_simp; try (with_reducible rfl))); simp only [Act.put, List.getElem_toArray, List.getElem_cons_zero, List.getElem_cons_succ, List.setIfInBounds_toArray, List.set_cons_zero, List.set_cons_succ]
          refine wpSched_still ?sv29 rfl (by rfl) (fun W hW => ?sh29) ?sr29; (case sh29 => (obtain ⟨q1, q2, q3, q4, q5⟩ := hW; go_simp; try (with_reducible rfl))); simp only [Act.put, List.getElem_toArray, List.getElem_cons_zero, List.getElem_cons_succ, List.setIfInBounds_toArray, List.set_cons_zero, List.set_cons_succ]
          refine wpSched_pure ?sv30 rfl (by rfl) (fun W => ?sh30) ?sr30; (case sh30 => (go_simp; try (with_reducible rfl))); simp only [Act.put, List.getElem_toArray, List.getElem_cons_zero, List.getElem_cons_succ, List.setIfInBounds_toArray, List.set_cons_zero, List.set_cons_succ]
          refine wpSched_pure ?sv31 rfl (by rfl) (fun W => ?sh31) ?sr31; (case sh31 => (go_simp; try (with_reducible rfl))); simp only [Act.put, List.getElem_toArray, List.getElem_cons_zero, List.getElem_cons_succ, List.setIfInBounds_toArray, List.set_cons_zero, List.set_cons_succ]
          refine wpSched_pure ?sv32 rfl (by rfl) (fun W => ?sh32) ?sr32; (case sh32 => (go_simp; try (with_reducible rfl))); simp only [Act.put, List.getElem_toArray, List.getElem_cons_zero, List.getElem_cons_succ, List.setIfInBounds_toArray, List.set_cons_zero, List.set_cons_succ]
          refine wpSched_pure ?sv33 rfl (by rfl) (fun W => ?sh33) ?sr33; (case sh33 => (go_simp; try (with_reducible rfl))); simp only [Act.put, List.getElem_toArray, List.getElem_cons_zero, List.getElem_cons_succ, List.setIfInBounds_toArray, List.set_cons_zero, List.set_cons_succ]
          refine wpSched_pure ?sv34 rfl (by rfl) (fun W => ?sh34) ?sr34; (case sh34 => (go_simp; try (with_reducible rfl))); simp only [Act.put, List.getElem_toArray, List.getElem_cons_zero, List.getElem_cons_succ, List.setIfInBounds_toArray, List.set_cons_zero, List.set_cons_succ]
          refine wpSched_pure ?sv35 rfl (by rfl) (fun W => ?sh35) ?sr35; (case sh35 => (go_simp; try (with_reducible rfl))); simp only [Act.put, List.getElem_toArray, List.getElem_cons_zero, List.getElem_cons_succ, List.setIfInBounds_toArray, List.set_cons_zero, List.set_cons_succ]
          refine wpSched_pure ?sv36 rfl (by rfl) (fun W => ?sh36) ?sr36; (case sh36 => (go_simp; try (with_reducible rfl))); simp only [Act.put, List.getElem_toArray, List.getElem_cons_zero, List.getElem_cons_succ, List.setIfInBounds_toArray, List.set_cons_zero, List.set_cons_succ]
          refine wpSched_still ?sv37 rfl (by rfl) (fun W hW => ?sh37) ?sr37; (case sh37 => (obtain ⟨q1, q2, q3, q4, q5⟩ := hW; go_simp; try (with_reducible rfl))); simp only [Act.put, List.getElem_toArray, List.getElem_cons_zero, List.getElem_cons_succ, List.setIfInBounds_toArray, List.set_cons_zero, List.set_cons_succ]
          refine wpSched_pure ?sv38 rfl (by rfl) (fun W => ?sh38) ?sr38; (case sh38 => (go_simp; try (with_reducible rfl))); simp only [Act.put, List.getElem_toArray, List.getElem_cons_zero, List.getElem_cons_succ, List.setIfInBounds_toArray, List.set_cons_zero, List.set_cons_succ]
          refine wpSched_still ?sv39 rfl (by rfl) (fun W hW => ?sh39) ?sr39; (case sh39 => (obtain ⟨q1, q2, q3, q4, q5⟩ := hW; go_simp; try (with_reducible rfl))); simp only [Act.put, List.getElem_toArray, List.getElem_cons_zero, List.getElem_cons_succ, List.setIfInBounds_toArray, List.set_cons_zero, List.set_cons_succ]
          refine wpSched_pure ?sv40 rfl (by rfl) (fun W => ?sh40) ?sr40; (case sh40 => (go_simp; try (with_reducible rfl))); simp only [Act.put, List.getElem_toArray, List.getElem_cons_zero, List.getElem_cons_succ, List.setIfInBounds_toArray, List.set_cons_zero, List.set_cons_succ]
          refine wpSched_pure ?sv41 rfl (by rfl) (fun W => ?sh41) ?sr41; (case sh41 => (go_simp; try (with_reducible rfl))); simp only [Act.put, List.getElem_toArray, List.getElem_cons_zero, List.getElem_cons_succ, List.setIfInBounds_toArray, List.set_cons_zero, List.set_cons_succ]
          refine wpSched_pure ?sv42 rfl (by rfl) (fun W => ?sh42) ?sr42; (case sh42 => (go_simp; try (with_reducible rfl))); simp only [Act.put, List.getElem_toArray, List.getElem_cons_zero, List.getElem_cons_succ, List.setIfInBounds_toArray, List.set_cons_zero, List.set_cons_succ]
          refine wpSched_nil ?_
          by_cases hb0 : bn = 0
          · subst hb0
            obtain ⟨bb, hbb⟩ : ∃ b : Nat, b = 1 := ⟨_, rfl⟩
            have HSP := Lib.hid (K_spoil0 HM2.out.drew (b := 1) (by omega) 0 (by rw [HX.out.1, List.length_cons]; omega) 0 1 rfl rfl)
            rw [← hbb] at HSP
            have HBB := Lib.hid (show bb < 256 ∧ bb ≠ 0 by omega)
            go_wp2_with fail
            clear hbb
            refine HSP.out.mono ?_
            rintro e3 W3 ⟨rfl, hm3⟩
            have hbb := HBB.out
            have hrcv : rcvR (x0.set 0 (x0.getD 0 0 ^^^ bb)) x1 = A ∧ rcvE (x0.set 0 (x0.getD 0 0 ^^^ bb)) x1 = 0 := by
              rw [HX.out.1, HX.out.2]
              exact rcv_spoilt0 (L := L) HL.out.1.okA (by rw [← HLS.out.2]; exact ha0) hbb.1 hbb.2
            have HRC := Lib.hid (K_recover hm3 (by rw [List.length_set]; exact HL.out.1.l0) HL.out.1.l1 hrcv)
            have HM3 := Lib.hid hm3
            obtain ⟨AL, hAL⟩ : ∃ AL, AL = recL A := ⟨_, rfl⟩
            have HEQ := Lib.hid (rec_self A HL.out.1.okA.1 (rec_ints HL.out.1.okA))
            rw [← hAL] at HRC HEQ
            have HAL := Lib.hid (And.intro hAL (show AL.length = 50 ∧ AL.toArray.all (·.oneCell') = true by rw [hAL]; exact ⟨recL_length HL.out.1.okA.1, recL_one HL.out.1.okA.1⟩))
            clear hm3 hrcv hAL hbb zl2
            go_wp2_with fail
            refine HRC.out.mono ?_
            rintro e6 w6 ⟨rfl, x6, rfl⟩
            have hs := store_newR (up W3 x6) 50 AL HAL.out.2.1 HAL.out.2.2
            have hst := hs.1
            have hll := HAL.out.2.1
            have HS := Lib.hid hs.2
            clear hs
            go_upto_region 40 with fail
            refine wp_gen (fun W => Below w.heap.size w W ∧ W.rangeAt (up W3 x6).heap.size 0 AL ∧ W.rangeAt pa 0 AL) ?_ ?_
            · have h := HM3.out.below ((up_below W3 x6).trans (HS.out.1.mono (up_size W3 x6)))
              exact ⟨h.bel, HS.out.2.1, HAL.out.1 ▸ h.ra⟩
            clear hst HS HRC hll
            generalize (up W3 x6).heap.size = r
            rintro W7 ⟨hb7, hr7, ha7⟩
            have H7 := Lib.hid (And.intro hb7 hr7)
            have H7A := Lib.hid ha7
            have heq := HEQ.out
            clear hb7 hr7 ha7
            go_wp2_with (first | (refine wpList_load_midG 50 (.tmp 21) (by with_reducible rfl) (by rfl) r 0 (by rfl) AL _ H7.out.2 Try.underlying50 (by rfl) (by rw [HAL.out.2.1]; kernel_rfl) ?_) | (refine wpList_load_midG 50 (.tmp 9) (by with_reducible rfl) (by rfl) pa 0 (by rfl) AL _ H7A.out Try.underlying50 (by rfl) (by rw [HAL.out.2.1]; kernel_rfl) ?_))
            go_ret
            exact Gives.mk rfl H7.out.1
          · have hbi : ¬ (bn : Int) = 0 := by omega
            obtain ⟨bb, hbb⟩ : ∃ b : Nat, b = bn := ⟨_, rfl⟩
            subst hbb
            have HSP := Lib.hid (K_spoil0 HM2.out.drew (b := bb) hbn 0 (by rw [HX.out.1, List.length_cons]; omega) 0 _ rfl rfl)
            have HBB := Lib.hid (show bb < 256 ∧ bb ≠ 0 from ⟨hbn, hb0⟩)
            go_wp2_with fail
            refine HSP.out.mono ?_
            rintro e3 W3 ⟨rfl, hm3⟩
            have hbb := HBB.out
            have hrcv : rcvR (x0.set 0 (x0.getD 0 0 ^^^ bb)) x1 = A ∧ rcvE (x0.set 0 (x0.getD 0 0 ^^^ bb)) x1 = 0 := by
              rw [HX.out.1, HX.out.2]
              exact rcv_spoilt0 (L := L) HL.out.1.okA (by rw [← HLS.out.2]; exact ha0) hbb.1 hbb.2
            have HRC := Lib.hid (K_recover hm3 (by rw [List.length_set]; exact HL.out.1.l0) HL.out.1.l1 hrcv)
            have HM3 := Lib.hid hm3
            obtain ⟨AL, hAL⟩ : ∃ AL, AL = recL A := ⟨_, rfl⟩
            have HEQ := Lib.hid (rec_self A HL.out.1.okA.1 (rec_ints HL.out.1.okA))
            rw [← hAL] at HRC HEQ
            have HAL := Lib.hid (And.intro hAL (show AL.length = 50 ∧ AL.toArray.all (·.oneCell') = true by rw [hAL]; exact ⟨recL_length HL.out.1.okA.1, recL_one HL.out.1.okA.1⟩))
            clear hm3 hrcv hAL hbb zl2
            go_wp2_with fail
            refine HRC.out.mono ?_
            rintro e6 w6 ⟨rfl, x6, rfl⟩
            have hs := store_newR (up W3 x6) 50 AL HAL.out.2.1 HAL.out.2.2
            have hst := hs.1
            have hll := HAL.out.2.1
            have HS := Lib.hid hs.2
            clear hs
            go_upto_region 40 with fail
            refine wp_gen (fun W => Below w.heap.size w W ∧ W.rangeAt (up W3 x6).heap.size 0 AL ∧ W.rangeAt pa 0 AL) ?_ ?_
            · have h := HM3.out.below ((up_below W3 x6).trans (HS.out.1.mono (up_size W3 x6)))
              exact ⟨h.bel, HS.out.2.1, HAL.out.1 ▸ h.ra⟩
            clear hst HS HRC hll
            generalize (up W3 x6).heap.size = r
            rintro W7 ⟨hb7, hr7, ha7⟩
            have H7 := Lib.hid (And.intro hb7 hr7)
            have H7A := Lib.hid ha7
            have heq := HEQ.out
            clear hb7 hr7 ha7
            go_wp2_with (first | (refine wpList_load_midG 50 (.tmp 21) (by with_reducible rfl) (by rfl) r 0 (by rfl) AL _ H7.out.2 Try.underlying50 (by rfl) (by rw [HAL.out.2.1]; kernel_rfl) ?_) | (refine wpList_load_midG 50 (.tmp 9) (by with_reducible rfl) (by rfl) pa 0 (by rfl) AL _ H7A.out Try.underlying50 (by rfl) (by rw [HAL.out.2.1]; kernel_rfl) ?_))
            go_ret
            exact Gives.mk rfl H7.out.1
        · obtain ⟨b1, b2, b3, b4⟩ := full_at HL.out.1.okA (by rw [← HLS.out.1] at hlt; omega) 165
          rw [hx0] at y1 y2 y3 y4
          rw [b1] at y1; rw [b2] at y2; rw [b3] at y3; rw [b4, ← HLS.out.2] at y4
          have HX := Lib.hid (And.intro hx0 hx1)
          rw [← HLS.out.1, ← HLS.out.2] at hlt
          have hne : ((la : Int) != (ls : Int)) = true := by simp; omega
          clear b1 b2 b3 b4 hx0 hx1
          go_upto_region 33 with fail
          refine wp_region_slim [] [(0, 3), (1, 3), (2, 3), (3, 3), (4, 3), (5, 3), (6, 0), (7, 3), (8, 0), (9, 3), (10, 3), (11, 3), (12, 3), (13, 3), (14, 3), (15, 3), (16, 0), (17, 3), (18, 0), (19, 3), (20, 3), (21, 3), (22, 3), (23, 3), (24, 3), (25, 3), (26, 0), (27, 3), (28, 0), (29, 3), (30, 3), (31, 3), (32, 3), (33, 3), (34, 3), (35, 3), (36, 0), (37, 3), (38, 0), (39, 3), (40, 3), (41, 3)] (fun X => X.cell? ⟨g, off + 1, none⟩ = some (.int .u8 0) ∧ X.cell? ⟨g, off + 2, none⟩ = some (.int .u8 0) ∧ X.cell? ⟨g, off + 3, none⟩ = some (.int .u8 0) ∧ X.cell? ⟨g, off + 4, none⟩ = some (.int .u8 ((la : Nat) : Int)) ∧ X.cell? ⟨pl, 0, none⟩ = some (.int .u32 ((ls : Nat) : Int))) (by kernel_rfl) (by kernel_rfl) (fun d v c a w h => by cases d <;> exact h) ⟨y1, y2, y3, y4, zl2⟩ ?_
          simp only [List.map_cons, List.map_nil, slim]
          refine wpSched_pure ?sv43 rfl (by rfl) (fun W => ?sh43) ?sr43; (case sh43 => (go_simp; try (with_reducible rfl))); simp only [Act.put, List.getElem_toArray, List.getElem_cons_zero, List.getElem_cons_succ, List.setIfInBounds_toArray, List.set_cons_zero, List.set_cons_succ]
          refine wpSched_pure ?sv44 rfl (by rfl) (fun W => ?sh44) ?sr44; (case sh44 => (go_simp; try (with_reducible rfl))); simp only [Act.put, List.getElem_toArray, List.getElem_cons_zero, List.getElem_cons_succ, List.setIfInBounds_toArray, List.set_cons_zero, List.set_cons_succ]
          refine wpSched_pure ?sv45 rfl (by rfl) (fun W => ?sh45) ?sr45; (case sh45 => (go_simp; try (with_reducible rfl))); simp only [Act.put, List.getElem_toArray, List.getElem_cons_zero, List.getElem_cons_succ, List.setIfInBounds_toArray, List.set_cons_zero, List.set_cons_succ]
          refine wpSched_pure ?sv46 rfl (by rfl) (fun W => ?sh46) ?sr46; (case sh46 => (go_simp; try (with_reducible rfl))); simp only [Act.put, List.getElem_toArray, List.getElem_cons_zero, List.getElem_cons_succ, List.setIfInBounds_toArray, List.set_cons_zero, List.set_cons_succ]
          refine wpSched_pure ?sv47 rfl (by rfl) (fun W => ?sh47) ?sr47; (case sh47 => (go_simp; try (with_reducible rfl))); simp only [Act.put, List.getElem_toArray, List.getElem_cons_zero, List.getElem_cons_succ, List.setIfInBounds_toArray, List.set_cons_zero, List.set_cons_succ]
          refine wpSched_pure ?sv48 rfl (by rfl) (fun W => ?sh48) ?sr48; (case sh48 => (go_simp; try (with_reducible rfl))); simp only [Act.put, List.getElem_toArray, List.getElem_cons_zero, List.getElem_cons_succ, List.setIfInBounds_toArray, List.set_cons_zero, List.set_cons_succ]
          refine wpSched_still ?sv49 rfl (by rfl) (fun W hW => ?sh49) ?sr49; (case sh49 => (obtain ⟨q1, q2, q3, q4, q5⟩ := hW; go_simp; try (with_reducible rfl))); simp only [Act.put, List.getElem_toArray, List.getElem_cons_zero, List.getElem_cons_succ, List.setIfInBounds_toArray, List.set_cons_zero, List.set_cons_succ]
          refine wpSched_pure ?sv50 rfl (by rfl) (fun W => ?sh50) ?sr50; (case sh50 => (go_simp; try (with_reducible rfl))); simp only [Act.put, List.getElem_toArray, List.getElem_cons_zero, List.getElem_cons_succ, List.setIfInBounds_toArray, List.set_cons_zero, List.set_cons_succ]
          refine wpSched_still ?sv51 rfl (by rfl) (fun W hW => ?sh51) ?sr51; (case sh51 => (obtain ⟨q1, q2, q3, q4, q5⟩ := hW; go_simp; try (with_reducible rfl))); simp only [Act.put, List.getElem_toArray, List.getElem_cons_zero, List.getElem_cons_succ, List.setIfInBounds_toArray, List.set_cons_zero, List.set_cons_succ]
          refine wpSched_pure ?sv52 rfl (by rfl) (fun W => ?sh52) ?sr52; (case sh52 => (go_simp; try (with_reducible rfl))); simp only [Act.put, List.getElem_toArray, List.getElem_cons_zero, List.getElem_cons_succ, List.setIfInBounds_toArray, List.set_cons_zero, List.set_cons_succ]
          refine wpSched_pure ?sv53 rfl (by rfl) (fun W => ?sh53) ?sr53; (case sh53 => (go_simp; try (with_reducible rfl))); simp only [Act.put, List.getElem_toArray, List.getElem_cons_zero, List.getElem_cons_succ, List.setIfInBounds_toArray, List.set_cons_zero, List.set_cons_succ]
          refine wpSched_pure ?sv54 rfl (by rfl) (fun W => ?sh54) ?sr54; (case sh54 => (go_simp; try (with_reducible rfl))); simp only [Act.put, List.getElem_toArray, List.getElem_cons_zero, List.getElem_cons_succ, List.setIfInBounds_toArray, List.set_cons_zero, List.set_cons_succ]
          refine wpSched_pure ?sv55 rfl (by rfl) (fun W => ?sh55) ?sr55; (case sh55 => (go_simp; try (with_reducible rfl))); simp only [Act.put, List.getElem_toArray, List.getElem_cons_zero, List.getElem_cons_succ, List.setIfInBounds_toArray, List.set_cons_zero, List.set_cons_succ]
          refine wpSched_pure ?sv56 rfl (by rfl) (fun W => ?sh56) ?sr56; (case sh56 => (go_simp; try (with_reducible rfl))); simp only [Act.put, List.getElem_toArray, List.getElem_cons_zero, List.getElem_cons_succ, List.setIfInBounds_toArray, List.set_cons_zero, List.set_cons_succ]
          refine wpSched_pure ?sv57 rfl (by rfl) (fun W => ?sh57) ?sr57; (case sh57 => (go_simp; try (with_reducible rfl))); simp only [Act.put, List.getElem_toArray, List.getElem_cons_zero, List.getElem_cons_succ, List.setIfInBounds_toArray, List.set_cons_zero, List.set_cons_succ]
          refine wpSched_pure ?sv58 rfl (by rfl) (fun W => ?sh58) ?sr58; (case sh58 => (go_simp; try (with_reducible rfl))); simp only [Act.put, List.getElem_toArray, List.getElem_cons_zero, List.getElem_cons_succ, List.setIfInBounds_toArray, List.set_cons_zero, List.set_cons_succ]
          refine wpSched_still ?sv59 rfl (by rfl) (fun W hW => ?sh59) ?sr59; (case sh59 => (obtain ⟨q1, q2, q3, q4, q5⟩ := hW; go_simp; try (with_reducible rfl))); simp only [Act.put, List.getElem_toArray, List.getElem_cons_zero, List.getElem_cons_succ, List.setIfInBounds_toArray, List.set_cons_zero, List.set_cons_succ]
          refine wpSched_pure ?sv60 rfl (by rfl) (fun W => ?sh60) ?sr60; (case sh60 => (go_simp; try (with_reducible rfl))); simp only [Act.put, List.getElem_toArray, List.getElem_cons_zero, List.getElem_cons_succ, List.setIfInBounds_toArray, List.set_cons_zero, List.set_cons_succ]
          refine wpSched_still ?sv61 rfl (by rfl) (fun W hW => ?sh61) ?sr61; (case sh61 => (obtain ⟨q1, q2, q3, q4, q5⟩ := hW; go_simp; try (with_reducible rfl))); simp only [Act.put, List.getElem_toArray, List.getElem_cons_zero, List.getElem_cons_succ, List.setIfInBounds_toArray, List.set_cons_zero, List.set_cons_succ]
          refine wpSched_pure ?sv62 rfl (by rfl) (fun W => ?sh62) ?sr62; (case sh62 => (go_simp; try (with_reducible rfl))); simp only [Act.put, List.getElem_toArray, List.getElem_cons_zero, List.getElem_cons_succ, List.setIfInBounds_toArray, List.set_cons_zero, List.set_cons_succ]
          refine wpSched_pure ?sv63 rfl (by rfl) (fun W => ?sh63) ?sr63; (case sh63 => (go_simp; try (with_reducible rfl))); simp only [Act.put, List.getElem_toArray, List.getElem_cons_zero, List.getElem_cons_succ, List.setIfInBounds_toArray, List.set_cons_zero, List.set_cons_succ]
          refine wpSched_pure ?sv64 rfl (by rfl) (fun W => ?sh64) ?sr64; (case sh64 => (go_simp; try (with_reducible rfl))); simp only [Act.put, List.getElem_toArray, List.getElem_cons_zero, List.getElem_cons_succ, List.setIfInBounds_toArray, List.set_cons_zero, List.set_cons_succ]
          refine wpSched_pure ?sv65 rfl (by rfl) (fun W => ?sh65) ?sr65; (case sh65 => (go_simp; try (with_reducible rfl))); simp only [Act.put, List.getElem_toArray, List.getElem_cons_zero, List.getElem_cons_succ, List.setIfInBounds_toArray, List.set_cons_zero, List.set_cons_succ]
          refine wpSched_pure ?sv66 rfl (by rfl) (fun W => ?sh66) ?sr66; (case sh66 => (go_simp; try (with_reducible rfl))); simp only [Act.put, List.getElem_toArray, List.getElem_cons_zero, List.getElem_cons_succ, List.setIfInBounds_toArray, List.set_cons_zero, List.set_cons_succ]
          refine wpSched_pure ?sv67 rfl (by rfl) (fun W => ?sh67) ?sr67; (case sh67 => (go_simp; try (with_reducible rfl))); simp only [Act.put, List.getElem_toArray, List.getElem_cons_zero, List.getElem_cons_succ, List.setIfInBounds_toArray, List.set_cons_zero, List.set_cons_succ]
          refine wpSched_pure ?sv68 rfl (by rfl) (fun W => ?sh68) ?sr68; (case sh68 => (go_simp; try (with_reducible rfl))); simp only [Act.put, List.getElem_toArray, List.getElem_cons_zero, List.getElem_cons_succ, List.setIfInBounds_toArray, List.set_cons_zero, List.set_cons_succ]
          refine wpSched_still ?sv69 rfl (by rfl) (fun W hW => ?sh69) ?sr69; (case sh69 => (obtain ⟨q1, q2, q3, q4, q5⟩ := hW; go_simp; try (with_reducible rfl))); simp only [Act.put, List.getElem_toArray, List.getElem_cons_zero, List.getElem_cons_succ, List.setIfInBounds_toArray, List.set_cons_zero, List.set_cons_succ]
          refine wpSched_pure ?sv70 rfl (by rfl) (fun W => ?sh70) ?sr70; (case sh70 => (go_simp; try (with_reducible rfl))); simp only [Act.put, List.getElem_toArray, List.getElem_cons_zero, List.getElem_cons_succ, List.setIfInBounds_toArray, List.set_cons_zero, List.set_cons_succ]
          refine wpSched_still ?sv71 rfl (by rfl) (fun W hW => ?sh71) ?sr71; (case sh71 => (obtain ⟨q1, q2, q3, q4, q5⟩ := hW; go_simp; try (with_reducible rfl))); simp only [Act.put, List.getElem_toArray, List.getElem_cons_zero, List.getElem_cons_succ, List.setIfInBounds_toArray, List.set_cons_zero, List.set_cons_succ]
          refine wpSched_pure ?sv72 rfl (by rfl) (fun W => ?sh72) ?sr72; (case sh72 => (go_simp; try (with_reducible rfl))); simp only [Act.put, List.getElem_toArray, List.getElem_cons_zero, List.getElem_cons_succ, List.setIfInBounds_toArray, List.set_cons_zero, List.set_cons_succ]
          refine wpSched_pure ?sv73 rfl (by rfl) (fun W => ?sh73) ?sr73; (case sh73 => (go_simp; try (with_reducible rfl))); simp only [Act.put, List.getElem_toArray, List.getElem_cons_zero, List.getElem_cons_succ, List.setIfInBounds_toArray, List.set_cons_zero, List.set_cons_succ]
          refine wpSched_pure ?sv74 rfl (by rfl) (fun W => ?sh74) ?sr74; (case sh74 => (go_simp; try (with_reducible rfl))); simp only [Act.put, List.getElem_toArray, List.getElem_cons_zero, List.getElem_cons_succ, List.setIfInBounds_toArray, List.set_cons_zero, List.set_cons_succ]
          refine wpSched_pure ?sv75 rfl (by rfl) (fun W => ?sh75) ?sr75; (case sh75 => (go_simp; try (with_reducible rfl))); simp only [Act.put, List.getElem_toArray, List.getElem_cons_zero, List.getElem_cons_succ, List.setIfInBounds_toArray, List.set_cons_zero, List.set_cons_succ]
          refine wpSched_pure ?sv76 rfl (by rfl) (fun W => ?sh76) ?sr76; (case sh76 => (go_simp; try (with_reducible rfl))); simp only [Act.put, List.getElem_toArray, List.getElem_cons_zero, List.getElem_cons_succ, List.setIfInBounds_toArray, List.set_cons_zero, List.set_cons_succ]
          refine wpSched_pure ?sv77 rfl (by rfl) (fun W => ?sh77) ?sr77; (case sh77 => (go_simp; try (with_reducible rfl))); simp only [Act.put, List.getElem_toArray, List.getElem_cons_zero, List.getElem_cons_succ, List.setIfInBounds_toArray, List.set_cons_zero, List.set_cons_succ]
          refine wpSched_pure ?sv78 rfl (by rfl) (fun W => ?sh78) ?sr78; (case sh78 => (go_simp; try (with_reducible rfl))); simp only [Act.put, List.getElem_toArray, List.getElem_cons_zero, List.getElem_cons_succ, List.setIfInBounds_toArray, List.set_cons_zero, List.set_cons_succ]
          refine wpSched_still ?sv79 rfl (by rfl) (fun W hW => ?sh79) ?sr79; (case sh79 => (obtain ⟨q1, q2, q3, q4, q5⟩ := hW; go_simp; try (with_reducible rfl))); simp only [Act.put, List.getElem_toArray, List.getElem_cons_zero, List.getElem_cons_succ, List.setIfInBounds_toArray, List.set_cons_zero, List.set_cons_succ]
          refine wpSched_pure ?sv80 rfl (by rfl) (fun W => ?sh80) ?sr80; (case sh80 => (go_simp; try (with_reducible rfl))); simp only [Act.put, List.getElem_toArray, List.getElem_cons_zero, List.getElem_cons_succ, List.setIfInBounds_toArray, List.set_cons_zero, List.set_cons_succ]
          refine wpSched_still ?sv81 rfl (by rfl) (fun W hW => ?sh81) ?sr81; (case sh81 => (obtain ⟨q1, q2, q3, q4, q5⟩ := hW; go_simp; try (with_reducible rfl))); simp only [Act.put, List.getElem_toArray, List.getElem_cons_zero, List.getElem_cons_succ, List.setIfInBounds_toArray, List.set_cons_zero, List.set_cons_succ]
          refine wpSched_pure ?sv82 rfl (by rfl) (fun W => ?sh82) ?sr82; (case sh82 => (go_simp; try (with_reducible rfl))); simp only [Act.put, List.getElem_toArray, List.getElem_cons_zero, List.getElem_cons_succ, List.setIfInBounds_toArray, List.set_cons_zero, List.set_cons_succ]
          refine wpSched_pure ?sv83 rfl (by rfl) (fun W => ?sh83) ?sr83; (case sh83 => (go_simp; try (with_reducible rfl))); simp only [Act.put, List.getElem_toArray, List.getElem_cons_zero, List.getElem_cons_succ, List.setIfInBounds_toArray, List.set_cons_zero, List.set_cons_succ]
          refine wpSched_pure ?sv84 rfl (by rfl) (fun W => ?sh84) ?sr84; (case sh84 => (go_simp; try (with_reducible rfl))); simp only [Act.put, List.getElem_toArray, List.getElem_cons_zero, List.getElem_cons_succ, List.setIfInBounds_toArray, List.set_cons_zero, List.set_cons_succ]
          refine wpSched_nil ?_
          by_cases hb0 : bn = 0
          · subst hb0
            obtain ⟨bb, hbb⟩ : ∃ b : Nat, b = 1 := ⟨_, rfl⟩
            have HSP := Lib.hid (K_spoil1 HM2.out.drew (b := 1) (by omega) 0 (by rw [HX.out.2, List.length_cons]; omega) 0 1 rfl rfl)
            rw [← hbb] at HSP
            have HBB := Lib.hid (show bb < 256 ∧ bb ≠ 0 by omega)
            go_wp2_with fail
            clear hbb
            refine HSP.out.mono ?_
            rintro e3 W3 ⟨rfl, hm3⟩
            have hbb := HBB.out
            have hrcv : rcvR x0 (x1.set 0 (x1.getD 0 0 ^^^ bb)) = A ∧ rcvE x0 (x1.set 0 (x1.getD 0 0 ^^^ bb)) = 0 := by
              rw [HX.out.1, HX.out.2]
              exact rcv_spoilt1 (L := L) HL.out.1.okA (by rw [← HLS.out.2]; exact ha0) hbb.1 hbb.2
            have HRC := Lib.hid (K_recover hm3 HL.out.1.l0 (by rw [List.length_set]; exact HL.out.1.l1) hrcv)
            have HM3 := Lib.hid hm3
            obtain ⟨AL, hAL⟩ : ∃ AL, AL = recL A := ⟨_, rfl⟩
            have HEQ := Lib.hid (rec_self A HL.out.1.okA.1 (rec_ints HL.out.1.okA))
            rw [← hAL] at HRC HEQ
            have HAL := Lib.hid (And.intro hAL (show AL.length = 50 ∧ AL.toArray.all (·.oneCell') = true by rw [hAL]; exact ⟨recL_length HL.out.1.okA.1, recL_one HL.out.1.okA.1⟩))
            clear hm3 hrcv hAL hbb zl2
            go_wp2_with fail
            refine HRC.out.mono ?_
            rintro e6 w6 ⟨rfl, x6, rfl⟩
            have hs := store_newR (up W3 x6) 50 AL HAL.out.2.1 HAL.out.2.2
            have hst := hs.1
            have hll := HAL.out.2.1
            have HS := Lib.hid hs.2
            clear hs
            go_upto_region 40 with fail
            refine wp_gen (fun W => Below w.heap.size w W ∧ W.rangeAt (up W3 x6).heap.size 0 AL ∧ W.rangeAt pa 0 AL) ?_ ?_
            · have h := HM3.out.below ((up_below W3 x6).trans (HS.out.1.mono (up_size W3 x6)))
              exact ⟨h.bel, HS.out.2.1, HAL.out.1 ▸ h.ra⟩
            clear hst HS HRC hll
            generalize (up W3 x6).heap.size = r
            rintro W7 ⟨hb7, hr7, ha7⟩
            have H7 := Lib.hid (And.intro hb7 hr7)
            have H7A := Lib.hid ha7
            have heq := HEQ.out
            clear hb7 hr7 ha7
            go_wp2_with (first | (refine wpList_load_midG 50 (.tmp 21) (by with_reducible rfl) (by rfl) r 0 (by rfl) AL _ H7.out.2 Try.underlying50 (by rfl) (by rw [HAL.out.2.1]; kernel_rfl) ?_) | (refine wpList_load_midG 50 (.tmp 9) (by with_reducible rfl) (by rfl) pa 0 (by rfl) AL _ H7A.out Try.underlying50 (by rfl) (by rw [HAL.out.2.1]; kernel_rfl) ?_))
            go_ret
            exact Gives.mk rfl H7.out.1
          · have hbi : ¬ (bn : Int) = 0 := by omega
            obtain ⟨bb, hbb⟩ : ∃ b : Nat, b = bn := ⟨_, rfl⟩
            subst hbb
            have HSP := Lib.hid (K_spoil1 HM2.out.drew (b := bb) hbn 0 (by rw [HX.out.2, List.length_cons]; omega) 0 _ rfl rfl)
            have HBB := Lib.hid (show bb < 256 ∧ bb ≠ 0 from ⟨hbn, hb0⟩)
            go_wp2_with fail
            refine HSP.out.mono ?_
            rintro e3 W3 ⟨rfl, hm3⟩
            have hbb := HBB.out
            have hrcv : rcvR x0 (x1.set 0 (x1.getD 0 0 ^^^ bb)) = A ∧ rcvE x0 (x1.set 0 (x1.getD 0 0 ^^^ bb)) = 0 := by
              rw [HX.out.1, HX.out.2]
              exact rcv_spoilt1 (L := L) HL.out.1.okA (by rw [← HLS.out.2]; exact ha0) hbb.1 hbb.2
            have HRC := Lib.hid (K_recover hm3 HL.out.1.l0 (by rw [List.length_set]; exact HL.out.1.l1) hrcv)
            have HM3 := Lib.hid hm3
            obtain ⟨AL, hAL⟩ : ∃ AL, AL = recL A := ⟨_, rfl⟩
            have HEQ := Lib.hid (rec_self A HL.out.1.okA.1 (rec_ints HL.out.1.okA))
            rw [← hAL] at HRC HEQ
            have HAL := Lib.hid (And.intro hAL (show AL.length = 50 ∧ AL.toArray.all (·.oneCell') = true by rw [hAL]; exact ⟨recL_length HL.out.1.okA.1, recL_one HL.out.1.okA.1⟩))
            clear hm3 hrcv hAL hbb zl2
            go_wp2_with fail
            refine HRC.out.mono ?_
            rintro e6 w6 ⟨rfl, x6, rfl⟩
            have hs := store_newR (up W3 x6) 50 AL HAL.out.2.1 HAL.out.2.2
            have hst := hs.1
            have hll := HAL.out.2.1
            have HS := Lib.hid hs.2
            clear hs
            go_upto_region 40 with fail
            refine wp_gen (fun W => Below w.heap.size w W ∧ W.rangeAt (up W3 x6).heap.size 0 AL ∧ W.rangeAt pa 0 AL) ?_ ?_
            · have h := HM3.out.below ((up_below W3 x6).trans (HS.out.1.mono (up_size W3 x6)))
              exact ⟨h.bel, HS.out.2.1, HAL.out.1 ▸ h.ra⟩
            clear hst HS HRC hll
            generalize (up W3 x6).heap.size = r
            rintro W7 ⟨hb7, hr7, ha7⟩
            have H7 := Lib.hid (And.intro hb7 hr7)
            have H7A := Lib.hid ha7
            have heq := HEQ.out
            clear hb7 hr7 ha7
            go_wp2_with (first | (refine wpList_load_midG 50 (.tmp 21) (by with_reducible rfl) (by rfl) r 0 (by rfl) AL _ H7.out.2 Try.underlying50 (by rfl) (by rw [HAL.out.2.1]; kernel_rfl) ?_) | (refine wpList_load_midG 50 (.tmp 9) (by with_reducible rfl) (by rfl) pa 0 (by rfl) AL _ H7A.out Try.underlying50 (by rfl) (by rw [HAL.out.2.1]; kernel_rfl) ?_))
            go_ret
            exact Gives.mk rfl H7.out.1
      · have hk4 : ¬ (k : Int) < (len : Int) := by omega
        clear hend
        have HL := Lib.hid (show Keep x0 x1 bg L A B sq ∧ KMem w s pl pa pb v0 v1 x0 x1 bg L A B wr from ⟨HK.out.law, HK.out.mem⟩)
        obtain ⟨ls, hls⟩ : ∃ n, n = seqOf L := ⟨_, rfl⟩
        obtain ⟨la, has⟩ : ∃ n, n = seqOf A := ⟨_, rfl⟩
        have zl : wr.cell? ⟨pl, 0, none⟩ = some (.int .u32 ((ls : Nat) : Int)) := by
          have := HL.out.2.rl 0 _ (recL_get HL.out.1.okL.1 0 (by omega))
          rw [hls]; exact this
        have za : wr.cell? ⟨pa, 0, none⟩ = some (.int .u32 ((la : Nat) : Int)) := by
          have := HL.out.2.ra 0 _ (recL_get HL.out.1.okA.1 0 (by omega))
          rw [has]; exact this
        have HLS := Lib.hid (And.intro hls has)
        have hls40 : ls ≤ 40 := by have := HL.out.1.lq; have := HK.out.sqk; omega
        clear hls has HK
        haveI : LtSize pl wr := ⟨by have := HL.out.2.ord; omega⟩
        haveI : LtSize pa wr := ⟨by have := HL.out.2.ord; omega⟩
        by_cases hl0 : ls = 0
        · subst hl0
          go_wp2_with fail
          go_ret
          exact Gives.mk rfl HL.out.2.bel
        by_cases ha0 : la = 0
        · subst ha0
          go_wp2_with fail
          go_ret
          exact Gives.mk rfl HL.out.2.bel
        have hl1 : ((ls : Int) == 0) = false := by simp; omega
        have ha1 : ((la : Int) == 0) = false := by simp; omega
        have hl2 : ¬ (ls : Int) = 0 := by omega
        have ha2 : ¬ (la : Int) = 0 := by omega
        have hw24 : IntKind.u8.wrap ((ls : Int) / 16777216) = 0 := by
          have : (ls : Int) / 16777216 = 0 := by omega
          rw [this]; rfl
        have hw16 : IntKind.u8.wrap ((ls : Int) / 65536) = 0 := by
          have : (ls : Int) / 65536 = 0 := by omega
          rw [this]; rfl
        have hw8 : IntKind.u8.wrap ((ls : Int) / 256) = 0 := by
          have : (ls : Int) / 256 = 0 := by omega
          rw [this]; rfl
        have hw0 : IntKind.u8.wrap (ls : Int) = (ls : Int) := by simp [IntKind.wrap, IntKind.bits, IntKind.signed]; omega
        obtain ⟨bn, rfl⟩ := Int.eq_ofNat_of_zero_le hby.1
        have hbn : bn < 256 := by have := hby.2; omega
        have HBK := Lib.hid (Bank_made0 wr s v0 v1 bg x0 HL.out.2.sto HL.out.2.o0.bts (by have := HL.out.1.l0; omega))
        go_wp2_with fail
        refine HBK.out.mono ?_
        clear HBK
        rintro e2 w2 ⟨vb, rfl, hbt, hbl⟩
        have HTW := Lib.hid (HL.out.1.two (by rw [← HLS.out.1]; exact hl0) (by rw [← HLS.out.2]; exact ha0))
        have hl141 : x0.length = 141 := by
          rcases HTW.out with ⟨h, _⟩ | ⟨h, _⟩ <;> rw [h, List.length_cons]
          · rw [putB_small HL.out.1.okL.1]
          · rw [putB_small HL.out.1.okA.1]
        obtain ⟨g, off, cap2, rfl, hlc, hc63, hgb, hcell⟩ := hbt.some (by omega)
        rw [hl141] at hcell hlc ⊢
        have HM2 := Lib.hid (HL.out.2.below hbl)
        have zl2 : w2.cell? ⟨pl, 0, none⟩ = some (.int .u32 ((ls : Nat) : Int)) := by rw [hbl.cell (p := ⟨pl, 0, none⟩) (show pl < wr.heap.size by have := HL.out.2.ord; omega)]; exact zl
        have hlpN : 0 < ls := by omega
        haveI : LtSize g w2 := ⟨hgb⟩
        haveI : LtSize pl w2 := ⟨by have := HM2.out.ord; omega⟩
        have y1 := hcell 1 (by omega)
        have y2 := hcell 2 (by omega)
        have y3 := hcell 3 (by omega)
        have y4 := hcell 4 (by omega)
        clear hcell hlc hc63 hgb hbl hbt zl za hl141
        rcases HTW.out with ⟨hx0, hx1⟩ | ⟨hx0, hx1, hlt⟩
        · obtain ⟨b1, b2, b3, b4⟩ := full_at HL.out.1.okL (by rw [← HLS.out.1]; omega) 165
          rw [hx0] at y1 y2 y3 y4
          rw [b1] at y1; rw [b2] at y2; rw [b3] at y3; rw [b4, ← HLS.out.1] at y4
          have HX := Lib.hid (And.intro hx0 hx1)
          clear b1 b2 b3 b4 hx0 hx1
          go_upto_region 33 with fail
          refine wp_region_slim [] [(0, 3), (1, 3), (2, 3), (3, 3), (4, 3), (5, 3), (6, 0), (7, 3), (8, 0), (9, 3), (10, 3), (11, 3), (12, 3), (13, 3), (14, 3), (15, 3), (16, 0), (17, 3), (18, 0), (19, 3), (20, 3), (21, 3), (22, 3), (23, 3), (24, 3), (25, 3), (26, 0), (27, 3), (28, 0), (29, 3), (30, 3), (31, 3), (32, 3), (33, 3), (34, 3), (35, 3), (36, 0), (37, 3), (38, 0), (39, 3), (40, 3), (41, 3)] (fun X => X.cell? ⟨g, off + 1, none⟩ = some (.int .u8 0) ∧ X.cell? ⟨g, off + 2, none⟩ = some (.int .u8 0) ∧ X.cell? ⟨g, off + 3, none⟩ = some (.int .u8 0) ∧ X.cell? ⟨g, off + 4, none⟩ = some (.int .u8 ((ls : Nat) : Int)) ∧ X.cell? ⟨pl, 0, none⟩ = some (.int .u32 ((ls : Nat) : Int))) (by kernel_rfl) (by kernel_rfl) (fun d v c a w h => by cases d <;> exact h) ⟨y1, y2, y3, y4, zl2⟩ ?_
          simp only [List.map_cons, List.map_nil, slim]
          refine wpSched_pure ?sv85 rfl (by rfl) (fun W => ?sh85) ?sr85; (case sh85 => (go_simp; try (with_reducible rfl))); simp only [Act.put, List.getElem_toArray, List.getElem_cons_zero, List.getElem_cons_succ, List.setIfInBounds_toArray, List.set_cons_zero, List.set_cons_succ]
          refine wpSched_pure ?sv86 rfl (by rfl) (fun W => ?sh86) ?sr86; (case sh86 => (go_simp; try (with_reducible rfl))); simp only [Act.put, List.getElem_toArray, List.getElem_cons_zero, List.getElem_cons_succ, List.setIfInBounds_toArray, List.set_cons_zero, List.set_cons_succ]
          refine wpSched_pure ?sv87 rfl (by rfl) (fun W => ?sh87) ?sr87; (case sh87 => (go_simp; try (with_reducible rfl))); simp only [Act.put, List.getElem_toArray, List.getElem_cons_zero, List.getElem_cons_succ, List.setIfInBounds_toArray, List.set_cons_zero, List.set_cons_succ]
          refine wpSched_pure ?sv88 rfl (by rfl) (fun W => ?sh88) ?sr88; (case sh88 => (go_simp; try (with_reducible rfl))); simp only [Act.put, List.getElem_toArray, List.getElem_cons_zero, List.getElem_cons_succ, List.setIfInBounds_toArray, List.set_cons_zero, List.set_cons_succ]
          refine wpSched_pure ?sv89 rfl (by rfl) (fun W => ?sh89) ?sr89; (case sh89 => (go_simp; try (with_reducible rfl))); simp only [Act.put, List.getElem_toArray, List.getElem_cons_zero, List.getElem_cons_succ, List.setIfInBounds_toArray, List.set_cons_zero, List.set_cons_succ]
          refine wpSched_pure ?sv90 rfl (by rfl) (fun W => ?sh90) ?sr90; (case sh90 => (go_simp; try (with_reducible rfl))); simp only [Act.put, List.getElem_toArray, List.getElem_cons_zero, List.getElem_cons_succ, List.setIfInBounds_toArray, List.set_cons_zero, List.set_cons_succ]
          refine wpSched_still ?sv91 rfl (by rfl) (fun W hW => ?sh91) ?sr91; (case sh91 => (obtain ⟨q1, q2, q3, q4, q5⟩ := hW; go_simp; try (with_reducible rfl))); simp only [Act.put, List.getElem_toArray, List.getElem_cons_zero, List.getElem_cons_succ, List.setIfInBounds_toArray, List.set_cons_zero, List.set_cons_succ]
          refine wpSched_pure ?sv92 rfl (by rfl) (fun W => ?sh92) ?sr92; (case sh92 => (go_simp; try (with_reducible rfl))); simp only [Act.put, List.getElem_toArray, List.getElem_cons_zero, List.getElem_cons_succ, List.setIfInBounds_toArray, List.set_cons_zero, List.set_cons_succ]
          refine wpSched_still ?sv93 rfl (by rfl) (fun W hW => ?sh93) ?sr93; (case sh93 => (obtain ⟨q1, q2, q3, q4, q5⟩ := hW; go_simp; try (with_reducible rfl))); simp only [Act.put, List.getElem_toArray, List.getElem_cons_zero, List.getElem_cons_succ, List.setIfInBounds_toArray, List.set_cons_zero, List.set_cons_succ]
          refine wpSched_pure ?sv94 rfl (by rfl) (fun W => ?sh94) ?sr94; (case sh94 => (go_simp; try (with_reducible rfl))); simp only [Act.put, List.getElem_toArray, List.getElem_cons_zero, List.getElem_cons_succ, List.setIfInBounds_toArray, List.set_cons_zero, List.set_cons_succ]
          refine wpSched_pure ?sv95 rfl (by rfl) (fun W => ?sh95) ?sr95; (case sh95 => (go_simp; try (with_reducible rfl))); simp only [Act.put, List.getElem_toArray, List.getElem_cons_zero, List.getElem_cons_succ, List.setIfInBounds_toArray, List.set_cons_zero, List.set_cons_succ]
          refine wpSched_pure ?sv96 rfl (by rfl) (fun W => ?sh96) ?sr96; (case sh96 => (go_simp; try (with_reducible rfl))); simp only [Act.put, List.getElem_toArray, List.getElem_cons_zero, List.getElem_cons_succ, List.setIfInBounds_toArray, List.set_cons_zero, List.set_cons_succ]
          refine wpSched_pure ?sv97 rfl (by rfl) (fun W => ?sh97) ?sr97; (case sh97 => (go_simp; try (with_reducible rfl))); simp only [Act.put, List.getElem_toArray, List.getElem_cons_zero, List.getElem_cons_succ, List.setIfInBounds_toArray, List.set_cons_zero, List.set_cons_succ]
          refine wpSched_pure ?sv98 rfl (by rfl) (fun W => ?sh98) ?sr98; (case sh98 => (go_simp; try (with_reducible rfl))); simp only [Act.put, List.getElem_toArray, List.getElem_cons_zero, List.getElem_cons_succ, List.setIfInBounds_toArray, List.set_cons_zero, List.set_cons_succ]
          refine wpSched_pure ?sv99 rfl (by rfl) (fun W => ?sh99) ?sr99; (case sh99 => (go_simp; try (with_reducible rfl))); simp only [Act.put, List.getElem_toArray, List.getElem_cons_zero, List.getElem_cons_succ, List.setIfInBounds_toArray, List.set_cons_zero, List.set_cons_succ]
          refine wpSched_pure ?sv100 rfl (by rfl) (fun W => ?sh100) ?sr100; (case sh100 => (go_simp; try (with_reducible rfl))); simp only [Act.put, List.getElem_toArray, List.getElem_cons_zero, List.getElem_cons_succ, List.setIfInBounds_toArray, List.set_cons_zero, List.set_cons_succ]
          refine wpSched_still ?sv101 rfl (by rfl) (fun W hW => ?sh101) ?sr101; (case sh101 => (obtain ⟨q1, q2, q3, q4, q5⟩ := hW; go_simp; try (with_reducible rfl))); simp only [Act.put, List.getElem_toArray, List.getElem_cons_zero, List.getElem_cons_succ, List.setIfInBounds_toArray, List.set_cons_zero, List.set_cons_succ]
          refine wpSched_pure ?sv102 rfl (by rfl) (fun W => ?sh102) ?sr102; (case sh102 => (go_simp; try (with_reducible rfl))); simp only [Act.put, List.getElem_toArray, List.getElem_cons_zero, List.getElem_cons_succ, List.setIfInBounds_toArray, List.set_cons_zero, List.set_cons_succ]
          refine wpSched_still ?sv103 rfl (by rfl) (fun W hW => ?sh103) ?sr103; (case sh103 => (obtain ⟨q1, q2, q3, q4, q5⟩ := hW; go_simp; try (with_reducible rfl))); simp only [Act.put, List.getElem_toArray, List.getElem_cons_zero, List.getElem_cons_succ, List.setIfInBounds_toArray, List.set_cons_zero, List.set_cons_succ]
          refine wpSched_pure ?sv104 rfl (by rfl) (fun W => ?sh104) ?sr104; (case sh104 => (go_simp; try (with_reducible rfl))); simp only [Act.put, List.getElem_toArray, List.getElem_cons_zero, List.getElem_cons_succ, List.setIfInBounds_toArray, List.set_cons_zero, List.set_cons_succ]
          refine wpSched_pure ?sv105 rfl (by rfl) (fun W => ?sh105) ?sr105; (case sh105 => (go_simp; try (with_reducible rfl))); simp only [Act.put, List.getElem_toArray, List.getElem_cons_zero, List.getElem_cons_succ, List.setIfInBounds_toArray, List.set_cons_zero, List.set_cons_succ]
          refine wpSched_pure ?sv106 rfl (by rfl) (fun W => ?sh106) ?sr106; (case sh106 => (go_simp; try (with_reducible rfl))); simp only [Act.put, List.getElem_toArray, List.getElem_cons_zero, List.getElem_cons_succ, List.setIfInBounds_toArray, List.set_cons_zero, List.set_cons_succ]
          refine wpSched_pure ?sv107 rfl (by rfl) (fun W => ?sh107) ?sr107; (case sh107 => (go_simp; try (with_reducible rfl))); simp only [Act.put, List.getElem_toArray, List.getElem_cons_zero, List.getElem_cons_succ, List.setIfInBounds_toArray, List.set_cons_zero, List.set_cons_succ]
          refine wpSched_pure ?sv108 rfl (by rfl) (fun W => ?sh108) ?sr108; (case sh108 => (go_simp; try (with_reducible rfl))); simp only [Act.put, List.getElem_toArray, List.getElem_cons_zero, List.getElem_cons_succ, List.setIfInBounds_toArray, List.set_cons_zero, List.set_cons_succ]
          refine wpSched_pure ?sv109 rfl (by rfl) (fun W => ?sh109) ?sr109; (case sh109 => (go_simp; try (with_reducible rfl))); simp only [Act.put, List.getElem_toArray, List.getElem_cons_zero, List.getElem_cons_succ, List.setIfInBounds_toArray, List.set_cons_zero, List.set_cons_succ]
          refine wpSched_pure ?sv110 rfl (by rfl) (fun W => ?sh110) ?sr110; (case sh110 => (go_simp; try (with_reducible rfl))); simp only [Act.put, List.getElem_toArray, List.getElem_cons_zero, List.getElem_cons_succ, List.setIfInBounds_toArray, List.set_cons_zero, List.set_cons_succ]
          refine wpSched_still ?sv111 rfl (by rfl) (fun W hW => ?sh111) ?sr111; (case sh111 => (obtain ⟨q1, q2, q3, q4, q5⟩ := hW; go_simp; try (with_reducible rfl))); simp only [Act.put, List.getElem_toArray, List.getElem_cons_zero, List.getElem_cons_succ, List.setIfInBounds_toArray, List.set_cons_zero, List.set_cons_succ]
          refine wpSched_pure ?sv112 rfl (by rfl) (fun W => ?sh112) ?sr112; (case sh112 => (go_simp; try (with_reducible rfl))); simp only [Act.put, List.getElem_toArray, List.getElem_cons_zero, List.getElem_cons_succ, List.setIfInBounds_toArray, List.set_cons_zero, List.set_cons_succ]
          refine wpSched_still ?sv113 rfl (by rfl) (fun W hW => ?sh113) ?sr113; (case sh113 => (obtain ⟨q1, q2, q3, q4, q5⟩ := hW; go_simp; try (with_reducible rfl))); simp only [Act.put, List.getElem_toArray, List.getElem_cons_zero, List.getElem_cons_succ, List.setIfInBounds_toArray, List.set_cons_zero, List.set_cons_succ]
          refine wpSched_pure ?sv114 rfl (by rfl) (fun W => ?sh114) ?sr114; (case sh114 => (go_simp; try (with_reducible rfl))); simp only [Act.put, List.getElem_toArray, List.getElem_cons_zero, List.getElem_cons_succ, List.setIfInBounds_toArray, List.set_cons_zero, List.set_cons_succ]
          refine wpSched_pure ?sv115 rfl (by rfl) (fun W => ?sh115) ?sr115; (case sh115 => (go_simp; try (with_reducible rfl))); simp only [Act.put, List.getElem_toArray, List.getElem_cons_zero, List.getElem_cons_succ, List.setIfInBounds_toArray, List.set_cons_zero, List.set_cons_succ]
          refine wpSched_pure ?sv116 rfl (by rfl) (fun W => ?sh116) ?sr116; (case sh116 => (go_simp; try (with_reducible rfl))); simp only [Act.put, List.getElem_toArray, List.getElem_cons_zero, List.getElem_cons_succ, List.setIfInBounds_toArray, List.set_cons_zero, List.set_cons_succ]
          refine wpSched_pure ?sv117 rfl (by rfl) (fun W => ?sh117) ?sr117; (case sh117 => (go_simp; try (with_reducible rfl))); simp only [Act.put, List.getElem_toArray, List.getElem_cons_zero, List.getElem_cons_succ, List.setIfInBounds_toArray, List.set_cons_zero, List.set_cons_succ]
          refine wpSched_pure ?sv118 rfl (by rfl) (fun W => ?sh118) ?sr118; (case sh118 => (go_simp; try (with_reducible rfl))); simp only [Act.put, List.getElem_toArray, List.getElem_cons_zero, List.getElem_cons_succ, List.setIfInBounds_toArray, List.set_cons_zero, List.set_cons_succ]
          refine wpSched_pure ?sv119 rfl (by rfl) (fun W => ?sh119) ?sr119; (case sh119 => (go_simp; try (with_reducible rfl))); simp only [Act.put, List.getElem_toArray, List.getElem_cons_zero, List.getElem_cons_succ, List.setIfInBounds_toArray, List.set_cons_zero, List.set_cons_succ]
          refine wpSched_pure ?sv120 rfl (by rfl) (fun W => ?sh120) ?sr120; (case sh120 => (go_simp; try (with_reducible rfl))); simp only [Act.put, List.getElem_toArray, List.getElem_cons_zero, List.getElem_cons_succ, List.setIfInBounds_toArray, List.set_cons_zero, List.set_cons_succ]
          refine wpSched_still ?sv121 rfl (by rfl) (fun W hW => ?sh121) ?sr121; (case sh121 => (obtain ⟨q1, q2, q3, q4, q5⟩ := hW; go_simp; try (with_reducible rfl))); simp only [Act.put, List.getElem_toArray, List.getElem_cons_zero, List.getElem_cons_succ, List.setIfInBounds_toArray, List.set_cons_zero, List.set_cons_succ]
          refine wpSched_pure ?sv122 rfl (by rfl) (fun W => ?sh122) ?sr122; (case sh122 => (go_simp; try (with_reducible rfl))); simp only [Act.put, List.getElem_toArray, List.getElem_cons_zero, List.getElem_cons_succ, List.setIfInBounds_toArray, List.set_cons_zero, List.set_cons_succ]
          refine wpSched_still ?sv123 rfl (by rfl) (fun W hW => ?sh123) ?sr123; (case sh123 => (obtain ⟨q1, q2, q3, q4, q5⟩ := hW; go_simp; try (with_reducible rfl))); simp only [Act.put, List.getElem_toArray, List.getElem_cons_zero, List.getElem_cons_succ, List.setIfInBounds_toArray, List.set_cons_zero, List.set_cons_succ]
          refine wpSched_pure ?sv124 rfl (by rfl) (fun W => ?sh124) ?sr124; (case sh124 => (go_simp; try (with_reducible rfl))); simp only [Act.put, List.getElem_toArray, List.getElem_cons_zero, List.getElem_cons_succ, List.setIfInBounds_toArray, List.set_cons_zero, List.set_cons_succ]
          refine wpSched_pure ?sv125 rfl (by rfl) (fun W => ?sh125) ?sr125; (case sh125 => (go_simp; try (with_reducible rfl))); simp only [Act.put, List.getElem_toArray, List.getElem_cons_zero, List.getElem_cons_succ, List.setIfInBounds_toArray, List.set_cons_zero, List.set_cons_succ]
          refine wpSched_pure ?sv126 rfl (by rfl) (fun W => ?sh126) ?sr126; (case sh126 => (go_simp; try (with_reducible rfl))); simp only [Act.put, List.getElem_toArray, List.getElem_cons_zero, List.getElem_cons_succ, List.setIfInBounds_toArray, List.set_cons_zero, List.set_cons_succ]
          refine wpSched_nil ?_
          by_cases hb0 : bn = 0
          · subst hb0
            obtain ⟨bb, hbb⟩ : ∃ b : Nat, b = 1 := ⟨_, rfl⟩
            have HSP := Lib.hid (K_spoil0 HM2.out.drew (b := 1) (by omega) 0 (by rw [HX.out.1, List.length_cons]; omega) 0 1 rfl rfl)
            rw [← hbb] at HSP
            have HBB := Lib.hid (show bb < 256 ∧ bb ≠ 0 by omega)
            go_wp2_with fail
            clear hbb
            refine HSP.out.mono ?_
            rintro e3 W3 ⟨rfl, hm3⟩
            have hbb := HBB.out
            have hrcv : rcvR (x0.set 0 (x0.getD 0 0 ^^^ bb)) x1 = A ∧ rcvE (x0.set 0 (x0.getD 0 0 ^^^ bb)) x1 = 0 := by
              rw [HX.out.1, HX.out.2]
              exact rcv_spoilt0 (L := L) HL.out.1.okA (by rw [← HLS.out.2]; exact ha0) hbb.1 hbb.2
            have HRC := Lib.hid (K_recover hm3 (by rw [List.length_set]; exact HL.out.1.l0) HL.out.1.l1 hrcv)
            have HM3 := Lib.hid hm3
            obtain ⟨AL, hAL⟩ : ∃ AL, AL = recL A := ⟨_, rfl⟩
            have HEQ := Lib.hid (rec_self A HL.out.1.okA.1 (rec_ints HL.out.1.okA))
            rw [← hAL] at HRC HEQ
            have HAL := Lib.hid (And.intro hAL (show AL.length = 50 ∧ AL.toArray.all (·.oneCell') = true by rw [hAL]; exact ⟨recL_length HL.out.1.okA.1, recL_one HL.out.1.okA.1⟩))
            clear hm3 hrcv hAL hbb zl2
            go_wp2_with fail
            refine HRC.out.mono ?_
            rintro e6 w6 ⟨rfl, x6, rfl⟩
            have hs := store_newR (up W3 x6) 50 AL HAL.out.2.1 HAL.out.2.2
            have hst := hs.1
            have hll := HAL.out.2.1
            have HS := Lib.hid hs.2
            clear hs
            go_upto_region 40 with fail
            refine wp_gen (fun W => Below w.heap.size w W ∧ W.rangeAt (up W3 x6).heap.size 0 AL ∧ W.rangeAt pa 0 AL) ?_ ?_
            · have h := HM3.out.below ((up_below W3 x6).trans (HS.out.1.mono (up_size W3 x6)))
              exact ⟨h.bel, HS.out.2.1, HAL.out.1 ▸ h.ra⟩
            clear hst HS HRC hll
            generalize (up W3 x6).heap.size = r
            rintro W7 ⟨hb7, hr7, ha7⟩
            have H7 := Lib.hid (And.intro hb7 hr7)
            have H7A := Lib.hid ha7
            have heq := HEQ.out
            clear hb7 hr7 ha7
            go_wp2_with (first | (refine wpList_load_midG 50 (.tmp 21) (by with_reducible rfl) (by rfl) r 0 (by rfl) AL _ H7.out.2 Try.underlying50 (by rfl) (by rw [HAL.out.2.1]; kernel_rfl) ?_) | (refine wpList_load_midG 50 (.tmp 9) (by with_reducible rfl) (by rfl) pa 0 (by rfl) AL _ H7A.out Try.underlying50 (by rfl) (by rw [HAL.out.2.1]; kernel_rfl) ?_))
            go_ret
            exact Gives.mk rfl H7.out.1
          · have hbi : ¬ (bn : Int) = 0 := by omega
            obtain ⟨bb, hbb⟩ : ∃ b : Nat, b = bn := ⟨_, rfl⟩
            subst hbb
            have HSP := Lib.hid (K_spoil0 HM2.out.drew (b := bb) hbn 0 (by rw [HX.out.1, List.length_cons]; omega) 0 _ rfl rfl)
            have HBB := Lib.hid (show bb < 256 ∧ bb ≠ 0 from ⟨hbn, hb0⟩)
            go_wp2_with fail
            refine HSP.out.mono ?_
            rintro e3 W3 ⟨rfl, hm3⟩
            have hbb := HBB.out
            have hrcv : rcvR (x0.set 0 (x0.getD 0 0 ^^^ bb)) x1 = A ∧ rcvE (x0.set 0 (x0.getD 0 0 ^^^ bb)) x1 = 0 := by
              rw [HX.out.1, HX.out.2]
              exact rcv_spoilt0 (L := L) HL.out.1.okA (by rw [← HLS.out.2]; exact ha0) hbb.1 hbb.2
            have HRC := Lib.hid (K_recover hm3 (by rw [List.length_set]; exact HL.out.1.l0) HL.out.1.l1 hrcv)
            have HM3 := Lib.hid hm3
            obtain ⟨AL, hAL⟩ : ∃ AL, AL = recL A := ⟨_, rfl⟩
            have HEQ := Lib.hid (rec_self A HL.out.1.okA.1 (rec_ints HL.out.1.okA))
            rw [← hAL] at HRC HEQ
            have HAL := Lib.hid (And.intro hAL (show AL.length = 50 ∧ AL.toArray.all (·.oneCell') = true by rw [hAL]; exact ⟨recL_length HL.out.1.okA.1, recL_one HL.out.1.okA.1⟩))
            clear hm3 hrcv hAL hbb zl2
            go_wp2_with fail
            refine HRC.out.mono ?_
            rintro e6 w6 ⟨rfl, x6, rfl⟩
            have hs := store_newR (up W3 x6) 50 AL HAL.out.2.1 HAL.out.2.2
            have hst := hs.1
            have hll := HAL.out.2.1
            have HS := Lib.hid hs.2
            clear hs
            go_upto_region 40 with fail
            refine wp_gen (fun W => Below w.heap.size w W ∧ W.rangeAt (up W3 x6).heap.size 0 AL ∧ W.rangeAt pa 0 AL) ?_ ?_
            · have h := HM3.out.below ((up_below W3 x6).trans (HS.out.1.mono (up_size W3 x6)))
              exact ⟨h.bel, HS.out.2.1, HAL.out.1 ▸ h.ra⟩
            clear hst HS HRC hll
            generalize (up W3 x6).heap.size = r
            rintro W7 ⟨hb7, hr7, ha7⟩
            have H7 := Lib.hid (And.intro hb7 hr7)
            have H7A := Lib.hid ha7
            have heq := HEQ.out
            clear hb7 hr7 ha7
            go_wp2_with (first | (refine wpList_load_midG 50 (.tmp 21) (by with_reducible rfl) (by rfl) r 0 (by rfl) AL _ H7.out.2 Try.underlying50 (by rfl) (by rw [HAL.out.2.1]; kernel_rfl) ?_) | (refine wpList_load_midG 50 (.tmp 9) (by with_reducible rfl) (by rfl) pa 0 (by rfl) AL _ H7A.out Try.underlying50 (by rfl) (by rw [HAL.out.2.1]; kernel_rfl) ?_))
            go_ret
            exact Gives.mk rfl H7.out.1
        · obtain ⟨b1, b2, b3, b4⟩ := full_at HL.out.1.okA (by rw [← HLS.out.1] at hlt; omega) 165
          rw [hx0] at y1 y2 y3 y4
          rw [b1] at y1; rw [b2] at y2; rw [b3] at y3; rw [b4, ← HLS.out.2] at y4
          have HX := Lib.hid (And.intro hx0 hx1)
          rw [← HLS.out.1, ← HLS.out.2] at hlt
          have hne : ((la : Int) != (ls : Int)) = true := by simp; omega
          clear b1 b2 b3 b4 hx0 hx1
          go_upto_region 33 with fail
          refine wp_region_slim [] [(0, 3), (1, 3), (2, 3), (3, 3), (4, 3), (5, 3), (6, 0), (7, 3), (8, 0), (9, 3), (10, 3), (11, 3), (12, 3), (13, 3), (14, 3), (15, 3), (16, 0), (17, 3), (18, 0), (19, 3), (20, 3), (21, 3), (22, 3), (23, 3), (24, 3), (25, 3), (26, 0), (27, 3), (28, 0), (29, 3), (30, 3), (31, 3), (32, 3), (33, 3), (34, 3), (35, 3), (36, 0), (37, 3), (38, 0), (39, 3), (40, 3), (41, 3)] (fun X => X.cell? ⟨g, off + 1, none⟩ = some (.int .u8 0) ∧ X.cell? ⟨g, off + 2, none⟩ = some (.int .u8 0) ∧ X.cell? ⟨g, off + 3, none⟩ = some (.int .u8 0) ∧ X.cell? ⟨g, off + 4, none⟩ = some (.int .u8 ((la : Nat) : Int)) ∧ X.cell? ⟨pl, 0, none⟩ = some (.int .u32 ((ls : Nat) : Int))) (by kernel_rfl) (by kernel_rfl) (fun d v c a w h => by cases d <;> exact h) ⟨y1, y2, y3, y4, zl2⟩ ?_
          simp only [List.map_cons, List.map_nil, slim]
          refine wpSched_pure ?sv127 rfl (by rfl) (fun W => ?sh127) ?sr127; (case sh127 => (go_simp; try (with_reducible rfl))); simp only [Act.put, List.getElem_toArray, List.getElem_cons_zero, List.getElem_cons_succ, List.setIfInBounds_toArray, List.set_cons_zero, List.set_cons_succ]
          refine wpSched_pure ?sv128 rfl (by rfl) (fun W => ?sh128) ?sr128; (case sh128 => (go_simp; try (with_reducible rfl))); simp only [Act.put, List.getElem_toArray, List.getElem_cons_zero, List.getElem_cons_succ, List.setIfInBounds_toArray, List.set_cons_zero, List.set_cons_succ]
          refine wpSched_pure ?sv129 rfl (by rfl) (fun W => ?sh129) ?sr129; (case sh129 => (go_simp; try (with_reducible rfl))); simp only [Act.put, List.getElem_toArray, List.getElem_cons_zero, List.getElem_cons_succ, List.setIfInBounds_toArray, List.set_cons_zero, List.set_cons_succ]
          refine wpSched_pure ?sv130 rfl (by rfl) (fun W => ?sh130) ?sr130; (case sh130 => (go_simp; try (with_reducible rfl))); simp only [Act.put, List.getElem_toArray, List.getElem_cons_zero, List.getElem_cons_succ, List.setIfInBounds_toArray, List.set_cons_zero, List.set_cons_succ]
          refine wpSched_pure ?sv131 rfl (by rfl) (fun W => ?sh131) ?sr131; (case sh131 => (go_simp; try (with_reducible rfl))); simp only [Act.put, List.getElem_toArray, List.getElem_cons_zero, List.getElem_cons_succ, List.setIfInBounds_toArray, List.set_cons_zero, List.set_cons_succ]
          refine wpSched_pure ?sv132 rfl (by rfl) (fun W => ?sh132) ?sr132; (case sh132 => (go_simp; try (with_reducible rfl))); simp only [Act.put, List.getElem_toArray, List.getElem_cons_zero, List.getElem_cons_succ, List.setIfInBounds_toArray, List.set_cons_zero, List.set_cons_succ]
          refine wpSched_still ?sv133 rfl (by rfl) (fun W hW => ?sh133) ?sr133; (case sh133 => (obtain ⟨q1, q2, q3, q4, q5⟩ := hW; go_simp; try (with_reducible rfl))); simp only [Act.put, List.getElem_toArray, List.getElem_cons_zero, List.getElem_cons_succ, List.setIfInBounds_toArray, List.set_cons_zero, List.set_cons_succ]
          refine wpSched_pure ?sv134 rfl (by rfl) (fun W => ?sh134) ?sr134; (case sh134 => (go_simp; try (with_reducible rfl))); simp only [Act.put, List.getElem_toArray, List.getElem_cons_zero, List.getElem_cons_succ, List.setIfInBounds_toArray, List.set_cons_zero, List.set_cons_succ]
          refine wpSched_still ?sv135 rfl (by rfl) (fun W hW => ?sh135) ?sr135; (case sh135 => (obtain ⟨q1, q2, q3, q4, q5⟩ := hW; go_simp; try (with_reducible rfl))); simp only [Act.put, List.getElem_toArray, List.getElem_cons_zero, List.getElem_cons_succ, List.setIfInBounds_toArray, List.set_cons_zero, List.set_cons_succ]
          refine wpSched_pure ?sv136 rfl (by rfl) (fun W => ?sh136) ?sr136; (case sh136 => (go_simp; try (with_reducible rfl))); simp only [Act.put, List.getElem_toArray, List.getElem_cons_zero, List.getElem_cons_succ, List.setIfInBounds_toArray, List.set_cons_zero, List.set_cons_succ]
          refine wpSched_pure ?sv137 rfl (by rfl) (fun W => ?sh137) ?sr137; (case sh137 => (go_simp; try (with_reducible rfl))); simp only [Act.put, List.getElem_toArray, List.getElem_cons_zero, List.getElem_cons_succ, List.setIfInBounds_toArray, List.set_cons_zero, List.set_cons_succ]
          refine wpSched_pure ?sv138 rfl (by rfl) (fun W => ?sh138) ?sr138; (case sh138 => (go_simp; try (with_reducible rfl))); simp only [Act.put, List.getElem_toArray, List.getElem_cons_zero, List.getElem_cons_succ, List.setIfInBounds_toArray, List.set_cons_zero, List.set_cons_succ]
          refine wpSched_pure ?sv139 rfl (by rfl) (fun W => ?sh139) ?sr139; (case sh139 => (go_simp; try (with_reducible rfl))); simp only [Act.put, List.getElem_toArray, List.getElem_cons_zero, List.getElem_cons_succ, List.setIfInBounds_toArray, List.set_cons_zero, List.set_cons_succ]
          refine wpSched_pure ?sv140 rfl (by rfl) (fun W => ?sh140) ?sr140; (case sh140 => (go_simp; try (with_reducible rfl))); simp only [Act.put, List.getElem_toArray, List.getElem_cons_zero, List.getElem_cons_succ, List.setIfInBounds_toArray, List.set_cons_zero, List.set_cons_succ]
          refine wpSched_pure ?sv141 rfl (by rfl) (fun W => ?sh141) ?sr141; (case sh141 => (go_simp; try (with_reducible rfl))); simp only [Act.put, List.getElem_toArray, List.getElem_cons_zero, List.getElem_cons_succ, List.setIfInBounds_toArray, List.set_cons_zero, List.set_cons_succ]
          refine wpSched_pure ?sv142 rfl (by rfl) (fun W => ?sh142) ?sr142; (case sh142 => (go_simp; try (with_reducible rfl))); simp only [Act.put, List.getElem_toArray, List.getElem_cons_zero, List.getElem_cons_succ, List.setIfInBounds_toArray, List.set_cons_zero, List.set_cons_succ]
          refine wpSched_still ?sv143 rfl (by rfl) (fun W hW => ?sh143) ?sr143; (case sh143 => (obtain ⟨q1, q2, q3, q4, q5⟩ := hW; go_simp; try (with_reducible rfl))); simp only [Act.put, List.getElem_toArray, List.getElem_cons_zero, List.getElem_cons_succ, List.setIfInBounds_toArray, List.set_cons_zero, List.set_cons_succ]
          refine wpSched_pure ?sv144 rfl (by rfl) (fun W => ?sh144) ?sr144; (case sh144 => (go_simp; try (with_reducible rfl))); simp only [Act.put, List.getElem_toArray, List.getElem_cons_zero, List.getElem_cons_succ, List.setIfInBounds_toArray, List.set_cons_zero, List.set_cons_succ]
          refine wpSched_still ?sv145 rfl (by rfl) (fun W hW => ?sh145) ?sr145; (case sh145 => (obtain ⟨q1, q2, q3, q4, q5⟩ := hW; go_simp; try (with_reducible rfl))); simp only [Act.put, List.getElem_toArray, List.getElem_cons_zero, List.getElem_cons_succ, List.setIfInBounds_toArray, List.set_cons_zero, List.set_cons_succ]
          refine wpSched_pure ?sv146 rfl (by rfl) (fun W => ?sh146) ?sr146; (case sh146 => (go_simp; try (with_reducible rfl))); simp only [Act.put, List.getElem_toArray, List.getElem_cons_zero, List.getElem_cons_succ, List.setIfInBounds_toArray, List.set_cons_zero, List.set_cons_succ]
          refine wpSched_pure ?sv147 rfl (by rfl) (fun W => ?sh147) ?sr147; (case sh147 => (go_simp; try (with_reducible rfl))); simp only [Act.put, List.getElem_toArray, List.getElem_cons_zero, List.getElem_cons_succ, List.setIfInBounds_toArray, List.set_cons_zero, List.set_cons_succ]
          refine wpSched_pure ?sv148 rfl (by rfl) (fun W => ?sh148) ?sr148; (case sh148 => (go_simp; try (with_reducible rfl))); simp only [Act.put, List.getElem_toArray, List.getElem_cons_zero, List.getElem_cons_succ, List.setIfInBounds_toArray, List.set_cons_zero, List.set_cons_succ]
          refine wpSched_pure ?sv149 rfl (by rfl) (fun W => ?sh149) ?sr149; (case sh149 => (go_simp; try (with_reducible rfl))); simp only [Act.put, List.getElem_toArray, List.getElem_cons_zero, List.getElem_cons_succ, List.setIfInBounds_toArray, List.set_cons_zero, List.set_cons_succ]
          refine wpSched_pure ?sv150 rfl (by rfl) (fun W => ?sh150) ?sr150; (case sh150 => (go_simp; try (with_reducible rfl))); simp only [Act.put, List.getElem_toArray, List.getElem_cons_zero, List.getElem_cons_succ, List.setIfInBounds_toArray, List.set_cons_zero, List.set_cons_succ]
          refine wpSched_pure ?sv151 rfl (by rfl) (fun W => ?sh151) ?sr151; (case sh151 => (go_simp; try (with_reducible rfl))); simp only [Act.put, List.getElem_toArray, List.getElem_cons_zero, List.getElem_cons_succ, List.setIfInBounds_toArray, List.set_cons_zero, List.set_cons_succ]
          refine wpSched_pure ?sv152 rfl (by rfl) (fun W => ?sh152) ?sr152; (case sh152 => (go_simp; try (with_reducible rfl))); simp only [Act.put, List.getElem_toArray, List.getElem_cons_zero, List.getElem_cons_succ, List.setIfInBounds_toArray, List.set_cons_zero, List.set_cons_succ]
          refine wpSched_still ?sv153 rfl (by rfl) (fun W hW => ?sh153) ?sr153; (case sh153 => (obtain ⟨q1, q2, q3, q4, q5⟩ := hW; go_simp; try (with_reducible rfl))); simp only [Act.put, List.getElem_toArray, List.getElem_cons_zero, List.getElem_cons_succ, List.setIfInBounds_toArray, List.set_cons_zero, List.set_cons_succ]
          refine wpSched_pure ?sv154 rfl (by rfl) (fun W => ?sh154) ?sr154; (case sh154 => (go_simp; try (with_reducible rfl))); simp only [Act.put, List.getElem_toArray, List.getElem_cons_zero, List.getElem_cons_succ, List.setIfInBounds_toArray, List.set_cons_zero, List.set_cons_succ]
          refine wpSched_still ?sv155 rfl (by rfl) (fun W hW => ?sh155) ?sr155; (case sh155 => (obtain ⟨q1, q2, q3, q4, q5⟩ := hW; go_simp; try (with_reducible rfl))); simp only [Act.put, List.getElem_toArray, List.getElem_cons_zero, List.getElem_cons_succ, List.setIfInBounds_toArray, List.set_cons_zero, List.set_cons_succ]
          refine wpSched_pure ?sv156 rfl (by rfl) (fun W => ?sh156) ?sr156; (case sh156 => (go_simp; try (with_reducible rfl))); simp only [Act.put, List.getElem_toArray, List.getElem_cons_zero, List.getElem_cons_succ, List.setIfInBounds_toArray, List.set_cons_zero, List.set_cons_succ]
          refine wpSched_pure ?sv157 rfl (by rfl) (fun W => ?sh157) ?sr157; (case sh157 => (go_simp; try (with_reducible rfl))); simp only [Act.put, List.getElem_toArray, List.getElem_cons_zero, List.getElem_cons_succ, List.setIfInBounds_toArray, List.set_cons_zero, List.set_cons_succ]
          refine wpSched_pure ?sv158 rfl (by rfl) (fun W => ?sh158) ?sr158; (case sh158 => (go_simp; try (with_reducible rfl))); simp only [Act.put, List.getElem_toArray, List.getElem_cons_zero, List.getElem_cons_succ, List.setIfInBounds_toArray, List.set_cons_zero, List.set_cons_succ]
          refine wpSched_pure ?sv159 rfl (by rfl) (fun W => ?sh159) ?sr159; (case sh159 => (go_simp; try (with_reducible rfl))); simp only [Act.put, List.getElem_toArray, List.getElem_cons_zero, List.getElem_cons_succ, List.setIfInBounds_toArray, List.set_cons_zero, List.set_cons_succ]
          refine wpSched_pure ?sv160 rfl (by rfl) (fun W => ?sh160) ?sr160; (case sh160 => (go_simp; try (with_reducible rfl))); simp only [Act.put, List.getElem_toArray, List.getElem_cons_zero, List.getElem_cons_succ, List.setIfInBounds_toArray, List.set_cons_zero, List.set_cons_succ]
          refine wpSched_pure ?sv161 rfl (by rfl) (fun W => ?sh161) ?sr161; (case sh161 => (go_simp; try (with_reducible rfl))); simp only [Act.put, List.getElem_toArray, List.getElem_cons_zero, List.getElem_cons_succ, List.setIfInBounds_toArray, List.set_cons_zero, List.set_cons_succ]
          refine wpSched_pure ?sv162 rfl (by rfl) (fun W => ?sh162) ?sr162; (case sh162 => (go_simp; try (with_reducible rfl))); simp only [Act.put, List.getElem_toArray, List.getElem_cons_zero, List.getElem_cons_succ, List.setIfInBounds_toArray, List.set_cons_zero, List.set_cons_succ]
          refine wpSched_still ?sv163 rfl (by rfl) (fun W hW => ?sh163) ?sr163; (case sh163 => (obtain ⟨q1, q2, q3, q4, q5⟩ := hW; go_simp; try (with_reducible rfl))); simp only [Act.put, List.getElem_toArray, List.getElem_cons_zero, List.getElem_cons_succ, List.setIfInBounds_toArray, List.set_cons_zero, List.set_cons_succ]
          refine wpSched_pure ?sv164 rfl (by rfl) (fun W => ?sh164) ?sr164; (case sh164 => (go_simp; try (with_reducible rfl))); simp only [Act.put, List.getElem_toArray, List.getElem_cons_zero, List.getElem_cons_succ, List.setIfInBounds_toArray, List.set_cons_zero, List.set_cons_succ]
          refine wpSched_still ?sv165 rfl (by rfl) (fun W hW => ?sh165) ?sr165; (case sh165 => (obtain ⟨q1, q2, q3, q4, q5⟩ := hW; go_simp; try (with_reducible rfl))); simp only [Act.put, List.getElem_toArray, List.getElem_cons_zero, List.getElem_cons_succ, List.setIfInBounds_toArray, List.set_cons_zero, List.set_cons_succ]
          refine wpSched_pure ?sv166 rfl (by rfl) (fun W => ?sh166) ?sr166; (case sh166 => (go_simp; try (with_reducible rfl))); simp only [Act.put, List.getElem_toArray, List.getElem_cons_zero, List.getElem_cons_succ, List.setIfInBounds_toArray, List.set_cons_zero, List.set_cons_succ]
          refine wpSched_pure ?sv167 rfl (by rfl) (fun W => ?sh167) ?sr167; (case sh167 => (go_simp; try (with_reducible rfl))); simp only [Act.put, List.getElem_toArray, List.getElem_cons_zero, List.getElem_cons_succ, List.setIfInBounds_toArray, List.set_cons_zero, List.set_cons_succ]
          refine wpSched_pure ?sv168 rfl (by rfl) (fun W => ?sh168) ?sr168; (case sh168 => (go_simp; try (with_reducible rfl))); simp only [Act.put, List.getElem_toArray, List.getElem_cons_zero, List.getElem_cons_succ, List.setIfInBounds_toArray, List.set_cons_zero, List.set_cons_succ]
          refine wpSched_nil ?_
          by_cases hb0 : bn = 0
          · subst hb0
            obtain ⟨bb, hbb⟩ : ∃ b : Nat, b = 1 := ⟨_, rfl⟩
            have HSP := Lib.hid (K_spoil1 HM2.out.drew (b := 1) (by omega) 0 (by rw [HX.out.2, List.length_cons]; omega) 0 1 rfl rfl)
            rw [← hbb] at HSP
            have HBB := Lib.hid (show bb < 256 ∧ bb ≠ 0 by omega)
            go_wp2_with fail
            clear hbb
            refine HSP.out.mono ?_
            rintro e3 W3 ⟨rfl, hm3⟩
            have hbb := HBB.out
            have hrcv : rcvR x0 (x1.set 0 (x1.getD 0 0 ^^^ bb)) = A ∧ rcvE x0 (x1.set 0 (x1.getD 0 0 ^^^ bb)) = 0 := by
              rw [HX.out.1, HX.out.2]
              exact rcv_spoilt1 (L := L) HL.out.1.okA (by rw [← HLS.out.2]; exact ha0) hbb.1 hbb.2
            have HRC := Lib.hid (K_recover hm3 HL.out.1.l0 (by rw [List.length_set]; exact HL.out.1.l1) hrcv)
            have HM3 := Lib.hid hm3
            obtain ⟨AL, hAL⟩ : ∃ AL, AL = recL A := ⟨_, rfl⟩
            have HEQ := Lib.hid (rec_self A HL.out.1.okA.1 (rec_ints HL.out.1.okA))
            rw [← hAL] at HRC HEQ
            have HAL := Lib.hid (And.intro hAL (show AL.length = 50 ∧ AL.toArray.all (·.oneCell') = true by rw [hAL]; exact ⟨recL_length HL.out.1.okA.1, recL_one HL.out.1.okA.1⟩))
            clear hm3 hrcv hAL hbb zl2
            go_wp2_with fail
            refine HRC.out.mono ?_
            rintro e6 w6 ⟨rfl, x6, rfl⟩
            have hs := store_newR (up W3 x6) 50 AL HAL.out.2.1 HAL.out.2.2
            have hst := hs.1
            have hll := HAL.out.2.1
            have HS := Lib.hid hs.2
            clear hs
            go_upto_region 40 with fail
            refine wp_gen (fun W => Below w.heap.size w W ∧ W.rangeAt (up W3 x6).heap.size 0 AL ∧ W.rangeAt pa 0 AL) ?_ ?_
            · have h := HM3.out.below ((up_below W3 x6).trans (HS.out.1.mono (up_size W3 x6)))
              exact ⟨h.bel, HS.out.2.1, HAL.out.1 ▸ h.ra⟩
            clear hst HS HRC hll
            generalize (up W3 x6).heap.size = r
            rintro W7 ⟨hb7, hr7, ha7⟩
            have H7 := Lib.hid (And.intro hb7 hr7)
            have H7A := Lib.hid ha7
            have heq := HEQ.out
            clear hb7 hr7 ha7
            go_wp2_with (first | (refine wpList_load_midG 50 (.tmp 21) (by with_reducible rfl) (by rfl) r 0 (by rfl) AL _ H7.out.2 Try.underlying50 (by rfl) (by rw [HAL.out.2.1]; kernel_rfl) ?_) | (refine wpList_load_midG 50 (.tmp 9) (by with_reducible rfl) (by rfl) pa 0 (by rfl) AL _ H7A.out Try.underlying50 (by rfl) (by rw [HAL.out.2.1]; kernel_rfl) ?_))
            go_ret
            exact Gives.mk rfl H7.out.1
          · have hbi : ¬ (bn : Int) = 0 := by omega
            obtain ⟨bb, hbb⟩ : ∃ b : Nat, b = bn := ⟨_, rfl⟩
            subst hbb
            have HSP := Lib.hid (K_spoil1 HM2.out.drew (b := bb) hbn 0 (by rw [HX.out.2, List.length_cons]; omega) 0 _ rfl rfl)
            have HBB := Lib.hid (show bb < 256 ∧ bb ≠ 0 from ⟨hbn, hb0⟩)
            go_wp2_with fail
            refine HSP.out.mono ?_
            rintro e3 W3 ⟨rfl, hm3⟩
            have hbb := HBB.out
            have hrcv : rcvR x0 (x1.set 0 (x1.getD 0 0 ^^^ bb)) = A ∧ rcvE x0 (x1.set 0 (x1.getD 0 0 ^^^ bb)) = 0 := by
              rw [HX.out.1, HX.out.2]
              exact rcv_spoilt1 (L := L) HL.out.1.okA (by rw [← HLS.out.2]; exact ha0) hbb.1 hbb.2
            have HRC := Lib.hid (K_recover hm3 HL.out.1.l0 (by rw [List.length_set]; exact HL.out.1.l1) hrcv)
            have HM3 := Lib.hid hm3
            obtain ⟨AL, hAL⟩ : ∃ AL, AL = recL A := ⟨_, rfl⟩
            have HEQ := Lib.hid (rec_self A HL.out.1.okA.1 (rec_ints HL.out.1.okA))
            rw [← hAL] at HRC HEQ
            have HAL := Lib.hid (And.intro hAL (show AL.length = 50 ∧ AL.toArray.all (·.oneCell') = true by rw [hAL]; exact ⟨recL_length HL.out.1.okA.1, recL_one HL.out.1.okA.1⟩))
            clear hm3 hrcv hAL hbb zl2
            go_wp2_with fail
            refine HRC.out.mono ?_
            rintro e6 w6 ⟨rfl, x6, rfl⟩
            have hs := store_newR (up W3 x6) 50 AL HAL.out.2.1 HAL.out.2.2
            have hst := hs.1
            have hll := HAL.out.2.1
            have HS := Lib.hid hs.2
            clear hs
            go_upto_region 40 with fail
            refine wp_gen (fun W => Below w.heap.size w W ∧ W.rangeAt (up W3 x6).heap.size 0 AL ∧ W.rangeAt pa 0 AL) ?_ ?_
            · have h := HM3.out.below ((up_below W3 x6).trans (HS.out.1.mono (up_size W3 x6)))
              exact ⟨h.bel, HS.out.2.1, HAL.out.1 ▸ h.ra⟩
            clear hst HS HRC hll
            generalize (up W3 x6).heap.size = r
            rintro W7 ⟨hb7, hr7, ha7⟩
            have H7 := Lib.hid (And.intro hb7 hr7)
            have H7A := Lib.hid ha7
            have heq := HEQ.out
            clear hb7 hr7 ha7
            go_wp2_with (first | (refine wpList_load_midG 50 (.tmp 21) (by with_reducible rfl) (by rfl) r 0 (by rfl) AL _ H7.out.2 Try.underlying50 (by rfl) (by rw [HAL.out.2.1]; kernel_rfl) ?_) | (refine wpList_load_midG 50 (.tmp 9) (by with_reducible rfl) (by rfl) pa 0 (by rfl) AL _ H7A.out Try.underlying50 (by rfl) (by rw [HAL.out.2.1]; kernel_rfl) ?_))
            go_ret
            exact Gives.mk rfl H7.out.1
end Go.Proofs.Ytjkgodhoonkinaa
