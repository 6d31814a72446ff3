/-
  The law BankPlays, walked.
-/
import Derived.Test.YtjkgodhoonkinaaBkrG
import Derived.Test.YtjkgodhoonkinaaElem
namespace Go.Proofs.Ytjkgodhoonkinaa
open Go.RowKit
set_option linter.unusedVariables false
set_option linter.unusedSimpArgs false

theorem do_any (w0 : World) (s r : Nat) (w : World) (d : Int) (R : List Nat) (nx : Bool) (bk at_ : Int) (b : Nat) (hR : RecOK R) (hb : b < 256) (H : PWorld w0 s r w) :
    Calls Try.prog 55 #[.pointer (some ⟨s, 0, none⟩), .pointer (some ⟨r, 0, none⟩), .agg (actL d R nx bk at_ b).toArray] w (PDone w0 s r) := by
  obtain ⟨v0, v1, u0, u1, x0, x1, bg, law, mem⟩ := H
  by_cases h4 : amongV d 9 < 4
  · exact do_begin w0 s r w v0 v1 u0 u1 x0 x1 bg d R nx bk at_ b hR hb law mem h4
  by_cases h7 : amongV d 9 < 7
  · exact do_finish w0 s r w v0 v1 u0 u1 x0 x1 bg d R nx bk at_ b hR hb law mem h4 h7
  by_cases h8 : amongV d 9 < 8
  · exact do_lose w0 s r w v0 v1 u0 u1 x0 x1 bg d R nx bk at_ b hR hb law mem h7 h8
  · exact do_spoil w0 s r w v0 v1 u0 u1 x0 x1 bg d R nx bk at_ b hR hb law mem h8
def PRel (w : World) (s r : Nat) (v5 : Value) (W : World) : Prop := ∃ k : Nat, k ≤ 40 ∧ v5 = .int .i64 (k : Int) ∧ PWorld w s r W
set_option maxRecDepth 100000 in
set_option maxHeartbeats 16000000 in
theorem BankPlays_any (a : Option Addr) (len cap : Nat) (w : World) (hr : Elems w actK a len) :
    Calls Try.prog 14 #[.slice a len cap] w (Gives w (.bool true)) := by
  have HR := Lib.hid hr
  have hlen := hr.1
  clear hr
  go_enter Try.func14, Try.ntmps14
  go_wp2_with fail
  refine (bNew_any w).mono ?_
  rintro e1 w1 ⟨rfl, hb1, hs1, hl1⟩
  obtain ⟨s, hs⟩ : ∃ s, s = w.heap.size := ⟨_, rfl⟩
  rw [← hs] at hs1 hl1 ⊢
  have H1 := Lib.hid (And.intro hb1 (And.intro hs1 (And.intro hl1 hs)))
  clear hb1 hs1 hl1 hs
  go_wp2_with fail
  refine (rStNew_any w1).mono ?_
  rintro e2 w2 ⟨rfl, hb2, hs2, hl2⟩
  obtain ⟨r, hr⟩ : ∃ r, r = w1.heap.size := ⟨_, rfl⟩
  rw [← hr] at hs2 hl2 ⊢
  have HP := Lib.hid (show PRel w s r (.int .i64 0) w2 from by
    obtain ⟨a1, a2, a3, a4⟩ := H1.out
    refine ⟨0, by omega, rfl, _, _, _, _, [], [], -1, ⟨by decide, by decide, .inl rfl⟩, ⟨a1.trans (hb2.mono (by omega)), ⟨by omega, by omega, hl2⟩, a2.below hb2 (by omega), hs2, OwnB.nil _ _, OwnB.nil _ _, OwnB.nil _ _, OwnB.nil _ _, Apart.nil _, Apart.nil _, Apart.nil _, Apart.nil _, Apart.nil _⟩⟩)
  clear hb2 hs2 hl2 hr H1
  go_wp2_with fail
  go_loopw [5] (fun v5 wr => PRel w s r v5 wr) (fun v5 _ => 40 - (intOf v5).toNat)
  case atStart => exact HP.out
  case round =>
    clear HP
    obtain ⟨k, hk40, rfl, hpw⟩ := hrel
    have HW := Lib.hid hpw
    have HBW := Lib.hid (show Below w.heap.size w wr ∧ r < wr.heap.size from by obtain ⟨_, _, _, _, _, _, _, _, m⟩ := hpw; exact ⟨m.bel, m.ord.2.2⟩)
    clear hpw
    by_cases hend : k < len ∧ k < 40
    · obtain ⟨hkl, hk4⟩ := hend
      obtain ⟨Bq, off, d, R, nx, bk, at2, b2, rfl, hBq, hR, hb2, hrow⟩ := acts_at HR.out hkl
      have hkd : decide ((k : Int) < 40) = true := by simp; omega
      have hkI : (k : Int) < 40 := by omega
      have HDO := Lib.hid (do_any w s r wr d R nx bk at2 b2 hR hb2 HW.out)
      obtain ⟨CS, hCS⟩ : ∃ C, C = actL d R nx bk at2 b2 := ⟨_, rfl⟩
      have HA := Lib.hid (show wr.rangeAt Bq (off + k * 55) CS by rw [hCS]; exact rangeAt_below HBW.out.1 hBq hrow)
      have HCL := Lib.hid (show CS.length = 55 by rw [hCS]; exact actL_length hR.1)
      rw [← hCS] at HDO
      clear hCS hrow hBq hR HW HBW
      go_wp2_with (refine wpList_load_mid rfl 86 (.tmp 29) (by rfl) Bq (off + k * 55) (by rfl) CS _ HA.out Try.underlying86 (by rfl) (by rw [HCL.out]; kernel_rfl) ?_)
      refine HDO.out.mono ?_
      rintro e5 W5 ⟨rfl, v0, v1, u0, u1, x0, x1, bg, law, mem⟩
      clear HDO HA HCL
      have hok : RecOK (rcvR x0 x1) := by
        have h0 := mem.p0.1
        have h1 := mem.p1.1
        rcases rcnt_cases x0 x1 with ⟨_, h, _⟩ | ⟨_, h, _⟩ | ⟨_, h, _⟩ <;> rw [h]
        · exact zeroR_ok
        · exact rdR_ok h0
        · exact rdR_ok h1
      have l0 := law.l0
      have l1 := law.l1
      have HRX := Lib.hid (Recover_made s v0 v1 x0 x1 bg W5 mem.sto mem.o0.bts mem.o1.bts (by omega) (by omega))
      have HRY := Lib.hid (fun (W : World) (hb : Below W5.heap.size W5 W) => rRecover_any W r u0 u1 bg x0 x1 (mem.below hb).rst (mem.below hb).p0.bts (mem.below hb).p1.bts (by omega) (by omega))
      have HEM := Lib.hid (fun (W : World) (hb : Below W5.heap.size W5 W) => (show Calls Try.prog 57 #[.pointer (some ⟨s, 0, none⟩)] W (Gives W (.bool ((x0.length : Int) + (x1.length : Int) == 0))) from Empty_made W s v0 v1 x0 x1 bg (mem.below hb).sto (mem.below hb).o0.bts (mem.below hb).o1.bts l0 l1))
      have HLM := Lib.hid (And.intro law mem)
      have HPL := Lib.hid (fun (W : World) => plain_any (rcvR x0 x1) W hok)
      have HEQ := Lib.hid (rec_selfR (rcvR x0 x1) hok)
      generalize rcvE x0 x1 = er at *
      obtain ⟨L, hL⟩ : ∃ L, L = recL (rcvR x0 x1) := ⟨_, rfl⟩
      rw [← hL] at HRX HRY HPL HEQ
      have HLL := Lib.hid (show L.length = 50 ∧ L.toArray.all (·.oneCell') = true by rw [hL]; exact ⟨recL_length hok.1, recL_one hok.1⟩)
      clear law mem hok hL l0 l1
      go_wp2_with fail
      refine HRX.out.mono ?_
      rintro e6 w6 ⟨rfl, y6, rfl⟩
      have hs := store_newR (up W5 y6) 50 L HLL.out.1 HLL.out.2
      have hst := hs.1
      have hll := HLL.out.1
      have HS := Lib.hid hs.2
      clear hs HRX
      go_upto_region 8 with fail
      refine wp_gen (fun W => Below W5.heap.size W5 W ∧ W.rangeAt (up W5 y6).heap.size 0 L ∧ (up W5 y6).heap.size < W.heap.size) ⟨(up_below W5 y6).trans (HS.out.1.mono (up_size W5 y6)), HS.out.2.1, HS.out.2.2.2⟩ ?_
      clear hst HS hll
      generalize (up W5 y6).heap.size = q6
      rintro W7 ⟨hb7, hr7, hl7⟩
      have H7 := Lib.hid (And.intro hb7 (And.intro hr7 hl7))
      have HRY7 := Lib.hid (HRY.out W7 hb7)
      clear hb7 hr7 hl7 HRY
      go_wp2_with fail
      refine HRY7.out.mono ?_
      rintro e7 w7 ⟨rfl, y7, rfl⟩
      have hs := store_newR (up W7 y7) 69 L HLL.out.1 HLL.out.2
      have hst := hs.1
      have hll := HLL.out.1
      have HS := Lib.hid hs.2
      clear hs HRY7
      go_upto_region 9 with fail
      refine wp_gen (fun W => Below W5.heap.size W5 W ∧ (W.rangeAt q6 0 L ∧ q6 < W.heap.size) ∧ W.rangeAt (up W7 y7).heap.size 0 L ∧ (up W7 y7).heap.size < W.heap.size) ?_ ?_
      · have hb := (up_below W7 y7).trans (HS.out.1.mono (up_size W7 y7))
        exact ⟨H7.out.1.trans (hb.mono H7.out.1.size), ⟨rangeAt_below hb H7.out.2.2 H7.out.2.1, Nat.lt_of_lt_of_le H7.out.2.2 hb.size⟩, HS.out.2.1, HS.out.2.2.2⟩
      clear hst HS hll H7
      generalize (up W7 y7).heap.size = q7
      rintro W8 ⟨hb8, ⟨hr6, hl6⟩, hr7, hl7⟩
      have H8 := Lib.hid (And.intro (And.intro hr6 hl6) (And.intro hr7 hl7))
      have HM8 := Lib.hid (HLM.out.2.below hb8)
      have HB8 := Lib.hid hb8
      have heq := HEQ.out
      have HEM8 := Lib.hid (fun (W : World) (hb : Below W8.heap.size W8 W) => HEM.out W (HB8.out.trans (hb.mono HB8.out.size)))
      clear hb8 hr6 hl6 hr7 hl7 HEM
      obtain ⟨a0, n0, c0, he0⟩ := HM8.out.p0.bts.slice
      obtain ⟨a1, n1, c1, he1⟩ := HM8.out.p1.bts.slice
      have hn0 : n0 = x0.length := by have := HM8.out.p0.bts; rw [he0] at this; exact this.len
      have hn1 : n1 = x1.length := by have := HM8.out.p1.bts; rw [he1] at this; exact this.len
      have HC := Lib.hid (fun (X : World) (hX : Below W8.heap.size W8 X) => (show X.cell? ⟨r, 0, none⟩ = some (.slice a0 x0.length c0) ∧ X.cell? ⟨r, 1, none⟩ = some (.slice a1 x1.length c1) from by
        have h0 := (HM8.out.below hX).rst.at_ 0 (by omega)
        have h1 := (HM8.out.below hX).rst.at_ 1 (by omega)
        rw [← hn0, ← hn1, ← he0, ← he1]
        exact ⟨h0, h1⟩))
      have HLW := Lib.hid HLM.out.1
      have hl141 : x0.length ≤ 141 ∧ x1.length ≤ 141 := ⟨HLM.out.1.l0, HLM.out.1.l1⟩
      have HS0 := Lib.hid (show Below W8.heap.size W8 W8.drew from (Below.refl _ _).drew)
      clear he0 he1 hn0 hn1 HLM
      have hw : IntKind.i64.wrap ((x0.length : Int) + (x1.length : Int)) = (x0.length : Int) + (x1.length : Int) := by rw [IntKind.wrap_i64]; omega
      have HX := Lib.hid (And.intro HM8.out HLW.out)
      clear HM8 HLW
      generalize hm0 : x0.length = m0 at *
      generalize hm1 : x1.length = m1 at *
      have HMM := Lib.hid (And.intro hm0 hm1)
      clear hm0 hm1
      refine wp_region_slim [] [(0, 0), (2, 0), (1, 1), (3, 3), (4, 3), (5, 3), (6, 3), (7, 3), (8, 3), (9, 3), (10, 3), (12, 3), (13, 3), (14, 3), (15, 3), (16, 0), (17, 3), (18, 3), (19, 3), (20, 3), (21, 3), (22, 0), (23, 3), (24, 3), (25, 3), (11, 1), (26, 3), (27, 3)] (fun W => Below W8.heap.size W8 W) (by kernel_rfl) (by kernel_rfl) (fun d v c a w h => by cases d <;> exact h) HS0.out ?_
      simp only [List.map_cons, List.map_nil, slim]
      refine wpSched_load 50 (.tmp 6) q6 0 L _ rfl rfl (by rfl) (by rfl) (fun X hX => rangeAt_below hX H8.out.1.2 H8.out.1.1) Try.underlying50 (by rfl) (by rw [HLL.out.1]; kernel_rfl) ?_
      simp only [Act.put, List.getElem_toArray, List.getElem_cons_zero, List.getElem_cons_succ, List.setIfInBounds_toArray, List.set_cons_zero, List.set_cons_succ]
      refine wpSched_load 69 (.tmp 8) q7 0 L _ rfl rfl (by rfl) (by rfl) (fun X hX => rangeAt_below hX H8.out.2.2 H8.out.2.1) Try.underlying69 (by rfl) (by rw [HLL.out.1]; kernel_rfl) ?_
      simp only [Act.put, List.getElem_toArray, List.getElem_cons_zero, List.getElem_cons_succ, List.setIfInBounds_toArray, List.set_cons_zero, List.set_cons_succ]
      refine wpSched_eff rfl (by rfl) (fun K hK => ?_); go_simp
      refine (HPL.out _).mono ?_
      rintro f1 z1 ⟨rfl, t1, rfl⟩
      have HS1 := Lib.hid (HS0.out.trans ((up_below _ t1).mono HS0.out.size))
      refine hK _ _ HS1.out ?_
      clear hK K
      refine wpSched_pure ?sv1 rfl (by rfl) (fun W => ?sh1) ?sr1; (case sh1 => (go_simp; try (with_reducible rfl))); simp only [Act.put, List.getElem_toArray, List.getElem_cons_zero, List.getElem_cons_succ, List.setIfInBounds_toArray, List.set_cons_zero, List.set_cons_succ]
      refine wpSched_pure ?sv2 rfl (by rfl) (fun W => ?sh2) ?sr2; (case sh2 => (go_simp; try (with_reducible rfl))); simp only [Act.put, List.getElem_toArray, List.getElem_cons_zero, List.getElem_cons_succ, List.setIfInBounds_toArray, List.set_cons_zero, List.set_cons_succ]
      refine wpSched_pure ?sv3 rfl (by rfl) (fun W => ?sh3) ?sr3; (case sh3 => (go_simp; try (with_reducible rfl))); simp only [Act.put, List.getElem_toArray, List.getElem_cons_zero, List.getElem_cons_succ, List.setIfInBounds_toArray, List.set_cons_zero, List.set_cons_succ]
      refine wpSched_pure ?sv4 rfl (by rfl) (fun W => ?sh4) ?sr4; (case sh4 => (go_simp; try (with_reducible rfl))); simp only [Act.put, List.getElem_toArray, List.getElem_cons_zero, List.getElem_cons_succ, List.setIfInBounds_toArray, List.set_cons_zero, List.set_cons_succ]
      refine wpSched_pure ?sv5 rfl (by rfl) (fun W => ?sh5) ?sr5; (case sh5 => (go_simp; try (with_reducible rfl))); simp only [Act.put, List.getElem_toArray, List.getElem_cons_zero, List.getElem_cons_succ, List.setIfInBounds_toArray, List.set_cons_zero, List.set_cons_succ]
      refine wpSched_pure ?sv6 rfl (by rfl) (fun W => ?sh6) ?sr6; (case sh6 => (go_simp; try (with_reducible rfl))); simp only [Act.put, List.getElem_toArray, List.getElem_cons_zero, List.getElem_cons_succ, List.setIfInBounds_toArray, List.set_cons_zero, List.set_cons_succ]
      refine wpSched_pure ?sv7 rfl (by rfl) (fun W => ?sh7) ?sr7; (case sh7 => (go_simp; try (with_reducible rfl))); simp only [Act.put, List.getElem_toArray, List.getElem_cons_zero, List.getElem_cons_succ, List.setIfInBounds_toArray, List.set_cons_zero, List.set_cons_succ]
      refine wpSched_pure ?sv8 rfl (by rfl) (fun W => ?sh8) ?sr8; (case sh8 => (go_simp; try (with_reducible rfl))); simp only [Act.put, List.getElem_toArray, List.getElem_cons_zero, List.getElem_cons_succ, List.setIfInBounds_toArray, List.set_cons_zero, List.set_cons_succ]
      refine wpSched_pure ?sv9 rfl (by rfl) (fun W => ?sh9) ?sr9; (case sh9 => (go_simp; try (with_reducible rfl))); simp only [Act.put, List.getElem_toArray, List.getElem_cons_zero, List.getElem_cons_succ, List.setIfInBounds_toArray, List.set_cons_zero, List.set_cons_succ]
      refine wpSched_pure ?sv10 rfl (by rfl) (fun W => ?sh10) ?sr10; (case sh10 => (go_simp; try (with_reducible rfl))); simp only [Act.put, List.getElem_toArray, List.getElem_cons_zero, List.getElem_cons_succ, List.setIfInBounds_toArray, List.set_cons_zero, List.set_cons_succ]
      refine wpSched_pure ?sv11 rfl (by rfl) (fun W => ?sh11) ?sr11; (case sh11 => (go_simp; try (with_reducible rfl))); simp only [Act.put, List.getElem_toArray, List.getElem_cons_zero, List.getElem_cons_succ, List.setIfInBounds_toArray, List.set_cons_zero, List.set_cons_succ]
      refine wpSched_pure ?sv12 rfl (by rfl) (fun W => ?sh12) ?sr12; (case sh12 => (go_simp; try (with_reducible rfl))); simp only [Act.put, List.getElem_toArray, List.getElem_cons_zero, List.getElem_cons_succ, List.setIfInBounds_toArray, List.set_cons_zero, List.set_cons_succ]
      refine wpSched_still ?sv13 rfl (by rfl) (fun W hW => ?sh13) ?sr13; (case sh13 => (obtain ⟨h1, h2⟩ := HC.out _ hW; go_simp; try (with_reducible rfl))); simp only [Act.put, List.getElem_toArray, List.getElem_cons_zero, List.getElem_cons_succ, List.setIfInBounds_toArray, List.set_cons_zero, List.set_cons_succ]
      refine wpSched_pure ?sv14 rfl (by rfl) (fun W => ?sh14) ?sr14; (case sh14 => (go_simp; try (with_reducible rfl))); simp only [Act.put, List.getElem_toArray, List.getElem_cons_zero, List.getElem_cons_succ, List.setIfInBounds_toArray, List.set_cons_zero, List.set_cons_succ]
      refine wpSched_pure ?sv15 rfl (by rfl) (fun W => ?sh15) ?sr15; (case sh15 => (go_simp; try (with_reducible rfl))); simp only [Act.put, List.getElem_toArray, List.getElem_cons_zero, List.getElem_cons_succ, List.setIfInBounds_toArray, List.set_cons_zero, List.set_cons_succ]
      refine wpSched_pure ?sv16 rfl (by rfl) (fun W => ?sh16) ?sr16; (case sh16 => (go_simp; try (with_reducible rfl))); simp only [Act.put, List.getElem_toArray, List.getElem_cons_zero, List.getElem_cons_succ, List.setIfInBounds_toArray, List.set_cons_zero, List.set_cons_succ]
      refine wpSched_pure ?sv17 rfl (by rfl) (fun W => ?sh17) ?sr17; (case sh17 => (go_simp; try (with_reducible rfl))); simp only [Act.put, List.getElem_toArray, List.getElem_cons_zero, List.getElem_cons_succ, List.setIfInBounds_toArray, List.set_cons_zero, List.set_cons_succ]
      refine wpSched_pure ?sv18 rfl (by rfl) (fun W => ?sh18) ?sr18; (case sh18 => (go_simp; try (with_reducible rfl))); simp only [Act.put, List.getElem_toArray, List.getElem_cons_zero, List.getElem_cons_succ, List.setIfInBounds_toArray, List.set_cons_zero, List.set_cons_succ]
      refine wpSched_still ?sv19 rfl (by rfl) (fun W hW => ?sh19) ?sr19; (case sh19 => (obtain ⟨h1, h2⟩ := HC.out _ hW; go_simp; try (with_reducible rfl))); simp only [Act.put, List.getElem_toArray, List.getElem_cons_zero, List.getElem_cons_succ, List.setIfInBounds_toArray, List.set_cons_zero, List.set_cons_succ]
      refine wpSched_pure ?sv20 rfl (by rfl) (fun W => ?sh20) ?sr20; (case sh20 => (go_simp; try (with_reducible rfl))); simp only [Act.put, List.getElem_toArray, List.getElem_cons_zero, List.getElem_cons_succ, List.setIfInBounds_toArray, List.set_cons_zero, List.set_cons_succ]
      refine wpSched_pure ?sv21 rfl (by rfl) (fun W => ?sh21) ?sr21; (case sh21 => (go_simp; try (with_reducible rfl))); simp only [Act.put, List.getElem_toArray, List.getElem_cons_zero, List.getElem_cons_succ, List.setIfInBounds_toArray, List.set_cons_zero, List.set_cons_succ]
      refine wpSched_pure ?sv22 rfl (by rfl) (fun W => ?sh22) ?sr22; (case sh22 => (go_simp; try (with_reducible rfl))); simp only [Act.put, List.getElem_toArray, List.getElem_cons_zero, List.getElem_cons_succ, List.setIfInBounds_toArray, List.set_cons_zero, List.set_cons_succ]
      refine wpSched_eff rfl (by rfl) (fun K hK => ?_); go_simp
      refine (HEM8.out _ HS1.out).mono ?_
      rintro f2 z2 ⟨rfl, t2, rfl⟩
      have HS2 := Lib.hid (HS1.out.trans ((up_below _ t2).mono HS1.out.size))
      refine hK _ _ HS2.out ?_
      clear hK K
      refine wpSched_pure ?sv23 rfl (by rfl) (fun W => ?sh23) ?sr23; (case sh23 => (go_simp; try (with_reducible rfl))); simp only [Act.put, List.getElem_toArray, List.getElem_cons_zero, List.getElem_cons_succ, List.setIfInBounds_toArray, List.set_cons_zero, List.set_cons_succ]
      refine wpSched_pure ?sv24 rfl (by rfl) (fun W => ?sh24) ?sr24; (case sh24 => (go_simp; try (with_reducible rfl))); simp only [Act.put, List.getElem_toArray, List.getElem_cons_zero, List.getElem_cons_succ, List.setIfInBounds_toArray, List.set_cons_zero, List.set_cons_succ]
      refine wpSched_nil ?_
      go_upto_region 11 with fail
      refine wp_gen (fun W => PMem w s r v0 v1 u0 u1 x0 x1 bg x0 x1 bg W) (HX.out.1.below HS2.out) ?_
      have HLAW := Lib.hid HX.out.2
      clear HS0 HS1 HS2 HC HX H8 HEM8 HPL HEQ heq HLL hw HB8
      rintro W9 hm9
      have HM9 := Lib.hid (show PMem w s r v0 v1 u0 u1 x0 x1 bg x0 x1 bg W9 ∧ ∀ y, PMem w s r v0 v1 u0 u1 x0 x1 bg x0 x1 bg (up W9 y) from ⟨hm9, fun y => hm9.below (up_below _ _)⟩)
      clear hm9
      go_wp2_with fail
      go_loopw [10] (fun v10 wq => ∃ q : Int, -1 ≤ q ∧ q ≤ 3 ∧ v10 = .int .i64 q ∧ ∃ x, wq = up W9 x) (fun v10 _ => (3 - intOf v10).toNat)
      case atStart => exact ⟨-1, by omega, by omega, rfl, ex_up (Below.refl _ _)⟩
      case round =>
        obtain ⟨q, q1, q2, rfl, y, rfl⟩ := hrel
        by_cases hq3 : q < 3
        · rcases (show q = -1 ∨ q = 0 ∨ q = 1 ∨ q = 2 by omega) with rfl | rfl | rfl | rfl
          ·
            have HB := Lib.hid (Bank_out (up W9 y) s v0 v1 bg (-1) (HM9.out.2 y).sto (by omega))
            go_wp2_with (go_at_call 52; with_reducible refine Calls.tells (HB.out) ?_)
            exact ⟨⟨_, by omega, by omega, rfl, y, rfl⟩, by simp [intOf]⟩
          ·
            have HB := Lib.hid (Bank_made0 (up W9 y) s v0 v1 bg x0 (HM9.out.2 y).sto (HM9.out.2 y).o0.bts (by have := HLAW.out.l0; omega))
            have HSB := Lib.hid (fun (W : World) (v : Value) (hb : Below (up W9 y).heap.size (up W9 y) W) (hv : Bts W v x0) => (show Calls Try.prog 25 #[v, u0] W (Tells W (.bool true)) from by
              have := SameBytes_any v u0 x0 x0 W hv ((HM9.out.2 y).p0.bts.below hb)
              rwa [show sameB x0 x0 = true from decide_eq_true rfl] at this))
            obtain ⟨ua, un, uc, hue⟩ := (HM9.out.2 y).p0.bts.slice
            have HCU := Lib.hid (fun (W : World) (hb : Below (up W9 y).heap.size (up W9 y) W) => (show W.cell? ⟨r, 0, none⟩ = some (.slice ua un uc) from by
              rw [← hue]; exact ((HM9.out.2 y).below hb).rst.at_ 0 (by omega)))
            rw [hue] at HSB
            clear hue
            go_wp2_with fail
            refine HB.out.mono ?_
            rintro e3 W3 ⟨vb, rfl, hbt, hbl⟩
            obtain ⟨ba, bn_, bc, rfl⟩ := hbt.slice
            have c0 := HCU.out W3 hbl
            have HS3 := Lib.hid (HSB.out W3 _ hbl hbt)
            haveI : LtSize r W3 := ⟨by have := ((HM9.out.2 y).below hbl).ord; omega⟩
            obtain ⟨y2, hy2⟩ := ex_up (show Below W9.heap.size W9 W3 from (up_below W9 y).trans (hbl.mono (up_size _ _)))
            have HY2 := Lib.hid (show ∃ y, W3 = up W9 y from ⟨y2, hy2⟩)
            clear hbt hbl HSB HCU HB hy2
            go_wp2_with (go_at_call 25; with_reducible refine Calls.tells (HS3.out) ?_)
            exact ⟨⟨_, by omega, by omega, rfl, HY2.out⟩, by simp [intOf]⟩
          ·
            have HB := Lib.hid (Bank_made1 (up W9 y) s v0 v1 bg x1 (HM9.out.2 y).sto (HM9.out.2 y).o1.bts (by have := HLAW.out.l1; omega))
            have HSB := Lib.hid (fun (W : World) (v : Value) (hb : Below (up W9 y).heap.size (up W9 y) W) (hv : Bts W v x1) => (show Calls Try.prog 25 #[v, u1] W (Tells W (.bool true)) from by
              have := SameBytes_any v u1 x1 x1 W hv ((HM9.out.2 y).p1.bts.below hb)
              rwa [show sameB x1 x1 = true from decide_eq_true rfl] at this))
            obtain ⟨ua, un, uc, hue⟩ := (HM9.out.2 y).p1.bts.slice
            have HCU := Lib.hid (fun (W : World) (hb : Below (up W9 y).heap.size (up W9 y) W) => (show W.cell? ⟨r, 1, none⟩ = some (.slice ua un uc) from by
              rw [← hue]; exact ((HM9.out.2 y).below hb).rst.at_ 1 (by omega)))
            rw [hue] at HSB
            clear hue
            go_wp2_with fail
            refine HB.out.mono ?_
            rintro e3 W3 ⟨vb, rfl, hbt, hbl⟩
            obtain ⟨ba, bn_, bc, rfl⟩ := hbt.slice
            have c0 := HCU.out W3 hbl
            have HS3 := Lib.hid (HSB.out W3 _ hbl hbt)
            haveI : LtSize r W3 := ⟨by have := ((HM9.out.2 y).below hbl).ord; omega⟩
            obtain ⟨y2, hy2⟩ := ex_up (show Below W9.heap.size W9 W3 from (up_below W9 y).trans (hbl.mono (up_size _ _)))
            have HY2 := Lib.hid (show ∃ y, W3 = up W9 y from ⟨y2, hy2⟩)
            clear hbt hbl HSB HCU HB hy2
            go_wp2_with (go_at_call 25; with_reducible refine Calls.tells (HS3.out) ?_)
            exact ⟨⟨_, by omega, by omega, rfl, HY2.out⟩, by simp [intOf]⟩
          ·
            have HB := Lib.hid (Bank_out (up W9 y) s v0 v1 bg 2 (HM9.out.2 y).sto (by omega))
            go_wp2_with (go_at_call 52; with_reducible refine Calls.tells (HB.out) ?_)
            exact ⟨⟨_, by omega, by omega, rfl, y, rfl⟩, by simp [intOf]⟩
        · obtain rfl : q = 3 := by omega
          have HEND := Lib.hid (show PWorld w s r (up W9 y) from ⟨_, _, _, _, _, _, _, HLAW.out, HM9.out.2 y⟩)
          go_wp2_with fail
          exact ⟨⟨k + 1, by omega, (by first | rfl | go_num), HEND.out⟩, by simp [intOf]; omega⟩
    · by_cases hkl : k < len
      · have hk4 : ¬ (k : Int) < 40 := by omega
        have hk5 : decide ((k : Int) < 40) = false := by simp; omega
        clear hend
        go_wp2_with fail
        refine (works30 wr).mono ?_
        rintro e3 w3 ⟨rfl, y3, rfl⟩
        go_wp2_with fail
        go_ret
        exact Gives.mk rfl (below_up HBW.out.1 HBW.out.1.size y3)
      · have hk4 : ¬ (k : Int) < (len : Int) := by omega
        clear hend
        go_wp2_with fail
        refine (works30 wr).mono ?_
        rintro e3 w3 ⟨rfl, y3, rfl⟩
        go_wp2_with fail
        go_ret
        exact Gives.mk rfl (below_up HBW.out.1 HBW.out.1.size y3)
end Go.Proofs.Ytjkgodhoonkinaa
