/-
  A record's bytes, by the reference; a record turned into the reference's.
-/
import Derived.Test.YtjkgodhoonkinaaBnkS
namespace Go.Proofs.Ytjkgodhoonkinaa
open Go.RowKit
set_option linter.unusedVariables false
set_option linter.unusedSimpArgs false

set_option maxRecDepth 100000 in
set_option maxHeartbeats 3200000 in
theorem rBytes_rec (R : List Nat) (w : World) (hR : RecOK R) :
    Calls Try.prog 39 #[.agg (recL R).toArray] w (fun e w' => ∃ v, e = .returned (.tuple #[v, .int .i64 (bnkE R)]) ∧ OwnB w' w.heap.size v (bnkB R) ∧ Below w.heap.size w w') := by
  have HL := Lib.hid (recL_length hR.1)
  have HG := Lib.hid (fun j hj => recL_get hR.1 j hj)
  have HA := Lib.hid (rangeAt_boxed (w := w) (g := w.heap.size) (recL R) 69)
  have HRR := Lib.hid hR
  have z0 : (w.alloc (.cells (recL R).toArray 69)).cell? ⟨w.heap.size, 0, none⟩ = some (.int .u32 ((R.getD 0 0 : Nat) : Int)) := by have := HA.out 0 _ (HG.out 0 (by omega)); exact this
  have b0 : R.getD 0 0 < 4294967296 := hR.2 0 (by omega)
  generalize hr0 : R.getD 0 0 = r0 at *
  have HR0 := Lib.hid hr0
  clear hr0 hR
  obtain ⟨L, hL⟩ : ∃ L, L = recL R := ⟨_, rfl⟩
  rw [← hL] at HL HG HA z0 ⊢
  have HLR := Lib.hid hL
  clear hL
  go_enter Try.func39, Try.ntmps39
  by_cases h0 : r0 = 0
  · subst h0
    go_wp2_with fail
    refine bodyPost_ret (v := .tuple #[.slice none 0 0, .int .i64 2]) ?_ rfl ⟨.slice none 0 0, ?_, ?_, ?_⟩
    · simp only [results, show Try.func39.results = #[ResultVar.tmp 2, ResultVar.tmp 3] from rfl]
      simp
    · unfold bnkE; rw [HR0.out]; rfl
    · unfold bnkB; rw [HR0.out, if_pos rfl]; exact ⟨fun _ h => (by cases h), by simp [byteVs], .inl ⟨rfl, rfl⟩⟩
    · (repeat (first | (with_reducible exact Below.refl _ _) | (with_reducible assumption) | (with_reducible refine Below.alloc ?_ (by (repeat (first | (with_reducible exact Nat.le_refl _) | (with_reducible assumption) | (with_reducible refine le_up ?_) | (with_reducible refine le_alloc ?_) | (with_reducible refine le_setCell ?_) | (with_reducible refine le_drew ?_) | (with_reducible refine le_drewN ?_) | omega))) _) | (with_reducible refine Below.drew ?_) | (with_reducible refine Below.drewN ?_ _) | (with_reducible refine Below.setCell ?_ (by (repeat (first | (with_reducible exact Nat.le_refl _) | (with_reducible assumption) | (with_reducible refine le_up ?_) | (with_reducible refine le_alloc ?_) | (with_reducible refine le_setCell ?_) | (with_reducible refine le_drew ?_) | (with_reducible refine le_drewN ?_) | omega))) _) | (with_reducible refine Below.up ?_ (by (repeat (first | (with_reducible exact Nat.le_refl _) | (with_reducible assumption) | (with_reducible refine le_up ?_) | (with_reducible refine le_alloc ?_) | (with_reducible refine le_setCell ?_) | (with_reducible refine le_drew ?_) | (with_reducible refine le_drewN ?_) | omega))))))
  · have h0' : ¬ (r0 : Int) = 0 := by omega
    go_wp2_with fail
    have hb1 : Below w.heap.size w (w.alloc (.cells L.toArray 69)) := (Below.refl _ _).alloc (Nat.le_refl _) _
    refine (bnumber_any r0 4 _ (by omega) (by omega) (by omega)).mono ?_
    rintro e2 w2 ⟨g2, c2, rfl, hg2, hl2, ho2, hb2⟩
    rw [beB_length] at ho2 ⊢
    have hz2 : w.heap.size < w2.heap.size := Nat.lt_of_lt_of_le (by simp) hb2.size
    have HB2 := Lib.hid (show BytesAt w L R w2 (.slice (some ⟨g2, 0, none⟩) 4 c2) 0 from ⟨hb1.trans (hb2.mono (by simp)), rangeAt_below hb2 (by simp) HA.out, by rw [headB_succ HRR.out.1 0 (by omega), headB_zero, HR0.out]; exact ho2.mono (Nat.zero_le _), by simp, fun b hb => by
      simp only [Value.ownBlock, Option.some.injEq] at hb
      rw [World.size_alloc] at hg2; omega, hz2⟩)
    clear hb1 ho2 hg2 hl2 hb2 z0 HA
    go_wp2_with fail
    go_loopw [4, 5] (fun v4 v5 wr => ∃ k : Nat, k ≤ 8 ∧ v5 = .int .i64 (k : Int) ∧ BytesAt w L R wr v4 k) (fun _ v5 _ => 8 - (intOf v5).toNat)
    case atStart => exact ⟨0, by omega, rfl, HB2.out⟩
    case round =>
      obtain ⟨k, hk, rfl, hB⟩ := hrel
      have HB := Lib.hid hB
      clear hB HB2
      by_cases hk8 : k < 8
      · have hm1 := HG.out (1 + 2 * k) (by omega)
        have hm2 := HG.out (2 + 2 * k) (by omega)
        rw [(kinds_mark hk8).1] at hm1
        rw [(kinds_mark hk8).2] at hm2
        have be : R.getD (1 + 2 * k) 0 < 4294967296 := by have := HRR.out.2 (1 + 2 * k) (by omega); rwa [(widths_mark hk8).1] at this
        have bc : R.getD (2 + 2 * k) 0 < 18446744073709551616 := by have := HRR.out.2 (2 + 2 * k) (by omega); rwa [(widths_mark hk8).2] at this
        have i1 : (k : Int) < 8 := by omega
        have i2 : IntKind.i64.wrap ((k : Int) + 1) = ((k + 1 : Nat) : Int) := by rw [IntKind.wrap_i64]; omega
        have i3 : (0 : Int) ≤ (k : Int) := by omega
        have HST := Lib.hid (fun (v5 v6 : Value) (W w5 w6 : World) (H : BytesAt w L R W u4 k) => H.step HRR.out.1 hk8 (w5 := w5) (w6 := w6) (v5 := v5) (v6 := v6))
        have HX := Lib.hid (fun (X : World) (hX : X.rangeAt w.heap.size 0 L) => (show X.cell? ⟨w.heap.size, 1 + k * 2, none⟩ = some (.int .u32 ((R.getD (1 + 2 * k) 0 : Nat) : Int)) ∧ X.cell? ⟨w.heap.size, 1 + k * 2 + 1, none⟩ = some (.int .u64 ((R.getD (2 + 2 * k) 0 : Nat) : Int)) from by
          have e1 := hX _ _ hm1
          have e2 := hX _ _ hm2
          rw [Nat.zero_add] at e1 e2
          rw [show 1 + k * 2 = 1 + 2 * k by omega, show 1 + 2 * k + 1 = 2 + 2 * k by omega]
          exact ⟨e1, e2⟩))
        generalize R.getD (1 + 2 * k) 0 = e at *
        generalize R.getD (2 + 2 * k) 0 = c at *
        clear hm1 hm2
        have hwe : IntKind.u64.wrap (e : Int) = (e : Int) := by simp [IntKind.wrap, IntKind.bits, IntKind.signed]; omega
        have HOL := Lib.hid (fun b hb => (HB.out.own.2.lt b hb).2)
        go_upto_region 7 with fail
        refine wp_region_slim [14, 15] [(0, 3), (1, 3), (2, 3), (3, 3), (4, 3), (5, 0), (6, 3), (9, 3), (10, 3), (11, 3), (12, 3), (13, 0), (7, 1), (8, 1), (14, 2), (15, 2), (16, 3)] (fun X => X.rangeAt w.heap.size 0 L) (by kernel_rfl) (by kernel_rfl) (fun d v c a w h => by cases d <;> exact h) HB.out.rng ?_
        simp only [List.map_cons, List.map_nil, slim]
        refine wpSched_pure ?sv1 rfl (by rfl) (fun W => ?sh1) ?sr1; (case sh1 => (go_simp; try (with_reducible rfl))); simp only [Act.put, List.getElem_toArray, List.getElem_cons_zero, List.getElem_cons_succ, List.setIfInBounds_toArray, List.set_cons_zero, List.set_cons_succ]
        refine wpSched_pure ?sv2 rfl (by rfl) (fun W => ?sh2) ?sr2; (case sh2 => (go_simp; try (with_reducible rfl))); simp only [Act.put, List.getElem_toArray, List.getElem_cons_zero, List.getElem_cons_succ, List.setIfInBounds_toArray, List.set_cons_zero, List.set_cons_succ]
        refine wpSched_pure ?sv3 rfl (by rfl) (fun W => ?sh3) ?sr3; (case sh3 => (go_simp; try (with_reducible rfl))); simp only [Act.put, List.getElem_toArray, List.getElem_cons_zero, List.getElem_cons_succ, List.setIfInBounds_toArray, List.set_cons_zero, List.set_cons_succ]
        refine wpSched_pure ?sv4 rfl (by rfl) (fun W => ?sh4) ?sr4; (case sh4 => (go_simp; try (with_reducible rfl))); simp only [Act.put, List.getElem_toArray, List.getElem_cons_zero, List.getElem_cons_succ, List.setIfInBounds_toArray, List.set_cons_zero, List.set_cons_succ]
        refine wpSched_pure ?sv5 rfl (by rfl) (fun W => ?sh5) ?sr5; (case sh5 => (go_simp; try (with_reducible rfl))); simp only [Act.put, List.getElem_toArray, List.getElem_cons_zero, List.getElem_cons_succ, List.setIfInBounds_toArray, List.set_cons_zero, List.set_cons_succ]
        refine wpSched_still ?sv6 rfl (by rfl) (fun W hW => ?sh6) ?sr6; (case sh6 => (obtain ⟨h1, h2⟩ := HX.out _ hW; go_simp; try (with_reducible rfl))); simp only [Act.put, List.getElem_toArray, List.getElem_cons_zero, List.getElem_cons_succ, List.setIfInBounds_toArray, List.set_cons_zero, List.set_cons_succ]
        refine wpSched_pure ?sv7 rfl (by rfl) (fun W => ?sh7) ?sr7; (case sh7 => (go_simp; try (with_reducible rfl))); simp only [Act.put, List.getElem_toArray, List.getElem_cons_zero, List.getElem_cons_succ, List.setIfInBounds_toArray, List.set_cons_zero, List.set_cons_succ]
        refine wpSched_pure ?sv8 rfl (by rfl) (fun W => ?sh8) ?sr8; (case sh8 => (go_simp; try (with_reducible rfl))); simp only [Act.put, List.getElem_toArray, List.getElem_cons_zero, List.getElem_cons_succ, List.setIfInBounds_toArray, List.set_cons_zero, List.set_cons_succ]
        refine wpSched_pure ?sv9 rfl (by rfl) (fun W => ?sh9) ?sr9; (case sh9 => (go_simp; try (with_reducible rfl))); simp only [Act.put, List.getElem_toArray, List.getElem_cons_zero, List.getElem_cons_succ, List.setIfInBounds_toArray, List.set_cons_zero, List.set_cons_succ]
        refine wpSched_pure ?sv10 rfl (by rfl) (fun W => ?sh10) ?sr10; (case sh10 => (go_simp; try (with_reducible rfl))); simp only [Act.put, List.getElem_toArray, List.getElem_cons_zero, List.getElem_cons_succ, List.setIfInBounds_toArray, List.set_cons_zero, List.set_cons_succ]
        refine wpSched_pure ?sv11 rfl (by rfl) (fun W => ?sh11) ?sr11; (case sh11 => (go_simp; try (with_reducible rfl))); simp only [Act.put, List.getElem_toArray, List.getElem_cons_zero, List.getElem_cons_succ, List.setIfInBounds_toArray, List.set_cons_zero, List.set_cons_succ]
        refine wpSched_still ?sv12 rfl (by rfl) (fun W hW => ?sh12) ?sr12; (case sh12 => (obtain ⟨h1, h2⟩ := HX.out _ hW; go_simp; try (with_reducible rfl))); simp only [Act.put, List.getElem_toArray, List.getElem_cons_zero, List.getElem_cons_succ, List.setIfInBounds_toArray, List.set_cons_zero, List.set_cons_succ]
        have hBD := HB.out.below (Below.drew (Below.refl _ _))
        have hlen : (headB R (1 + 2 * k)).length ≤ 1000 := headB_len HRR.out.1 _
        have hql : w.heap.size < wr.heap.size := HB.out.sz
        have hzd : wr.drew.heap.size = wr.heap.size := rfl
        have hrD : wr.drew.rangeAt w.heap.size 0 L := HB.out.rng
        refine wpSched_eff rfl (by rfl) (fun K hK => ?_); go_simp
        refine (bnumber_any e 4 wr.drew (by omega) (by omega) (by omega)).mono ?_
        rintro e5 w5 ⟨g5, c5, rfl, hg5, hl5, ho5, hb5⟩
        rw [beB_length] at ho5 ⊢
        have hr5 := rangeAt_below hb5 hql hrD
        refine hK _ _ hr5 ?_
        clear hK K
        have hs5 := hb5.size
        obtain ⟨v6, w6, hr6, ho6, hg6, hl6⟩ := run_append_btsA w5 22 u4 _ _ _ (hBD.own.below hb5 (Nat.le_refl _)) ho5.bts (by rw [beB_length]; omega)
        have hrg6 := rangeAt_kept hr5 (by omega) hg6 (fun h => by have := HB.out.loc _ h.symm; omega)
        refine wpSched_run v6 rfl (by rfl) (exec_append (.tmp 17) (.tmp 24) 22 rfl (by rfl) (by rfl) hr6) hrg6 ?_
        simp only [Act.put, List.getElem_toArray, List.getElem_cons_zero, List.getElem_cons_succ, List.setIfInBounds_toArray, List.set_cons_zero, List.set_cons_succ]
        have hs6 := hg6.size
        have g1 := gr_row (gr_below u4.ownBlock hb5) hg6 (fun b hb => .inl hb)
        have l1 : ∀ b, v6.ownBlock = some b → u4.ownBlock = some b ∨ wr.drew.heap.size ≤ b := fun b hb => by
          rcases hl6 with h | h
          · exact .inl (by rw [← h]; exact hb)
          · rw [h] at hb; simp only [Option.some.injEq] at hb; exact .inr (by omega)
        have HG1 := Lib.hid (And.intro g1 (And.intro l1 ho6))
        clear hg6 hl6 hr6 hrg6 hr5 hb5 ho5 g1 l1 ho6
        refine wpSched_tail rfl (by rfl) (fun K hK => ?_); go_simp
        refine (bnumber_any c 8 w6 bc (by omega) (by omega)).mono ?_
        rintro e7 w7 ⟨g7, c7, rfl, hg7, hl7, ho7, hb7⟩
        rw [beB_length] at ho7 ⊢
        refine hK _ _ ?_
        clear hK K
        obtain ⟨v8, w8, hr8, ho8, hg8, hl8⟩ := run_append_btsA w7 22 v6 _ _ _ (HG1.out.2.2.below hb7 (Nat.le_refl _)) ho7.bts (by rw [List.length_append, beB_length, beB_length]; omega)
        refine wpSched_runT v8 rfl (by rfl) (exec_append (.tmp 25) (.tmp 31) 22 rfl (by rfl) (by rfl) hr8) ?_
        simp only [Act.put, List.getElem_toArray, List.getElem_cons_zero, List.getElem_cons_succ, List.setIfInBounds_toArray, List.set_cons_zero, List.set_cons_succ]
        have hs7 := hb7.size
        have HS := Lib.hid (HST.out v6 v8 _ w6 w8 hBD HG1.out.1 HG1.out.2.1 ho8 (gr_row (gr_below v6.ownBlock hb7) hg8 (fun b hb => .inl hb)) (fun h => by
          have := ho8.bts
          rw [h] at this
          have := this.len
          rw [List.length_append, beB_length] at this
          omega) (fun b hb => by
          rcases hl8 with h | h
          · exact .inl (by rw [← h]; exact hb)
          · rw [h] at hb; simp only [Option.some.injEq] at hb; exact .inr (by omega)))
        clear hr8 ho8 hg8 hl8 hb7 ho7 HG1 hBD
        refine wpSched_pure ?sv13 rfl (by rfl) (fun W => ?sh13) ?sr13; (case sh13 => (go_simp; try (with_reducible rfl))); simp only [Act.put, List.getElem_toArray, List.getElem_cons_zero, List.getElem_cons_succ, List.setIfInBounds_toArray, List.set_cons_zero, List.set_cons_succ]
        refine wpSched_nil ?_
        go_wp2_with fail
        exact ⟨⟨k + 1, by omega, (by first | rfl | go_num), HS.out⟩, by simp [intOf]; omega⟩
      · obtain rfl : k = 8 := by omega
        have HX := Lib.hid (fun (X : World) (hX : X.rangeAt w.heap.size 0 L) => (show X.cell? ⟨w.heap.size, 17, none⟩ = some (.int .u32 ((R.getD 17 0 : Nat) : Int)) from by
          have := hX 17 _ (HG.out 17 (by omega))
          rwa [Nat.zero_add] at this))
        have b17 : R.getD 17 0 < 4294967296 := HRR.out.2 17 (by omega)
        have h18 := Lib.hid (headB_succ HRR.out.1 17 (by omega))
        generalize R.getD 17 0 = r17 at *
        haveI hlt : LtSize w.heap.size wr := ⟨HB.out.sz⟩
        have hwe : IntKind.u64.wrap (r17 : Int) = (r17 : Int) := by simp [IntKind.wrap, IntKind.bits, IntKind.signed]; omega
        go_upto_region 8 with fail
        refine wp_region_slim [4, 5, 8] [(0, 3), (1, 3), (2, 0), (3, 3), (6, 3), (7, 3), (4, 2), (5, 2), (8, 2), (9, 3)] (fun X => X.rangeAt w.heap.size 0 L) (by kernel_rfl) (by kernel_rfl) (fun d v c a w h => by cases d <;> exact h) HB.out.rng ?_
        simp only [List.map_cons, List.map_nil, slim]
        refine wpSched_pure ?sv14 rfl (by rfl) (fun W => ?sh14) ?sr14; (case sh14 => (go_simp; try (with_reducible rfl))); simp only [Act.put, List.getElem_toArray, List.getElem_cons_zero, List.getElem_cons_succ, List.setIfInBounds_toArray, List.set_cons_zero, List.set_cons_succ]
        refine wpSched_pure ?sv15 rfl (by rfl) (fun W => ?sh15) ?sr15; (case sh15 => (go_simp; try (with_reducible rfl))); simp only [Act.put, List.getElem_toArray, List.getElem_cons_zero, List.getElem_cons_succ, List.setIfInBounds_toArray, List.set_cons_zero, List.set_cons_succ]
        refine wpSched_still ?sv16 rfl (by rfl) (fun W hW => ?sh16) ?sr16; (case sh16 => (have h1 := HX.out _ hW; go_simp; try (with_reducible rfl))); simp only [Act.put, List.getElem_toArray, List.getElem_cons_zero, List.getElem_cons_succ, List.setIfInBounds_toArray, List.set_cons_zero, List.set_cons_succ]
        refine wpSched_pure ?sv17 rfl (by rfl) (fun W => ?sh17) ?sr17; (case sh17 => (go_simp; try (with_reducible rfl))); simp only [Act.put, List.getElem_toArray, List.getElem_cons_zero, List.getElem_cons_succ, List.setIfInBounds_toArray, List.set_cons_zero, List.set_cons_succ]
        refine wpSched_pure ?sv18 rfl (by rfl) (fun W => ?sh18) ?sr18; (case sh18 => (go_simp; try (with_reducible rfl))); simp only [Act.put, List.getElem_toArray, List.getElem_cons_zero, List.getElem_cons_succ, List.setIfInBounds_toArray, List.set_cons_zero, List.set_cons_succ]
        refine wpSched_pure ?sv19 rfl (by rfl) (fun W => ?sh19) ?sr19; (case sh19 => (go_simp; try (with_reducible rfl))); simp only [Act.put, List.getElem_toArray, List.getElem_cons_zero, List.getElem_cons_succ, List.setIfInBounds_toArray, List.set_cons_zero, List.set_cons_succ]
        have hBD := HB.out.below (Below.drew (Below.refl _ _))
        have hlen : (headB R (1 + 2 * 8)).length ≤ 1000 := headB_len HRR.out.1 _
        refine wpSched_tail rfl (by rfl) (fun K hK => ?_); go_simp
        refine (bnumber_any r17 4 wr.drew (by omega) (by omega) (by omega)).mono ?_
        rintro e5 w5 ⟨g5, c5, rfl, hg5, hl5, ho5, hb5⟩
        rw [beB_length] at ho5 ⊢
        refine hK _ _ ?_
        clear hK K
        obtain ⟨v6, w6, hr6, ho6, hg6, hl6⟩ := run_append_btsA w5 22 u4 _ _ _ (hBD.own.below hb5 (Nat.le_refl _)) ho5.bts (by rw [beB_length]; omega)
        refine wpSched_runT v6 rfl (by rfl) (exec_append (.tmp 33) (.tmp 37) 22 rfl (by rfl) (by rfl) hr6) ?_
        simp only [Act.put, List.getElem_toArray, List.getElem_cons_zero, List.getElem_cons_succ, List.setIfInBounds_toArray, List.set_cons_zero, List.set_cons_succ]
        have h18' : headB R (1 + 2 * 8) ++ beB 4 r17 = headB R 18 := h18.out.symm
        rw [h18'] at ho6
        have hr5 := rangeAt_below hb5 (show w.heap.size < wr.drew.heap.size from HB.out.sz) hBD.rng
        have hq5 : w.heap.size < w5.heap.size := Nat.lt_of_lt_of_le HB.out.sz hb5.size
        have hrg := rangeAt_kept hr5 hq5 hg6 (fun h => by have := HB.out.loc _ h.symm; omega)
        have hkey := rangeAt_sub hrg 18 32
        rw [HLR.out, key_list HRR.out.1] at hkey
        have hbk := bts_of_range hkey (drop18_lt HRR.out) (Nat.lt_of_lt_of_le hq5 hg6.size) (by rw [List.length_drop, HRR.out.1]; decide)
        rw [Nat.zero_add, show (R.drop 18).length = 32 by rw [List.length_drop, HRR.out.1]] at hbk
        obtain ⟨v7, w7, hr7, ho7, hg7, hl7⟩ := run_append_btsA w6 22 v6 _ _ _ ho6 hbk (by have := headB_len HRR.out.1 18; rw [List.length_drop, HRR.out.1]; omega)
        refine wpSched_runT v7 rfl (by rfl) (exec_append (.tmp 38) (.tmp 40) 22 rfl (by rfl) (by rfl) hr7) ?_
        simp only [Act.put, List.getElem_toArray, List.getElem_cons_zero, List.getElem_cons_succ, List.setIfInBounds_toArray, List.set_cons_zero, List.set_cons_succ]
        have hbw6 : Below w.heap.size w w6 := (hBD.bel.trans (hb5.mono hBD.bel.size)).grown hg6 (Nat.le_of_lt hq5) (fun b hb => by have := HB.out.loc b hb; omega)
        have hbw7 : Below w.heap.size w w7 := hbw6.grown hg7 hbw6.size (fun b hb => by
          rcases hl6 with h | h
          · rw [h] at hb; have := HB.out.loc b hb; omega
          · rw [h] at hb; simp only [Option.some.injEq] at hb; omega)
        rw [← recB_eq HRR.out] at ho7
        have HO7 := Lib.hid (And.intro ho7 hbw7)
        clear hr7 ho7 hg7 hl7 hbw6 hbw7 hbk hkey hrg hr5 hr6 ho6 hg6 hl6 hb5 ho5 hBD
        refine wpSched_pure ?sv20 rfl (by rfl) (fun W => ?sh20) ?sr20; (case sh20 => (go_simp; try (with_reducible rfl))); simp only [Act.put, List.getElem_toArray, List.getElem_cons_zero, List.getElem_cons_succ, List.setIfInBounds_toArray, List.set_cons_zero, List.set_cons_succ]
        refine wpSched_nil ?_
        go_wp2_with fail
        refine (rPut_any v7 (recB R) w7 HO7.out.1.bts (by rw [recB_length HRR.out.1]; omega)).mono ?_
        rintro e9 w9 ⟨g9, c9, rfl, hg9, hl9, ho9, hb9⟩
        have HO9 := Lib.hid (ho9.mono HO7.out.2.size)
        have HB9 := Lib.hid (HO7.out.2.trans (hb9.mono HO7.out.2.size))
        clear ho9 hb9 hg9 hl9
        go_wp2_with fail
        refine bodyPost_ret (v := .tuple #[.slice (some ⟨g9, 0, none⟩) (putB (recB R)).length c9, .int .i64 0]) ?_ rfl ⟨.slice (some ⟨g9, 0, none⟩) (putB (recB R)).length c9, ?_, ?_, HB9.out⟩
        · simp only [results, show Try.func39.results = #[ResultVar.tmp 2, ResultVar.tmp 3] from rfl]
          simp
        · unfold bnkE; rw [HR0.out, if_neg h0]
        · unfold bnkB; rw [HR0.out, if_neg h0]; exact HO9.out
end Go.Proofs.Ytjkgodhoonkinaa
