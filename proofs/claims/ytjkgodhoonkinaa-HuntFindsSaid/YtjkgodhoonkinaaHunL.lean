/-
  The walk over the law's list: are two slices of frames the same?
-/
import Derived.Test.YtjkgodhoonkinaaHunS
namespace Go.Proofs.Ytjkgodhoonkinaa
open Go.RowKit
set_option linter.unusedVariables false
set_option linter.unusedSimpArgs false

theorem FrsO.shape {w : World} {base : Nat} {v : Value} {fs : List FrmS} (h : FrsO w base v fs) : ∃ a c, v = .slice a fs.length c ∧ fs.length ≤ c ∧ (fs = [] ∨ ∃ g, a = some ⟨g, 0, none⟩ ∧ g < w.heap.size) := by
  obtain ⟨bvs, h1, h2, h3⟩ := h
  rcases h2.2 with ⟨rfl, e⟩ | ⟨g, cap, cur, rfl, _, hg, hc, _⟩
  · exact ⟨none, 0, by rw [e], by omega, .inl (List.eq_nil_of_length_eq_zero e)⟩
  · exact ⟨_, cap, rfl, hc, .inr ⟨g, rfl, heap_lt hg⟩⟩
open Classical in
noncomputable def sameL (fs gs : List FrmS) : Bool := decide (fs = gs)
theorem sameL_no {fs gs : List FrmS} (h : fs ≠ gs) : sameL fs gs = false := by unfold sameL; simp [h]
theorem sameL_yes (fs : List FrmS) : sameL fs fs = true := by unfold sameL; simp
theorem FrLim.fr {w : World} {base : Nat} {f : FrmS} {bv : Value} (ho : OwnB w base bv f.body) (hl : FrLim f) : FrA w f (.agg (frL f bv).toArray) := ⟨bv, rfl, ho.bts, hl.1, hl.2.1, hl.2.2.1, hl.2.2.2⟩
set_option maxRecDepth 200000 in
set_option maxHeartbeats 4000000 in
theorem list_any (v u : Value) (fs gs : List FrmS) (b1 b2 : Nat) (w : World) (hv : FrsO w b1 v fs) (hu : FrsO w b2 u gs) (hl : fs.length ≤ 1000000) :
    Calls Try.prog 35 #[v, u] w (Gives w (.bool (sameL fs gs))) := by
  have HV := Lib.hid hv
  have HU := Lib.hid hu
  obtain ⟨va, vc, rfl, hvc, hvs⟩ := hv.shape
  obtain ⟨ua, uc, rfl, huc, hus⟩ := hu.shape
  clear hv hu
  have HL := Lib.hid hl
  clear hl
  go_enter Try.func35, Try.ntmps35
  by_cases hlen : fs.length = gs.length
  · rw [← hlen] at huc HU ⊢
    generalize hn : fs.length = n at *
    have HN := Lib.hid (And.intro hn hlen.symm)
    clear hn hlen
    go_wp2_with fail
    go_loopw [5] (fun v5 wr => ∃ k, v5 = .int .i64 ((k : Nat) : Int) ∧ k ≤ n ∧ Below w.heap.size w wr ∧ ∀ j, j < k → fs[j]? = gs[j]?) (fun v5 _ => n + 1 - (intOf v5).toNat)
    case atStart => exact ⟨0, rfl, Nat.zero_le _, Below.refl _ _, fun j hj => absurd hj (by omega)⟩
    case round =>
      obtain ⟨k, rfl, hk, hb, hall⟩ := hrel
      have HB := Lib.hid (And.intro hb hall)
      clear hb hall
      by_cases hkl : k < n
      · obtain ⟨g, rfl, hg⟩ := hvs.resolve_left (fun e => by have := HN.out.1; rw [e] at this; simp at this; omega)
        obtain ⟨g2, rfl, hg2⟩ := hus.resolve_left (fun e => by have := HN.out.2; rw [e] at this; simp at this; omega)
        obtain ⟨f, hf⟩ : ∃ f, fs[k]? = some f := ⟨_, List.getElem?_eq_getElem (by have := HN.out.1; omega)⟩
        obtain ⟨f2, hf2⟩ : ∃ f, gs[k]? = some f := ⟨_, List.getElem?_eq_getElem (by have := HN.out.2; omega)⟩
        obtain ⟨bv, hr, ho, hlm⟩ := HV.out.at k f hf
        obtain ⟨bv2, hr2, ho2, hlm2⟩ := HU.out.at k f2 hf2
        have HF := Lib.hid (FrLim.fr ho hlm)
        have HF2 := Lib.hid (FrLim.fr ho2 hlm2)
        obtain ⟨L, hL⟩ : ∃ L, L = frL f bv := ⟨_, rfl⟩
        obtain ⟨M, hM⟩ : ∃ M, M = frL f2 bv2 := ⟨_, rfl⟩
        have HL1 := Lib.hid (show L.length = 21 by rw [hL]; exact frL_length _ _ hlm.2.2.1)
        have HM1 := Lib.hid (show M.length = 21 by rw [hM]; exact frL_length _ _ hlm2.2.2.1)
        rw [← hL] at HF hr
        rw [← hM] at HF2 hr2
        have HR := Lib.hid (And.intro hr hr2)
        have HFK := Lib.hid (And.intro hf hf2)
        have i0 : IntKind.i64.wrap ((k : Int) + 1) = ((k + 1 : Nat) : Int) := by rw [IntKind.wrap_i64]; have := HL.out; omega
        have i1 : (0 : Int) ≤ (k : Int) := by omega
        have i2 : (k : Int) < (n : Int) := by omega
        clear ho hlm ho2 hlm2 hL hM hr hr2 hf hf2
        go_upto_region 6 with fail
        refine wp_region_slim [8] [(0, 3), (1, 3), (2, 3), (3, 0), (4, 3), (5, 3), (6, 3), (7, 0), (8, 2), (9, 3)] (fun X => Below w.heap.size w X) (by kernel_rfl) (by kernel_rfl) (fun d v c a w h => by cases d <;> exact h) (Below.drew HB.out.1) ?_
        simp only [List.map_cons, List.map_nil, slim]
        refine wpSched_pure ?sv1 rfl (by rfl) (fun W => ?sh1) ?sr1; (case sh1 => (go_simp; try (with_reducible rfl))); simp only [Act.put, List.getElem_toArray, List.getElem_cons_zero, List.getElem_cons_succ, List.setIfInBounds_toArray, List.set_cons_zero, List.set_cons_succ]
        refine wpSched_pure ?sv2 rfl (by rfl) (fun W => ?sh2) ?sr2; (case sh2 => (go_simp; try (with_reducible rfl))); simp only [Act.put, List.getElem_toArray, List.getElem_cons_zero, List.getElem_cons_succ, List.setIfInBounds_toArray, List.set_cons_zero, List.set_cons_succ]
        refine wpSched_pure ?sv3 rfl (by rfl) (fun W => ?sh3) ?sr3; (case sh3 => (go_simp; try (with_reducible rfl))); simp only [Act.put, List.getElem_toArray, List.getElem_cons_zero, List.getElem_cons_succ, List.setIfInBounds_toArray, List.set_cons_zero, List.set_cons_succ]
        refine wpSched_load 28 (.tmp 19) g (k * 21) L _ rfl rfl (by rfl) (by rfl) (fun X hX => rangeAt_below hX hg HR.out.1) Try.underlying28 (by rfl) (by rw [HL1.out]; kernel_rfl) ?_
        simp only [Act.put, List.getElem_toArray, List.getElem_cons_zero, List.getElem_cons_succ, List.setIfInBounds_toArray, List.set_cons_zero, List.set_cons_succ]
        refine wpSched_pure ?sv4 rfl (by rfl) (fun W => ?sh4) ?sr4; (case sh4 => (go_simp; try (with_reducible rfl))); simp only [Act.put, List.getElem_toArray, List.getElem_cons_zero, List.getElem_cons_succ, List.setIfInBounds_toArray, List.set_cons_zero, List.set_cons_succ]
        refine wpSched_pure ?sv5 rfl (by rfl) (fun W => ?sh5) ?sr5; (case sh5 => (go_simp; try (with_reducible rfl))); simp only [Act.put, List.getElem_toArray, List.getElem_cons_zero, List.getElem_cons_succ, List.setIfInBounds_toArray, List.set_cons_zero, List.set_cons_succ]
        refine wpSched_pure ?sv6 rfl (by rfl) (fun W => ?sh6) ?sr6; (case sh6 => (go_simp; try (with_reducible rfl))); simp only [Act.put, List.getElem_toArray, List.getElem_cons_zero, List.getElem_cons_succ, List.setIfInBounds_toArray, List.set_cons_zero, List.set_cons_succ]
        refine wpSched_load 28 (.tmp 23) g2 (k * 21) M _ rfl rfl (by rfl) (by rfl) (fun X hX => rangeAt_below hX hg2 HR.out.2) Try.underlying28 (by rfl) (by rw [HM1.out]; kernel_rfl) ?_
        simp only [Act.put, List.getElem_toArray, List.getElem_cons_zero, List.getElem_cons_succ, List.setIfInBounds_toArray, List.set_cons_zero, List.set_cons_succ]
        refine wpSched_tail rfl (by rfl) (fun K hK => ?_); go_simp
        refine (rSameA f f2 _ _ _ (HF.out.below (Below.drew HB.out.1)) (HF2.out.below (Below.drew HB.out.1))).mono ?_
        rintro e W ⟨rfl, x, rfl⟩
        refine hK _ _ ?_
        clear hK K
        have HB2 := Lib.hid (show Below w.heap.size w (up wr.drew x) from (Below.drew HB.out.1).trans ((up_below _ _).mono HB.out.1.size))
        generalize up wr.drew x = W at *
        by_cases hs : f = f2
        · subst hs
          rw [sameF_yes]
          refine wpSched_pure ?sv7 rfl (by rfl) (fun W => ?sh7) ?sr7; (case sh7 => (go_simp; try (with_reducible rfl))); simp only [Act.put, List.getElem_toArray, List.getElem_cons_zero, List.getElem_cons_succ, List.setIfInBounds_toArray, List.set_cons_zero, List.set_cons_succ]
          refine wpSched_nil ?_
          go_wp2_with fail
          refine ⟨⟨k + 1, (by first | rfl | go_num), by omega, HB2.out, ?_⟩, by simp [intOf]; omega⟩
          intro j hj
          rcases Nat.lt_or_ge j k with h | h
          · exact HB.out.2 j h
          · obtain rfl : j = k := by omega
            rw [HFK.out.1, HFK.out.2]
        · rw [sameF_no hs]
          have hno : sameL fs gs = false := by
            refine sameL_no ?_
            intro e
            have h := HFK.out
            rw [e, h.2] at h
            exact hs (Option.some.inj h.1).symm
          have HNO := Lib.hid hno
          clear hno
          refine wpSched_pure ?sv8 rfl (by rfl) (fun W => ?sh8) ?sr8; (case sh8 => (go_simp; try (with_reducible rfl))); simp only [Act.put, List.getElem_toArray, List.getElem_cons_zero, List.getElem_cons_succ, List.setIfInBounds_toArray, List.set_cons_zero, List.set_cons_succ]
          refine wpSched_nil ?_
          go_wp2_with fail
          go_ret
          exact Gives.mk (by rw [HNO.out]; rfl) HB2.out
      · obtain rfl : k = n := by omega
        have he : fs = gs := by
          refine List.ext_getElem? (fun j => ?_)
          rcases Nat.lt_or_ge j k with h | h
          · exact HB.out.2 j h
          · rw [List.getElem?_eq_none (by have := HN.out.1; omega), List.getElem?_eq_none (by have := HN.out.2; omega)]
        have HNO := Lib.hid (show sameL fs gs = true by rw [he, sameL_yes])
        clear he
        go_wp2_with fail
        go_ret
        exact Gives.mk (by rw [HNO.out]; rfl) HB.out.1
  · have i4 : ((fs.length : Int) != (gs.length : Int)) = true := by simp; omega
    rw [sameL_no (fun e => hlen (by rw [e]))]
    go_wp2_with fail
    go_ret
    exact Gives.mk rfl (Below.refl _ _)
end Go.Proofs.Ytjkgodhoonkinaa
