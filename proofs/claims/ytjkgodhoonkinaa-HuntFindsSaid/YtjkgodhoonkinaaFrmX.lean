/-
  The walks over the reference's Signed, Put and Read of frames.
-/
import Derived.Test.YtjkgodhoonkinaaFrmV
import Derived.Test.YtjkgodhoonkinaaSched
namespace Go.Proofs.Ytjkgodhoonkinaa
open Go.RowKit
set_option linter.unusedVariables false
set_option linter.unusedSimpArgs false

/-- append, by its run: both of bytes, the first of the call's own. -/
theorem run_append_bts {w : World} (ty : TypeId) (base : Nat) (v : Value) (xs : List Nat) (hown : OwnB w base v xs) (u : Value) (ys : List Nat) (hu : Bts w u ys) (hlen : xs.length + ys.length ≤ 140737488355328) (hbase : base ≤ w.heap.size) :
    ∃ v' w', (Builtin.append_ #[22, 22] ty #[v, u]).run Try.prog w = .ok v' w' ∧ OwnB w' base v' (xs ++ ys) ∧ w.grownBy w' v.ownBlock ∧ (v ≠ .slice none 0 0 → v' ≠ .slice none 0 0) := by
  obtain ⟨i0, hi, hz0, hz1, hz2⟩ := info_parts info_u8
  obtain ⟨hb, ⟨rfl, rfl⟩ | ⟨ad, cap, rfl, rfl⟩ | ⟨b, off, cap, rfl, hl, hc, hbs, hcell⟩⟩ := hu
  · refine ⟨v, w, run_append_owned_none (P := Try.prog) (w := w) base 22 ty 5 i0 1 Try.underlying22 hi v xs.length (byteVs xs) hown.2, ?_, ⟨rfl, rfl, rfl, Nat.le_refl _, fun _ _ _ => rfl⟩, id⟩
    rw [List.append_nil]; exact hown
  · obtain ⟨v', w', hr, h2, h3, h4⟩ := run_append_own (P := Try.prog) w base 22 ty 5 i0 (.int .u8 0) 1 1 Try.underlying22 hi hz0 hz1 hz2 rfl (by decide) v xs.length (byteVs xs) hown.2 ad 0 cap [] rfl (fun j u hj => by simp at hj) (fun u hu => by cases hu) (by unfold maxLen; simp at hlen; omega) (by simp at hlen; omega) hbase
    refine ⟨v', w', hr, ?_, h3, fun hne he => hne (h4.1 he).1⟩
    simp only [List.append_nil, Nat.add_zero] at h2 ⊢
    exact ⟨hown.1, h2⟩
  · obtain ⟨v', w', hr, h2, h3, h4⟩ := run_append_own (P := Try.prog) w base 22 ty 5 i0 (.int .u8 0) 1 1 Try.underlying22 hi hz0 hz1 hz2 rfl (by decide) v xs.length (byteVs xs) hown.2 ⟨b, off, none⟩ ys.length cap (byteVs ys) (by rw [byteVs_length]; omega) (fun j u hj => by
        rcases Nat.lt_or_ge j ys.length with hjl | hjl
        · rw [byteVs_get ys j hjl] at hj; rw [Addr.add_lit, ← hj]; exact hcell j hjl
        · rw [List.getElem?_eq_none (by rw [byteVs_length]; exact hjl)] at hj; cases hj) (fun u hu => by obtain ⟨n, _, rfl⟩ := List.mem_map.1 hu; rfl) (by unfold maxLen; omega) (by omega) hbase
    refine ⟨v', w', hr, ⟨fun z hz => ?_, ?_⟩, h3, fun hne he => hne (h4.1 he).1⟩
    · rcases List.mem_append.1 hz with hz | hz
      · exact hown.1 z hz
      · exact hb z hz
    · rw [byteVs_append, List.length_append]; exact h2
theorem kept_cell' {w w' : World} {x o : Nat} {v : Value} {row : Option Nat} (hc : w.cell? ⟨x, o, none⟩ = some v) (hg : w.grownBy w' row) (hne : row ≠ some x) : w'.cell? ⟨x, o, none⟩ = some v := by
  have hlt : x < w.heap.size := World.block_lt_of_cell? w ⟨x, o, none⟩ hc
  rw [World.cell?_of_block (a := ⟨x, o, none⟩) (hg.block x hlt (fun e => hne e.symm))]; exact hc
set_option maxRecDepth 100000 in
set_option maxHeartbeats 3200000 in
theorem rSigned_any (f : FrmS) (v : Value) (w : World) (h : FrA w f v) (hl : f.body.length ≤ 1000000) :
    Calls Try.prog 27 #[v] w (GivesB w (signedB f)) := by
  obtain ⟨bv, rfl, hb, he, hc, ht, htl⟩ := h
  have l0 : (frL f bv)[0]? = some (.int .i64 f.kind) := rfl
  have l1 : (frL f bv)[1]? = some (.int .i64 f.source) := rfl
  have l2 : (frL f bv)[2]? = some (.int .u32 ((f.epoch : Nat) : Int)) := rfl
  have l3 : (frL f bv)[3]? = some (.int .u64 ((f.counter : Nat) : Int)) := rfl
  have l4 : (frL f bv)[4]? = some bv := rfl
  have hS := Lib.hid (show signedB f = ([byteI f.kind, byteI f.source] ++ beB 4 f.epoch ++ beB 8 f.counter) ++ f.body from rfl)
  obtain ⟨va, vn, vc, rfl⟩ := hb.slice
  have HBV := Lib.hid hb
  obtain ⟨fk, fs, fe, fc, fb, ft⟩ := f
  dsimp only at l0 l1 l2 l3 l4 he hc hl HBV hS
  generalize frL ⟨fk, fs, fe, fc, fb, ft⟩ (.slice va vn vc) = L at *
  have hlit := Lib.hid (show (#[Value.int .u8 (fk % 256), Value.int .u8 (fs % 256)] : Array Value).toList = byteVs [byteI fk, byteI fs] by simp [byteVs, byteI]; omega)
  have hlitb := Lib.hid (show ∀ x ∈ [byteI fk, byteI fs], x < 256 by intro x hx; simp at hx; rcases hx with rfl | rfl <;> exact byteI_lt _)
  have hwe : IntKind.u64.wrap ((fe : Nat) : Int) = ((fe : Nat) : Int) := by rw [IntKind.wrap_u64]; omega
  clear hb ht htl
  go_enter Try.func27, Try.ntmps27
  go_upto_region 2 with fail
  refine wp_gen (fun W => Below w.heap.size w W ∧ W.cell? ⟨w.heap.size, 2, none⟩ = some (.int .u32 ((fe : Nat) : Int)) ∧ W.cell? ⟨w.heap.size, 3, none⟩ = some (.int .u64 ((fc : Nat) : Int)) ∧ W.cell? ⟨w.heap.size, 4, none⟩ = some (.slice va vn vc) ∧ OwnB W (w.heap.size + 1) (.slice (some ⟨w.heap.size + 1, 0, none⟩) 2 2) [byteI fk, byteI fs] ∧ w.heap.size + 1 < W.heap.size)
    ⟨by (repeat (first | (with_reducible exact Below.refl _ _) | (with_reducible assumption) | (with_reducible refine Below.alloc ?_ (by (repeat (first | (with_reducible exact Nat.le_refl _) | (with_reducible assumption) | (with_reducible refine le_up ?_) | (with_reducible refine le_alloc ?_) | (with_reducible refine le_setCell ?_) | (with_reducible refine le_drew ?_) | (with_reducible refine le_drewN ?_) | omega))) _) | (with_reducible refine Below.drew ?_) | (with_reducible refine Below.drewN ?_ _) | (with_reducible refine Below.setCell ?_ (by (repeat (first | (with_reducible exact Nat.le_refl _) | (with_reducible assumption) | (with_reducible refine le_up ?_) | (with_reducible refine le_alloc ?_) | (with_reducible refine le_setCell ?_) | (with_reducible refine le_drew ?_) | (with_reducible refine le_drewN ?_) | omega))) _) | (with_reducible refine Below.up ?_ (by (repeat (first | (with_reducible exact Nat.le_refl _) | (with_reducible assumption) | (with_reducible refine le_up ?_) | (with_reducible refine le_alloc ?_) | (with_reducible refine le_setCell ?_) | (with_reducible refine le_drew ?_) | (with_reducible refine le_drewN ?_) | omega)))))), by simp [l2], by simp [l3], by simp [l4], by have := OwnB.lit (w.alloc (.cells L.toArray 28)) hlit.out hlitb.out (by simp); simpa using this, by simp⟩ ?_
  rintro W ⟨hbw, x2, x3, x4, ho, hlt⟩
  have HW := Lib.hid (And.intro hbw (And.intro x2 (And.intro x3 (And.intro x4 (And.intro ho hlt)))))
  clear hbw x2 x3 x4 ho hlt l0 l1 l2 l3 l4
  refine wp_region_sched [8, 9] [(0, 3), (1, 3), (2, 0), (3, 3), (6, 3), (7, 0), (4, 1), (5, 1), (8, 2), (9, 2), (10, 3)] (fun W => W.cell? ⟨w.heap.size, 2, none⟩ = some (.int .u32 ((fe : Nat) : Int)) ∧ W.cell? ⟨w.heap.size, 3, none⟩ = some (.int .u64 ((fc : Nat) : Int))) (by kernel_rfl) (by kernel_rfl) (fun d v c a w h => by cases d <;> exact h) ⟨HW.out.2.1, HW.out.2.2.1⟩ ?_
  refine wpSched_pure ?sv1 rfl (by rfl) (fun W => ?sh1) ?sr1; (case sh1 => (go_simp; try (with_reducible rfl))); simp only [Act.put, List.getElem_toArray, List.getElem_cons_zero, List.getElem_cons_succ, List.setIfInBounds_toArray, List.set_cons_zero, List.set_cons_succ]
  refine wpSched_pure ?sv2 rfl (by rfl) (fun W => ?sh2) ?sr2; (case sh2 => (go_simp; try (with_reducible rfl))); simp only [Act.put, List.getElem_toArray, List.getElem_cons_zero, List.getElem_cons_succ, List.setIfInBounds_toArray, List.set_cons_zero, List.set_cons_succ]
  refine wpSched_still ?sv3 rfl (by rfl) (fun W hW => ?sh3) ?sr3; (case sh3 => (obtain ⟨h2, h3⟩ := hW; go_simp; try (with_reducible rfl))); simp only [Act.put, List.getElem_toArray, List.getElem_cons_zero, List.getElem_cons_succ, List.setIfInBounds_toArray, List.set_cons_zero, List.set_cons_succ]
  refine wpSched_pure ?sv4 rfl (by rfl) (fun W => ?sh4) ?sr4; (case sh4 => (go_simp; try (with_reducible rfl))); simp only [Act.put, List.getElem_toArray, List.getElem_cons_zero, List.getElem_cons_succ, List.setIfInBounds_toArray, List.set_cons_zero, List.set_cons_succ]
  refine wpSched_pure ?sv5 rfl (by rfl) (fun W => ?sh5) ?sr5; (case sh5 => (go_simp; try (with_reducible rfl))); simp only [Act.put, List.getElem_toArray, List.getElem_cons_zero, List.getElem_cons_succ, List.setIfInBounds_toArray, List.set_cons_zero, List.set_cons_succ]
  refine wpSched_still ?sv6 rfl (by rfl) (fun W hW => ?sh6) ?sr6; (case sh6 => (obtain ⟨h2, h3⟩ := hW; go_simp; try (with_reducible rfl))); simp only [Act.put, List.getElem_toArray, List.getElem_cons_zero, List.getElem_cons_succ, List.setIfInBounds_toArray, List.set_cons_zero, List.set_cons_succ]
  refine wpSched_eff rfl (by rfl) (fun K hK => ?_); go_simp
  refine (number_any fe 4 _ (by omega) (by omega) (by omega)).mono ?_
  rintro e4 w4 ⟨g4, q4, rfl, hg4, hl4, ho4, hb4⟩
  have b4 : Below w.heap.size w w4 := HW.out.1.drew.trans (hb4.mono HW.out.1.size)
  have hlw4 : w.heap.size + 1 < w4.heap.size := Nat.lt_of_lt_of_le HW.out.2.2.2.2.2 hb4.size
  have h01 : w.heap.size < W.heap.size := by have := HW.out.2.2.2.2.2; omega
  have HS4 := Lib.hid (show w4.cell? ⟨w.heap.size, 2, none⟩ = some (.int .u32 ((fe : Nat) : Int)) ∧ w4.cell? ⟨w.heap.size, 3, none⟩ = some (.int .u64 ((fc : Nat) : Int)) from ⟨cell_below hb4 h01 HW.out.2.1, cell_below hb4 h01 HW.out.2.2.1⟩)
  have HX4 := Lib.hid (show w4.cell? ⟨w.heap.size, 4, none⟩ = some (.slice va vn vc) from cell_below hb4 h01 HW.out.2.2.2.1)
  have HO4 := Lib.hid (show OwnB w4 (w.heap.size + 1) (.slice (some ⟨w.heap.size + 1, 0, none⟩) 2 2) [byteI fk, byteI fs] from HW.out.2.2.2.2.1.below (Below.trans (Below.drew (Below.refl W.heap.size W)) hb4) (Nat.le_refl _))
  have HT4 := Lib.hid ho4.bts
  have B4 := Lib.hid b4
  rw [beB_length] at HT4 ⊢
  refine hK _ _ HS4.out ?_
  clear hK K ho4 hb4 b4 hl4 hg4
  have h4z := hlw4
  obtain ⟨v5, w5, hr5, ho5, hg5, hne5⟩ := run_append_bts (w := w4) 22 _ _ _ HO4.out _ _ HT4.out (by rw [beB_length]; simp) (by omega)
  have hS5 : w5.cell? ⟨w.heap.size, 2, none⟩ = some (.int .u32 ((fe : Nat) : Int)) ∧ w5.cell? ⟨w.heap.size, 3, none⟩ = some (.int .u64 ((fc : Nat) : Int)) := ⟨kept_cell HS4.out.1 hg5 (show w.heap.size ≠ w.heap.size + 1 by omega), kept_cell HS4.out.2 hg5 (show w.heap.size ≠ w.heap.size + 1 by omega)⟩
  have HX5 := Lib.hid (kept_cell HX4.out hg5 (show w.heap.size ≠ w.heap.size + 1 by omega))
  refine wpSched_run v5 rfl (by rfl) (exec_append (.tmp 11) (.tmp 15) 22 rfl (by rfl) (by rfl) hr5) hS5 ?_
  simp only [Act.put, List.getElem_toArray, List.getElem_cons_zero, List.getElem_cons_succ, List.setIfInBounds_toArray, List.set_cons_zero, List.set_cons_succ]
  have HO5 := Lib.hid ho5
  have B5 := Lib.hid (B4.out.grown hg5 B4.out.size (fun k hk => by cases hk; exact Nat.le_succ _))
  have HN5 := Lib.hid (hne5 (by simp))
  have hz5 := hg5.size
  clear ho5 hg5 hne5 hr5 hS5 HS4 HX4 HO4 HT4 B4
  refine wpSched_tail rfl (by rfl) (fun K hK => ?_); go_simp
  refine (number_any fc 8 _ (by omega) (by omega) (by omega)).mono ?_
  rintro e8 w8 ⟨g8, q8, rfl, hg8, hl8, ho8, hb8⟩
  have HX8 := Lib.hid (cell_below hb8 (by omega) HX5.out)
  have HO8 := Lib.hid (HO5.out.below hb8 (Nat.le_refl _))
  have HT8 := Lib.hid ho8.bts
  have B8 := Lib.hid (B5.out.trans (hb8.mono B5.out.size))
  have hz8 := hb8.size
  rw [beB_length] at HT8 ⊢
  refine hK _ _ ?_
  clear hK K ho8 hb8 hl8 hg8 HX5 HO5 B5
  obtain ⟨v9, w9, hr9, ho9, hg9, hne9⟩ := run_append_bts (w := w8) 22 _ _ _ HO8.out _ _ HT8.out (by rw [List.length_append, beB_length, beB_length]; simp) (by omega)
  have HX9 := Lib.hid (kept_cell' HX8.out hg9 (fun e => by have := HO8.out.own _ e; omega))
  refine wpSched_runT v9 rfl (by rfl) (exec_append (.tmp 16) (.tmp 19) 22 rfl (by rfl) (by rfl) hr9) ?_
  simp only [Act.put, List.getElem_toArray, List.getElem_cons_zero, List.getElem_cons_succ, List.setIfInBounds_toArray, List.set_cons_zero, List.set_cons_succ]
  have HO9 := Lib.hid ho9
  have B9 := Lib.hid (B8.out.grown hg9 B8.out.size (fun k hk => by have := HO8.out.own _ hk; omega))
  have HN9 := Lib.hid (hne9 HN5.out)
  have hz9 := hg9.size
  clear ho9 hg9 hne9 hr9 HX8 HO8 HT8 B8 HN5
  refine wpSched_pure ?sv7 rfl (by rfl) (fun W => ?sh7) ?sr7; (case sh7 => (go_simp; try (with_reducible rfl))); simp only [Act.put, List.getElem_toArray, List.getElem_cons_zero, List.getElem_cons_succ, List.setIfInBounds_toArray, List.set_cons_zero, List.set_cons_succ]
  refine wpSched_nil ?_
  have hx9 := HX9.out
  go_wp2_with (at_builtin; refine wpList_append_bts rfl _ _ rfl (w.heap.size + 1) v9 _ (by rfl) HO9.out (.slice va vn vc) fb (by rfl) (HBV.out.below B9.out) (by simp only [List.length_append, beB_length]; simp; omega) (by omega) (fun v' w' ho hg hne => ?_); have HO := Lib.hid ho; have HG := Lib.hid hg; have HN := Lib.hid hne; clear ho hg hne)
  go_ret
  refine GivesB.mk ?_ (HN.out HN9.out) (B9.out.grown HG.out B9.out.size (fun k hk => by have := HO9.out.own _ hk; omega))
  rw [hS.out]; exact HO.out.mono (by omega)
end Go.Proofs.Ytjkgodhoonkinaa
