/-
  The walk over the reference's Read of frames: the good way.
-/
import Derived.Test.YtjkgodhoonkinaaFrmZ
namespace Go.Proofs.Ytjkgodhoonkinaa
open Go.RowKit
set_option linter.unusedVariables false
set_option linter.unusedSimpArgs false

theorem tag_step (TG : List Nat) (k : Nat) (h : TG.length = 16) (hk : k < 16) : (TG.take k ++ List.replicate (16 - k) 0).set k (TG.getD k 0) = TG.take (k + 1) ++ List.replicate (16 - (k + 1)) 0 := by
  rw [List.set_append_right _ _ (by rw [List.length_take]; omega), List.length_take, Nat.min_eq_left (by omega), Nat.sub_self, show 16 - k = (16 - (k + 1)) + 1 by omega, List.replicate_succ, List.set_cons_zero, take_succ_getD TG k (by omega), List.append_assoc]
  rfl
theorem frL_settag (f : FrmS) (bv : Value) (k y : Nat) : (frL f bv).set (5 + k) (.int .u8 ((y : Nat) : Int)) = frL { f with tag := f.tag.set k y } bv := by
  unfold frL
  rw [List.set_append_right _ _ (by simp), byteVs_set]
  congr 2
  simp
theorem size_setCells : ∀ (vs : List Value) (w : World) (b o : Nat), (w.setCells b o vs).heap.size = w.heap.size
  | [], w, b, o => rfl
  | v :: vs, w, b, o => by unfold World.setCells; rw [size_setCells vs, World.size_setCell]
theorem frozen_setCells : ∀ (vs : List Value) (w : World) (b o : Nat) (x : Addr), (w.setCells b o vs).frozen? x = w.frozen? x
  | [], w, b, o, x => rfl
  | v :: vs, w, b, o, x => by unfold World.setCells; rw [frozen_setCells vs, World.frozen?_setCell]
def TagAt (w : World) (B : Nat) (g : Nat) (bv : Value) (F : FrmS) (body TG : List Nat) (k : Nat) (wr : World) : Prop :=
  Below w.heap.size w wr ∧ wr.there w.heap.size 0 21 ∧ wr.rangeAt g 0 (frL { F with tag := TG.take k ++ List.replicate (16 - k) 0 } bv) ∧ OwnB wr B bv body ∧ (∀ j, wr.frozen? ⟨g, j, none⟩ = false)
set_option maxRecDepth 100000 in
set_option maxHeartbeats 6400000 in
theorem rRead_good (v : Value) (bs : List Nat) (w : World) (hv : Bts w v bs) (hn6 : bs.length ≤ 1000000) (hl : 2 < bs.length) (h0 : bs.getD 0 0 = 165) (h1 : bs.getD 1 0 = 90) (h2 : ¬ bs.getD 2 0 < 30) (h3 : ¬ 78 < bs.getD 2 0) (hs : ¬ bs.length < 7 + bs.getD 2 0) (hE0 : readE bs = 0) (hr : rightB ((bs.drop 2).take (5 + bs.getD 2 0)) = true) :
    Calls Try.prog 18 #[v] w (GivesR w bs) := by
  have HE0 := Lib.hid hE0
  clear hE0
  obtain ⟨va, vn, vc, rfl⟩ := hv.slice
  obtain rfl := hv.len
  obtain ⟨b, off, cap, hsl, hlc, hc, hb, hcell⟩ := hv.some (by omega)
  obtain ⟨rfl, rfl⟩ : va = some ⟨b, off, none⟩ ∧ vc = cap := by simpa using hsl
  haveI : LtSize b w := ⟨hb⟩
  have hL0 : (0 : Int) < (bs.length : Int) := by omega
  have hk0 : 0 < bs.length := by omega
  have hL1 : (1 : Int) < (bs.length : Int) := by omega
  have hk1 : 1 < bs.length := by omega
  have hL2 : (2 : Int) < (bs.length : Int) := by omega
  have hk2 : 2 < bs.length := by omega
  have hI3 : ¬ (bs.length : Int) < 3 := by omega
  have HT := Lib.hid (btsSub hv hb hlc hc hcell 2 (5 + bs.getD 2 0) (vc - 2) (by omega) (by omega) (by omega))
  have HC := Lib.hid hcell
  have HV := Lib.hid hv
  have hR := Lib.hid (fun (W : World) (u : Value) (h : Bts W u ((bs.drop 2).take (5 + bs.getD 2 0))) => hr ▸ rRight_any u _ W h (by simp; omega))
  have c0 := hcell 0 (by omega)
  have c1 := hcell 1 (by omega)
  have c2 := hcell 2 (by omega)
  rw [Nat.add_zero] at c0
  have hlt2 := hv.lt 2
  clear hcell hsl hv hr
  generalize (bs.drop 2).take (5 + bs.getD 2 0) = T at *
  generalize hy0e : bs.getD 0 0 = y0 at *
  generalize hy1e : bs.getD 1 0 = y1 at *
  generalize hy2e : bs.getD 2 0 = y2 at *
  have HY2 := Lib.hid hy2e
  clear hy0e hy1e hy2e
  obtain rfl : y0 = 165 := by omega
  obtain rfl : y1 = 90 := by omega
  have hw7 : IntKind.i64.wrap (7 + (y2 : Int)) = 7 + (y2 : Int) := by rw [IntKind.wrap_i64]; omega
  have hs7 : ¬ (bs.length : Int) < 7 + (y2 : Int) := by omega
  have hw0 : IntKind.i64.wrap (y2 : Int) = (y2 : Int) := by rw [IntKind.wrap_i64]; omega
  have hsub : 7 + y2 - 2 = 5 + y2 := by omega
  have hvc : (7 : Int) + (y2 : Int) ≤ (vc : Int) := by omega
  have nvc : ¬ vc = 2 := by omega
  go_enter Try.func18, Try.ntmps18
  go_upto_region 8 with (go_at_call 62; (first | with_reducible refine Calls.fold (hR.out _ _ HT.out.alloc) ?_ | with_reducible refine Calls.fresh (hR.out _ _ HT.out.alloc) ?_); intro x1)
  refine wp_gen (fun W => Below w.heap.size w W ∧ W.there w.heap.size 0 21 ∧ w.heap.size < W.heap.size) ⟨by (repeat (first | (with_reducible exact Below.refl _ _) | (with_reducible assumption) | (with_reducible refine Below.alloc ?_ (by (repeat (first | (with_reducible exact Nat.le_refl _) | (with_reducible assumption) | (with_reducible refine le_up ?_) | (with_reducible refine le_alloc ?_) | (with_reducible refine le_setCell ?_) | (with_reducible refine le_drew ?_) | (with_reducible refine le_drewN ?_) | omega))) _) | (with_reducible refine Below.drew ?_) | (with_reducible refine Below.drewN ?_ _) | (with_reducible refine Below.setCell ?_ (by (repeat (first | (with_reducible exact Nat.le_refl _) | (with_reducible assumption) | (with_reducible refine le_up ?_) | (with_reducible refine le_alloc ?_) | (with_reducible refine le_setCell ?_) | (with_reducible refine le_drew ?_) | (with_reducible refine le_drewN ?_) | omega))) _) | (with_reducible refine Below.up ?_ (by (repeat (first | (with_reducible exact Nat.le_refl _) | (with_reducible assumption) | (with_reducible refine le_up ?_) | (with_reducible refine le_alloc ?_) | (with_reducible refine le_setCell ?_) | (with_reducible refine le_drew ?_) | (with_reducible refine le_drewN ?_) | omega)))))), there_below (B := w.heap.size + 1) (Below.up (Below.refl _ _) (by simp)) (by omega) (there_new w _ _ 21 rfl), LtSize.lt⟩ ?_
  rintro W ⟨hbw, hth, hlw⟩
  have hy3 := HV.out.lt 3
  have hy4 := HV.out.lt 4
  have HX3 := Lib.hid (fun (W : World) (h : Below w.heap.size w W) => cell_below h hb (HC.out 3 (by omega)))
  have HX4 := Lib.hid (fun (W : World) (h : Below w.heap.size w W) => cell_below h hb (HC.out 4 (by omega)))
  have HG1 := Lib.hid (fun (W : World) (h : Below w.heap.size w W) => rget_any _ _ 5 4 W (HV.out.below h) (by omega) (by omega) hn6)
  have HG2 := Lib.hid (fun (W : World) (h : Below w.heap.size w W) => rget_any _ _ 9 8 W (HV.out.below h) (by omega) (by omega) hn6)
  have hE4l := beN_lt ((bs.drop 5).take 4) (fun y hy => HV.out.1 y (List.mem_of_mem_drop (List.mem_of_mem_take hy)))
  have hE4n : ((bs.drop 5).take 4).length = 4 := by simp; omega
  rw [hE4n] at hE4l
  clear hE4n
  generalize hy3e : bs.getD 3 0 = y3 at *
  generalize hy4e : bs.getD 4 0 = y4 at *
  have HY3 := Lib.hid hy3e
  have HY4 := Lib.hid hy4e
  clear hy3e hy4e
  obtain ⟨E4, hE4⟩ : ∃ x, beN ((bs.drop 5).take 4) = x := ⟨_, rfl⟩
  obtain ⟨C8, hC8⟩ : ∃ x, beN ((bs.drop 9).take 8) = x := ⟨_, rfl⟩
  rw [hE4] at HG1 hE4l
  rw [hC8] at HG2
  have HE4 := Lib.hid hE4
  have HC8 := Lib.hid hC8
  clear hE4 hC8
  have hwE : IntKind.u32.wrap (E4 : Int) = (E4 : Int) := by rw [IntKind.wrap_u32]; omega
  have hw3' : IntKind.i64.wrap (y3 : Int) = (y3 : Int) := by rw [IntKind.wrap_i64]; omega
  have hw4' : IntKind.i64.wrap (y4 : Int) = (y4 : Int) := by rw [IntKind.wrap_i64]; omega
  have HW := Lib.hid (And.intro hbw (And.intro hth hlw))
  have hl3 : (3 : Int) < (bs.length : Int) := by omega
  have hl4 : (4 : Int) < (bs.length : Int) := by omega
  have hn3 : 3 < bs.length := by omega
  have hn4 : 4 < bs.length := by omega
  have HBB := Lib.hid hb
  clear hbw hth
  refine wp_region_sched [15] [(0, 3), (1, 3), (2, 0), (3, 3), (4, 3), (5, 3), (6, 0), (7, 3), (8, 3), (9, 0), (10, 3), (11, 3), (12, 0), (13, 3), (14, 1), (15, 2)] (fun W => Below w.heap.size w W) (by kernel_rfl) (by kernel_rfl) (fun d v c a w h => by cases d <;> exact h) HW.out.1.drew ?_
  refine wpSched_pure ?sv1 rfl (by rfl) (fun W => ?sh1) ?sr1; (case sh1 => (go_simp; try (with_reducible rfl))); simp only [Act.put, List.getElem_toArray, List.getElem_cons_zero, List.getElem_cons_succ, List.setIfInBounds_toArray, List.set_cons_zero, List.set_cons_succ]
  refine wpSched_pure ?sv2 rfl (by rfl) (fun W => ?sh2) ?sr2; (case sh2 => (go_simp; try (with_reducible rfl))); simp only [Act.put, List.getElem_toArray, List.getElem_cons_zero, List.getElem_cons_succ, List.setIfInBounds_toArray, List.set_cons_zero, List.set_cons_succ]
  refine wpSched_still ?sv3 rfl (by rfl) (fun W hW => ?sh3) ?sr3; (case sh3 => (have h3 := HX3.out W hW; go_simp; try (with_reducible rfl))); simp only [Act.put, List.getElem_toArray, List.getElem_cons_zero, List.getElem_cons_succ, List.setIfInBounds_toArray, List.set_cons_zero, List.set_cons_succ]
  refine wpSched_pure ?sv4 rfl (by rfl) (fun W => ?sh4) ?sr4; (case sh4 => (go_simp; try (with_reducible rfl))); simp only [Act.put, List.getElem_toArray, List.getElem_cons_zero, List.getElem_cons_succ, List.setIfInBounds_toArray, List.set_cons_zero, List.set_cons_succ]
  refine wpSched_pure ?sv5 rfl (by rfl) (fun W => ?sh5) ?sr5; (case sh5 => (go_simp; try (with_reducible rfl))); simp only [Act.put, List.getElem_toArray, List.getElem_cons_zero, List.getElem_cons_succ, List.setIfInBounds_toArray, List.set_cons_zero, List.set_cons_succ]
  refine wpSched_pure ?sv6 rfl (by rfl) (fun W => ?sh6) ?sr6; (case sh6 => (go_simp; try (with_reducible rfl))); simp only [Act.put, List.getElem_toArray, List.getElem_cons_zero, List.getElem_cons_succ, List.setIfInBounds_toArray, List.set_cons_zero, List.set_cons_succ]
  refine wpSched_still ?sv7 rfl (by rfl) (fun W hW => ?sh7) ?sr7; (case sh7 => (have h4 := HX4.out W hW; go_simp; try (with_reducible rfl))); simp only [Act.put, List.getElem_toArray, List.getElem_cons_zero, List.getElem_cons_succ, List.setIfInBounds_toArray, List.set_cons_zero, List.set_cons_succ]
  refine wpSched_pure ?sv8 rfl (by rfl) (fun W => ?sh8) ?sr8; (case sh8 => (go_simp; try (with_reducible rfl))); simp only [Act.put, List.getElem_toArray, List.getElem_cons_zero, List.getElem_cons_succ, List.setIfInBounds_toArray, List.set_cons_zero, List.set_cons_succ]
  refine wpSched_pure ?sv9 rfl (by rfl) (fun W => ?sh9) ?sr9; (case sh9 => (go_simp; try (with_reducible rfl))); simp only [Act.put, List.getElem_toArray, List.getElem_cons_zero, List.getElem_cons_succ, List.setIfInBounds_toArray, List.set_cons_zero, List.set_cons_succ]
  refine wpSched_tells 63 #[.slice (some ⟨b, off, none⟩) bs.length vc, .int .i64 5, .int .i64 4] (.int .u64 ((E4 : Nat) : Int)) rfl (by rfl) (fun W => by go_simp) (fun W hW => HG1.out W hW) ?_
  simp only [Act.put, List.getElem_toArray, List.getElem_cons_zero, List.getElem_cons_succ, List.setIfInBounds_toArray, List.set_cons_zero, List.set_cons_succ]
  refine wpSched_pure ?sv10 rfl (by rfl) (fun W => ?sh10) ?sr10; (case sh10 => (go_simp; try (with_reducible rfl))); simp only [Act.put, List.getElem_toArray, List.getElem_cons_zero, List.getElem_cons_succ, List.setIfInBounds_toArray, List.set_cons_zero, List.set_cons_succ]
  refine wpSched_pure ?sv11 rfl (by rfl) (fun W => ?sh11) ?sr11; (case sh11 => (go_simp; try (with_reducible rfl))); simp only [Act.put, List.getElem_toArray, List.getElem_cons_zero, List.getElem_cons_succ, List.setIfInBounds_toArray, List.set_cons_zero, List.set_cons_succ]
  refine wpSched_tells 63 #[.slice (some ⟨b, off, none⟩) bs.length vc, .int .i64 9, .int .i64 8] (.int .u64 ((C8 : Nat) : Int)) rfl (by rfl) (fun W => by go_simp) (fun W hW => HG2.out W hW) ?_
  simp only [Act.put, List.getElem_toArray, List.getElem_cons_zero, List.getElem_cons_succ, List.setIfInBounds_toArray, List.set_cons_zero, List.set_cons_succ]
  refine wpSched_pure ?sv12 rfl (by rfl) (fun W => ?sh12) ?sr12; (case sh12 => (go_simp; try (with_reducible rfl))); simp only [Act.put, List.getElem_toArray, List.getElem_cons_zero, List.getElem_cons_succ, List.setIfInBounds_toArray, List.set_cons_zero, List.set_cons_succ]
  refine wpSched_eff rfl (by rfl) (fun K hK => ?_); go_simp
  refine hK _ _ (HW.out.1.drew.alloc HW.out.1.size _) ?_
  clear hK K
  have hthg := there_at (g := W.heap.size) W.drew #[.int .i64 0, .int .i64 0, .int .u32 0, .int .u64 0, .slice none 0 0, .int .u8 0, .int .u8 0, .int .u8 0, .int .u8 0, .int .u8 0, .int .u8 0, .int .u8 0, .int .u8 0, .int .u8 0, .int .u8 0, .int .u8 0, .int .u8 0, .int .u8 0, .int .u8 0, .int .u8 0, .int .u8 0] 28 21 rfl
  refine wpSched_storeT rfl (by rfl) (exec_store 28 (.tmp 6) (.tmp 84) W.heap.size 0 (frL ⟨y3, y4, E4, C8, [], List.replicate 16 0⟩ (.slice none 0 0)) rfl (by rfl) (by rfl) hthg (by kernel_rfl) (frL_one _ rfl)) ?_
  simp only [Act.put, List.getElem_toArray, List.getElem_cons_zero, List.getElem_cons_succ, List.setIfInBounds_toArray, List.set_cons_zero, List.set_cons_succ]
  refine wpSched_nil ?_
  go_upto_region 9 with fail
  have hfz := fun j => World.frozen?_alloc_new W.drew #[.int .i64 0, .int .i64 0, .int .u32 0, .int .u64 0, .slice none 0 0, .int .u8 0, .int .u8 0, .int .u8 0, .int .u8 0, .int .u8 0, .int .u8 0, .int .u8 0, .int .u8 0, .int .u8 0, .int .u8 0, .int .u8 0, .int .u8 0, .int .u8 0, .int .u8 0, .int .u8 0, .int .u8 0] 28 j
  refine wp_gen (fun X => Below w.heap.size w X ∧ X.there w.heap.size 0 21 ∧ X.rangeAt W.heap.size 0 (frL ⟨y3, y4, E4, C8, [], List.replicate 16 0⟩ (.slice none 0 0)) ∧ W.heap.size < X.heap.size ∧ (∀ j, X.frozen? ⟨W.heap.size, j, none⟩ = false))
    ⟨(HW.out.1.drew.alloc HW.out.1.size _).trans (below_setCells _ _ _ _ _ HW.out.1.size), World.there_setCells (World.there_alloc (w := W.drew) HW.out.2.1 _) _ _ _, World.rangeAt_setCells_same _ _ _ _ hthg, by rw [size_setCells]; simp, fun j => by rw [frozen_setCells]; exact hfz j⟩ ?_
  clear hthg hfz
  rintro X ⟨hbx, hthx, hrx, hlx, hfx⟩
  haveI : LtSize W.heap.size X := ⟨hlx⟩
  obtain ⟨m, hm⟩ : ∃ m, y2 = 30 + m := ⟨y2 - 30, by omega⟩
  have hw13 : IntKind.i64.wrap ((y2 : Int) - 13) = 17 + (m : Int) := by rw [IntKind.wrap_i64]; omega
  have hle17 : (17 : Int) + (m : Int) ≤ (vc : Int) := by omega
  have n17 : ¬ vc = 17 := by omega
  have hsub17 : 17 + m - 17 = m := by omega
  have h17c : (17 : Int) ≤ (vc : Int) := by omega
  have z4 : X.cell? ⟨W.heap.size, 4, none⟩ = some (.slice none 0 0) := by have := hrx 4 _ rfl; rwa [Nat.zero_add] at this
  have F4 := hfx 4
  have hBD0 := btsSub (HV.out.below hbx) (Nat.lt_of_lt_of_le hb hbx.size) hlc hc (fun i hi => cell_below hbx hb (HC.out i hi)) 17 m (vc - 17) (by omega) (by omega) (by omega)
  have hBDl : ((bs.drop 17).take m).length = m := by simp; omega
  obtain ⟨BD, hBD⟩ : ∃ x, (bs.drop 17).take m = x := ⟨_, rfl⟩
  rw [hBD] at hBD0 hBDl
  have HBD := Lib.hid hBD
  have HBDB := Lib.hid hBD0
  have HBDL := Lib.hid hBDl
  have HM := Lib.hid hm
  have HEM := Lib.hid (OwnB.empty X)
  have HX := Lib.hid (And.intro hbx (And.intro hthx (And.intro hrx hfx)))
  have h63 : (vc : Int) ≤ 9223372036854775807 := by omega
  clear hBD hBD0 hBDl hm hbx hthx hrx hfx HX3 HX4 HG1 HG2 HT hR hw3' hw4' hwE
  go_wp2_with (at_builtin; refine Hid.out (?_ : Hid _))
  refine Lib.hid ?_
  refine wpList_append_bts rfl (.tmp 85) (.tmp 89) rfl X.heap.size (.slice (some ⟨X.heap.size, 0, none⟩) 0 0) [] (by rfl) HEM.out (.slice (some ⟨b, off + 17, none⟩) (17 + m - 17) (vc - 17)) BD (by rfl) (by rw [hsub17]; exact HBDB.out.alloc) (by rw [HBDL.out]; have := HM.out; simp; omega) (by simp) (fun v' w' ho hg hne => ?_)
  obtain ⟨g9, c9, hv9, hgg9, hgl9⟩ := ho.shape (hne (by simp))
  subst hv9
  rw [List.nil_append] at ho
  have HO9 := Lib.hid ho
  have HG9 := Lib.hid hg
  have z9 : w'.cell? ⟨W.heap.size, 4, none⟩ = some (.slice none 0 0) := kept_cell (r := X.heap.size) (by rw [alloc_cell_lt]; exact z4) hg (by omega)
  have F9 : w'.frozen? ⟨W.heap.size, 4, none⟩ = false := by rw [World.frozen?_of_block (a := ⟨W.heap.size, 4, none⟩) (hg.block W.heap.size (by simp; omega) (by intro e; have := Option.some.inj e; simp at this; omega)), alloc_frozen_lt]; exact F4
  clear ho hg hne
  go_upto_region 10 with fail
  have hTGl : ((bs.drop (17 + m)).take 16).length = 16 := by have := HM.out; simp; omega
  have HTGB := Lib.hid (fun (k : Nat) (hk : k < 16) => show ((bs.drop (17 + m)).take 16).getD k 0 = bs.getD (17 + m + k) 0 by rw [List.getD_eq_getElem?_getD, List.getD_eq_getElem?_getD, List.getElem?_take_of_lt hk, List.getElem?_drop])
  have HTLT := Lib.hid (fun (k : Nat) (hk : k < 16) => HV.out.lt (17 + m + k))
  obtain ⟨TG, hTG⟩ : ∃ x, (bs.drop (17 + m)).take 16 = x := ⟨_, rfl⟩
  rw [hTG] at hTGl HTGB
  have HTG := Lib.hid hTG
  have HTGL := Lib.hid hTGl
  clear hTG hTGl
  have hXs := HG9.out.size
  have HST := Lib.hid (show TagAt w X.heap.size W.heap.size (.slice (some ⟨g9, 0, none⟩) BD.length c9) ⟨y3, y4, E4, C8, [], List.replicate 16 0⟩ BD TG 0 (w'.setCell ⟨W.heap.size, 4, none⟩ (.slice (some ⟨g9, 0, none⟩) BD.length c9)) from by
    have hb9 : Below w.heap.size w w' := (HX.out.1.alloc HX.out.1.size _).grown HG9.out (by have := HX.out.1.size; simp; omega) (fun k hk => by cases hk; exact HX.out.1.size)
    have hbx9 : Below X.heap.size X w' := ((Below.refl X.heap.size X).alloc (Nat.le_refl _) _).grown HG9.out (by simp) (fun k hk => by cases hk; exact Nat.le_refl _)
    refine ⟨hb9.setCell (p := ⟨W.heap.size, 4, none⟩) HW.out.1.size _, there_set (there_below hbx9 (Nat.lt_of_lt_of_le HW.out.2.2 (Nat.le_of_lt hlx)) HX.out.2.1) _, ?_, ?_, fun j => ?_⟩
    · exact rangeAt_set (rangeAt_below hbx9 hlx HX.out.2.2.1) 4 _
    · exact HO9.out.kept (gr_set _ _ _ _) (.inr (by simp [Value.ownBlock]; omega))
    · rw [World.frozen?_setCell, hbx9.frozen (p := ⟨W.heap.size, j, none⟩) hlx]; exact HX.out.2.2.2 j)
  have HNE := Lib.hid (show ¬ g9 = W.heap.size from by omega)
  have HWS := Lib.hid (show w.heap.size ≤ W.heap.size ∧ ¬ w.heap.size = W.heap.size ∧ W.heap.size < X.heap.size ∧ X.heap.size ≤ g9 from ⟨HW.out.1.size, by have := HW.out.2.2; omega, hlx, hgg9⟩)
  clear HX HW HO9 HG9 z9 F9 z4 F4 hgg9 hgl9 hXs HEM HBDB n17 hsub17 hle17 h17c
  go_wp2_with fail
  go_loopw [7] (fun v7 wr => ∃ k : Nat, k ≤ 16 ∧ v7 = .int .i64 k ∧ TagAt w X.heap.size W.heap.size (.slice (some ⟨g9, 0, none⟩) BD.length c9) ⟨y3, y4, E4, C8, [], List.replicate 16 0⟩ BD TG k wr) (fun v7 _ => 16 - (intOf v7).toNat)
  case atStart => exact ⟨0, by omega, rfl, HST.out⟩
  case round =>
    clear HST
    obtain ⟨k, hk, rfl, hb, hth, hr, ho, hf⟩ := hrel
    by_cases hlt : k < 16
    · have c0 : wr.cell? ⟨b, off + (17 + m + k), none⟩ = some (.int .u8 ((TG.getD k 0 : Nat) : Int)) := by
        rw [HTGB.out k hlt]; exact cell_below hb HBB.out (HC.out (17 + m + k) (by have := HM.out; omega))
      have hF : (TG.take k ++ List.replicate (16 - k) 0).length = 16 := by rw [List.length_append, List.length_take, List.length_replicate, HTGL.out]; omega
      have zc := hr (5 + k) _ (frL_at ⟨y3, y4, E4, C8, [], TG.take k ++ List.replicate (16 - k) 0⟩ (.slice (some ⟨g9, 0, none⟩) BD.length c9) hF k hlt)
      rw [Nat.zero_add] at zc
      dsimp only at zc
      generalize (TG.take k ++ List.replicate (16 - k) 0).getD k 0 = old at zc
      have fc := hf (5 + k)
      have hm48 : (m : Int) ≤ 48 := by have := HM.out; omega
      have hlen : (17 : Int) + (m : Int) + (k : Int) < (bs.length : Int) := by have := HM.out; omega
      have htl := HTLT.out k hlt
      rw [← HTGB.out k hlt] at htl
      have HH := Lib.hid (And.intro hb (And.intro hth (And.intro hr (And.intro ho hf))))
      clear hb hth hr ho hf hF
      generalize hyk : TG.getD k 0 = yk at *
      have HYK := Lib.hid hyk
      clear hyk
      go_wp2
      refine ⟨⟨k + 1, by omega, by go_num, HH.out.1.setCell (p := ⟨W.heap.size, 5 + k, none⟩) HWS.out.1 _, there_set HH.out.2.1 _, ?_, HH.out.2.2.2.1.kept (gr_set _ _ _ _) (.inr (by simp [Value.ownBlock]; exact HNE.out)), fun j => by rw [World.frozen?_setCell]; exact HH.out.2.2.2.2 j⟩, by simp [intOf]; omega⟩
      have h1 := rangeAt_set HH.out.2.2.1 (5 + k) (.int .u8 ((yk : Nat) : Int))
      rw [Nat.zero_add, frL_settag] at h1
      dsimp only at h1
      rw [← HYK.out, tag_step TG k HTGL.out hlt, HYK.out] at h1
      exact h1
    · obtain rfl : k = 16 := by omega
      have hTT : TG.take 16 ++ List.replicate (16 - 16) 0 = TG := by rw [List.take_of_length_le (by rw [HTGL.out]; exact Nat.le_refl _)]; simp
      rw [hTT] at hr
      dsimp only at hr
      have hrs : readS bs = ⟨y3, y4, E4, C8, BD, TG⟩ := by
        unfold readS goodS
        rw [if_pos HE0.out, HY2.out, HY3.out, HY4.out, HE4.out, HC8.out, show y2 - 30 = m by have := HM.out; omega, show y2 - 13 = 17 + m by have := HM.out; omega, HBD.out, HTG.out]
      have hrn : readN bs = 7 + y2 := by unfold readN; rw [if_pos HE0.out, HY2.out]
      have hLf : frL ⟨y3, y4, E4, C8, [], TG⟩ (.slice (some ⟨g9, 0, none⟩) BD.length c9) = frL (readS bs) (.slice (some ⟨g9, 0, none⟩) BD.length c9) := by rw [hrs]; rfl
      rw [hLf] at hr
      have hL21 := frL_length (readS bs) (.slice (some ⟨g9, 0, none⟩) BD.length c9) (by rw [hrs]; exact HTGL.out)
      have hL1 := frL_one (readS bs) (bv := .slice (some ⟨g9, 0, none⟩) BD.length c9) rfl
      have HFIN := Lib.hid (show ∀ (e : Ending), e = .returned (.tuple #[.agg (frL (readS bs) (.slice (some ⟨g9, 0, none⟩) BD.length c9)).toArray, .int .i64 (7 + (y2 : Int)), .int .i64 0]) → GivesR w bs e (wr.setCells w.heap.size 0 (frL (readS bs) (.slice (some ⟨g9, 0, none⟩) BD.length c9))) from fun e he => by
        refine ⟨.slice (some ⟨g9, 0, none⟩) BD.length c9, ?_, ?_, hb.trans (below_setCells _ _ _ _ _ (Nat.le_refl _))⟩
        · rw [he, hrn, HE0.out, show (7 + (y2 : Int)) = ((7 + y2 : Nat) : Int) by omega]
        · rw [show (readS bs).body = BD by rw [hrs]]
          exact (ho.mono (by have := HWS.out.2.2.1; have := HWS.out.1; omega)).kept (gr_setCells _ _ _ _) (.inr (by simp [Value.ownBlock]; have := HWS.out; omega)))
      generalize frL (readS bs) (.slice (some ⟨g9, 0, none⟩) BD.length c9) = LV at *
      have hz := res_zero wr w.heap.size hth LV hL21 hL1
      have hst := hz.1
      have HZ := Lib.hid hz.2
      have HR := Lib.hid (And.intro hr hL21)
      clear hz hb hth hr ho hf hrs hrn hLf hL1 hTT
      go_wp2_with (refine wpList_load_mid rfl 28 (.tmp 6) (by rfl) W.heap.size 0 (by rfl) LV _ HR.out.1 Try.underlying28 (by rfl) (by rw [HR.out.2]; kernel_rfl) ?_)
      refine bodyPost_ret (v := .tuple #[.agg LV.toArray, .int .i64 (7 + (y2 : Int)), .int .i64 0]) ?_ rfl (HFIN.out _ rfl)
      simp only [results, show Try.func18.results = #[ResultVar.cell 2 28, ResultVar.tmp 3, ResultVar.tmp 4] from rfl]
      simp [asAddr, HZ.out]
end Go.Proofs.Ytjkgodhoonkinaa
