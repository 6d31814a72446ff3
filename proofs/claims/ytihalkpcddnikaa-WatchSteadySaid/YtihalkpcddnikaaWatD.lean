/-
  The judge: look.
-/
import Derived.Test.YtihalkpcddnikaaWatC
import Derived.ScopeJumps
import Derived.Lib.SliceRun
import Derived.WalkMore
namespace Go.Proofs.Ytihalkpcddnikaa
open Go.RowKit Go.Maps
set_option linter.unusedVariables false
set_option linter.unusedSimpArgs false

/-- A scope that is left by one goto at most: behind the jump the rest is walked on. -/
theorem wp_scope_once {P : Program} {c rest : Code} {a : Act} {w : World} {Q : Exit → Act → World → Prop} (l : Nat) (hf : findLabel c l = some rest)
    (h : c.wp P (Exit.jump l (fun a' w' => rest.wp P (Exit.noGoto Q) a' w') Q) a w) : (Code.scope c).wp P Q a w := by
  refine wp_scope_jumps l _ (fun _ _ => 0) hf h (fun a' w' hJ => Code.wp_mono (fun e a'' w'' hq => ?_) hJ)
  cases e <;> first | exact hq | exact absurd hq (by simp [Exit.noGoto])
theorem run_clear_none {P : Program} (w : World) (t e ty : TypeId) (ht : P.underlying t = some (.slice e)) (a : Option Addr) (c : Nat) :
    (Builtin.clear_ #[t] ty #[.slice a 0 c]).run P w = .ok (.tuple #[]) w := by
  cases a <;> simp [Builtin.clear_, run_underlying ht]
def LookR (w : World) (p : JB) (S : JS) (n : Nat) (s : Int) (x : Rd) (e : Ending) (w' : World) : Prop :=
  e = .returned (.int .i64 (lookJ S s x).1) ∧ JAt w' p (lookJ S s x).2 (n + 6) ∧ FrJ w w' p
/-- What the walk over look knows of a world. -/
structure LkAt (w : World) (p : JB) (S : JS) (n : Nat) (x : Rd) (W : World) : Prop where
  j : JAt W p S n
  f : FrJ w W p
  lt : w.heap.size < W.heap.size
  c : W.rangeAt w.heap.size 0 x.cs
  b : ∀ r ∈ p.all, r < w.heap.size
theorem LkAt.step {w W W' : World} {p : JB} {S S' : JS} {n n' : Nat} {x : Rd} (h : LkAt w p S n x W) (hj : JAt W' p S' n') (hf : FrJ W W' p) : LkAt w p S' n' x W' :=
  ⟨hj, h.f.trans hf, Nat.lt_of_lt_of_le h.lt hf.size, fun i v hi => cell_blk (h.c i v hi) (hf.block _ h.lt (fun hm => Nat.lt_irrefl _ (h.b _ hm))), h.b⟩
theorem LkAt.drew {w W : World} {p : JB} {S : JS} {n : Nat} {x : Rd} (h : LkAt w p S n x W) : LkAt w p S n x W.drew :=
  h.step (h.j.below ((Below.refl _ _).drew)) (FrJ.below ((Below.refl _ _).drew))
theorem LkAt.cell {w W : World} {p : JB} {S : JS} {n : Nat} {x : Rd} (h : LkAt w p S n x W) (i : Nat) {v : Value} (hv : x.cs[i]? = some v) : W.cell? ⟨w.heap.size, i, none⟩ = some v := by
  have := h.c i v hv
  rwa [Nat.zero_add] at this
theorem LkAt.says {w W : World} {p : JB} {S : JS} {n : Nat} {x : Rd} (h : LkAt w p S n x W) : W.rangeAt w.heap.size 3 [.int .i64 x.s0, .int .i64 x.s1, .int .i64 x.s2] := by
  intro j v hj
  match j, hj with
  | 0, hj => simp at hj; subst hj; exact h.cell 3 rfl
  | 1, hj => simp at hj; subst hj; exact h.cell 4 rfl
  | 2, hj => simp at hj; subst hj; exact h.cell 5 rfl
  | (k+3), hj => simp at hj
theorem JAt.gateC {w : World} {p : JB} {S : JS} {n : Nat} (h : JAt w p S n) : w.rangeAt p.j 1 [.int .i64 S.o, .int .i64 S.g, .int .i64 S.m] := by
  intro j v hj
  match j, hj with
  | 0, hj => simp at hj; subst hj; exact h.c1
  | 1, hj => simp at hj; subst hj; exact h.c2
  | 2, hj => simp at hj; subst hj; exact h.c3
  | (k+3), hj => simp at hj
theorem Rd.cut_ok {x : Rd} (h : x.OK) : x.cut.OK := by
  refine ⟨h.ax, h.tk, h.ag, h.s0, ?_, ?_, h.o0, h.o1, h.o2⟩
  · show I64 (if x.ax < 2 then 0 else x.s1)
    split
    · exact ⟨by omega, by omega⟩
    · exact h.s1
  · show I64 (if x.ax < 3 then 0 else x.s2)
    split
    · exact ⟨by omega, by omega⟩
    · exact h.s2
set_option maxRecDepth 100000 in
theorem look_bad {w : World} {p : JB} {S : JS} {n : Nat} (h : JAt w p S n) {s : Int} {x : Rd} (hb : x.ax < 1 ∨ 3 < x.ax) :
    Calls Try.prog 43 #[.pointer (some ⟨p.j, 0, none⟩), .int .i64 s, .agg #[.int .i64 x.ax, .int .i64 x.tk, .int .i64 x.ag, .int .i64 x.s0, .int .i64 x.s1, .int .i64 x.s2, .int .i64 x.o0, .int .i64 x.o1, .int .i64 x.o2]] w (LookR w p S n s x) := by
  have HJ := Lib.hid h
  have hcase : x.ax < 1 ∨ (¬ x.ax < 1 ∧ 3 < x.ax) := by omega
  have HE := Lib.hid (show lookJ S s x = (2, S) by unfold lookJ; rw [if_pos hb])
  unfold LookR
  rw [HE.out]
  obtain ⟨ax, tk, ag, s0, s1, s2, o0, o1, o2⟩ := x
  dsimp only at hcase ⊢
  clear h hb HE
  rcases hcase with h1 | ⟨h1, h2⟩
  all_goals
    go_enter Try.func43, Try.ntmps43
    go_wp2_with fail
    refine wp_scope_once 0 rfl ?_
    go_wp2_with fail
    simp only [Exit.jump]
    go_ret
    exact ⟨rfl, (HJ.out.below ((Below.refl _ _).alloc (Nat.le_refl _) _)).mono (by omega), FrJ.below ((Below.refl _ _).alloc (Nat.le_refl _) _)⟩
theorem FrJ.row {a b : World} {p : JB} {r : Nat} (h : a.grownBy b (some r)) (hr : r ∈ p.all) : FrJ a b p := FrJ.gr h (fun x hx => by injection hx with hx; subst hx; exact .inl hr)
theorem zeroFx (w : World) : (zeroValue 23).run Try.prog w = .ok (.int .i64 0) w := by kernel_rfl
theorem rdLk {w W : World} {p : JB} {S : JS} {n : Nat} {x : Rd} (h : JAt w p S n) (hg : w.grownBy W (some w.heap.size)) (hl : w.heap.size < W.heap.size)
    (c0 : W.cell? ⟨w.heap.size, 0, none⟩ = some (.int .i64 x.ax)) (c1 : W.cell? ⟨w.heap.size, 1, none⟩ = some (.int .i64 x.tk)) (c2 : W.cell? ⟨w.heap.size, 2, none⟩ = some (.int .i64 x.ag))
    (c3 : W.cell? ⟨w.heap.size, 3, none⟩ = some (.int .i64 x.s0)) (c4 : W.cell? ⟨w.heap.size, 4, none⟩ = some (.int .i64 x.s1)) (c5 : W.cell? ⟨w.heap.size, 5, none⟩ = some (.int .i64 x.s2))
    (c6 : W.cell? ⟨w.heap.size, 6, none⟩ = some (.int .i64 x.o0)) (c7 : W.cell? ⟨w.heap.size, 7, none⟩ = some (.int .i64 x.o1)) (c8 : W.cell? ⟨w.heap.size, 8, none⟩ = some (.int .i64 x.o2)) : LkAt w p S n x W := by
  refine ⟨h.new (Nat.le_refl _) hg, FrJ.gr hg (fun r hr => by injection hr with hr; exact .inr (Nat.le_of_eq hr)), hl, fun i v hi => ?_, h.lts⟩
  rw [Nat.zero_add]
  unfold Rd.cs at hi
  match i, hi with
  | 0, hi => simp at hi; subst hi; exact c0
  | 1, hi => simp at hi; subst hi; exact c1
  | 2, hi => simp at hi; subst hi; exact c2
  | 3, hi => simp at hi; subst hi; exact c3
  | 4, hi => simp at hi; subst hi; exact c4
  | 5, hi => simp at hi; subst hi; exact c5
  | 6, hi => simp at hi; subst hi; exact c6
  | 7, hi => simp at hi; subst hi; exact c7
  | 8, hi => simp at hi; subst hi; exact c8
  | (k+9), hi => simp at hi
theorem clr_1 {w : World} {p : JB} {S : JS} {n : Nat} (h : JAt w p S n) {x0 : Rd} (ha : x0.ax = 1) : ∃ W', (Builtin.clear_ #[128] 0 #[.slice (some ⟨w.heap.size, 4, none⟩) 2 2]).run Try.prog (w.alloc (Obj.cells #[.int .i64 1, .int .i64 x0.tk, .int .i64 x0.ag, .int .i64 x0.s0, .int .i64 x0.s1, .int .i64 x0.s2, .int .i64 x0.o0, .int .i64 x0.o1, .int .i64 x0.o2] 71)) = .ok (.tuple #[]) W' ∧ LkAt w p S n x0.cut W' := by
  refine ⟨_, Lib.run_clear_slice _ _ _ 0 _ Try.underlying128 zeroFx rfl rfl w.heap.size 4 2 2 (by omega) (fun j hj => ?_) (fun j hj => ?_), ?_⟩
  · obtain rfl | rfl : j = 0 ∨ j = 1 := by omega
    · simp
    · simp
  · exact World.frozen?_alloc_new _ _ _ _
  · show LkAt w p S n x0.cut ((World.setCell _ ⟨w.heap.size, 4, none⟩ (.int .i64 0)).setCell ⟨w.heap.size, 5, none⟩ (.int .i64 0))
    refine rdLk h (gr_trans (gr_trans (gr_below _ ((Below.refl _ _).alloc (Nat.le_refl _) _)) (gr_set _ _ _ _)) (gr_set _ _ _ _)) (by simp) ?_ ?_ ?_ ?_ ?_ ?_ ?_ ?_ ?_
    all_goals (simp only [Rd.cut, ha]; go_simp)
theorem clr_2 {w : World} {p : JB} {S : JS} {n : Nat} (h : JAt w p S n) {x0 : Rd} (ha : x0.ax = 2) : ∃ W', (Builtin.clear_ #[128] 0 #[.slice (some ⟨w.heap.size, 5, none⟩) 1 1]).run Try.prog (w.alloc (Obj.cells #[.int .i64 2, .int .i64 x0.tk, .int .i64 x0.ag, .int .i64 x0.s0, .int .i64 x0.s1, .int .i64 x0.s2, .int .i64 x0.o0, .int .i64 x0.o1, .int .i64 x0.o2] 71)) = .ok (.tuple #[]) W' ∧ LkAt w p S n x0.cut W' := by
  refine ⟨_, Lib.run_clear_slice _ _ _ 0 _ Try.underlying128 zeroFx rfl rfl w.heap.size 5 1 1 (by omega) (fun j hj => ?_) (fun j hj => ?_), ?_⟩
  · obtain rfl : j = 0 := by omega
    simp
  · exact World.frozen?_alloc_new _ _ _ _
  · show LkAt w p S n x0.cut (World.setCell _ ⟨w.heap.size, 5, none⟩ (.int .i64 0))
    refine rdLk h (gr_trans (gr_below _ ((Below.refl _ _).alloc (Nat.le_refl _) _)) (gr_set _ _ _ _)) (by simp) ?_ ?_ ?_ ?_ ?_ ?_ ?_ ?_ ?_
    all_goals (simp only [Rd.cut, ha]; go_simp)
theorem clr_3 {w : World} {p : JB} {S : JS} {n : Nat} (h : JAt w p S n) {x0 : Rd} (ha : x0.ax = 3) (a : Option Addr) (c : Nat) : ∃ W', (Builtin.clear_ #[128] 0 #[.slice a 0 c]).run Try.prog (w.alloc (Obj.cells #[.int .i64 3, .int .i64 x0.tk, .int .i64 x0.ag, .int .i64 x0.s0, .int .i64 x0.s1, .int .i64 x0.s2, .int .i64 x0.o0, .int .i64 x0.o1, .int .i64 x0.o2] 71)) = .ok (.tuple #[]) W' ∧ LkAt w p S n x0.cut W' := by
  refine ⟨_, run_clear_none _ _ _ 0 Try.underlying128 a c, ?_⟩
  refine rdLk h (gr_below _ ((Below.refl _ _).alloc (Nat.le_refl _) _)) (by simp) ?_ ?_ ?_ ?_ ?_ ?_ ?_ ?_ ?_
  all_goals (simp only [Rd.cut, ha]; go_simp)
set_option maxRecDepth 100000 in
set_option maxHeartbeats 3200000 in
theorem look_good {w : World} {p : JB} {S : JS} {n : Nat} (h : JAt w p S n) (hn : n < 999980) {s : Int} (hs2 : I64 s) {x0 : Rd} (hx : x0.OK) (hb1 : 1 ≤ x0.ax) (hb3 : x0.ax ≤ 3) :
    Calls Try.prog 43 #[.pointer (some ⟨p.j, 0, none⟩), .int .i64 s, .agg #[.int .i64 x0.ax, .int .i64 x0.tk, .int .i64 x0.ag, .int .i64 x0.s0, .int .i64 x0.s1, .int .i64 x0.s2, .int .i64 x0.o0, .int .i64 x0.o1, .int .i64 x0.o2]] w (LookR w p S n s x0) := by
  have HJ := Lib.hid h
  have HX := Lib.hid (Rd.cut_ok hx)
  obtain ⟨x, hxx⟩ : ∃ x, x0.cut = x := ⟨_, rfl⟩
  rw [hxx] at HX
  have HXX := Lib.hid hxx
  have HP := Lib.hid (And.intro hb1 (And.intro hb3 hs2))
  have HLT := Lib.hid h.lts
  have hfree : ∀ i, (w.alloc (Obj.cells #[.int .i64 x0.ax, .int .i64 x0.tk, .int .i64 x0.ag, .int .i64 x0.s0, .int .i64 x0.s1, .int .i64 x0.s2, .int .i64 x0.o0, .int .i64 x0.o1, .int .i64 x0.o2] 71)).frozen? ⟨w.heap.size, i, none⟩ = false := fun i => World.frozen?_alloc_new _ _ _ _
  have hc1 : ¬ x0.ax < 1 := by omega
  have hc3 : ¬ 3 < x0.ax := by omega
  have HFR := Lib.hid hfree
  clear h hx hxx hs2 hfree
  go_enter Try.func43, Try.ntmps43
  go_wp2_with fail
  refine wp_scope_once 0 rfl ?_
  go_upto_region 6 with fail
  go_cut [2, 11, 12, 13, 15, 16, 17] from 19 to 22 (fun _ _ _ _ _ _ _ wx => LkAt w p S n x wx)
  case first =>
    clear hc1 hc3
    obtain h1 | h1 | h1 : x0.ax = 1 ∨ x0.ax = 2 ∨ x0.ax = 3 := by have := HP.out; omega
    · obtain ⟨W', hrun, hlk⟩ := clr_1 HJ.out h1
      rw [HXX.out] at hlk
      have HLK := Lib.hid hlk
      rw [h1]
      clear h1 hlk
      go_wp2_with fail
      go_meet
      exact HLK.out
    · obtain ⟨W', hrun, hlk⟩ := clr_2 HJ.out h1
      rw [HXX.out] at hlk
      have HLK := Lib.hid hlk
      rw [h1]
      clear h1 hlk
      go_wp2_with fail
      go_meet
      exact HLK.out
    · obtain ⟨W', hrun, hlk⟩ := clr_3 HJ.out h1 (some ⟨w.heap.size, 3, none⟩) 0
      rw [HXX.out] at hlk
      have HLK := Lib.hid hlk
      rw [h1]
      clear h1 hlk
      go_wp2_with fail
      go_meet
      exact HLK.out
  case rest =>
    have HLK := Lib.hid (LkAt.drew hcut)
    clear hcut hc1 hc3 hb1 hb3 HFR
    have HT := Lib.hid (sTake_any p.k p.m n S.same S.rate S.F s x.s0 x.s1 x.s2 x.tk n wc.drew HLK.out.j.su HLK.out.j.ok.st (by omega) (by omega) HX.out.s0 HX.out.s1 HX.out.s2 HX.out.tk.1 HX.out.tk.2)
    go_upto_region 7 with fail
    refine wp_region_slim [9] [(0, 3), (1, 3), (2, 3), (3, 0), (4, 3), (5, 3), (6, 0), (7, 3), (8, 0), (9, 2), (10, 3), (11, 3), (12, 3), (13, 3), (14, 3)] (fun X => X.cell? ⟨p.j, 5, none⟩ = some (.pointer (some ⟨p.k, 0, none⟩)) ∧ X.rangeAt w.heap.size 3 [.int .i64 x.s0, .int .i64 x.s1, .int .i64 x.s2] ∧ X.cell? ⟨w.heap.size, 1, none⟩ = some (.int .i64 x.tk)) (by kernel_rfl) (by kernel_rfl) (fun d v c a w h => by cases d <;> exact h) ⟨HLK.out.j.c5, HLK.out.says, HLK.out.cell 1 rfl⟩ ?_
    simp only [List.map_cons, List.map_nil, slim]
    refine wpSched_pure ?sv1 rfl (by rfl) (fun W => ?sh1) ?sr1; (case sh1 => (go_simp; try (with_reducible rfl))); simp only [Act.put, List.getElem_toArray, List.getElem_cons_zero, List.getElem_cons_succ, List.setIfInBounds_toArray, List.set_cons_zero, List.set_cons_succ]
    refine wpSched_pure ?sv2 rfl (by rfl) (fun W => ?sh2) ?sr2; (case sh2 => (go_simp; try (with_reducible rfl))); simp only [Act.put, List.getElem_toArray, List.getElem_cons_zero, List.getElem_cons_succ, List.setIfInBounds_toArray, List.set_cons_zero, List.set_cons_succ]
    refine wpSched_pure ?sv3 rfl (by rfl) (fun W => ?sh3) ?sr3; (case sh3 => (go_simp; try (with_reducible rfl))); simp only [Act.put, List.getElem_toArray, List.getElem_cons_zero, List.getElem_cons_succ, List.setIfInBounds_toArray, List.set_cons_zero, List.set_cons_succ]
    refine wpSched_still ?sv4 rfl (by rfl) (fun W hW => ?sh4) ?sr4; (case sh4 => (obtain ⟨h1, h2, h3⟩ := hW; go_simp; try (with_reducible rfl))); simp only [Act.put, List.getElem_toArray, List.getElem_cons_zero, List.getElem_cons_succ, List.setIfInBounds_toArray, List.set_cons_zero, List.set_cons_succ]
    refine wpSched_pure ?sv5 rfl (by rfl) (fun W => ?sh5) ?sr5; (case sh5 => (go_simp; try (with_reducible rfl))); simp only [Act.put, List.getElem_toArray, List.getElem_cons_zero, List.getElem_cons_succ, List.setIfInBounds_toArray, List.set_cons_zero, List.set_cons_succ]
    refine wpSched_pure ?sv6 rfl (by rfl) (fun W => ?sh6) ?sr6; (case sh6 => (go_simp; try (with_reducible rfl))); simp only [Act.put, List.getElem_toArray, List.getElem_cons_zero, List.getElem_cons_succ, List.setIfInBounds_toArray, List.set_cons_zero, List.set_cons_succ]
    refine wpSched_load 25 (.tmp 29) w.heap.size 3 [.int .i64 x.s0, .int .i64 x.s1, .int .i64 x.s2] _ rfl rfl (by rfl) (by rfl) (fun W hW => hW.2.1) Try.underlying25 (by rfl) (by kernel_rfl) ?_
    simp only [Act.put, List.getElem_toArray, List.getElem_cons_zero, List.getElem_cons_succ, List.setIfInBounds_toArray, List.set_cons_zero, List.set_cons_succ]
    refine wpSched_pure ?sv7 rfl (by rfl) (fun W => ?sh7) ?sr7; (case sh7 => (go_simp; try (with_reducible rfl))); simp only [Act.put, List.getElem_toArray, List.getElem_cons_zero, List.getElem_cons_succ, List.setIfInBounds_toArray, List.set_cons_zero, List.set_cons_succ]
    refine wpSched_still ?sv8 rfl (by rfl) (fun W hW => ?sh8) ?sr8; (case sh8 => (obtain ⟨h1, h2, h3⟩ := hW; go_simp; try (with_reducible rfl))); simp only [Act.put, List.getElem_toArray, List.getElem_cons_zero, List.getElem_cons_succ, List.setIfInBounds_toArray, List.set_cons_zero, List.set_cons_succ]
    refine wpSched_tail rfl (by rfl) (fun K hK => ?_); go_simp
    refine (HT.out).mono ?_
    rintro e1 w1 ⟨n', rfl, hn', hst, hg1⟩
    refine hK _ _ ?_
    clear hK K HT
    have HL1 := Lib.hid (HLK.out.step (HLK.out.j.stu (StAt.mono hst hn') hg1 (Nat.le_succ n) (HLK.out.j.ok.st.take (by omega) HX.out.s0 HX.out.s1 HX.out.s2)) (FrJ.gr hg1 (fun r hr => by injection hr with hr; subst hr; exact .inl (by simp [JB.all]))))
    clear hst hg1 hn' HLK
    have HFL := Lib.hid (show ∀ (i : Int), tkFl S.same S.rate S.F s x.s0 x.s1 x.s2 x.tk = i → 0 ≤ i ∧ i ≤ 3 from fun i hi => by rw [← hi]; unfold tkFl; split <;> (try split) <;> (try split) <;> omega)
    obtain ⟨FL, hFL⟩ : ∃ FL, tkFl S.same S.rate S.F s x.s0 x.s1 x.s2 x.tk = FL := ⟨_, rfl⟩
    have HFE := Lib.hid hFL
    rw [hFL]
    clear hFL
    obtain ⟨E, hE⟩ : ∃ E, tkE S.F s x.tk = E := ⟨_, rfl⟩
    have HE := Lib.hid hE
    rw [hE]
    clear hE
    refine wpSched_pure ?sv9 rfl (by rfl) (fun W => ?sh9) ?sr9; (case sh9 => (go_simp; try (with_reducible rfl))); simp only [Act.put, List.getElem_toArray, List.getElem_cons_zero, List.getElem_cons_succ, List.setIfInBounds_toArray, List.set_cons_zero, List.set_cons_succ]
    refine wpSched_pure ?sv10 rfl (by rfl) (fun W => ?sh10) ?sr10; (case sh10 => (go_simp; try (with_reducible rfl))); simp only [Act.put, List.getElem_toArray, List.getElem_cons_zero, List.getElem_cons_succ, List.setIfInBounds_toArray, List.set_cons_zero, List.set_cons_succ]
    refine wpSched_pure ?sv11 rfl (by rfl) (fun W => ?sh11) ?sr11; (case sh11 => (go_simp; try (with_reducible rfl))); simp only [Act.put, List.getElem_toArray, List.getElem_cons_zero, List.getElem_cons_succ, List.setIfInBounds_toArray, List.set_cons_zero, List.set_cons_succ]
    refine wpSched_pure ?sv12 rfl (by rfl) (fun W => ?sh12) ?sr12; (case sh12 => (go_simp; try (with_reducible rfl))); simp only [Act.put, List.getElem_toArray, List.getElem_cons_zero, List.getElem_cons_succ, List.setIfInBounds_toArray, List.set_cons_zero, List.set_cons_succ]
    refine wpSched_pure ?sv13 rfl (by rfl) (fun W => ?sh13) ?sr13; (case sh13 => (go_simp; try (with_reducible rfl))); simp only [Act.put, List.getElem_toArray, List.getElem_cons_zero, List.getElem_cons_succ, List.setIfInBounds_toArray, List.set_cons_zero, List.set_cons_succ]
    refine wpSched_nil ?_
    go_upto_region 8 with fail
    refine wp_gen (LkAt w p { S with F := tkF S.F s x.s0 x.s1 x.s2 x.tk } (n + 1) x) HL1.out ?_
    clear HL1
    clear w1
    clear wc
    intro W1 hl1
    have HL1 := Lib.hid hl1
    clear hl1
    rcases tkE_cases S.F s x.tk with ⟨hs, e⟩ | ⟨hs, hb, e⟩ | ⟨hs, h1, h2, e⟩
    · have HLX := Lib.hid (lookX_e e)
      have hE2 : E = 2 := HE.out.symm.trans e
      subst hE2
      have HD := Lib.hid (show tkF S.F s x.s0 x.s1 x.s2 x.tk = S.F by unfold tkF; rw [if_neg (by omega)])
      clear e
      go_wp2_with fail
      simp only [Exit.jump]
      go_ret
      unfold LookR
      rw [lookJ_in HP.out.1 HP.out.2.1, HXX.out, HLX.out]
      exact ⟨rfl, by have := HL1.out.j; rw [HD.out] at this; exact this.mono (by omega), HL1.out.f⟩
    · have HLX := Lib.hid (lookX_e e)
      have hE2 : E = 2 := HE.out.symm.trans e
      subst hE2
      have HD := Lib.hid (show tkF S.F s x.s0 x.s1 x.s2 x.tk = S.F by unfold tkF; rw [if_neg (by omega)])
      clear e hb
      go_wp2_with fail
      simp only [Exit.jump]
      go_ret
      unfold LookR
      rw [lookJ_in HP.out.1 HP.out.2.1, HXX.out, HLX.out]
      exact ⟨rfl, by have := HL1.out.j; rw [HD.out] at this; exact this.mono (by omega), HL1.out.f⟩
    · have hE2 : E = 0 := HE.out.symm.trans e
      subst hE2
      have HS := Lib.hid (And.intro hs (And.intro e (And.intro h1 h2)))
      clear e hs h1 h2
      by_cases hfl : FL = 0
      · subst hfl
        have HLD := Lib.hid (HL1.out.drew)
        have HFR := Lib.hid (Far_any S.o S.g S.m x.ag w.heap.size x.ax.toNat W1.drew HLD.out.lt HLD.out.j.ok.g1 HLD.out.j.ok.g2 (by rw [← HXX.out]; have := HP.out.1; show 1 ≤ x0.ax.toNat; omega) (by rw [← HXX.out]; have := HP.out.2.1; show x0.ax.toNat ≤ 3; omega) x.of HX.out.of (HLD.out.cell 6 rfl) (HLD.out.cell 7 rfl) (HLD.out.cell 8 rfl))
        obtain ⟨N, hN⟩ : ∃ N : Nat, x.ax = (N : Int) := ⟨x.ax.toNat, by rw [← HXX.out]; have := HP.out.1; show x0.ax = (x0.ax.toNat : Int); omega⟩
        have hN3 : (N : Int) ≤ 3 := by rw [← hN, ← HXX.out]; exact HP.out.2.1
        have HNE := Lib.hid (show x.ax.toNat = N by omega)
        have HNI := Lib.hid hN
        rw [HNE.out] at HFR
        have hca := hN ▸ HLD.out.cell 0 rfl
        go_upto_region 12 with fail
        refine wp_region_slim [10] [(0, 3), (1, 3), (2, 3), (3, 0), (4, 3), (5, 0), (6, 3), (7, 3), (8, 0), (9, 3), (10, 2), (11, 3), (12, 3), (13, 3), (14, 3)] (fun X => X.rangeAt p.j 1 [.int .i64 S.o, .int .i64 S.g, .int .i64 S.m] ∧ X.cell? ⟨w.heap.size, 0, none⟩ = some (.int .i64 (N : Int)) ∧ X.cell? ⟨w.heap.size, 2, none⟩ = some (.int .i64 x.ag)) (by kernel_rfl) (by kernel_rfl) (fun d v c a w h => by cases d <;> exact h) ⟨HLD.out.j.gateC, hca, HLD.out.cell 2 rfl⟩ ?_
        clear hN hca
        simp only [List.map_cons, List.map_nil, slim]
        refine wpSched_pure ?sv14 rfl (by rfl) (fun W => ?sh14) ?sr14; (case sh14 => (go_simp; try (with_reducible rfl))); simp only [Act.put, List.getElem_toArray, List.getElem_cons_zero, List.getElem_cons_succ, List.setIfInBounds_toArray, List.set_cons_zero, List.set_cons_succ]
        refine wpSched_pure ?sv15 rfl (by rfl) (fun W => ?sh15) ?sr15; (case sh15 => (go_simp; try (with_reducible rfl))); simp only [Act.put, List.getElem_toArray, List.getElem_cons_zero, List.getElem_cons_succ, List.setIfInBounds_toArray, List.set_cons_zero, List.set_cons_succ]
        refine wpSched_pure ?sv16 rfl (by rfl) (fun W => ?sh16) ?sr16; (case sh16 => (go_simp; try (with_reducible rfl))); simp only [Act.put, List.getElem_toArray, List.getElem_cons_zero, List.getElem_cons_succ, List.setIfInBounds_toArray, List.set_cons_zero, List.set_cons_succ]
        refine wpSched_load 60 (.tmp 44) p.j 1 [.int .i64 S.o, .int .i64 S.g, .int .i64 S.m] _ rfl rfl (by rfl) (by rfl) (fun W hW => hW.1) Try.underlying60 (by rfl) (by kernel_rfl) ?_
        simp only [Act.put, List.getElem_toArray, List.getElem_cons_zero, List.getElem_cons_succ, List.setIfInBounds_toArray, List.set_cons_zero, List.set_cons_succ]
        refine wpSched_pure ?sv17 rfl (by rfl) (fun W => ?sh17) ?sr17; (case sh17 => (go_simp; try (with_reducible rfl))); simp only [Act.put, List.getElem_toArray, List.getElem_cons_zero, List.getElem_cons_succ, List.setIfInBounds_toArray, List.set_cons_zero, List.set_cons_succ]
        refine wpSched_still ?sv18 rfl (by rfl) (fun W hW => ?sh18) ?sr18; (case sh18 => (obtain ⟨h1, h2, h3⟩ := hW; go_simp; try (with_reducible rfl))); simp only [Act.put, List.getElem_toArray, List.getElem_cons_zero, List.getElem_cons_succ, List.setIfInBounds_toArray, List.set_cons_zero, List.set_cons_succ]
        refine wpSched_pure ?sv19 rfl (by rfl) (fun W => ?sh19) ?sr19; (case sh19 => (go_simp; try (with_reducible rfl))); simp only [Act.put, List.getElem_toArray, List.getElem_cons_zero, List.getElem_cons_succ, List.setIfInBounds_toArray, List.set_cons_zero, List.set_cons_succ]
        refine wpSched_pure ?sv20 rfl (by rfl) (fun W => ?sh20) ?sr20; (case sh20 => (go_simp; try (with_reducible rfl))); simp only [Act.put, List.getElem_toArray, List.getElem_cons_zero, List.getElem_cons_succ, List.setIfInBounds_toArray, List.set_cons_zero, List.set_cons_succ]
        refine wpSched_still ?sv21 rfl (by rfl) (fun W hW => ?sh21) ?sr21; (case sh21 => (obtain ⟨h1, h2, h3⟩ := hW; go_simp; try (with_reducible rfl))); simp only [Act.put, List.getElem_toArray, List.getElem_cons_zero, List.getElem_cons_succ, List.setIfInBounds_toArray, List.set_cons_zero, List.set_cons_succ]
        refine wpSched_pure ?sv22 rfl (by rfl) (fun W => ?sh22) ?sr22; (case sh22 => (go_simp; try (with_reducible rfl))); simp only [Act.put, List.getElem_toArray, List.getElem_cons_zero, List.getElem_cons_succ, List.setIfInBounds_toArray, List.set_cons_zero, List.set_cons_succ]
        refine wpSched_tail rfl (by rfl) (fun K hK => ?_); go_simp
        refine (HFR.out).mono ?_
        rintro e1 w1 ⟨FV, y1, rfl, hfv, rfl⟩
        refine hK _ _ ?_
        clear hK K HFR
        refine wpSched_pure ?sv23 rfl (by rfl) (fun W => ?sh23) ?sr23; (case sh23 => (go_simp; try (with_reducible rfl))); simp only [Act.put, List.getElem_toArray, List.getElem_cons_zero, List.getElem_cons_succ, List.setIfInBounds_toArray, List.set_cons_zero, List.set_cons_succ]
        refine wpSched_pure ?sv24 rfl (by rfl) (fun W => ?sh24) ?sr24; (case sh24 => (go_simp; try (with_reducible rfl))); simp only [Act.put, List.getElem_toArray, List.getElem_cons_zero, List.getElem_cons_succ, List.setIfInBounds_toArray, List.set_cons_zero, List.set_cons_succ]
        refine wpSched_pure ?sv25 rfl (by rfl) (fun W => ?sh25) ?sr25; (case sh25 => (go_simp; try (with_reducible rfl))); simp only [Act.put, List.getElem_toArray, List.getElem_cons_zero, List.getElem_cons_succ, List.setIfInBounds_toArray, List.set_cons_zero, List.set_cons_succ]
        refine wpSched_pure ?sv26 rfl (by rfl) (fun W => ?sh26) ?sr26; (case sh26 => (go_simp; try (with_reducible rfl))); simp only [Act.put, List.getElem_toArray, List.getElem_cons_zero, List.getElem_cons_succ, List.setIfInBounds_toArray, List.set_cons_zero, List.set_cons_succ]
        refine wpSched_nil ?_
        go_upto_region 13 with fail
        refine wp_gen (LkAt w p { S with F := tkF S.F s x.s0 x.s1 x.s2 x.tk } (n + 1) x) (HLD.out.step (HLD.out.j.below (up_below _ _)) (FrJ.below (up_below _ _))) ?_
        clear HL1 HLD
        clear y1
        clear W1
        intro W1 hl1
        have HL1 := Lib.hid hl1
        clear hl1
        cases hF : far3 (G.limV S.o S.g S.m x.ag) N x.of
        · rw [hF] at hfv
          have hfv0 : FV = 0 := by simpa using hfv
          subst hfv0
          have HF := Lib.hid hF
          clear hF hfv
          have HDR := Lib.hid (drifts_any HL1.out.j (by omega) HS.out.1 HP.out.2.2 HX.out (by rw [← HXX.out]; exact HP.out.1) (by rw [← HXX.out]; exact HP.out.2.1))
          unfold DriftR at HDR
          dsimp only at HDR
          rw [HNE.out] at HDR
          have hx0 := HL1.out.cell 0 rfl
          have hx1 := HL1.out.cell 1 rfl
          have hx2 := HL1.out.cell 2 rfl
          have hx3 := HL1.out.cell 3 rfl
          have hx4 := HL1.out.cell 4 rfl
          have hx5 := HL1.out.cell 5 rfl
          have hx6 := HL1.out.cell 6 rfl
          have hx7 := HL1.out.cell 7 rfl
          have hx8 := HL1.out.cell 8 rfl
          obtain ⟨DB, hDB⟩ : ∃ b, drB S.slack S.most S.G s x N = b := ⟨_, rfl⟩
          have HDB := Lib.hid hDB
          rw [hDB] at HDR
          clear hDB
          go_upto_region 15 with fail
          cases DB
          · go_upto_region 19 with (go_at_call 61; refine (HDR.out).mono ?_; rintro e2 w2 ⟨rfl, hj2, hf2⟩)
            have HL2 := Lib.hid (HL1.out.step hj2 hf2)
            refine wp_gen (LkAt w p { S with F := tkF S.F s x.s0 x.s1 x.s2 x.tk, G := drG S.slack S.G s x N } (n + 4) x) HL2.out ?_
            clear hx0 hx1 hx2 hx3 hx4 hx5 hx6 hx7 hx8 HDR HL2 HL1 hj2 hf2
            clear w2
            clear W1
            intro W1 hl1
            have HL1 := Lib.hid hl1
            clear hl1
            have HK1 := Lib.hid (HL1.out.drew)
            have HB := Lib.hid (Q.qGood_any p.q s x.tk S.Q _ W1.drew HK1.out.j.qu HK1.out.j.ok.q1 (by omega))
            go_upto_region 19 with fail
            refine wp_region_slim [7] [(0, 3), (1, 3), (2, 3), (3, 0), (4, 3), (5, 3), (6, 0), (7, 2)] (fun X => X.cell? ⟨p.j, 0, none⟩ = some (.pointer (some ⟨p.q, 0, none⟩)) ∧ X.cell? ⟨w.heap.size, 1, none⟩ = some (.int .i64 x.tk)) (by kernel_rfl) (by kernel_rfl) (fun d v c a w h => by cases d <;> exact h) ⟨HK1.out.j.c0, HK1.out.cell 1 rfl⟩ ?_
            simp only [List.map_cons, List.map_nil, slim]
            refine wpSched_pure ?sv27 rfl (by rfl) (fun W => ?sh27) ?sr27; (case sh27 => (go_simp; try (with_reducible rfl))); simp only [Act.put, List.getElem_toArray, List.getElem_cons_zero, List.getElem_cons_succ, List.setIfInBounds_toArray, List.set_cons_zero, List.set_cons_succ]
            refine wpSched_pure ?sv28 rfl (by rfl) (fun W => ?sh28) ?sr28; (case sh28 => (go_simp; try (with_reducible rfl))); simp only [Act.put, List.getElem_toArray, List.getElem_cons_zero, List.getElem_cons_succ, List.setIfInBounds_toArray, List.set_cons_zero, List.set_cons_succ]
            refine wpSched_pure ?sv29 rfl (by rfl) (fun W => ?sh29) ?sr29; (case sh29 => (go_simp; try (with_reducible rfl))); simp only [Act.put, List.getElem_toArray, List.getElem_cons_zero, List.getElem_cons_succ, List.setIfInBounds_toArray, List.set_cons_zero, List.set_cons_succ]
            refine wpSched_still ?sv30 rfl (by rfl) (fun W hW => ?sh30) ?sr30; (case sh30 => (obtain ⟨h1, h2⟩ := hW; go_simp; try (with_reducible rfl))); simp only [Act.put, List.getElem_toArray, List.getElem_cons_zero, List.getElem_cons_succ, List.setIfInBounds_toArray, List.set_cons_zero, List.set_cons_succ]
            refine wpSched_pure ?sv31 rfl (by rfl) (fun W => ?sh31) ?sr31; (case sh31 => (go_simp; try (with_reducible rfl))); simp only [Act.put, List.getElem_toArray, List.getElem_cons_zero, List.getElem_cons_succ, List.setIfInBounds_toArray, List.set_cons_zero, List.set_cons_succ]
            refine wpSched_pure ?sv32 rfl (by rfl) (fun W => ?sh32) ?sr32; (case sh32 => (go_simp; try (with_reducible rfl))); simp only [Act.put, List.getElem_toArray, List.getElem_cons_zero, List.getElem_cons_succ, List.setIfInBounds_toArray, List.set_cons_zero, List.set_cons_succ]
            refine wpSched_still ?sv33 rfl (by rfl) (fun W hW => ?sh33) ?sr33; (case sh33 => (obtain ⟨h1, h2⟩ := hW; go_simp; try (with_reducible rfl))); simp only [Act.put, List.getElem_toArray, List.getElem_cons_zero, List.getElem_cons_succ, List.setIfInBounds_toArray, List.set_cons_zero, List.set_cons_succ]
            refine wpSched_tail rfl (by rfl) (fun K hK => ?_); go_simp
            refine (HB.out).mono ?_
            rintro e3 w3 ⟨rfl, hq3, hg3⟩
            refine hK _ _ ?_
            clear hK K HB
            refine wpSched_nil ?_
            have HL3 := Lib.hid (HK1.out.step (HK1.out.j.quar hq3 hg3 (Nat.le_succ _) (HK1.out.j.ok.q1.hap _ _ _)) (FrJ.row (p := p) hg3 (by simp [JB.all])))
            clear hq3 hg3
            go_upto_region 20 with fail
            refine wp_gen (LkAt w p { S with F := tkF S.F s x.s0 x.s1 x.s2 x.tk, G := drG S.slack S.G s x N, Q := Q.hapS S.Q s x.tk 1 } (n + 5) x) HL3.out ?_
            clear HL3 HL1 HK1
            clear w3
            clear W1
            intro W1 hl1
            have HL1 := Lib.hid hl1
            clear hl1
            have c0 := HL1.out.j.c0
            obtain ⟨CB, hCB⟩ : ∃ b, (Q.srcB s && decide ((Q.qlookO (Q.hapS S.Q s x.tk 1) s).st < 2)) = b := ⟨_, rfl⟩
            have HCC := Lib.hid (Q.qCounts_is (s := s) HL1.out.j.qu HL1.out.j.ok.q1 hCB)
            have HLX := Lib.hid (lookX_g HS.out.2.1 HFE.out (by rw [HNE.out]; exact HF.out) (by rw [HNE.out]; exact HDB.out) hCB)
            clear hCB
            cases CB
            · go_wp2_with (go_at_call 49; with_reducible refine Calls.tells (HCC.out) ?_)
              simp only [Exit.jump]
              go_ret
              unfold LookR
              rw [lookJ_in HP.out.1 HP.out.2.1, HXX.out, HLX.out, HNE.out]
              exact ⟨rfl, HL1.out.j.mono (by omega), HL1.out.f⟩
            · go_wp2_with (go_at_call 49; with_reducible refine Calls.tells (HCC.out) ?_)
              simp only [Exit.jump]
              go_ret
              unfold LookR
              rw [lookJ_in HP.out.1 HP.out.2.1, HXX.out, HLX.out, HNE.out]
              exact ⟨rfl, HL1.out.j.mono (by omega), HL1.out.f⟩
          · go_upto_region 16 with (go_at_call 61; refine (HDR.out).mono ?_; rintro e2 w2 ⟨rfl, hj2, hf2⟩)
            have HL2 := Lib.hid (HL1.out.step hj2 hf2)
            refine wp_gen (LkAt w p { S with F := tkF S.F s x.s0 x.s1 x.s2 x.tk, G := drG S.slack S.G s x N } (n + 4) x) HL2.out ?_
            clear hx0 hx1 hx2 hx3 hx4 hx5 hx6 hx7 hx8 HDR HL2 HL1 hj2 hf2
            clear w2
            clear W1
            intro W1 hl1
            have HL1 := Lib.hid hl1
            clear hl1
            have HK1 := Lib.hid (HL1.out.drew)
            have HB := Lib.hid (Q.qDrift_any p.q s x.tk S.Q _ W1.drew HK1.out.j.qu HK1.out.j.ok.q1 (by omega))
            go_upto_region 16 with fail
            refine wp_region_slim [7] [(0, 3), (1, 3), (2, 3), (3, 0), (4, 3), (5, 3), (6, 0), (7, 2)] (fun X => X.cell? ⟨p.j, 0, none⟩ = some (.pointer (some ⟨p.q, 0, none⟩)) ∧ X.cell? ⟨w.heap.size, 1, none⟩ = some (.int .i64 x.tk)) (by kernel_rfl) (by kernel_rfl) (fun d v c a w h => by cases d <;> exact h) ⟨HK1.out.j.c0, HK1.out.cell 1 rfl⟩ ?_
            simp only [List.map_cons, List.map_nil, slim]
            refine wpSched_pure ?sv34 rfl (by rfl) (fun W => ?sh34) ?sr34; (case sh34 => (go_simp; try (with_reducible rfl))); simp only [Act.put, List.getElem_toArray, List.getElem_cons_zero, List.getElem_cons_succ, List.setIfInBounds_toArray, List.set_cons_zero, List.set_cons_succ]
            refine wpSched_pure ?sv35 rfl (by rfl) (fun W => ?sh35) ?sr35; (case sh35 => (go_simp; try (with_reducible rfl))); simp only [Act.put, List.getElem_toArray, List.getElem_cons_zero, List.getElem_cons_succ, List.setIfInBounds_toArray, List.set_cons_zero, List.set_cons_succ]
            refine wpSched_pure ?sv36 rfl (by rfl) (fun W => ?sh36) ?sr36; (case sh36 => (go_simp; try (with_reducible rfl))); simp only [Act.put, List.getElem_toArray, List.getElem_cons_zero, List.getElem_cons_succ, List.setIfInBounds_toArray, List.set_cons_zero, List.set_cons_succ]
            refine wpSched_still ?sv37 rfl (by rfl) (fun W hW => ?sh37) ?sr37; (case sh37 => (obtain ⟨h1, h2⟩ := hW; go_simp; try (with_reducible rfl))); simp only [Act.put, List.getElem_toArray, List.getElem_cons_zero, List.getElem_cons_succ, List.setIfInBounds_toArray, List.set_cons_zero, List.set_cons_succ]
            refine wpSched_pure ?sv38 rfl (by rfl) (fun W => ?sh38) ?sr38; (case sh38 => (go_simp; try (with_reducible rfl))); simp only [Act.put, List.getElem_toArray, List.getElem_cons_zero, List.getElem_cons_succ, List.setIfInBounds_toArray, List.set_cons_zero, List.set_cons_succ]
            refine wpSched_pure ?sv39 rfl (by rfl) (fun W => ?sh39) ?sr39; (case sh39 => (go_simp; try (with_reducible rfl))); simp only [Act.put, List.getElem_toArray, List.getElem_cons_zero, List.getElem_cons_succ, List.setIfInBounds_toArray, List.set_cons_zero, List.set_cons_succ]
            refine wpSched_still ?sv40 rfl (by rfl) (fun W hW => ?sh40) ?sr40; (case sh40 => (obtain ⟨h1, h2⟩ := hW; go_simp; try (with_reducible rfl))); simp only [Act.put, List.getElem_toArray, List.getElem_cons_zero, List.getElem_cons_succ, List.setIfInBounds_toArray, List.set_cons_zero, List.set_cons_succ]
            refine wpSched_tail rfl (by rfl) (fun K hK => ?_); go_simp
            refine (HB.out).mono ?_
            rintro e3 w3 ⟨rfl, hq3, hg3⟩
            refine hK _ _ ?_
            clear hK K HB
            refine wpSched_nil ?_
            have HL3 := Lib.hid (HK1.out.step (HK1.out.j.quar hq3 hg3 (Nat.le_succ _) (HK1.out.j.ok.q1.hap _ _ _)) (FrJ.row (p := p) hg3 (by simp [JB.all])))
            clear hq3 hg3
            go_upto_region 17 with fail
            refine wp_gen (LkAt w p { S with F := tkF S.F s x.s0 x.s1 x.s2 x.tk, G := drG S.slack S.G s x N, Q := Q.hapS S.Q s x.tk 3 } (n + 5) x) HL3.out ?_
            clear HL3 HL1 HK1
            clear w3
            clear W1
            intro W1 hl1
            have HL1 := Lib.hid hl1
            clear hl1
            have c4 := HL1.out.j.c4
            have HCL := Lib.hid (cClear_good HS.out.1 HP.out.2.2 HL1.out.j.cu)
            have HLX := Lib.hid (lookX_d HS.out.2.1 HFE.out (by rw [HNE.out]; exact HF.out) (by rw [HNE.out]; exact HDB.out))
            go_wp2_with (go_at_call 63; refine (HCL.out).mono ?_; rintro e2 w2 ⟨rfl, hj2, hg2⟩)
            simp only [Exit.jump]
            go_ret
            unfold LookR
            rw [lookJ_in HP.out.1 HP.out.2.1, HXX.out, HLX.out, HNE.out]
            exact ⟨rfl, (HL1.out.j.cus hj2 hg2 (Nat.le_refl _) (GB.clr HL1.out.j.ok.gb s)).mono (by omega), HL1.out.f.trans (FrJ.row (p := p) hg2 (by simp [JB.all]))⟩
        · rw [hF] at hfv
          have hfv0 : FV ≠ 0 := by simpa using hfv
          have HLX := Lib.hid (lookX_f HS.out.2.1 HFE.out (by rw [HNE.out]; exact hF))
          clear hF hfv
          go_upto_region 14 with fail
          go_wp2_with fail
          go_step3
          refine ⟨rfl, ?_⟩
          have HK1 := Lib.hid (HL1.out.drew)
          have HB := Lib.hid (Q.qBad_any p.q s x.tk S.Q _ W1.drew HK1.out.j.qu HK1.out.j.ok.q1 (by omega))
          go_upto_region 23 with fail
          refine wp_region_slim [7] [(0, 3), (1, 3), (2, 3), (3, 0), (4, 3), (5, 3), (6, 0), (7, 2)] (fun X => X.cell? ⟨p.j, 0, none⟩ = some (.pointer (some ⟨p.q, 0, none⟩)) ∧ X.cell? ⟨w.heap.size, 1, none⟩ = some (.int .i64 x.tk)) (by kernel_rfl) (by kernel_rfl) (fun d v c a w h => by cases d <;> exact h) ⟨HK1.out.j.c0, HK1.out.cell 1 rfl⟩ ?_
          simp only [List.map_cons, List.map_nil, slim]
          refine wpSched_pure ?sv41 rfl (by rfl) (fun W => ?sh41) ?sr41; (case sh41 => (go_simp; try (with_reducible rfl))); simp only [Act.put, List.getElem_toArray, List.getElem_cons_zero, List.getElem_cons_succ, List.setIfInBounds_toArray, List.set_cons_zero, List.set_cons_succ]
          refine wpSched_pure ?sv42 rfl (by rfl) (fun W => ?sh42) ?sr42; (case sh42 => (go_simp; try (with_reducible rfl))); simp only [Act.put, List.getElem_toArray, List.getElem_cons_zero, List.getElem_cons_succ, List.setIfInBounds_toArray, List.set_cons_zero, List.set_cons_succ]
          refine wpSched_pure ?sv43 rfl (by rfl) (fun W => ?sh43) ?sr43; (case sh43 => (go_simp; try (with_reducible rfl))); simp only [Act.put, List.getElem_toArray, List.getElem_cons_zero, List.getElem_cons_succ, List.setIfInBounds_toArray, List.set_cons_zero, List.set_cons_succ]
          refine wpSched_still ?sv44 rfl (by rfl) (fun W hW => ?sh44) ?sr44; (case sh44 => (obtain ⟨h1, h2⟩ := hW; go_simp; try (with_reducible rfl))); simp only [Act.put, List.getElem_toArray, List.getElem_cons_zero, List.getElem_cons_succ, List.setIfInBounds_toArray, List.set_cons_zero, List.set_cons_succ]
          refine wpSched_pure ?sv45 rfl (by rfl) (fun W => ?sh45) ?sr45; (case sh45 => (go_simp; try (with_reducible rfl))); simp only [Act.put, List.getElem_toArray, List.getElem_cons_zero, List.getElem_cons_succ, List.setIfInBounds_toArray, List.set_cons_zero, List.set_cons_succ]
          refine wpSched_pure ?sv46 rfl (by rfl) (fun W => ?sh46) ?sr46; (case sh46 => (go_simp; try (with_reducible rfl))); simp only [Act.put, List.getElem_toArray, List.getElem_cons_zero, List.getElem_cons_succ, List.setIfInBounds_toArray, List.set_cons_zero, List.set_cons_succ]
          refine wpSched_still ?sv47 rfl (by rfl) (fun W hW => ?sh47) ?sr47; (case sh47 => (obtain ⟨h1, h2⟩ := hW; go_simp; try (with_reducible rfl))); simp only [Act.put, List.getElem_toArray, List.getElem_cons_zero, List.getElem_cons_succ, List.setIfInBounds_toArray, List.set_cons_zero, List.set_cons_succ]
          refine wpSched_tail rfl (by rfl) (fun K hK => ?_); go_simp
          refine (HB.out).mono ?_
          rintro e3 w3 ⟨rfl, hq3, hg3⟩
          refine hK _ _ ?_
          clear hK K
          refine wpSched_nil ?_
          have H3 := Lib.hid (And.intro (HK1.out.j.quar hq3 hg3 (Nat.le_succ _) (HK1.out.j.ok.q1.hap _ _ _)) (FrJ.row (p := p) hg3 (by simp [JB.all])))
          clear hq3 hg3
          go_wp2_with fail
          (try rw [Exit.noGoto_ret])
          go_ret
          unfold LookR
          rw [lookJ_in HP.out.1 HP.out.2.1, HXX.out, HLX.out]
          exact ⟨rfl, H3.out.1.mono (by omega), HK1.out.f.trans H3.out.2⟩
      · have HLX := Lib.hid (lookX_s HS.out.2.1 (by rw [HFE.out]; exact hfl))
        go_upto_region 11 with fail
        go_wp2_with fail
        go_step3
        refine ⟨rfl, ?_⟩
        have HK1 := Lib.hid (HL1.out.drew)
        have HB := Lib.hid (Q.qBad_any p.q s x.tk S.Q _ W1.drew HK1.out.j.qu HK1.out.j.ok.q1 (by omega))
        go_upto_region 23 with fail
        refine wp_region_slim [7] [(0, 3), (1, 3), (2, 3), (3, 0), (4, 3), (5, 3), (6, 0), (7, 2)] (fun X => X.cell? ⟨p.j, 0, none⟩ = some (.pointer (some ⟨p.q, 0, none⟩)) ∧ X.cell? ⟨w.heap.size, 1, none⟩ = some (.int .i64 x.tk)) (by kernel_rfl) (by kernel_rfl) (fun d v c a w h => by cases d <;> exact h) ⟨HK1.out.j.c0, HK1.out.cell 1 rfl⟩ ?_
        simp only [List.map_cons, List.map_nil, slim]
        refine wpSched_pure ?sv48 rfl (by rfl) (fun W => ?sh48) ?sr48; (case sh48 => (go_simp; try (with_reducible rfl))); simp only [Act.put, List.getElem_toArray, List.getElem_cons_zero, List.getElem_cons_succ, List.setIfInBounds_toArray, List.set_cons_zero, List.set_cons_succ]
        refine wpSched_pure ?sv49 rfl (by rfl) (fun W => ?sh49) ?sr49; (case sh49 => (go_simp; try (with_reducible rfl))); simp only [Act.put, List.getElem_toArray, List.getElem_cons_zero, List.getElem_cons_succ, List.setIfInBounds_toArray, List.set_cons_zero, List.set_cons_succ]
        refine wpSched_pure ?sv50 rfl (by rfl) (fun W => ?sh50) ?sr50; (case sh50 => (go_simp; try (with_reducible rfl))); simp only [Act.put, List.getElem_toArray, List.getElem_cons_zero, List.getElem_cons_succ, List.setIfInBounds_toArray, List.set_cons_zero, List.set_cons_succ]
        refine wpSched_still ?sv51 rfl (by rfl) (fun W hW => ?sh51) ?sr51; (case sh51 => (obtain ⟨h1, h2⟩ := hW; go_simp; try (with_reducible rfl))); simp only [Act.put, List.getElem_toArray, List.getElem_cons_zero, List.getElem_cons_succ, List.setIfInBounds_toArray, List.set_cons_zero, List.set_cons_succ]
        refine wpSched_pure ?sv52 rfl (by rfl) (fun W => ?sh52) ?sr52; (case sh52 => (go_simp; try (with_reducible rfl))); simp only [Act.put, List.getElem_toArray, List.getElem_cons_zero, List.getElem_cons_succ, List.setIfInBounds_toArray, List.set_cons_zero, List.set_cons_succ]
        refine wpSched_pure ?sv53 rfl (by rfl) (fun W => ?sh53) ?sr53; (case sh53 => (go_simp; try (with_reducible rfl))); simp only [Act.put, List.getElem_toArray, List.getElem_cons_zero, List.getElem_cons_succ, List.setIfInBounds_toArray, List.set_cons_zero, List.set_cons_succ]
        refine wpSched_still ?sv54 rfl (by rfl) (fun W hW => ?sh54) ?sr54; (case sh54 => (obtain ⟨h1, h2⟩ := hW; go_simp; try (with_reducible rfl))); simp only [Act.put, List.getElem_toArray, List.getElem_cons_zero, List.getElem_cons_succ, List.setIfInBounds_toArray, List.set_cons_zero, List.set_cons_succ]
        refine wpSched_tail rfl (by rfl) (fun K hK => ?_); go_simp
        refine (HB.out).mono ?_
        rintro e3 w3 ⟨rfl, hq3, hg3⟩
        refine hK _ _ ?_
        clear hK K
        refine wpSched_nil ?_
        have H3 := Lib.hid (And.intro (HK1.out.j.quar hq3 hg3 (Nat.le_succ _) (HK1.out.j.ok.q1.hap _ _ _)) (FrJ.row (p := p) hg3 (by simp [JB.all])))
        clear hq3 hg3
        go_wp2_with fail
        (try rw [Exit.noGoto_ret])
        go_ret
        unfold LookR
        rw [lookJ_in HP.out.1 HP.out.2.1, HXX.out, HLX.out]
        exact ⟨rfl, H3.out.1.mono (by omega), HK1.out.f.trans H3.out.2⟩
end Go.Proofs.Ytihalkpcddnikaa
