/-
  The monitor of drifts: a step at a good place.
-/
import Derived.Test.YtihalkpcddnikaaCusT
import Derived.Test.YtihalkpcddnikaaCusX
namespace Go.Proofs.Ytihalkpcddnikaa
open Go.RowKit Go.Maps
set_option linter.unusedVariables false
set_option linter.unusedSimpArgs false

theorem fSum3 (x y z : Int) (hx : I64 x) (hy : I64 y) (hz : I64 z) (b cap : Nat) (w : World) (hb : b < w.heap.size) (h0 : w.cell? ⟨b, 0, none⟩ = some (.int .i64 x)) (h1 : w.cell? ⟨b, 1, none⟩ = some (.int .i64 y)) (h2 : w.cell? ⟨b, 2, none⟩ = some (.int .i64 z)) :
    Calls Try.prog 75 #[.slice (some ⟨b, 0, none⟩) 3 cap] w (Gives w (.tuple #[.int .i64 (clipV (x + y + z)), .bool (clipO (x + y + z))])) := by
  have := fSum_any b cap [x, y, z] w hb (fun k hk => by
    match k, hk with
    | 0, _ => exact h0
    | 1, _ => exact h1
    | 2, _ => exact h2
    | (n+3), hk => simp at hk; omega) (fun v hv => by
    simp at hv
    rcases hv with rfl | rfl | rfl
    · exact hx
    · exact hy
    · exact hz) (by simp)
  rwa [show sumI [x, y, z] = x + y + z from by simp [sumI]; omega] at this
theorem fSum4 (x y z v : Int) (hx : I64 x) (hy : I64 y) (hz : I64 z) (hv : I64 v) (b cap : Nat) (w : World) (hb : b < w.heap.size) (h0 : w.cell? ⟨b, 0, none⟩ = some (.int .i64 x)) (h1 : w.cell? ⟨b, 1, none⟩ = some (.int .i64 y)) (h2 : w.cell? ⟨b, 2, none⟩ = some (.int .i64 z)) (h3 : w.cell? ⟨b, 3, none⟩ = some (.int .i64 v)) :
    Calls Try.prog 75 #[.slice (some ⟨b, 0, none⟩) 4 cap] w (Gives w (.tuple #[.int .i64 (clipV (x + y + z + v)), .bool (clipO (x + y + z + v))])) := by
  have := fSum_any b cap [x, y, z, v] w hb (fun k hk => by
    match k, hk with
    | 0, _ => exact h0
    | 1, _ => exact h1
    | 2, _ => exact h2
    | 3, _ => exact h3
    | (n+4), hk => simp at hk; omega) (fun t ht => by
    simp at ht
    rcases ht with rfl | rfl | rfl | rfl
    · exact hx
    · exact hy
    · exact hz
    · exact hv) (by simp)
  rwa [show sumI [x, y, z, v] = x + y + z + v from by simp [sumI]; omega] at this
/-- What a step's walk knows of a world: the monitor, the place's block p, the pair's block q. -/
structure KStep (w W : World) (c b n : Nat) (slack most : Int) (g : Int → Int → Pr) (s k : Int) (q : Nat) (u d : Int) : Prop where
  cu : CuAt W c b n slack most g
  bl : Below w.heap.size w W
  pl : w.heap.size < W.heap.size
  p0 : W.cell? ⟨w.heap.size, 0, none⟩ = some (.int .i64 s)
  p1 : W.cell? ⟨w.heap.size, 1, none⟩ = some (.int .i64 k)
  ql : q < W.heap.size
  qg : w.heap.size < q
  q0 : W.cell? ⟨q, 0, none⟩ = some (.int .i64 u)
  q1 : W.cell? ⟨q, 1, none⟩ = some (.int .i64 d)
  z0 : ∀ i, W.frozen? ⟨q, i, none⟩ = false
theorem KStep.below {w W W' : World} {c b n : Nat} {slack most : Int} {g : Int → Int → Pr} {s k : Int} {q : Nat} {u d : Int} (h : KStep w W c b n slack most g s k q u d) (hb : Below W.heap.size W W') : KStep w W' c b n slack most g s k q u d :=
  ⟨h.cu.below hb, h.bl.trans (hb.mono h.bl.size), Nat.lt_of_lt_of_le h.pl hb.size, cell_belowI hb h.pl h.p0, cell_belowI hb h.pl h.p1, Nat.lt_of_lt_of_le h.ql hb.size, h.qg, cell_belowI hb h.ql h.q0, cell_belowI hb h.ql h.q1, fun i => by rw [hb.frozen (p := ⟨q, i, none⟩) h.ql]; exact h.z0 i⟩
theorem KStep.put {w W : World} {c b n : Nat} {slack most : Int} {g : Int → Int → Pr} {s k : Int} {q : Nat} {u d : Int} (h : KStep w W c b n slack most g s k q u d) (hb : b < w.heap.size) (hc : c < w.heap.size) (x y : Int) : KStep w ((W.setCell ⟨q, 0, none⟩ (.int .i64 x)).setCell ⟨q, 1, none⟩ (.int .i64 y)) c b n slack most g s k q x y := by
  have hq := h.qg
  have hg : W.grownBy ((W.setCell ⟨q, 0, none⟩ (.int .i64 x)).setCell ⟨q, 1, none⟩ (.int .i64 y)) (some q) := gr_trans (gr_set _ _ _ _) (gr_set _ _ _ _)
  have h2 := cell_set2 (u := .int .i64 x) (v := .int .i64 y) h.q0 h.q1
  exact ⟨h.cu.kept hg (by simp; omega) (by simp; omega), (h.bl.setCell (Nat.le_of_lt hq) _).setCell (Nat.le_of_lt hq) _, by simpa using h.pl, kept_cellR h.p0 hg (by simp; omega), kept_cellR h.p1 hg (by simp; omega), by simpa using h.ql, hq, h2.1, h2.2, fun i => by rw [World.frozen?_setCell, World.frozen?_setCell]; exact h.z0 i⟩
theorem exec_updC {o : Oper} {a : Act} {W w' : World} (m x v : Operand) (ho : o.op = .mapUpdate 120 m x v) {mv xv vv : Value} (hm : a.eval m = mv) (hx : a.eval x = xv) (hv : a.eval v = vv) (hr : (Instr.mapUpdate 120 mv xv vv).run Try.prog W = .ok () w') :
    (execOp a.eval o).run Try.prog W = .ok .skip w' := by
  unfold execOp
  simp only [ho, hm, hx, hv, Sem.run_bind, hr, Result.andThen_ok, Sem.run_pure]
theorem exec_delC {o : Oper} {a : Act} {W w' : World} (m x : Operand) (ho : o.op = .call { callee := .builtin .delete, args := #[m, x], argTypes := #[120, 112] }) {mv xv : Value} (hm : a.eval m = mv) (hx : a.eval x = xv) (hr : (Builtin.delete_ #[120, 112] o.type #[mv, xv]).run Try.prog W = .ok (.tuple #[]) w') :
    (execOp a.eval o).run Try.prog W = .ok (.value (.tuple #[])) w' := by
  unfold execOp
  simp only [ho, resolve, invoke, builtin, Sem.run_bind, Sem.run_pure, Result.andThen_ok, List.map_toArray, List.map_cons, List.map_nil, hm, hx, hr]
def GB (g : Int → Int → Pr) : Prop := ∀ s k, I64 (g s k).up ∧ I64 (g s k).dn
def StepR (w : World) (c b n : Nat) (slack most : Int) (g : Int → Int → Pr) (s k r : Int) (e : Ending) (w' : World) : Prop :=
  e = .returned (.tuple #[.bool (decide (most < (stepP slack (g s k) r).up ∨ most < (stepP slack (g s k) r).dn)), .int .i64 0]) ∧ CuAt w' c b (n + 1) slack most (updC g s k (stepP slack (g s k) r)) ∧ w.grownBy w' (some b)
set_option maxRecDepth 100000 in
theorem cStep_good {s k r : Int} (hb : goodPl s k = true) (hs : I64 s) (hk : I64 k) (hr : I64 r) {w : World} {c b n : Nat} {slack most : Int} {g : Int → Int → Pr} (h : CuAt w c b n slack most g) (hn : n < 1000000) (hg : GB g) (hsl : 0 ≤ slack) (hsl2 : I64 slack) (hmo : 0 < most) :
    Calls Try.prog 72 #[.pointer (some ⟨c, 0, none⟩), .agg #[.int .i64 s, .int .i64 k], .int .i64 r] w (StepR w c b n slack most g s k r) := by
  have HC := Lib.hid (fun W (hW : CuAt W c b n slack most g) => cis_t hW)
  have HA := Lib.hid h
  have hlt := h.lt
  obtain ⟨⟨u, d⟩, hv⟩ : ∃ m, g s k = m := ⟨_, rfl⟩
  have hud := hg s k
  rw [hv] at hud
  have hcase : srcB s = true ∧ ¬ k < 0 ∧ ¬ 3 ≤ k := by
    unfold goodPl at hb
    simp at hb
    obtain ⟨⟨a1, a2⟩, a3⟩ := hb
    exact ⟨a1, by omega, by omega⟩
  obtain ⟨hs1, hk1, hk2⟩ := hcase
  have HS := Lib.hid (fun W => hs1 ▸ csrc_any s W)
  have HV := Lib.hid hv
  have HF := Lib.hid (And.intro hg (And.intro hsl (And.intro hsl2 (And.intro hmo (And.intro hr hud)))))
  clear h hb hs1 hg hsl hsl2 hmo hr hud hv
  unfold StepR
  rw [HV.out]
  generalize hB : decide (most < (stepP slack ⟨u, d⟩ r).up ∨ most < (stepP slack ⟨u, d⟩ r).dn) = B
  have HB := Lib.hid hB
  clear hB
  go_enter Try.func72, Try.ntmps72
  go_upto_region 5 with first | (go_at_call 68; refine (HC.out _ (HA.out.below (by (repeat (first | (with_reducible exact Below.refl _ _) | (with_reducible assumption) | (with_reducible refine Below.alloc ?_ (by (repeat (first | (with_reducible exact Nat.le_refl _) | (with_reducible assumption) | (with_reducible refine le_up ?_) | (with_reducible refine le_alloc ?_) | (with_reducible refine le_setCell ?_) | (with_reducible refine le_drew ?_) | (with_reducible refine le_drewN ?_) | omega))) _) | (with_reducible refine Below.drew ?_) | (with_reducible refine Below.drewN ?_ _) | (with_reducible refine Below.setCell ?_ (by (repeat (first | (with_reducible exact Nat.le_refl _) | (with_reducible assumption) | (with_reducible refine le_up ?_) | (with_reducible refine le_alloc ?_) | (with_reducible refine le_setCell ?_) | (with_reducible refine le_drew ?_) | (with_reducible refine le_drewN ?_) | omega))) _) | (with_reducible refine Below.up ?_ (by (repeat (first | (with_reducible exact Nat.le_refl _) | (with_reducible assumption) | (with_reducible refine le_up ?_) | (with_reducible refine le_alloc ?_) | (with_reducible refine le_setCell ?_) | (with_reducible refine le_drew ?_) | (with_reducible refine le_drewN ?_) | omega))))))))).mono ?_; rintro e w1 ⟨rfl, rfl⟩) | (go_at_call 74; refine (HS.out _).mono ?_; rintro e w1 ⟨rfl, rfl⟩)
  refine wp_gen (fun W => Below w.heap.size w W ∧ w.heap.size < W.heap.size ∧ W.cell? ⟨w.heap.size, 0, none⟩ = some (.int .i64 s) ∧ W.cell? ⟨w.heap.size, 1, none⟩ = some (.int .i64 k)) ⟨by (repeat (first | (with_reducible exact Below.refl _ _) | (with_reducible assumption) | (with_reducible refine Below.alloc ?_ (by (repeat (first | (with_reducible exact Nat.le_refl _) | (with_reducible assumption) | (with_reducible refine le_up ?_) | (with_reducible refine le_alloc ?_) | (with_reducible refine le_setCell ?_) | (with_reducible refine le_drew ?_) | (with_reducible refine le_drewN ?_) | omega))) _) | (with_reducible refine Below.drew ?_) | (with_reducible refine Below.drewN ?_ _) | (with_reducible refine Below.setCell ?_ (by (repeat (first | (with_reducible exact Nat.le_refl _) | (with_reducible assumption) | (with_reducible refine le_up ?_) | (with_reducible refine le_alloc ?_) | (with_reducible refine le_setCell ?_) | (with_reducible refine le_drew ?_) | (with_reducible refine le_drewN ?_) | omega))) _) | (with_reducible refine Below.up ?_ (by (repeat (first | (with_reducible exact Nat.le_refl _) | (with_reducible assumption) | (with_reducible refine le_up ?_) | (with_reducible refine le_alloc ?_) | (with_reducible refine le_setCell ?_) | (with_reducible refine le_drew ?_) | (with_reducible refine le_drewN ?_) | omega)))))), by simp, by simp, by simp⟩ ?_
  rintro W1 ⟨hb1, hl1, hc0, hc1⟩
  have HB1 := Lib.hid hb1
  have H1 := Lib.hid (show Below w.heap.size w W1.drew ∧ w.heap.size < W1.drew.heap.size ∧ W1.drew.cell? ⟨w.heap.size, 0, none⟩ = some (.int .i64 s) ∧ W1.drew.cell? ⟨w.heap.size, 1, none⟩ = some (.int .i64 k) from ⟨Below.drew hb1, hl1, hc0, hc1⟩)
  clear hb1 hl1 hc0 hc1
  have H2 := Lib.hid (HA.out.below H1.out.1)
  refine wp_region_slim [7] [(0, 3), (1, 3), (2, 3), (3, 0), (4, 0), (5, 0), (6, 1), (7, 2)] (fun X => X.cell? ⟨c, 2, none⟩ = some (.map (some b)) ∧ X.rangeAt w.heap.size 0 [.int .i64 s, .int .i64 k] ∧ TabC X b n g) (by kernel_rfl) (by kernel_rfl) (fun d v c a w h => by cases d <;> exact h) ⟨H2.out.c2, range2 H1.out.2.2.1 H1.out.2.2.2, H2.out.tab⟩ ?_
  simp only [List.map_cons, List.map_nil, slim]
  refine wpSched_pure ?sv1 rfl (by rfl) (fun W => ?sh1) ?sr1; (case sh1 => (go_simp; try (with_reducible rfl))); simp only [Act.put, List.getElem_toArray, List.getElem_cons_zero, List.getElem_cons_succ, List.setIfInBounds_toArray, List.set_cons_zero, List.set_cons_succ]
  refine wpSched_pure ?sv2 rfl (by rfl) (fun W => ?sh2) ?sr2; (case sh2 => (go_simp; try (with_reducible rfl))); simp only [Act.put, List.getElem_toArray, List.getElem_cons_zero, List.getElem_cons_succ, List.setIfInBounds_toArray, List.set_cons_zero, List.set_cons_succ]
  refine wpSched_pure ?sv3 rfl (by rfl) (fun W => ?sh3) ?sr3; (case sh3 => (go_simp; try (with_reducible rfl))); simp only [Act.put, List.getElem_toArray, List.getElem_cons_zero, List.getElem_cons_succ, List.setIfInBounds_toArray, List.set_cons_zero, List.set_cons_succ]
  refine wpSched_still ?sv4 rfl (by rfl) (fun W hW => ?sh4) ?sr4; (case sh4 => (obtain ⟨h1, h2, h3⟩ := hW; go_simp; try (with_reducible rfl))); simp only [Act.put, List.getElem_toArray, List.getElem_cons_zero, List.getElem_cons_succ, List.setIfInBounds_toArray, List.set_cons_zero, List.set_cons_succ]
  refine wpSched_load 112 (.tmp 4) w.heap.size 0 [.int .i64 s, .int .i64 k] _ rfl rfl (by rfl) (by rfl) (fun W hW => hW.2.1) Try.underlying112 (by rfl) (by kernel_rfl) ?_
  simp only [Act.put, List.getElem_toArray, List.getElem_cons_zero, List.getElem_cons_succ, List.setIfInBounds_toArray, List.set_cons_zero, List.set_cons_succ]
  refine wpSched_still (.agg #[.int .i64 u, .int .i64 d]) rfl (by rfl) (fun W hW => (exec_lookC (.tmp 35) (.tmp 36) rfl hs hk (by rfl) (by rfl) hW.2.2).trans (by rw [HV.out]; rfl)) ?_
  simp only [Act.put, List.getElem_toArray, List.getElem_cons_zero, List.getElem_cons_succ, List.setIfInBounds_toArray, List.set_cons_zero, List.set_cons_succ]
  refine wpSched_eff rfl (by rfl) (fun K hK => ?_); go_simp
  refine hK _ _ ⟨cell_belowI ((Below.refl _ _).alloc (Nat.le_refl _) _) (Nat.lt_of_lt_of_le hlt H1.out.1.size) H2.out.c2, rangeB ((Below.refl _ _).alloc (Nat.le_refl _) _) H1.out.2.1 (range2 H1.out.2.2.1 H1.out.2.2.2), H2.out.tab.below ((Below.refl _ _).alloc (Nat.le_refl _) _)⟩ ?_
  clear hK K
  refine wpSched_tail rfl (by rfl) (fun K hK => ?_); go_simp
  refine hK _ _ ?_
  clear hK K
  refine wpSched_nil ?_
  go_upto_region 6 with fail
  refine wp_gen (fun W => KStep w W c b n slack most g s k W1.heap.size u d) ⟨HA.out.below ((HB1.out.alloc HB1.out.size _).drew), ?g0, ?g1, ?g2, ?g3, ?g4, H1.out.2.1, by simp, by simp, fun i => by simp⟩ ?_
  case g0 => exact (HB1.out.alloc HB1.out.size _).drew
  case g1 => exact Nat.lt_trans H1.out.2.1 (by simp)
  case g2 => exact cell_belowI (((Below.refl _ _).alloc (Nat.le_refl _) _).drew) H1.out.2.1 H1.out.2.2.1
  case g3 => exact cell_belowI (((Below.refl _ _).alloc (Nat.le_refl _) _).drew) H1.out.2.1 H1.out.2.2.2
  case g4 => simp
  generalize W1.heap.size = q
  clear H1 H2 HB1
  clear W1
  rintro W2 hk2
  have HK2 := Lib.hid hk2
  clear hk2
  have HKD := Lib.hid (HK2.out.below ((Below.refl _ _).drew))
  have hneg : IntKind.i64.wrap (-slack) = -slack := by have := HF.out.2.1; have := HF.out.2.2.1; unfold I64 at *; simp [IntKind.wrap_i64]; omega
  refine wp_region_slim [8, 9] [(0, 3), (1, 0), (2, 3), (3, 3), (4, 3), (5, 3), (6, 0), (7, 3), (8, 2), (9, 2), (10, 3), (11, 3), (12, 3), (13, 3), (14, 3)] (fun X => X.cell? ⟨q, 0, none⟩ = some (.int .i64 u) ∧ X.cell? ⟨c, 0, none⟩ = some (.int .i64 slack)) (by kernel_rfl) (by kernel_rfl) (fun d v c a w h => by cases d <;> exact h) ⟨HKD.out.q0, HKD.out.cu.c0⟩ ?_
  simp only [List.map_cons, List.map_nil, slim]
  refine wpSched_pure ?sv5 rfl (by rfl) (fun W => ?sh5) ?sr5; (case sh5 => (go_simp; try (with_reducible rfl))); simp only [Act.put, List.getElem_toArray, List.getElem_cons_zero, List.getElem_cons_succ, List.setIfInBounds_toArray, List.set_cons_zero, List.set_cons_succ]
  refine wpSched_still ?sv6 rfl (by rfl) (fun W hW => ?sh6) ?sr6; (case sh6 => (obtain ⟨h1, h2⟩ := hW; go_simp; try (with_reducible rfl))); simp only [Act.put, List.getElem_toArray, List.getElem_cons_zero, List.getElem_cons_succ, List.setIfInBounds_toArray, List.set_cons_zero, List.set_cons_succ]
  refine wpSched_pure ?sv7 rfl (by rfl) (fun W => ?sh7) ?sr7; (case sh7 => (go_simp; try (with_reducible rfl))); simp only [Act.put, List.getElem_toArray, List.getElem_cons_zero, List.getElem_cons_succ, List.setIfInBounds_toArray, List.set_cons_zero, List.set_cons_succ]
  refine wpSched_pure ?sv8 rfl (by rfl) (fun W => ?sh8) ?sr8; (case sh8 => (go_simp; try (with_reducible rfl))); simp only [Act.put, List.getElem_toArray, List.getElem_cons_zero, List.getElem_cons_succ, List.setIfInBounds_toArray, List.set_cons_zero, List.set_cons_succ]
  refine wpSched_pure ?sv9 rfl (by rfl) (fun W => ?sh9) ?sr9; (case sh9 => (go_simp; try (with_reducible rfl))); simp only [Act.put, List.getElem_toArray, List.getElem_cons_zero, List.getElem_cons_succ, List.setIfInBounds_toArray, List.set_cons_zero, List.set_cons_succ]
  refine wpSched_pure ?sv10 rfl (by rfl) (fun W => ?sh10) ?sr10; (case sh10 => (go_simp; try (with_reducible rfl))); simp only [Act.put, List.getElem_toArray, List.getElem_cons_zero, List.getElem_cons_succ, List.setIfInBounds_toArray, List.set_cons_zero, List.set_cons_succ]
  refine wpSched_still ?sv11 rfl (by rfl) (fun W hW => ?sh11) ?sr11; (case sh11 => (obtain ⟨h1, h2⟩ := hW; go_simp; try (with_reducible rfl))); simp only [Act.put, List.getElem_toArray, List.getElem_cons_zero, List.getElem_cons_succ, List.setIfInBounds_toArray, List.set_cons_zero, List.set_cons_succ]
  refine wpSched_pure ?sv12 rfl (by rfl) (fun W => ?sh12) ?sr12; (case sh12 => (go_simp; try (with_reducible rfl))); simp only [Act.put, List.getElem_toArray, List.getElem_cons_zero, List.getElem_cons_succ, List.setIfInBounds_toArray, List.set_cons_zero, List.set_cons_succ]
  refine wpSched_tail rfl (by rfl) (fun K hK => ?_); go_simp
  refine hK _ _ ?_
  clear hK K
  refine wpSched_tail rfl (by rfl) (fun K hK => ?_); go_simp
  refine (fSum3 u r (-slack) HF.out.2.2.2.2.2.1 HF.out.2.2.2.2.1 (by have := HF.out.2.1; have := HF.out.2.2.1; unfold I64 at *; omega) W2.heap.size 3 _ (by simp) (by simp) (by simp) (by simp)).mono ?_
  rintro e1 w1 ⟨rfl, y1, rfl⟩
  refine hK _ _ ?_
  clear hK K
  generalize hx1 : clipV (u + r + -slack) = x1
  generalize clipO (u + r + -slack) = o1
  have HX1 := Lib.hid hx1
  clear hx1
  refine wpSched_pure ?sv13 rfl (by rfl) (fun W => ?sh13) ?sr13; (case sh13 => (go_simp; try (with_reducible rfl))); simp only [Act.put, List.getElem_toArray, List.getElem_cons_zero, List.getElem_cons_succ, List.setIfInBounds_toArray, List.set_cons_zero, List.set_cons_succ]
  refine wpSched_pure ?sv14 rfl (by rfl) (fun W => ?sh14) ?sr14; (case sh14 => (go_simp; try (with_reducible rfl))); simp only [Act.put, List.getElem_toArray, List.getElem_cons_zero, List.getElem_cons_succ, List.setIfInBounds_toArray, List.set_cons_zero, List.set_cons_succ]
  refine wpSched_pure ?sv15 rfl (by rfl) (fun W => ?sh15) ?sr15; (case sh15 => (go_simp; try (with_reducible rfl))); simp only [Act.put, List.getElem_toArray, List.getElem_cons_zero, List.getElem_cons_succ, List.setIfInBounds_toArray, List.set_cons_zero, List.set_cons_succ]
  refine wpSched_pure ?sv16 rfl (by rfl) (fun W => ?sh16) ?sr16; (case sh16 => (go_simp; try (with_reducible rfl))); simp only [Act.put, List.getElem_toArray, List.getElem_cons_zero, List.getElem_cons_succ, List.setIfInBounds_toArray, List.set_cons_zero, List.set_cons_succ]
  refine wpSched_pure ?sv17 rfl (by rfl) (fun W => ?sh17) ?sr17; (case sh17 => (go_simp; try (with_reducible rfl))); simp only [Act.put, List.getElem_toArray, List.getElem_cons_zero, List.getElem_cons_succ, List.setIfInBounds_toArray, List.set_cons_zero, List.set_cons_succ]
  refine wpSched_nil ?_
  go_upto_region 7 with fail
  refine wp_gen (fun W => KStep w W c b n slack most g s k q u d) (HK2.out.below (below_up (((Below.refl _ _).alloc (Nat.le_refl _) _).drew) (by simp) _)) ?_
  clear HKD HK2
  clear y1
  generalize W2.heap.size = q2
  clear W2
  rintro W2 hk2
  have HK2 := Lib.hid hk2
  clear hk2
  have HKD := Lib.hid (HK2.out.below ((Below.refl _ _).drew))
  have hxr := xorM r HF.out.2.2.2.2.1
  refine wp_region_slim [9, 10] [(0, 3), (1, 0), (2, 3), (3, 3), (4, 3), (5, 3), (6, 3), (7, 0), (8, 3), (9, 2), (10, 2), (11, 3), (12, 3), (13, 3), (14, 3), (15, 3)] (fun X => X.cell? ⟨q, 1, none⟩ = some (.int .i64 d) ∧ X.cell? ⟨c, 0, none⟩ = some (.int .i64 slack)) (by kernel_rfl) (by kernel_rfl) (fun d v c a w h => by cases d <;> exact h) ⟨HKD.out.q1, HKD.out.cu.c0⟩ ?_
  simp only [List.map_cons, List.map_nil, slim]
  refine wpSched_pure ?sv18 rfl (by rfl) (fun W => ?sh18) ?sr18; (case sh18 => (go_simp; try (with_reducible rfl))); simp only [Act.put, List.getElem_toArray, List.getElem_cons_zero, List.getElem_cons_succ, List.setIfInBounds_toArray, List.set_cons_zero, List.set_cons_succ]
  refine wpSched_still ?sv19 rfl (by rfl) (fun W hW => ?sh19) ?sr19; (case sh19 => (obtain ⟨h1, h2⟩ := hW; go_simp; try (with_reducible rfl))); simp only [Act.put, List.getElem_toArray, List.getElem_cons_zero, List.getElem_cons_succ, List.setIfInBounds_toArray, List.set_cons_zero, List.set_cons_succ]
  refine wpSched_pure ?sv20 rfl (by rfl) (fun W => ?sh20) ?sr20; (case sh20 => (go_simp; try (with_reducible rfl))); simp only [Act.put, List.getElem_toArray, List.getElem_cons_zero, List.getElem_cons_succ, List.setIfInBounds_toArray, List.set_cons_zero, List.set_cons_succ]
  refine wpSched_pure ?sv21 rfl (by rfl) (fun W => ?sh21) ?sr21; (case sh21 => (go_simp; try (with_reducible rfl))); simp only [Act.put, List.getElem_toArray, List.getElem_cons_zero, List.getElem_cons_succ, List.setIfInBounds_toArray, List.set_cons_zero, List.set_cons_succ]
  refine wpSched_pure ?sv22 rfl (by rfl) (fun W => ?sh22) ?sr22; (case sh22 => (go_simp; try (with_reducible rfl))); simp only [Act.put, List.getElem_toArray, List.getElem_cons_zero, List.getElem_cons_succ, List.setIfInBounds_toArray, List.set_cons_zero, List.set_cons_succ]
  refine wpSched_pure ?sv23 rfl (by rfl) (fun W => ?sh23) ?sr23; (case sh23 => (go_simp; try (with_reducible rfl))); simp only [Act.put, List.getElem_toArray, List.getElem_cons_zero, List.getElem_cons_succ, List.setIfInBounds_toArray, List.set_cons_zero, List.set_cons_succ]
  refine wpSched_pure ?sv24 rfl (by rfl) (fun W => ?sh24) ?sr24; (case sh24 => (go_simp; try (with_reducible rfl))); simp only [Act.put, List.getElem_toArray, List.getElem_cons_zero, List.getElem_cons_succ, List.setIfInBounds_toArray, List.set_cons_zero, List.set_cons_succ]
  refine wpSched_still ?sv25 rfl (by rfl) (fun W hW => ?sh25) ?sr25; (case sh25 => (obtain ⟨h1, h2⟩ := hW; go_simp; try (with_reducible rfl))); simp only [Act.put, List.getElem_toArray, List.getElem_cons_zero, List.getElem_cons_succ, List.setIfInBounds_toArray, List.set_cons_zero, List.set_cons_succ]
  refine wpSched_pure ?sv26 rfl (by rfl) (fun W => ?sh26) ?sr26; (case sh26 => (go_simp; try (with_reducible rfl))); simp only [Act.put, List.getElem_toArray, List.getElem_cons_zero, List.getElem_cons_succ, List.setIfInBounds_toArray, List.set_cons_zero, List.set_cons_succ]
  refine wpSched_tail rfl (by rfl) (fun K hK => ?_); go_simp
  refine hK _ _ ?_
  clear hK K
  refine wpSched_tail rfl (by rfl) (fun K hK => ?_); go_simp
  refine (fSum4 d (-1 - r) 1 (-slack) HF.out.2.2.2.2.2.2 (by have := HF.out.2.2.2.2.1; unfold I64 at *; omega) (by unfold I64; omega) (by have := HF.out.2.1; have := HF.out.2.2.1; unfold I64 at *; omega) W2.heap.size 4 _ (by simp) (by simp) (by simp) (by simp) (by simp)).mono ?_
  rintro e1 w1 ⟨rfl, y1, rfl⟩
  refine hK _ _ ?_
  clear hK K hxr
  generalize hx2 : clipV (d + (-1 - r) + 1 + -slack) = x2
  generalize clipO (d + (-1 - r) + 1 + -slack) = o2
  have HX2 := Lib.hid hx2
  clear hx2
  refine wpSched_pure ?sv27 rfl (by rfl) (fun W => ?sh27) ?sr27; (case sh27 => (go_simp; try (with_reducible rfl))); simp only [Act.put, List.getElem_toArray, List.getElem_cons_zero, List.getElem_cons_succ, List.setIfInBounds_toArray, List.set_cons_zero, List.set_cons_succ]
  refine wpSched_pure ?sv28 rfl (by rfl) (fun W => ?sh28) ?sr28; (case sh28 => (go_simp; try (with_reducible rfl))); simp only [Act.put, List.getElem_toArray, List.getElem_cons_zero, List.getElem_cons_succ, List.setIfInBounds_toArray, List.set_cons_zero, List.set_cons_succ]
  refine wpSched_pure ?sv29 rfl (by rfl) (fun W => ?sh29) ?sr29; (case sh29 => (go_simp; try (with_reducible rfl))); simp only [Act.put, List.getElem_toArray, List.getElem_cons_zero, List.getElem_cons_succ, List.setIfInBounds_toArray, List.set_cons_zero, List.set_cons_succ]
  refine wpSched_pure ?sv30 rfl (by rfl) (fun W => ?sh30) ?sr30; (case sh30 => (go_simp; try (with_reducible rfl))); simp only [Act.put, List.getElem_toArray, List.getElem_cons_zero, List.getElem_cons_succ, List.setIfInBounds_toArray, List.set_cons_zero, List.set_cons_succ]
  refine wpSched_pure ?sv31 rfl (by rfl) (fun W => ?sh31) ?sr31; (case sh31 => (go_simp; try (with_reducible rfl))); simp only [Act.put, List.getElem_toArray, List.getElem_cons_zero, List.getElem_cons_succ, List.setIfInBounds_toArray, List.set_cons_zero, List.set_cons_succ]
  refine wpSched_nil ?_
  go_upto_region 8 with fail
  refine wp_gen (fun W => KStep w W c b n slack most g s k q u d) (HK2.out.below (below_up (((Below.refl _ _).alloc (Nat.le_refl _) _).drew) (by simp) _)) ?_
  clear HKD HK2
  clear y1
  generalize W2.heap.size = q3
  clear W2
  rintro W2 hk2
  have HK2 := Lib.hid hk2
  have hq0 := hk2.q0
  have hq1 := hk2.q1
  have hz0 := hk2.z0 0
  have hz1 := hk2.z0 1
  clear hk2
  go_upto_region 9 with fail
  refine wp_gen (fun W => KStep w W c b n slack most g s k q (max x1 0) (max x2 0)) (HK2.out.put HA.out.tab.lt hlt _ _) ?_
  clear HK2 hq0 hq1 hz0 hz1
  generalize hm1 : max x1 0 = m1
  generalize hm2 : max x2 0 = m2
  have HP := Lib.hid (show stepP slack ⟨u, d⟩ r = ⟨m1, m2⟩ from by
    unfold stepP stepUp stepDn
    dsimp only
    rw [show u + r - slack = u + r + -slack by omega, show d + -r - slack = d + (-1 - r) + 1 + -slack by omega, HX1.out, HX2.out, hm1, hm2])
  clear hm1 hm2
  clear W2
  rintro W2 hk2
  have HK2 := Lib.hid hk2
  have hq0 := hk2.q0
  have hq1 := hk2.q1
  clear hk2
  obtain ⟨E, hE⟩ : ∃ E, (m1 == 0 && m2 == 0) = E := ⟨_, rfl⟩
  have heq : ∀ W, (Op.equalIn 10000 135 (.agg #[.int .i64 m1, .int .i64 m2]) (.agg #[.int .i64 0, .int .i64 0])).run Try.prog W = .ok E W := fun W => by rw [eqPair W m1 m2 0 0, hE]
  have HE := Lib.hid hE
  clear hE
  go_upto_region 10 with fail
  · have he : (m1 == 0 && m2 == 0) = true := by rw [HE.out]; assumption
    simp at he
    obtain ⟨rfl, rfl⟩ := he
    clear heq hq0 hq1
    have HKD := Lib.hid (HK2.out.below ((Below.refl _ _).drew))
    obtain ⟨w3, hr3, ht3, hg3⟩ := HKD.out.cu.tab.drop hs hk 0
    have H3 := Lib.hid (And.intro ht3 hg3)
    clear ht3 hg3
    refine wp_region_slim [5] [(0, 3), (1, 3), (2, 3), (3, 0), (4, 0), (5, 2)] (fun X => X.cell? ⟨c, 2, none⟩ = some (.map (some b)) ∧ X.rangeAt w.heap.size 0 [.int .i64 s, .int .i64 k]) (by kernel_rfl) (by kernel_rfl) (fun d v c a w h => by cases d <;> exact h) ⟨HKD.out.cu.c2, range2 HKD.out.p0 HKD.out.p1⟩ ?_
    simp only [List.map_cons, List.map_nil, slim]
    refine wpSched_pure ?sv32 rfl (by rfl) (fun W => ?sh32) ?sr32; (case sh32 => (go_simp; try (with_reducible rfl))); simp only [Act.put, List.getElem_toArray, List.getElem_cons_zero, List.getElem_cons_succ, List.setIfInBounds_toArray, List.set_cons_zero, List.set_cons_succ]
    refine wpSched_pure ?sv33 rfl (by rfl) (fun W => ?sh33) ?sr33; (case sh33 => (go_simp; try (with_reducible rfl))); simp only [Act.put, List.getElem_toArray, List.getElem_cons_zero, List.getElem_cons_succ, List.setIfInBounds_toArray, List.set_cons_zero, List.set_cons_succ]
    refine wpSched_pure ?sv34 rfl (by rfl) (fun W => ?sh34) ?sr34; (case sh34 => (go_simp; try (with_reducible rfl))); simp only [Act.put, List.getElem_toArray, List.getElem_cons_zero, List.getElem_cons_succ, List.setIfInBounds_toArray, List.set_cons_zero, List.set_cons_succ]
    refine wpSched_still ?sv35 rfl (by rfl) (fun W hW => ?sh35) ?sr35; (case sh35 => (obtain ⟨h1, h2⟩ := hW; go_simp; try (with_reducible rfl))); simp only [Act.put, List.getElem_toArray, List.getElem_cons_zero, List.getElem_cons_succ, List.setIfInBounds_toArray, List.set_cons_zero, List.set_cons_succ]
    refine wpSched_load 112 (.tmp 4) w.heap.size 0 [.int .i64 s, .int .i64 k] _ rfl rfl (by rfl) (by rfl) (fun W hW => hW.2) Try.underlying112 (by rfl) (by kernel_rfl) ?_
    simp only [Act.put, List.getElem_toArray, List.getElem_cons_zero, List.getElem_cons_succ, List.setIfInBounds_toArray, List.set_cons_zero, List.set_cons_succ]
    refine wpSched_runT (.tuple #[]) rfl (by rfl) (exec_delC (.tmp 76) (.tmp 77) rfl (by rfl) (by rfl) hr3) ?_
    simp only [Act.put, List.getElem_toArray, List.getElem_cons_zero, List.getElem_cons_succ, List.setIfInBounds_toArray, List.set_cons_zero, List.set_cons_succ]
    refine wpSched_nil ?_
    clear hr3
    go_wp2_with fail
    go_ret2
    have hbb := HB.out
    rw [HP.out] at hbb ⊢
    subst hbb
    have hmo := HF.out.2.2.2.1
    refine ⟨?_, ?_, ?_⟩
    · simp; omega
    · exact (HKD.out.cu.turned H3.out.2 (TabC.mono H3.out.1 (Nat.le_succ n)))
    · exact gr_trans (gr_below _ (HKD.out.bl)) H3.out.2
  · clear heq hq0 hq1
    have HKD := Lib.hid (HK2.out.below ((Below.refl _ _).drew))
    obtain ⟨w3, hr3, ht3, hg3⟩ := HKD.out.cu.tab.update hn hs hk ⟨m1, m2⟩
    have hbq : some b ≠ some q := by have := HKD.out.qg; have := HA.out.tab.lt; simp; omega
    have hq0 := kept_cellR HKD.out.q0 hg3 hbq
    have hq1 := kept_cellR HKD.out.q1 hg3 hbq
    have H3 := Lib.hid (And.intro (HKD.out.cu.turned hg3 ht3) (gr_trans (gr_below (some b) HKD.out.bl) hg3))
    clear ht3 hg3
    have hbb : decide (most < m1 ∨ most < m2) = B := by
      have := HB.out
      rw [HP.out] at this
      exact this
    have HD := Lib.hid (hbb ▸ cdrift_any m1 m2 H3.out.1)
    clear hbb
    refine wp_region_slim [6] [(0, 3), (1, 3), (2, 3), (3, 0), (4, 0), (5, 0), (6, 2)] (fun X => X.cell? ⟨c, 2, none⟩ = some (.map (some b)) ∧ X.rangeAt w.heap.size 0 [.int .i64 s, .int .i64 k] ∧ X.rangeAt q 0 [.int .i64 m1, .int .i64 m2]) (by kernel_rfl) (by kernel_rfl) (fun d v c a w h => by cases d <;> exact h) ⟨HKD.out.cu.c2, range2 HKD.out.p0 HKD.out.p1, range2 HKD.out.q0 HKD.out.q1⟩ ?_
    simp only [List.map_cons, List.map_nil, slim]
    refine wpSched_pure ?sv36 rfl (by rfl) (fun W => ?sh36) ?sr36; (case sh36 => (go_simp; try (with_reducible rfl))); simp only [Act.put, List.getElem_toArray, List.getElem_cons_zero, List.getElem_cons_succ, List.setIfInBounds_toArray, List.set_cons_zero, List.set_cons_succ]
    refine wpSched_pure ?sv37 rfl (by rfl) (fun W => ?sh37) ?sr37; (case sh37 => (go_simp; try (with_reducible rfl))); simp only [Act.put, List.getElem_toArray, List.getElem_cons_zero, List.getElem_cons_succ, List.setIfInBounds_toArray, List.set_cons_zero, List.set_cons_succ]
    refine wpSched_pure ?sv38 rfl (by rfl) (fun W => ?sh38) ?sr38; (case sh38 => (go_simp; try (with_reducible rfl))); simp only [Act.put, List.getElem_toArray, List.getElem_cons_zero, List.getElem_cons_succ, List.setIfInBounds_toArray, List.set_cons_zero, List.set_cons_succ]
    refine wpSched_still ?sv39 rfl (by rfl) (fun W hW => ?sh39) ?sr39; (case sh39 => (obtain ⟨h1, h2, h3⟩ := hW; go_simp; try (with_reducible rfl))); simp only [Act.put, List.getElem_toArray, List.getElem_cons_zero, List.getElem_cons_succ, List.setIfInBounds_toArray, List.set_cons_zero, List.set_cons_succ]
    refine wpSched_load 112 (.tmp 4) w.heap.size 0 [.int .i64 s, .int .i64 k] _ rfl rfl (by rfl) (by rfl) (fun W hW => hW.2.1) Try.underlying112 (by rfl) (by kernel_rfl) ?_
    simp only [Act.put, List.getElem_toArray, List.getElem_cons_zero, List.getElem_cons_succ, List.setIfInBounds_toArray, List.set_cons_zero, List.set_cons_succ]
    refine wpSched_load 135 (.tmp 8) q 0 [.int .i64 m1, .int .i64 m2] _ rfl rfl (by rfl) (by rfl) (fun W hW => hW.2.2) Try.underlying135 (by rfl) (by kernel_rfl) ?_
    simp only [Act.put, List.getElem_toArray, List.getElem_cons_zero, List.getElem_cons_succ, List.setIfInBounds_toArray, List.set_cons_zero, List.set_cons_succ]
    refine wpSched_storeT rfl (by rfl) (exec_updC (.tmp 81) (.tmp 82) (.tmp 83) rfl (by rfl) (by rfl) (by rfl) hr3) ?_
    simp only [Act.put, List.getElem_toArray, List.getElem_cons_zero, List.getElem_cons_succ, List.setIfInBounds_toArray, List.set_cons_zero, List.set_cons_succ]
    refine wpSched_nil ?_
    clear hr3
    go_wp2_with (go_at_call 76; (first | with_reducible refine Calls.fold (HD.out) ?_ | with_reducible refine Calls.fresh (HD.out) ?_); intro x1)
    go_ret2
    rw [HP.out]
    exact ⟨rfl, H3.out.1.below (up_below _ _), gr_trans H3.out.2 (gr_below _ (up_below _ _))⟩
end Go.Proofs.Ytihalkpcddnikaa
