/-
  The monitor of drifts: its small methods.
-/
import Derived.Test.YtihalkpcddnikaaCusP
import Derived.Test.YtihalkpcddnikaaSlim
namespace Go.Proofs.Ytihalkpcddnikaa
open Go.RowKit Go.Maps
set_option linter.unusedVariables false
set_option linter.unusedSimpArgs false

/-- A made monitor. -/
structure CuAt (w : World) (c b n : Nat) (slack most : Int) (g : Int → Int → Pr) : Prop where
  c0 : w.cell? ⟨c, 0, none⟩ = some (.int .i64 slack)
  c1 : w.cell? ⟨c, 1, none⟩ = some (.int .i64 most)
  c2 : w.cell? ⟨c, 2, none⟩ = some (.map (some b))
  lt : c < w.heap.size
  ne : c ≠ b
  tab : TabC w b n g
theorem CuAt.kept {w w' : World} {c b n : Nat} {slack most : Int} {g : Int → Int → Pr} {row : Option Nat} (h : CuAt w c b n slack most g) (hg : w.grownBy w' row) (h1 : some c ≠ row) (h2 : some b ≠ row) : CuAt w' c b n slack most g :=
  ⟨kept_cellR h.c0 hg (fun e => h1 e.symm), kept_cellR h.c1 hg (fun e => h1 e.symm), kept_cellR h.c2 hg (fun e => h1 e.symm), Nat.lt_of_lt_of_le h.lt hg.size, h.ne, h.tab.kept hg h2⟩
theorem CuAt.below {w w' : World} {c b n : Nat} {slack most : Int} {g : Int → Int → Pr} (h : CuAt w c b n slack most g) (hb : Below w.heap.size w w') : CuAt w' c b n slack most g := h.kept (gr_below none hb) (by simp) (by simp)
theorem CuAt.turned {w w' : World} {c b n n' : Nat} {slack most : Int} {g g' : Int → Int → Pr} (h : CuAt w c b n slack most g) (hg : w.grownBy w' (some b)) (ht : TabC w' b n' g') : CuAt w' c b n' slack most g' := by
  have hne : some b ≠ some c := by have := h.ne; simp; omega
  exact ⟨kept_cellR h.c0 hg hne, kept_cellR h.c1 hg hne, kept_cellR h.c2 hg hne, Nat.lt_of_lt_of_le h.lt hg.size, h.ne, ht⟩
theorem TabC.new (w : World) : TabC (w.alloc (.map #[] 0)) w.heap.size 0 (fun _ _ => Pr.zero) :=
  ⟨.map [], World.ownsMap_made w _ _ _, fun _ _ _ _ => rfl⟩
theorem cis_t {w : World} {c b n : Nat} {slack most : Int} {g : Int → Int → Pr} (h : CuAt w c b n slack most g) :
    Calls Try.prog 68 #[.pointer (some ⟨c, 0, none⟩)] w (Tells w (.bool true)) := by
  have hc := h.c2
  have hn := fun W => run_neq_map_nil (P := Try.prog) W 120 112 135 (some b) Try.underlying120
  clear h
  go_enter Try.func68, Try.ntmps68
  go_wp2
  go_ret
  exact Tells.mk rfl
theorem cis_nil (w : World) : Calls Try.prog 68 #[.pointer none] w (Tells w (.bool false)) := by
  go_enter Try.func68, Try.ntmps68
  go_wp2
  go_ret
  exact Tells.mk rfl
theorem csrc_any (n : Int) (w : World) : Calls Try.prog 74 #[.int .i64 n] w (Tells w (.bool (srcB n))) := by
  cases h : srcB n
  · rcases src_out h with h1 | ⟨h1, h2⟩
    · clear h
      go_enter Try.func74, Try.ntmps74
      go_wp2
      go_ret
      exact Tells.mk rfl
    · have h3 : 0 ≤ n := by omega
      have h4 : ¬ n < 8 := by omega
      clear h
      go_enter Try.func74, Try.ntmps74
      go_wp2
      go_ret
      exact Tells.mk rfl
  · obtain ⟨h1, h2⟩ := src_in h
    clear h
    go_enter Try.func74, Try.ntmps74
    go_wp2
    go_ret
    exact Tells.mk rfl
def cnewB (slack most : Int) : Bool := decide (0 ≤ slack ∧ 0 < most)
set_option maxRecDepth 100000 in
theorem cNew_bad {slack most : Int} (w : World) (h : cnewB slack most = false) :
    Calls Try.prog 40 #[.int .i64 slack, .int .i64 most] w (Tells w (.tuple #[.pointer none, .int .i64 2])) := by
  have hc : slack < 0 ∨ (¬ slack < 0 ∧ most ≤ 0) := by simp [cnewB] at h; omega
  clear h
  rcases hc with h | ⟨h1, h2⟩
  all_goals
    go_enter Try.func40, Try.ntmps40
    go_wp2
    go_ret2
    exact Tells.mk rfl
def CuNewR (w : World) (slack most : Int) (e : Ending) (w' : World) : Prop :=
  ∃ c b, e = .returned (.tuple #[.pointer (some ⟨c, 0, none⟩), .int .i64 0]) ∧ w.heap.size ≤ b ∧ w.heap.size ≤ c ∧ CuAt w' c b 0 slack most (fun _ _ => Pr.zero) ∧ Below w.heap.size w w'
set_option maxRecDepth 100000 in
theorem cNew_good {slack most : Int} (w : World) (h : cnewB slack most = true) :
    Calls Try.prog 40 #[.int .i64 slack, .int .i64 most] w (CuNewR w slack most) := by
  have h' : ¬ slack < 0 ∧ ¬ most ≤ 0 := by simp [cnewB] at h; omega
  clear h
  obtain ⟨h1, h2⟩ := h'
  have h3 : 0 < most := by omega
  have hmm := @run_makeMap Try.prog
  go_enter Try.func40, Try.ntmps40
  go_wp2
  go_ret2
  refine ⟨_, w.heap.size, rfl, Nat.le_refl _, by omega, ⟨by simp, by simp, by simp, by simp, by omega, (TabC.new w).below ((Below.refl _ _).alloc (Nat.le_refl _) _)⟩, by (repeat (first | (with_reducible exact Below.refl _ _) | (with_reducible assumption) | (with_reducible refine Below.alloc ?_ (by (repeat (first | (with_reducible exact Nat.le_refl _) | (with_reducible assumption) | (with_reducible refine le_up ?_) | (with_reducible refine le_alloc ?_) | (with_reducible refine le_setCell ?_) | (with_reducible refine le_drew ?_) | (with_reducible refine le_drewN ?_) | omega))) _) | (with_reducible refine Below.drew ?_) | (with_reducible refine Below.drewN ?_ _) | (with_reducible refine Below.setCell ?_ (by (repeat (first | (with_reducible exact Nat.le_refl _) | (with_reducible assumption) | (with_reducible refine le_up ?_) | (with_reducible refine le_alloc ?_) | (with_reducible refine le_setCell ?_) | (with_reducible refine le_drew ?_) | (with_reducible refine le_drewN ?_) | omega))) _) | (with_reducible refine Below.up ?_ (by (repeat (first | (with_reducible exact Nat.le_refl _) | (with_reducible assumption) | (with_reducible refine le_up ?_) | (with_reducible refine le_alloc ?_) | (with_reducible refine le_setCell ?_) | (with_reducible refine le_drew ?_) | (with_reducible refine le_drewN ?_) | omega))))))⟩
theorem exec_lookC {o : Oper} {a : Act} (m x : Operand) (ho : o.op = .lookup 120 m x false) {b n : Nat} {g : Int → Int → Pr} {s k : Int} (hs : I64 s) (hk : I64 k) (hm : a.eval m = .map (some b)) (hx : a.eval x = placeV s k) {W : World} (hT : TabC W b n g) :
    (execOp a.eval o).run Try.prog W = .ok (.value (prV (g s k))) W := by
  have hr := hT.lookup hs hk
  unfold execOp
  simp only [ho, hm, hx, Sem.run_bind, hr, Result.andThen_ok, Sem.run_pure]
end Go.Proofs.Ytihalkpcddnikaa
