/-
  The monitor of drifts: a step.
-/
import Derived.Test.YtihalkpcddnikaaCusS
namespace Go.Proofs.Ytihalkpcddnikaa
open Go.RowKit Go.Maps
set_option linter.unusedVariables false
set_option linter.unusedSimpArgs false

theorem TabC.mono {w : World} {b n n' : Nat} {g : Int → Int → Pr} (h : TabC w b n g) (hn : n ≤ n') : TabC w b n' g := by
  obtain ⟨D, h1, h2⟩ := h; exact ⟨D, h1.mono hn, h2⟩
theorem pair_fields : ((Try.prog.fieldsOf 135).toList.map fun f => (f.type, f.offset, f.name == "_")) = [(23, 0, false), (23, 1, false)] := by kernel_rfl
theorem eqPair (W : World) (a b c d : Int) : (Op.equalIn 10000 135 (.agg #[.int .i64 a, .int .i64 b]) (.agg #[.int .i64 c, .int .i64 d])).run Try.prog W = .ok (a == c && b == d) W := by
  rw [run_equalIn_agg W 9999 135 _ _ (by kernel_rfl) (by kernel_rfl)]
  have hu := Try.underlying23
  have hf := pair_fields
  generalize (Try.prog.fieldsOf 135).toList = fs at *
  rcases fs with _ | ⟨f1, _ | ⟨f2, _ | ⟨f3, fs⟩⟩⟩
  · simp at hf
  · simp at hf
  · simp only [List.map_cons, List.map_nil, List.cons.injEq, Prod.mk.injEq, and_true] at hf
    obtain ⟨⟨t1, o1, n1⟩, t2, o2, n2⟩ := hf
    have n1' : ¬ f1.name = "_" := by simpa using n1
    have n2' : ¬ f2.name = "_" := by simpa using n2
    simp [Op.eqFields, t1, t2, o1, o2, n1', n2', part, isAgg, run_underlying hu, run_equalIn_int W _ 23 .i64 .i64 _ _ hu]
    by_cases h1 : a = c <;> by_cases h2 : b = d <;> simp [h1, h2]
  · simp at hf
/-- The pair behind a step. -/
def stepUp (slack : Int) (m : Pr) (r : Int) : Int := clipV (m.up + r - slack)
def stepDn (slack : Int) (m : Pr) (r : Int) : Int := clipV (m.dn + (-r) - slack)
def stepP (slack : Int) (m : Pr) (r : Int) : Pr := ⟨max (stepUp slack m r) 0, max (stepDn slack m r) 0⟩
def goodPl (s k : Int) : Bool := srcB s && decide (0 ≤ k) && decide (k < 3)
theorem cStep_nil (s k r : Int) (w : World) :
    Calls Try.prog 72 #[.pointer none, .agg #[.int .i64 s, .int .i64 k], .int .i64 r] w (Gives w (.tuple #[.bool false, .int .i64 1])) := by
  have HC := Lib.hid (fun W => cis_nil W)
  go_enter Try.func72, Try.ntmps72
  go_wp2_with (go_at_call 68; refine (HC.out _).mono ?_; rintro e w1 ⟨rfl, rfl⟩)
  go_ret2
  exact Gives.mk rfl (by (repeat (first | (with_reducible exact Below.refl _ _) | (with_reducible assumption) | (with_reducible refine Below.alloc ?_ (by (repeat (first | (with_reducible exact Nat.le_refl _) | (with_reducible assumption) | (with_reducible refine le_up ?_) | (with_reducible refine le_alloc ?_) | (with_reducible refine le_setCell ?_) | (with_reducible refine le_drew ?_) | (with_reducible refine le_drewN ?_) | omega))) _) | (with_reducible refine Below.drew ?_) | (with_reducible refine Below.drewN ?_ _) | (with_reducible refine Below.setCell ?_ (by (repeat (first | (with_reducible exact Nat.le_refl _) | (with_reducible assumption) | (with_reducible refine le_up ?_) | (with_reducible refine le_alloc ?_) | (with_reducible refine le_setCell ?_) | (with_reducible refine le_drew ?_) | (with_reducible refine le_drewN ?_) | omega))) _) | (with_reducible refine Below.up ?_ (by (repeat (first | (with_reducible exact Nat.le_refl _) | (with_reducible assumption) | (with_reducible refine le_up ?_) | (with_reducible refine le_alloc ?_) | (with_reducible refine le_setCell ?_) | (with_reducible refine le_drew ?_) | (with_reducible refine le_drewN ?_) | omega)))))))
theorem cStep_bad {s k r : Int} (hb : goodPl s k = false) {w : World} {c b n : Nat} {slack most : Int} {g : Int → Int → Pr} (h : CuAt w c b n slack most g) :
    Calls Try.prog 72 #[.pointer (some ⟨c, 0, none⟩), .agg #[.int .i64 s, .int .i64 k], .int .i64 r] w (Gives w (.tuple #[.bool false, .int .i64 2])) := by
  have HC := Lib.hid (fun W (hW : CuAt W c b n slack most g) => cis_t hW)
  have HA := Lib.hid h
  clear h
  have hcase : srcB s = false ∨ (srcB s = true ∧ k < 0) ∨ (srcB s = true ∧ ¬ k < 0 ∧ 3 ≤ k) := by
    unfold goodPl at hb
    cases hs : srcB s <;> simp [hs] at hb ⊢
    omega
  clear hb
  rcases hcase with hs | ⟨hs, h1⟩ | ⟨hs, h1, h2⟩
  all_goals
    have HS := Lib.hid (fun W => hs ▸ csrc_any s W)
    clear hs
    go_enter Try.func72, Try.ntmps72
    go_wp2_with first | (go_at_call 68; refine (HC.out _ (HA.out.below (by (repeat (first | (with_reducible exact Below.refl _ _) | (with_reducible assumption) | (with_reducible refine Below.alloc ?_ (by (repeat (first | (with_reducible exact Nat.le_refl _) | (with_reducible assumption) | (with_reducible refine le_up ?_) | (with_reducible refine le_alloc ?_) | (with_reducible refine le_setCell ?_) | (with_reducible refine le_drew ?_) | (with_reducible refine le_drewN ?_) | omega))) _) | (with_reducible refine Below.drew ?_) | (with_reducible refine Below.drewN ?_ _) | (with_reducible refine Below.setCell ?_ (by (repeat (first | (with_reducible exact Nat.le_refl _) | (with_reducible assumption) | (with_reducible refine le_up ?_) | (with_reducible refine le_alloc ?_) | (with_reducible refine le_setCell ?_) | (with_reducible refine le_drew ?_) | (with_reducible refine le_drewN ?_) | omega))) _) | (with_reducible refine Below.up ?_ (by (repeat (first | (with_reducible exact Nat.le_refl _) | (with_reducible assumption) | (with_reducible refine le_up ?_) | (with_reducible refine le_alloc ?_) | (with_reducible refine le_setCell ?_) | (with_reducible refine le_drew ?_) | (with_reducible refine le_drewN ?_) | omega))))))))).mono ?_; rintro e w1 ⟨rfl, rfl⟩) | (go_at_call 74; refine (HS.out _).mono ?_; rintro e w1 ⟨rfl, rfl⟩)
    go_ret2
    exact Gives.mk rfl (by (repeat (first | (with_reducible exact Below.refl _ _) | (with_reducible assumption) | (with_reducible refine Below.alloc ?_ (by (repeat (first | (with_reducible exact Nat.le_refl _) | (with_reducible assumption) | (with_reducible refine le_up ?_) | (with_reducible refine le_alloc ?_) | (with_reducible refine le_setCell ?_) | (with_reducible refine le_drew ?_) | (with_reducible refine le_drewN ?_) | omega))) _) | (with_reducible refine Below.drew ?_) | (with_reducible refine Below.drewN ?_ _) | (with_reducible refine Below.setCell ?_ (by (repeat (first | (with_reducible exact Nat.le_refl _) | (with_reducible assumption) | (with_reducible refine le_up ?_) | (with_reducible refine le_alloc ?_) | (with_reducible refine le_setCell ?_) | (with_reducible refine le_drew ?_) | (with_reducible refine le_drewN ?_) | omega))) _) | (with_reducible refine Below.up ?_ (by (repeat (first | (with_reducible exact Nat.le_refl _) | (with_reducible assumption) | (with_reducible refine le_up ?_) | (with_reducible refine le_alloc ?_) | (with_reducible refine le_setCell ?_) | (with_reducible refine le_drew ?_) | (with_reducible refine le_drewN ?_) | omega)))))))
end Go.Proofs.Ytihalkpcddnikaa
