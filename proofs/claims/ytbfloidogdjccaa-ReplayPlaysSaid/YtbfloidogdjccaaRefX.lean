/-
  Marks ahead, of the program and of the reference; what both tables answer.
-/
import Derived.Test.YtbfloidogdjccaaRefW
namespace Go.Proofs.Ytbfloidogdjccaa
open Go.RowKit Go.Maps

def topU : Int := 18446744073709551615
def aheadV (c b : Int) : Int := if c + b ≤ topU then c + b else topU
theorem wrapU_in {c b : Int} (h1 : 0 ≤ c) (h2 : 0 ≤ b) (h : c + b ≤ topU) : IntKind.u64.wrap (c + b) = c + b := by unfold topU at h; rw [IntKind.wrap_u64]; omega
theorem wrapU_out {c b : Int} (h1 : c ≤ topU) (h2 : b ≤ topU) (h : ¬ c + b ≤ topU) : IntKind.u64.wrap (c + b) = c + b - 18446744073709551616 := by unfold topU at *; rw [IntKind.wrap_u64]; omega
theorem Ahead_any (e c b : Int) (w : World) (hc : 0 ≤ c) (hc' : c ≤ topU) (hb : 0 ≤ b) (hb' : b ≤ topU) :
    Calls Try.prog 51 #[.agg #[.int .u32 e, .int .u64 c], .int .u64 b] w (Gives w (.agg #[.int .u32 e, .int .u64 (aheadV c b)])) := by
  unfold topU at hc' hb'
  go_enter Try.func51, Try.ntmps51
  go_wp2
  all_goals (try simp only [Exit.inBlock, Exit.then])
  all_goals refine bodyPost_ret (v := .agg #[.int .u32 e, .int .u64 (aheadV c b)]) ?_ rfl (Gives.mk rfl (by (repeat (first | (with_reducible exact Below.refl _ _) | (with_reducible assumption) | (with_reducible refine Below.alloc ?_ (by (repeat (first | (with_reducible exact Nat.le_refl _) | (with_reducible assumption) | (with_reducible refine le_up ?_) | (with_reducible refine le_alloc ?_) | (with_reducible refine le_setCell ?_) | (with_reducible refine le_drew ?_) | (with_reducible refine le_drewN ?_) | omega))) _) | (with_reducible refine Below.drew ?_) | (with_reducible refine Below.drewN ?_ _) | (with_reducible refine Below.setCell ?_ (by (repeat (first | (with_reducible exact Nat.le_refl _) | (with_reducible assumption) | (with_reducible refine le_up ?_) | (with_reducible refine le_alloc ?_) | (with_reducible refine le_setCell ?_) | (with_reducible refine le_drew ?_) | (with_reducible refine le_drewN ?_) | omega))) _) | (with_reducible refine Below.up ?_ (by (repeat (first | (with_reducible exact Nat.le_refl _) | (with_reducible assumption) | (with_reducible refine le_up ?_) | (with_reducible refine le_alloc ?_) | (with_reducible refine le_setCell ?_) | (with_reducible refine le_drew ?_) | (with_reducible refine le_drewN ?_) | omega))))))))
  all_goals (simp only [results, show Try.f51.results = #[ResultVar.cell 4 56] from rfl]; go_simp)
  all_goals (unfold aheadV topU; split <;> omega)
theorem rAhead_any (e c b : Int) (w : World) (hc : 0 ≤ c) (hc' : c ≤ topU) (hb : 0 ≤ b) (hb' : b ≤ topU) :
    Calls Try.prog 52 #[.agg #[.int .u32 e, .int .u64 c], .int .u64 b] w (Gives w (.agg #[.int .u32 e, .int .u64 (aheadV c b)])) := by
  by_cases h : c + b ≤ topU
  · have hw := wrapU_in hc hb h
    have hv : aheadV c b = c + b := if_pos h
    rw [hv]
    unfold topU at hc' hb' h
    go_enter Try.func52, Try.ntmps52
    go_wp2
    all_goals (try simp only [Exit.inBlock, Exit.then])
    all_goals refine bodyPost_ret (v := .agg #[.int .u32 e, .int .u64 (c + b)]) ?_ rfl (Gives.mk rfl (by (repeat (first | (with_reducible exact Below.refl _ _) | (with_reducible assumption) | (with_reducible refine Below.alloc ?_ (by (repeat (first | (with_reducible exact Nat.le_refl _) | (with_reducible assumption) | (with_reducible refine le_up ?_) | (with_reducible refine le_alloc ?_) | (with_reducible refine le_setCell ?_) | (with_reducible refine le_drew ?_) | (with_reducible refine le_drewN ?_) | omega))) _) | (with_reducible refine Below.drew ?_) | (with_reducible refine Below.drewN ?_ _) | (with_reducible refine Below.setCell ?_ (by (repeat (first | (with_reducible exact Nat.le_refl _) | (with_reducible assumption) | (with_reducible refine le_up ?_) | (with_reducible refine le_alloc ?_) | (with_reducible refine le_setCell ?_) | (with_reducible refine le_drew ?_) | (with_reducible refine le_drewN ?_) | omega))) _) | (with_reducible refine Below.up ?_ (by (repeat (first | (with_reducible exact Nat.le_refl _) | (with_reducible assumption) | (with_reducible refine le_up ?_) | (with_reducible refine le_alloc ?_) | (with_reducible refine le_setCell ?_) | (with_reducible refine le_drew ?_) | (with_reducible refine le_drewN ?_) | omega))))))))
    all_goals (simp only [results, show Try.f52.results = #[ResultVar.cell 4 86] from rfl]; go_simp)
  · have hw := wrapU_out hc' hb' h
    have hv : aheadV c b = topU := if_neg h
    rw [hv]
    unfold topU at *
    go_enter Try.func52, Try.ntmps52
    go_wp2
    all_goals (try simp only [Exit.inBlock, Exit.then])
    all_goals refine bodyPost_ret (v := .agg #[.int .u32 e, .int .u64 18446744073709551615]) ?_ rfl (Gives.mk rfl (by (repeat (first | (with_reducible exact Below.refl _ _) | (with_reducible assumption) | (with_reducible refine Below.alloc ?_ (by (repeat (first | (with_reducible exact Nat.le_refl _) | (with_reducible assumption) | (with_reducible refine le_up ?_) | (with_reducible refine le_alloc ?_) | (with_reducible refine le_setCell ?_) | (with_reducible refine le_drew ?_) | (with_reducible refine le_drewN ?_) | omega))) _) | (with_reducible refine Below.drew ?_) | (with_reducible refine Below.drewN ?_ _) | (with_reducible refine Below.setCell ?_ (by (repeat (first | (with_reducible exact Nat.le_refl _) | (with_reducible assumption) | (with_reducible refine le_up ?_) | (with_reducible refine le_alloc ?_) | (with_reducible refine le_setCell ?_) | (with_reducible refine le_drew ?_) | (with_reducible refine le_drewN ?_) | omega))) _) | (with_reducible refine Below.up ?_ (by (repeat (first | (with_reducible exact Nat.le_refl _) | (with_reducible assumption) | (with_reducible refine le_up ?_) | (with_reducible refine le_alloc ?_) | (with_reducible refine le_setCell ?_) | (with_reducible refine le_drew ?_) | (with_reducible refine le_drewN ?_) | omega))))))))
    all_goals (simp only [results, show Try.f52.results = #[ResultVar.cell 4 86] from rfl]; go_simp)

/-- What is kept of both tables: the marks are those of sources alone. -/
structure BothT (w : World) (c b y n : Nat) (f : Int → Option MarkT) : Prop where
  obj : ObjT w c b n f
  ref : RefT w y f
  cy : c ≠ y
  by' : b ≠ y
  src : ∀ i, (f i).isSome = true → 0 ≤ i ∧ i < 8
theorem takeF_src {f : Int → Option MarkT} {s : Int} {m : MarkT} (h : ∀ i, (f i).isSome = true → 0 ≤ i ∧ i < 8) : ∀ i, (takeF f s m i).isSome = true → 0 ≤ i ∧ i < 8 := by
  intro i hi
  by_cases he : mayE f s m = 0
  · have := mayE_src he
    unfold takeF at hi
    rw [if_pos he] at hi
    by_cases hs : i = s
    · subst hs; exact this
    · rw [updT_other f m hs] at hi; exact h i hi
  · unfold takeF at hi
    rw [if_neg he] at hi
    exact h i hi
end Go.Proofs.Ytbfloidogdjccaa
