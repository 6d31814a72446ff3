/-
  The law LockBounded: what its loop keeps, in plain words.
-/
import Derived.Test.YtcdhhnodfgpkiaaLockL
namespace Go.Proofs.Ytcdhhnodfgpkiaa
open Go.RowKit

structure BInv (X Y : LockS) (src : Nat) (most time frm counted now : Int) : Prop where
  xm : X.most = most
  xt : X.time = time
  ym : Y.most = most
  yt : Y.time = time
  eq : X.l src = Y.l src
  m1 : 1 ≤ most
  t1 : 1 ≤ time
  f0 : 0 ≤ (X.l src).fails
  f1 : (X.l src).fails < most
  c0 : 0 ≤ counted
  cn : now < frm → counted = 0
  j : counted ≤ (X.l src).fails ∨ (counted ≤ most ∧ frm + time ≤ (X.l src).til)
theorem BInv.lt {X Y : LockS} {src : Nat} {most time frm counted now : Int} (h : BInv X Y src most time frm counted now) : counted < 2 * most := by
  have := h.m1; have := h.f1
  rcases h.j with h | ⟨h, _⟩ <;> omega

abbrev winB (frm time now : Int) : Prop := frm ≤ now ∧ now < frm + time
theorem lock_srcB {src : Nat} (h : src < 8) : srcB (src : Int) = true := by simp [srcB]; omega

theorem BInv.other {X Y X' : LockS} {src : Nat} {most time frm counted now now' : Int} (h : BInv X Y src most time frm counted now) (hn : now ≤ now') (e : X'.l src = X.l src) (em : X'.most = X.most) (et : X'.time = X.time) :
    BInv X' Y src most time frm counted now' :=
  ⟨em.trans h.xm, et.trans h.xt, h.ym, h.yt, e.trans h.eq, h.m1, h.t1, by rw [e]; exact h.f0, by rw [e]; exact h.f1, h.c0, fun h' => h.cn (by omega), by rw [e]; exact h.j⟩
theorem goodS_src (S : LockS) {src : Nat} (h : src < 8) : goodS S src = S.put src ⟨0, (S.l src).total, (S.l src).til⟩ := by
  unfold goodS; rw [if_pos (lock_srcB h)]; simp
theorem BInv.good {X Y : LockS} {src : Nat} {most time frm counted now now' : Int} (h : BInv X Y src most time frm counted now) (hs : src < 8) :
    BInv (goodS X src) (goodS Y src) src most time frm 0 now' := by
  rw [goodS_src X hs, goodS_src Y hs]
  refine ⟨h.xm, h.xt, h.ym, h.yt, ?_, h.m1, h.t1, ?_, ?_, by omega, fun _ => rfl, .inl ?_⟩
  · rw [LockS.put_same, LockS.put_same, h.eq]
  · rw [LockS.put_same]; exact Int.le_refl _
  · rw [LockS.put_same]; show (0 : Int) < most; have := h.m1; omega
  · rw [LockS.put_same]; exact Int.le_refl _
theorem openE_eq {X Y : LockS} {src : Nat} (e : X.l src = Y.l src) (t : Int) : openE X src t = openE Y src t := by simp [openE, e]
theorem failO_eq {X Y : LockS} (em : X.most = Y.most) (et : X.time = Y.time) (o : OneS) (t : Int) : failO X o t = failO Y o t := by unfold failO; rw [em, et]
/-- How much a failure counts. -/
def cnt (X : LockS) (src : Nat) (t : Int) : Int := ((failS X src t).l src).total - (X.l src).total
theorem BInv.fail {X Y : LockS} {src : Nat} {most time frm counted now now' : Int} (h : BInv X Y src most time frm counted now) (hs : src < 8) (hn : now ≤ now') :
    BInv (failS X src now') (failS Y src now') src most time frm (if winB frm time now' then counted + cnt X src now' else counted) now' := by
  unfold cnt
  by_cases he : openE X src now' = 0
  · have he' : openE Y src now' = 0 := by rw [← openE_eq h.eq]; exact he
    have hX : failS X src now' = X.put src (failO X (X.l src) now') := by unfold failS; rw [if_pos he]; simp
    have hY : failS Y src now' = Y.put src (failO X (X.l src) now') := by
      unfold failS; rw [if_pos he']; simp only [Int.toNat_natCast]; rw [h.eq, failO_eq (h.xm.trans h.ym.symm) (h.xt.trans h.yt.symm)]
    rw [hX, hY]
    have hu : (X.l src).til ≤ now' := by
      unfold openE at he
      rw [if_pos (lock_srcB hs)] at he
      split at he
      · split at he
        · cases he
        · rename_i h1; simp at h1; exact h1
      · cases he
    have a1 := h.m1; have a2 := h.t1; have a3 := h.f0; have a4 := h.f1; have a5 := h.c0; have a6 := h.j; have a7 := h.cn; have a8 := h.xm; have a9 := h.xt
    refine ⟨h.xm, h.xt, h.ym, h.yt, by rw [LockS.put_same, LockS.put_same], h.m1, h.t1, ?_, ?_, ?_, ?_, ?_⟩
    all_goals rw [LockS.put_same]
    · unfold failO; split
      · exact Int.le_refl _
      · show 0 ≤ (X.l src).fails + 1; omega
    · unfold failO; split
      · show (0 : Int) < most; omega
      · show (X.l src).fails + 1 < most; omega
    · unfold failO; split
      · split <;> (try simp only) <;> omega
      · omega
    · unfold failO; intro hlt; split
      · split <;> (try simp only) <;> omega
      · omega
    · unfold failO winB
      by_cases hm : (X.l src).fails + 1 = X.most
      · rw [if_pos hm]
        by_cases hw : frm ≤ now' ∧ now' < frm + time
        · rw [if_pos hw]; right; simp only; omega
        · rw [if_neg hw]
          by_cases hf : now' < frm
          · left; have := a7 (by omega); simp only; omega
          · right; simp only; omega
      · rw [if_neg hm]
        by_cases hw : frm ≤ now' ∧ now' < frm + time
        · rw [if_pos hw]; left; simp only; omega
        · rw [if_neg hw]
          rcases a6 with a6 | a6
          · left; simp only; omega
          · right; simp only; omega
  · have he' : ¬ openE Y src now' = 0 := by rw [← openE_eq h.eq]; exact he
    have hX : failS X src now' = X := if_neg he
    have hY : failS Y src now' = Y := if_neg he'
    rw [hX, hY]
    have e : (if winB frm time now' then counted + ((X.l src).total - (X.l src).total) else counted) = counted := by split <;> omega
    rw [e]
    exact h.other hn rfl rfl rfl
theorem goodS_other (S : LockS) {s : Int} {src : Nat} (h : s ≠ src) : (goodS S s).l src = S.l src ∧ (goodS S s).most = S.most ∧ (goodS S s).time = S.time := by
  unfold goodS
  split
  · rename_i h1; simp [srcB] at h1
    exact ⟨LockS.put_other _ _ (by omega), rfl, rfl⟩
  · exact ⟨rfl, rfl, rfl⟩
theorem failS_other (S : LockS) {s : Int} {src : Nat} (h : s ≠ src) (t : Int) : (failS S s t).l src = S.l src ∧ (failS S s t).most = S.most ∧ (failS S s t).time = S.time := by
  unfold failS
  split
  · rename_i h1
    have hs : srcB s = true := by
      cases hs : srcB s
      · simp [openE, hs] at h1
      · rfl
    simp [srcB] at hs
    exact ⟨LockS.put_other _ _ (by omega), rfl, rfl⟩
  · exact ⟨rfl, rfl, rfl⟩
theorem goodS_total (S : LockS) {src : Nat} (hs : src < 8) : ((goodS S src).l src).total = (S.l src).total := by rw [goodS_src S hs, LockS.put_same]
end Go.Proofs.Ytcdhhnodfgpkiaa
