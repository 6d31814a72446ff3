/-
  The plain law of WatchHolds.
-/
import Derived.Test.YtihalkpcddnikaaWatH
namespace Go.Proofs.Ytihalkpcddnikaa
open Go.RowKit Go.Maps
set_option linter.unusedVariables false
set_option linter.unusedSimpArgs false

theorem srcB_eq (s : Int) : Q.srcB s = srcB s := rfl
theorem tkE_good {f : Int → Option StO} {s t : Int} (h : tkE f s t = 0) : srcB s = true ∧ (lastO f s).tk ≤ t ∧ t ≤ 1099511627776 := by
  rcases tkE_cases f s t with ⟨_, e⟩ | ⟨_, _, e⟩ | ⟨h1, h2, h3, _⟩
  · omega
  · omega
  · exact ⟨h1, h2, h3⟩
theorem hapS_in {S : Q.QuarS} {s t : Int} (k : Int) (hs : srcB s = true) (h0 : 0 ≤ t) (h1 : t ≤ 1099511627776) : Q.hapE s t = 0 ∧ (Q.hapS S s t k).l s.toNat = Q.hapO S (S.l s.toNat) t k := by
  have he : Q.hapE s t = 0 := by
    unfold Q.hapE
    rw [srcB_eq, hs]
    simp [Q.tickB]
    omega
  refine ⟨he, ?_⟩
  unfold Q.hapS
  rw [if_pos he, Q.QuarS.put_same]
/-- What an act of a source at a tick does to the keeper's record of it. -/
inductive DoRel (S : Q.QuarS) (o : Q.QOne) (tk : Int) (t : Bool) (e : Int) (o' : Q.QOne) : Prop where
  | turn : t = true → o' = Q.hapO S o tk 0 → DoRel S o tk t e o'
  | arg : t = false → e = 2 → o' = o → DoRel S o tk t e o'
  | bad : t = false → (e = 260 ∨ e = 261) → o' = Q.hapO S o tk 2 → DoRel S o tk t e o'
  | drift : t = false → e = 262 → o' = Q.hapO S o tk 3 → DoRel S o tk t e o'
  | good : t = false → ((e = 0 ∧ o'.st < 2) ∨ (e = 262 ∧ ¬ o'.st < 2)) → o' = Q.hapO S o tk 1 → DoRel S o tk t e o'
theorem do_rel (S : JS) (a : Ac) (hs : srcB a.s = true) (h0 : 0 ≤ a.x.tk) (h1 : a.x.tk ≤ 1099511627776) :
    DoRel S.Q (S.Q.l a.s.toNat) a.x.tk a.t (doJ S a).1 ((doJ S a).2.Q.l a.s.toNat) := by
  have hk := fun k => (hapS_in (S := S.Q) k hs h0 h1).2
  cases ht : a.t
  · rw [show doJ S a = lookT S a.s a.x by unfold doJ; rw [ht]; rfl]
    show DoRel S.Q (S.Q.l a.s.toNat) a.x.tk false (lookJ S a.s a.x).1 ((lookJ S a.s a.x).2.Q.l a.s.toNat)
    by_cases hb : a.x.ax < 1 ∨ 3 < a.x.ax
    · rw [show lookJ S a.s a.x = (2, S) by unfold lookJ; rw [if_pos hb]]
      exact .arg rfl rfl rfl
    · rw [show lookJ S a.s a.x = lookX S a.s a.x.cut by unfold lookJ; rw [if_neg hb]]
      have hk' : ∀ k, (Q.hapS S.Q a.s a.x.cut.tk k).l a.s.toNat = Q.hapO S.Q (S.Q.l a.s.toNat) a.x.tk k := hk
      rcases (show tkE S.F a.s a.x.cut.tk = 2 ∨ tkE S.F a.s a.x.cut.tk = 0 by rcases tkE_cases S.F a.s a.x.cut.tk with ⟨_, e⟩ | ⟨_, _, e⟩ | ⟨_, _, _, e⟩ <;> simp [e]) with e | e
      · rw [lookX_e e]
        exact .arg rfl rfl rfl
      by_cases hf : tkFl S.same S.rate S.F a.s a.x.cut.s0 a.x.cut.s1 a.x.cut.s2 a.x.cut.tk = 0
      · cases hg : far3 (G.limV S.o S.g S.m a.x.cut.ag) a.x.cut.ax.toNat a.x.cut.of
        · cases hd : drB S.slack S.most S.G a.s a.x.cut a.x.cut.ax.toNat
          · rw [lookX_g e hf hg hd rfl]
            refine .good rfl ?_ (hk' 1)
            dsimp only
            have hq : Q.qlookO (Q.hapS S.Q a.s a.x.cut.tk 1) a.s = (Q.hapS S.Q a.s a.x.cut.tk 1).l a.s.toNat := by unfold Q.qlookO; rw [srcB_eq, hs, if_pos rfl]
            rw [srcB_eq, hs, hq]
            by_cases h2 : ((Q.hapS S.Q a.s a.x.cut.tk 1).l a.s.toNat).st < 2
            · exact .inl ⟨by rw [decide_eq_true h2]; rfl, h2⟩
            · exact .inr ⟨by rw [decide_eq_false h2]; rfl, h2⟩
          · rw [lookX_d e hf hg hd]
            exact .drift rfl rfl (hk' 3)
        · rw [lookX_f e hf hg]
          exact .bad rfl (.inl rfl) (hk' 2)
      · rw [lookX_s e hf]
        exact .bad rfl (.inr rfl) (hk' 2)
  · rw [show doJ S a = turnJ S a.s a.x.tk by unfold doJ; rw [ht]; rfl]
    exact .turn rfl (hk 0)
/-- The law's own counts beside the keeper's record. -/
structure HInv (since times good now : Int) (o : Q.QOne) : Prop where
  t : o.times = times
  g : 0 ≤ good
  s0 : 0 ≤ o.st
  s3 : o.st ≤ 3
  b0 : 0 ≤ o.bad
  o0 : 0 ≤ o.good
  o1 : o.good < 2
  c : (since = -1 ∧ o.st ≤ 1) ∨ (0 ≤ since ∧ since ≤ now ∧ ((o.st = 2 ∧ o.til = since + 6 ∧ good = 0) ∨ (o.st = 3 ∧ o.good = good ∧ since + 6 ≤ now) ∨ (o.st ≤ 1 ∧ 2 ≤ good ∧ since + 6 ≤ now)))
inductive HStep (since times good tk : Int) (t : Bool) (e : Int) (o' : Q.QOne) : Prop where
  | new : times < o'.times → e ≠ 0 → HInv tk o'.times 0 tk o' → HStep since times good tk t e o'
  | turn : o'.times = times → t = true → HInv since times good tk o' → HStep since times good tk t e o'
  | arg : o'.times = times → t = false → e = 2 → HInv since times good tk o' → HStep since times good tk t e o'
  | none : o'.times = times → t = false → e ≠ 2 → since = -1 → HInv since times good tk o' → HStep since times good tk t e o'
  | held : o'.times = times → t = false → e ≠ 2 → e ≠ 0 → 0 ≤ since → tk < since + 6 → HInv since times good tk o' → HStep since times good tk t e o'
  | other : o'.times = times → t = false → e ≠ 2 → e ≠ 0 → e ≠ 262 → 0 ≤ since → since + 6 ≤ tk → HInv since times good tk o' → HStep since times good tk t e o'
  | trust : o'.times = times → t = false → e = 262 → 0 ≤ since → since + 6 ≤ tk → HInv since times (good + 1) tk o' → HStep since times good tk t e o'
  | ok : o'.times = times → t = false → e = 0 → 0 ≤ since → since + 6 ≤ tk → 1 ≤ good → HInv since times (good + 1) tk o' → HStep since times good tk t e o'
theorem hstep {S : Q.QuarS} (hb : S.bad = 2) (hh : S.hold = 6) (hp : S.prove = 2) {since times good now tk : Int} {t : Bool} {e : Int} {o o' : Q.QOne} (h : HInv since times good now o) (ht : now ≤ tk) (ht0 : 0 ≤ tk) (hr : DoRel S o tk t e o') :
    HStep since times good tk t e o' := by
  obtain ⟨h1, h2, h3, h4, h5, h6, h7, hc⟩ := h
  obtain ⟨st, bad, gd, til, tm⟩ := o
  dsimp only at h1 h3 h4 h5 h6 h7 hc
  cases hr with
  | turn ht1 ho =>
    subst ho
    unfold Q.hapO Q.wakeO
    simp only [show (0 : Int) ≠ 1 by decide, show (0 : Int) ≠ 2 by decide, show (0 : Int) ≠ 3 by decide, if_false]
    split
    · rename_i hw
      refine .turn h1 ht1 ⟨h1, h2, by simp, by simp, h5, by simp, by simp, ?_⟩
      dsimp only at hw ⊢
      omega
    · rename_i hw
      refine .turn h1 ht1 ⟨h1, h2, h3, h4, h5, h6, h7, ?_⟩
      dsimp only at hw ⊢
      omega
  | arg ht1 he ho =>
    subst ho
    refine .arg h1 ht1 he ⟨h1, h2, h3, h4, h5, h6, h7, ?_⟩
    dsimp only
    omega
  | bad ht1 he ho =>
    have he2 : e ≠ 2 ∧ e ≠ 0 ∧ e ≠ 262 := by omega
    by_cases hw : st = 2 ∧ til ≤ tk
    · have hk : o' = ⟨2, 0, 0, tk + 6, tm + 1⟩ := by
        rw [ho]
        simp [Q.hapO, Q.badO, Q.wakeO, Q.awayO, hw, hh]
      subst hk
      refine .new (by dsimp only; omega) he2.2.1 ⟨rfl, by omega, by simp, by simp, by simp, by simp, by simp, ?_⟩
      dsimp only
      omega
    · have hwk : Q.wakeO ⟨st, bad, gd, til, tm⟩ tk = ⟨st, bad, gd, til, tm⟩ := by unfold Q.wakeO; rw [if_neg hw]
      have hk : o' = Q.badO S ⟨st, bad, gd, til, tm⟩ tk := by
        rw [ho]
        unfold Q.hapO
        rw [if_neg (by decide), if_pos rfl, hwk]
      clear ho hwk
      unfold Q.badO at hk
      by_cases h2' : st = 2
      · rw [if_pos h2'] at hk
        subst hk
        refine .held h1 ht1 he2.1 he2.2.1 (by omega) (by omega) ⟨h1, h2, h3, h4, h5, h6, h7, ?_⟩
        dsimp only
        omega
      · rw [if_neg h2'] at hk
        by_cases h5' : st ≠ 3 ∧ bad + 1 < S.bad
        · rw [if_pos h5'] at hk
          subst hk
          by_cases hs : since = -1
          · refine .none h1 ht1 he2.1 hs ⟨h1, h2, by simp, by simp, by dsimp only; omega, h6, h7, ?_⟩
            dsimp only
            omega
          · refine .other h1 ht1 he2.1 he2.2.1 he2.2.2 (by omega) (by omega) ⟨h1, h2, by simp, by simp, by dsimp only; omega, h6, h7, ?_⟩
            dsimp only
            omega
        · rw [if_neg h5'] at hk
          have hk' : o' = ⟨2, 0, 0, tk + 6, tm + 1⟩ := by rw [hk]; unfold Q.awayO; rw [hh]
          subst hk'
          refine .new (by dsimp only; omega) he2.2.1 ⟨rfl, by omega, by simp, by simp, by simp, by simp, by simp, ?_⟩
          dsimp only
          omega
  | drift ht1 he ho =>
    have hk : o' = ⟨2, 0, 0, tk + 6, tm + 1⟩ := by
      rw [ho]
      unfold Q.hapO Q.awayO Q.wakeO
      rw [if_neg (by decide), if_neg (by decide), if_pos rfl, hh]
      split <;> rfl
    subst hk
    refine .new (by dsimp only; omega) (by omega) ⟨rfl, by omega, by simp, by simp, by simp, by simp, by simp, ?_⟩
    dsimp only
    omega
  | good ht1 he ho =>
    have he2 : e ≠ 2 := by omega
    by_cases hw : st = 2 ∧ til ≤ tk
    · have hk : o' = ⟨3, bad, 1, 0, tm⟩ := by
        rw [ho]
        simp [Q.hapO, Q.goodO, Q.wakeO, hw, hp]
      subst hk
      dsimp only at he
      refine .trust h1 ht1 (by omega) (by omega) (by omega) ⟨h1, by omega, by simp, by simp, h5, by simp, by simp, ?_⟩
      dsimp only
      omega
    · have hwk : Q.wakeO ⟨st, bad, gd, til, tm⟩ tk = ⟨st, bad, gd, til, tm⟩ := by unfold Q.wakeO; rw [if_neg hw]
      have hk : o' = Q.goodO S ⟨st, bad, gd, til, tm⟩ := by
        rw [ho]
        unfold Q.hapO
        rw [if_pos rfl, hwk]
      clear ho hwk
      unfold Q.goodO at hk
      by_cases ha : st = 1
      · rw [if_pos ha] at hk
        subst hk
        dsimp only at he
        by_cases hs : since = -1
        · refine .none h1 ht1 he2 hs ⟨h1, h2, by simp, by simp, by simp, h6, h7, ?_⟩
          dsimp only
          omega
        · refine .ok h1 ht1 (by omega) (by omega) (by omega) (by omega) ⟨h1, by omega, by simp, by simp, by simp, h6, h7, ?_⟩
          dsimp only
          omega
      rw [if_neg ha] at hk
      by_cases hc3 : st = 3
      · rw [if_pos hc3] at hk
        by_cases hg : gd + 1 = S.prove
        · rw [if_pos hg] at hk
          subst hk
          dsimp only at he
          refine .ok h1 ht1 (by omega) (by omega) (by omega) (by omega) ⟨h1, by omega, by simp, by simp, h5, by simp, by simp, ?_⟩
          dsimp only
          omega
        · rw [if_neg hg] at hk
          subst hk
          dsimp only at he
          refine .trust h1 ht1 (by omega) (by omega) (by omega) ⟨h1, by omega, h3, h4, h5, by dsimp only; omega, by dsimp only; omega, ?_⟩
          dsimp only
          omega
      · rw [if_neg hc3] at hk
        subst hk
        dsimp only at he
        by_cases h2' : st = 2
        · refine .held h1 ht1 he2 (by omega) (by omega) (by omega) ⟨h1, h2, h3, h4, h5, h6, h7, ?_⟩
          dsimp only
          omega
        · by_cases hs : since = -1
          · refine .none h1 ht1 he2 hs ⟨h1, h2, h3, h4, h5, h6, h7, ?_⟩
            dsimp only
            omega
          · refine .ok h1 ht1 (by omega) (by omega) (by omega) (by omega) ⟨h1, by omega, h3, h4, h5, h6, h7, ?_⟩
            dsimp only
            omega
end Go.Proofs.Ytihalkpcddnikaa
