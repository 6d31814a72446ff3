/-
  Acts that came in; judges that are alike at a source: the plain law of WatchApart.
-/
import Derived.Test.YtihalkpcddnikaaWatG
import Derived.Test.YtihalkpcddnikaaElemB
namespace Go.Proofs.Ytihalkpcddnikaa
open Go.RowKit Go.Maps
set_option linter.unusedVariables false
set_option linter.unusedSimpArgs false

def acK : List (Option IntKind) := [some .i64, some .i64, some .i64, some .i64, some .i64, some .i64, some .i64, some .i64, some .i64, some .i64, none]
def Ac.cs (a : Ac) : List Value := [.int .i64 a.s, .int .i64 a.x.ax, .int .i64 a.x.tk, .int .i64 a.x.ag, .int .i64 a.x.s0, .int .i64 a.x.s1, .int .i64 a.x.s2, .int .i64 a.x.o0, .int .i64 a.x.o1, .int .i64 a.x.o2, .bool a.t]
theorem ac_of {w : World} {a : Option Addr} {len : Nat} (h : Elems w acK a len) {k : Nat} (hk : k < len) :
    ∃ (b off : Nat) (x : Ac), a = some ⟨b, off, none⟩ ∧ b < w.heap.size ∧ I64 x.s ∧ x.x.OK ∧ w.rangeAt b (off + k * 11) x.cs := by
  obtain ⟨_, h0 | ⟨b, off, rfl, hb, hc⟩⟩ := h
  · omega
  obtain ⟨cs, hic, hcs⟩ := hc k hk
  unfold acK at hic
  obtain ⟨s, cs, rfl, w0, hic⟩ := hic.cons
  obtain ⟨a1, cs, rfl, w1, hic⟩ := hic.cons
  obtain ⟨a2, cs, rfl, w2, hic⟩ := hic.cons
  obtain ⟨a3, cs, rfl, w3, hic⟩ := hic.cons
  obtain ⟨a4, cs, rfl, w4, hic⟩ := hic.cons
  obtain ⟨a5, cs, rfl, w5, hic⟩ := hic.cons
  obtain ⟨a6, cs, rfl, w6, hic⟩ := hic.cons
  obtain ⟨a7, cs, rfl, w7, hic⟩ := hic.cons
  obtain ⟨a8, cs, rfl, w8, hic⟩ := hic.cons
  obtain ⟨a9, cs, rfl, w9, hic⟩ := hic.cons
  obtain ⟨t, cs', rfl, hic'⟩ := hic.consB
  obtain rfl := hic'.nil
  refine ⟨b, off, ⟨s, ⟨a1, a2, a3, a4, a5, a6, a7, a8, a9⟩, t⟩, rfl, hb, bounds_i64 w0, ⟨bounds_i64 w1, bounds_i64 w2, bounds_i64 w3, bounds_i64 w4, bounds_i64 w5, bounds_i64 w6, bounds_i64 w7, bounds_i64 w8, bounds_i64 w9⟩, fun j v hj => ?_⟩
  have hl : j < 11 := by
    have := (List.getElem?_eq_some_iff.mp hj).1
    simpa [Ac.cs] using this
  have := hcs j (by simpa [acK] using hl)
  rw [show acK.length = 11 from rfl] at this
  rw [this]
  exact hj
/-! ### alike at a source -/
structure Alike (s : Int) (S T : JS) : Prop where
  o : S.o = T.o
  g : S.g = T.g
  m : S.m = T.m
  sl : S.slack = T.slack
  mo : S.most = T.most
  sa : S.same = T.same
  ra : S.rate = T.rate
  q1 : S.Q.bad = T.Q.bad
  q2 : S.Q.hold = T.Q.hold
  q3 : S.Q.prove = T.Q.prove
  ql : S.Q.l s.toNat = T.Q.l s.toNat
  G : ∀ k, S.G s k = T.G s k
  F : S.F s = T.F s
theorem Alike.refl (s : Int) (S : JS) : Alike s S S := ⟨rfl, rfl, rfl, rfl, rfl, rfl, rfl, rfl, rfl, rfl, rfl, fun _ => rfl, rfl⟩
theorem Alike.trans {s : Int} {S T U : JS} (h : Alike s S T) (k : Alike s T U) : Alike s S U :=
  ⟨h.o.trans k.o, h.g.trans k.g, h.m.trans k.m, h.sl.trans k.sl, h.mo.trans k.mo, h.sa.trans k.sa, h.ra.trans k.ra, h.q1.trans k.q1, h.q2.trans k.q2, h.q3.trans k.q3, h.ql.trans k.ql, fun i => (h.G i).trans (k.G i), h.F.trans k.F⟩
theorem Alike.symm {s : Int} {S T : JS} (h : Alike s S T) : Alike s T S :=
  ⟨h.o.symm, h.g.symm, h.m.symm, h.sl.symm, h.mo.symm, h.sa.symm, h.ra.symm, h.q1.symm, h.q2.symm, h.q3.symm, h.ql.symm, fun i => (h.G i).symm, h.F.symm⟩
theorem hapS_par (S : Q.QuarS) (s t k : Int) : (Q.hapS S s t k).bad = S.bad ∧ (Q.hapS S s t k).hold = S.hold ∧ (Q.hapS S s t k).prove = S.prove := by
  unfold Q.hapS
  split
  · exact ⟨rfl, rfl, rfl⟩
  · exact ⟨rfl, rfl, rfl⟩
theorem hapS_other (S : Q.QuarS) {i s : Int} (t k : Int) (hs : 0 ≤ s) (hne : i ≠ s) : (Q.hapS S i t k).l s.toNat = S.l s.toNat := by
  unfold Q.hapS
  split
  · rename_i he
    have hi : Q.srcB i = true := by
      unfold Q.hapE at he
      split at he
      · assumption
      · cases he
    have := (Q.src_in hi)
    obtain ⟨j, hj, rfl⟩ := this
    exact Q.QuarS.put_other _ _ (by omega)
  · rfl
theorem hapO_alike {S T : Q.QuarS} (h1 : S.bad = T.bad) (h2 : S.hold = T.hold) (h3 : S.prove = T.prove) (o : Q.QOne) (t k : Int) : Q.hapO S o t k = Q.hapO T o t k := by
  unfold Q.hapO Q.goodO Q.badO Q.awayO
  rw [h1, h2, h3]
theorem hapS_same {S T : Q.QuarS} {s : Int} (t k : Int) (h1 : S.bad = T.bad) (h2 : S.hold = T.hold) (h3 : S.prove = T.prove) (hl : S.l s.toNat = T.l s.toNat) : (Q.hapS S s t k).l s.toNat = (Q.hapS T s t k).l s.toNat := by
  unfold Q.hapS
  split
  · rw [Q.QuarS.put_same, Q.QuarS.put_same, hl, hapO_alike h1 h2 h3]
  · exact hl
theorem tkF_other (f : Int → Option StO) {i s : Int} (a b c t : Int) (hne : i ≠ s) : tkF f i a b c t s = f s := by
  unfold tkF
  split
  · exact updS_other f _ (fun e => hne e.symm)
  · rfl
theorem lastO_alike {f g : Int → Option StO} {s : Int} (h : f s = g s) : lastO f s = lastO g s := by unfold lastO; rw [h]
theorem tkE_alike {f g : Int → Option StO} {s : Int} (h : f s = g s) (t : Int) : tkE f s t = tkE g s t := by unfold tkE; rw [lastO_alike h]
theorem nowRow_alike {f g : Int → Option StO} {s : Int} (h : f s = g s) (a b c : Int) : nowRow f s a b c = nowRow g s a b c := by unfold nowRow; rw [h, lastO_alike h]
theorem tkFl_alike {f g : Int → Option StO} {s : Int} (h : f s = g s) (same rate a b c t : Int) : tkFl same rate f s a b c t = tkFl same rate g s a b c t := by
  unfold tkFl; rw [tkE_alike h, nowRow_alike h, h, lastO_alike h]
theorem tkF_alike {f g : Int → Option StO} {s : Int} (h : f s = g s) (a b c t : Int) : tkF f s a b c t s = tkF g s a b c t s := by
  unfold tkF
  rw [tkE_alike h, nowRow_alike h]
  split
  · rw [updS_same, updS_same]
  · exact h
theorem drG_other (slack : Int) (G : Int → Int → Pr) {i s : Int} (x : Rd) (hne : i ≠ s) (j : Int) : ∀ n, drG slack G i x n s j = G s j
  | 0 => rfl
  | n + 1 => by
    unfold drG updC
    rw [if_neg (fun e => hne e.1.symm)]
    exact drG_other slack G x hne j n
theorem drG_alike (slack : Int) {G H : Int → Int → Pr} {s : Int} (x : Rd) (h : ∀ k, G s k = H s k) : ∀ n j, drG slack G s x n s j = drG slack H s x n s j
  | 0, j => h j
  | n + 1, j => by
    unfold drG updC
    rw [drG_alike slack x h n, drG_alike slack x h n]
theorem drB_alike (slack most : Int) {G H : Int → Int → Pr} {s : Int} (x : Rd) (h : ∀ k, G s k = H s k) : ∀ n, drB slack most G s x n = drB slack most H s x n
  | 0 => rfl
  | n + 1 => by
    unfold drB
    rw [drG_alike slack x h n, drB_alike slack most x h n]
theorem clrS_other (G : Int → Int → Pr) {i s : Int} (hne : i ≠ s) (j : Int) : clrS G i s j = G s j := by
  unfold clrS
  rw [if_neg (fun e => hne e.symm)]
/-- An act of another source. -/
theorem look_other (S : JS) {i s : Int} (x : Rd) (hs : 0 ≤ s) (hne : i ≠ s) : Alike s (lookJ S i x).2 S := by
  unfold lookJ lookX
  split
  · exact Alike.refl _ _
  split
  · exact Alike.refl _ _
  have hp := fun k => hapS_par S.Q i x.cut.tk k
  have hq := fun k => hapS_other S.Q x.cut.tk k hs hne
  have hf := tkF_other S.F x.cut.s0 x.cut.s1 x.cut.s2 x.cut.tk hne
  split
  · exact ⟨rfl, rfl, rfl, rfl, rfl, rfl, rfl, (hp 2).1, (hp 2).2.1, (hp 2).2.2, hq 2, fun _ => rfl, hf⟩
  split
  · exact ⟨rfl, rfl, rfl, rfl, rfl, rfl, rfl, (hp 2).1, (hp 2).2.1, (hp 2).2.2, hq 2, fun _ => rfl, hf⟩
  split
  · exact ⟨rfl, rfl, rfl, rfl, rfl, rfl, rfl, (hp 3).1, (hp 3).2.1, (hp 3).2.2, hq 3, fun k => (clrS_other _ hne k).trans (drG_other _ _ _ hne k _), hf⟩
  · exact ⟨rfl, rfl, rfl, rfl, rfl, rfl, rfl, (hp 1).1, (hp 1).2.1, (hp 1).2.2, hq 1, fun k => drG_other _ _ _ hne k _, hf⟩
theorem do_other (S : JS) {a : Ac} {s : Int} (hs : 0 ≤ s) (hne : a.s ≠ s) : Alike s (doJ S a).2 S := by
  unfold doJ
  split
  · have hp := hapS_par S.Q a.s a.x.tk 0
    exact ⟨rfl, rfl, rfl, rfl, rfl, rfl, rfl, hp.1, hp.2.1, hp.2.2, hapS_other _ _ _ hs hne, fun _ => rfl, rfl⟩
  · have h := look_other S a.x hs hne
    exact ⟨h.o, h.g, h.m, h.sl, h.mo, h.sa, h.ra, h.q1, h.q2, h.q3, h.ql, h.G, h.F⟩
/-- One of its own. -/
theorem look_own {S T : JS} {s : Int} (x : Rd) (h : Alike s S T) : (lookJ S s x).1 = (lookJ T s x).1 ∧ Alike s (lookJ S s x).2 (lookJ T s x).2 := by
  unfold lookJ
  by_cases hb : x.ax < 1 ∨ 3 < x.ax
  · rw [if_pos hb, if_pos hb]
    exact ⟨rfl, h⟩
  rw [if_neg hb, if_neg hb]
  generalize x.cut = x
  have e1 := tkE_alike h.F x.tk
  have e2 := tkFl_alike h.F S.same S.rate x.s0 x.s1 x.s2 x.tk
  have e3 := tkF_alike h.F x.s0 x.s1 x.s2 x.tk
  have e4 := drB_alike S.slack S.most x h.G x.ax.toNat
  have e5 := drG_alike S.slack x h.G x.ax.toNat
  have e6 := fun k => hapS_same x.tk k h.q1 h.q2 h.q3 h.ql
  have p1 := fun k => hapS_par S.Q s x.tk k
  have p2 := fun k => hapS_par T.Q s x.tk k
  have hq : ∀ k, (Q.hapS S.Q s x.tk k).bad = (Q.hapS T.Q s x.tk k).bad ∧ (Q.hapS S.Q s x.tk k).hold = (Q.hapS T.Q s x.tk k).hold ∧ (Q.hapS S.Q s x.tk k).prove = (Q.hapS T.Q s x.tk k).prove := fun k =>
    ⟨(p1 k).1.trans (h.q1.trans (p2 k).1.symm), (p1 k).2.1.trans (h.q2.trans (p2 k).2.1.symm), (p1 k).2.2.trans (h.q3.trans (p2 k).2.2.symm)⟩
  have eo := h.o
  have eg := h.g
  have em := h.m
  have es := h.sl
  have et := h.mo
  have ea := h.sa
  have er := h.ra
  rcases (show tkE S.F s x.tk = 2 ∨ tkE S.F s x.tk = 0 by rcases tkE_cases S.F s x.tk with ⟨_, e⟩ | ⟨_, _, e⟩ | ⟨_, _, _, e⟩ <;> simp [e]) with e | e
  · rw [lookX_e e, lookX_e (e1 ▸ e)]
    exact ⟨rfl, h⟩
  have e' : tkE T.F s x.tk = 0 := e1 ▸ e
  by_cases hfl : tkFl S.same S.rate S.F s x.s0 x.s1 x.s2 x.tk = 0
  · have hfl' : tkFl T.same T.rate T.F s x.s0 x.s1 x.s2 x.tk = 0 := by rw [← ea, ← er, ← e2]; exact hfl
    cases hg : far3 (G.limV S.o S.g S.m x.ag) x.ax.toNat x.of
    · have hg' : far3 (G.limV T.o T.g T.m x.ag) x.ax.toNat x.of = false := by rw [← eo, ← eg, ← em]; exact hg
      cases hd : drB S.slack S.most S.G s x x.ax.toNat
      · have hd' : drB T.slack T.most T.G s x x.ax.toNat = false := by rw [← es, ← et, ← e4]; exact hd
        have hb' : (Q.srcB s && decide ((Q.qlookO (Q.hapS T.Q s x.tk 1) s).st < 2)) = (Q.srcB s && decide ((Q.qlookO (Q.hapS S.Q s x.tk 1) s).st < 2)) := by
          unfold Q.qlookO
          rw [e6 1]
        rw [lookX_g e hfl hg hd rfl, lookX_g e' hfl' hg' hd' hb']
        exact ⟨rfl, eo, eg, em, es, et, ea, er, (hq 1).1, (hq 1).2.1, (hq 1).2.2, e6 1, fun k => by rw [← es]; exact e5 k, e3⟩
      · have hd' : drB T.slack T.most T.G s x x.ax.toNat = true := by rw [← es, ← et, ← e4]; exact hd
        rw [lookX_d e hfl hg hd, lookX_d e' hfl' hg' hd']
        exact ⟨rfl, eo, eg, em, es, et, ea, er, (hq 3).1, (hq 3).2.1, (hq 3).2.2, e6 3, fun k => by unfold clrS; simp, e3⟩
    · have hg' : far3 (G.limV T.o T.g T.m x.ag) x.ax.toNat x.of = true := by rw [← eo, ← eg, ← em]; exact hg
      rw [lookX_f e hfl hg, lookX_f e' hfl' hg']
      exact ⟨rfl, eo, eg, em, es, et, ea, er, (hq 2).1, (hq 2).2.1, (hq 2).2.2, e6 2, h.G, e3⟩
  · have hfl' : tkFl T.same T.rate T.F s x.s0 x.s1 x.s2 x.tk ≠ 0 := by rw [← ea, ← er, ← e2]; exact hfl
    rw [lookX_s e hfl, lookX_s e' hfl']
    exact ⟨rfl, eo, eg, em, es, et, ea, er, (hq 2).1, (hq 2).2.1, (hq 2).2.2, e6 2, h.G, e3⟩
theorem do_own {S T : JS} {a : Ac} (h : Alike a.s S T) : (doJ S a).1 = (doJ T a).1 ∧ Alike a.s (doJ S a).2 (doJ T a).2 := by
  unfold doJ
  split
  · have p1 := hapS_par S.Q a.s a.x.tk 0
    have p2 := hapS_par T.Q a.s a.x.tk 0
    exact ⟨rfl, h.o, h.g, h.m, h.sl, h.mo, h.sa, h.ra, p1.1.trans (h.q1.trans p2.1.symm), p1.2.1.trans (h.q2.trans p2.2.1.symm), p1.2.2.trans (h.q3.trans p2.2.2.symm), hapS_same _ _ h.q1 h.q2 h.q3 h.ql, h.G, h.F⟩
  · obtain ⟨h1, h⟩ := look_own a.x h
    exact ⟨h1, h.o, h.g, h.m, h.sl, h.mo, h.sa, h.ra, h.q1, h.q2, h.q3, h.ql, h.G, h.F⟩
end Go.Proofs.Ytihalkpcddnikaa
