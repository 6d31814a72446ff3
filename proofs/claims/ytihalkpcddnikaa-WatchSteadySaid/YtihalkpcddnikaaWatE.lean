/-
  The judge: its methods.
-/
import Derived.Test.YtihalkpcddnikaaWatD
namespace Go.Proofs.Ytihalkpcddnikaa
open Go.RowKit Go.Maps
set_option linter.unusedVariables false
set_option linter.unusedSimpArgs false

theorem jis_t {w : World} {p : JB} {S : JS} {n : Nat} (h : JAt w p S n) :
    Calls Try.prog 42 #[.pointer (some ⟨p.j, 0, none⟩)] w (Tells w (.bool true)) := by
  have hc := h.c6
  have hn := fun W => run_neq_map_nil (P := Try.prog) W 83 29 3 (some p.t) Try.underlying83
  clear h
  go_enter Try.func42, Try.ntmps42
  go_wp2
  go_ret
  exact Tells.mk rfl
theorem jis_nil (w : World) : Calls Try.prog 42 #[.pointer none] w (Tells w (.bool false)) := by
  go_enter Try.func42, Try.ntmps42
  go_wp2
  go_ret
  exact Tells.mk rfl
theorem jis_void (c : Nat) (w : World) (hc : w.cell? ⟨c, 6, none⟩ = some (.map none)) : Calls Try.prog 42 #[.pointer (some ⟨c, 0, none⟩)] w (Tells w (.bool false)) := by
  have hn := fun W => run_neq_map_nil (P := Try.prog) W 83 29 3 none Try.underlying83
  go_enter Try.func42, Try.ntmps42
  go_wp2
  go_ret
  exact Tells.mk rfl

/-! ### of a judge that no call made -/
theorem jState_nil (s : Int) (w : World) : Calls Try.prog 23 #[.pointer none, .int .i64 s] w (Tells w (.int .i64 0)) := by
  go_enter Try.func23, Try.ntmps23
  go_wp2_with (go_at_call 42; with_reducible refine Calls.tells (jis_nil _) ?_)
  go_ret
  exact Tells.mk rfl
theorem jState_void (c : Nat) (s : Int) (w : World) (hc : w.cell? ⟨c, 6, none⟩ = some (.map none)) : Calls Try.prog 23 #[.pointer (some ⟨c, 0, none⟩), .int .i64 s] w (Tells w (.int .i64 0)) := by
  go_enter Try.func23, Try.ntmps23
  go_wp2_with (go_at_call 42; with_reducible refine Calls.tells (jis_void c _ hc) ?_)
  go_ret
  exact Tells.mk rfl
theorem jUntil_nil (s : Int) (w : World) : Calls Try.prog 28 #[.pointer none, .int .i64 s] w (Tells w (.int .i64 0)) := by
  go_enter Try.func28, Try.ntmps28
  go_wp2_with (go_at_call 42; with_reducible refine Calls.tells (jis_nil _) ?_)
  go_ret
  exact Tells.mk rfl
theorem jUntil_void (c : Nat) (s : Int) (w : World) (hc : w.cell? ⟨c, 6, none⟩ = some (.map none)) : Calls Try.prog 28 #[.pointer (some ⟨c, 0, none⟩), .int .i64 s] w (Tells w (.int .i64 0)) := by
  go_enter Try.func28, Try.ntmps28
  go_wp2_with (go_at_call 42; with_reducible refine Calls.tells (jis_void c _ hc) ?_)
  go_ret
  exact Tells.mk rfl
theorem jTimes_nil (s : Int) (w : World) : Calls Try.prog 24 #[.pointer none, .int .i64 s] w (Tells w (.int .i64 0)) := by
  go_enter Try.func24, Try.ntmps24
  go_wp2_with (go_at_call 42; with_reducible refine Calls.tells (jis_nil _) ?_)
  go_ret
  exact Tells.mk rfl
theorem jTimes_void (c : Nat) (s : Int) (w : World) (hc : w.cell? ⟨c, 6, none⟩ = some (.map none)) : Calls Try.prog 24 #[.pointer (some ⟨c, 0, none⟩), .int .i64 s] w (Tells w (.int .i64 0)) := by
  go_enter Try.func24, Try.ntmps24
  go_wp2_with (go_at_call 42; with_reducible refine Calls.tells (jis_void c _ hc) ?_)
  go_ret
  exact Tells.mk rfl
theorem jCounts_nil (s : Int) (w : World) : Calls Try.prog 30 #[.pointer none, .int .i64 s] w (Tells w (.bool false)) := by
  go_enter Try.func30, Try.ntmps30
  go_wp2_with (go_at_call 42; with_reducible refine Calls.tells (jis_nil _) ?_)
  go_ret
  exact Tells.mk rfl
theorem jCounts_void (c : Nat) (s : Int) (w : World) (hc : w.cell? ⟨c, 6, none⟩ = some (.map none)) : Calls Try.prog 30 #[.pointer (some ⟨c, 0, none⟩), .int .i64 s] w (Tells w (.bool false)) := by
  go_enter Try.func30, Try.ntmps30
  go_wp2_with (go_at_call 42; with_reducible refine Calls.tells (jis_void c _ hc) ?_)
  go_ret
  exact Tells.mk rfl
theorem jCount_nil (s : Int) (w : World) : Calls Try.prog 29 #[.pointer none, .int .i64 s] w (Tells w (.int .i64 0)) := by
  go_enter Try.func29, Try.ntmps29
  go_wp2_with (go_at_call 42; with_reducible refine Calls.tells (jis_nil _) ?_)
  go_ret
  exact Tells.mk rfl
theorem jCount_void (c : Nat) (s : Int) (w : World) (hc : w.cell? ⟨c, 6, none⟩ = some (.map none)) : Calls Try.prog 29 #[.pointer (some ⟨c, 0, none⟩), .int .i64 s] w (Tells w (.int .i64 0)) := by
  go_enter Try.func29, Try.ntmps29
  go_wp2_with (go_at_call 42; with_reducible refine Calls.tells (jis_void c _ hc) ?_)
  go_ret
  exact Tells.mk rfl
theorem jSums_nil (s k : Int) (w : World) : Calls Try.prog 27 #[.pointer none, .int .i64 s, .int .i64 k] w (Tells w (.tuple #[.int .i64 0, .int .i64 0])) := by
  go_enter Try.func27, Try.ntmps27
  go_wp2_with (go_at_call 42; with_reducible refine Calls.tells (jis_nil _) ?_)
  go_ret2
  exact Tells.mk rfl
theorem jSums_void (c : Nat) (s k : Int) (w : World) (hc : w.cell? ⟨c, 6, none⟩ = some (.map none)) : Calls Try.prog 27 #[.pointer (some ⟨c, 0, none⟩), .int .i64 s, .int .i64 k] w (Tells w (.tuple #[.int .i64 0, .int .i64 0])) := by
  go_enter Try.func27, Try.ntmps27
  go_wp2_with (go_at_call 42; with_reducible refine Calls.tells (jis_void c _ hc) ?_)
  go_ret2
  exact Tells.mk rfl
theorem jTurn_nil (s t : Int) (w : World) : Calls Try.prog 46 #[.pointer none, .int .i64 s, .int .i64 t] w (Tells w (.int .i64 1)) := by
  go_enter Try.func46, Try.ntmps46
  go_wp2_with (go_at_call 42; with_reducible refine Calls.tells (jis_nil _) ?_)
  go_ret
  exact Tells.mk rfl
theorem jTurn_void (c : Nat) (s t : Int) (w : World) (hc : w.cell? ⟨c, 6, none⟩ = some (.map none)) : Calls Try.prog 46 #[.pointer (some ⟨c, 0, none⟩), .int .i64 s, .int .i64 t] w (Tells w (.int .i64 1)) := by
  go_enter Try.func46, Try.ntmps46
  go_wp2_with (go_at_call 42; with_reducible refine Calls.tells (jis_void c _ hc) ?_)
  go_ret
  exact Tells.mk rfl
theorem jLook_nil (s : Int) (x : Rd) (w : World) : Calls Try.prog 22 #[.pointer none, .int .i64 s, .agg #[.int .i64 x.ax, .int .i64 x.tk, .int .i64 x.ag, .int .i64 x.s0, .int .i64 x.s1, .int .i64 x.s2, .int .i64 x.o0, .int .i64 x.o1, .int .i64 x.o2]] w (Gives w (.int .i64 1)) := by
  go_enter Try.func22, Try.ntmps22
  go_wp2_with (go_at_call 42; with_reducible refine Calls.tells (jis_nil _) ?_)
  go_ret
  exact Gives.mk rfl (by (repeat (first | (with_reducible exact Below.refl _ _) | (with_reducible assumption) | (with_reducible refine Below.alloc ?_ (by (repeat (first | (with_reducible exact Nat.le_refl _) | (with_reducible assumption) | (with_reducible refine le_up ?_) | (with_reducible refine le_alloc ?_) | (with_reducible refine le_setCell ?_) | (with_reducible refine le_drew ?_) | (with_reducible refine le_drewN ?_) | omega))) _) | (with_reducible refine Below.drew ?_) | (with_reducible refine Below.drewN ?_ _) | (with_reducible refine Below.setCell ?_ (by (repeat (first | (with_reducible exact Nat.le_refl _) | (with_reducible assumption) | (with_reducible refine le_up ?_) | (with_reducible refine le_alloc ?_) | (with_reducible refine le_setCell ?_) | (with_reducible refine le_drew ?_) | (with_reducible refine le_drewN ?_) | omega))) _) | (with_reducible refine Below.up ?_ (by (repeat (first | (with_reducible exact Nat.le_refl _) | (with_reducible assumption) | (with_reducible refine le_up ?_) | (with_reducible refine le_alloc ?_) | (with_reducible refine le_setCell ?_) | (with_reducible refine le_drew ?_) | (with_reducible refine le_drewN ?_) | omega)))))))
theorem jLook_void (c : Nat) (s : Int) (x : Rd) (w : World) [LtSize c w] (hc : w.cell? ⟨c, 6, none⟩ = some (.map none)) : Calls Try.prog 22 #[.pointer (some ⟨c, 0, none⟩), .int .i64 s, .agg #[.int .i64 x.ax, .int .i64 x.tk, .int .i64 x.ag, .int .i64 x.s0, .int .i64 x.s1, .int .i64 x.s2, .int .i64 x.o0, .int .i64 x.o1, .int .i64 x.o2]] w (Gives w (.int .i64 1)) := by
  go_enter Try.func22, Try.ntmps22
  go_wp2_with (go_at_call 42; with_reducible refine Calls.tells (jis_void c _ (by simp [hc])) ?_)
  go_ret
  exact Gives.mk rfl (by (repeat (first | (with_reducible exact Below.refl _ _) | (with_reducible assumption) | (with_reducible refine Below.alloc ?_ (by (repeat (first | (with_reducible exact Nat.le_refl _) | (with_reducible assumption) | (with_reducible refine le_up ?_) | (with_reducible refine le_alloc ?_) | (with_reducible refine le_setCell ?_) | (with_reducible refine le_drew ?_) | (with_reducible refine le_drewN ?_) | omega))) _) | (with_reducible refine Below.drew ?_) | (with_reducible refine Below.drewN ?_ _) | (with_reducible refine Below.setCell ?_ (by (repeat (first | (with_reducible exact Nat.le_refl _) | (with_reducible assumption) | (with_reducible refine le_up ?_) | (with_reducible refine le_alloc ?_) | (with_reducible refine le_setCell ?_) | (with_reducible refine le_drew ?_) | (with_reducible refine le_drewN ?_) | omega))) _) | (with_reducible refine Below.up ?_ (by (repeat (first | (with_reducible exact Nat.le_refl _) | (with_reducible assumption) | (with_reducible refine le_up ?_) | (with_reducible refine le_alloc ?_) | (with_reducible refine le_setCell ?_) | (with_reducible refine le_drew ?_) | (with_reducible refine le_drewN ?_) | omega)))))))
/-! ### of a made one -/
theorem jState_any {w : World} {p : JB} {S : JS} {n : Nat} (h : JAt w p S n) (s : Int) :
    Calls Try.prog 23 #[.pointer (some ⟨p.j, 0, none⟩), .int .i64 s] w (Tells w (.int .i64 (Q.qlookO S.Q s).st)) := by
  have H := Lib.hid h
  have c0 := h.c0
  clear h
  go_enter Try.func23, Try.ntmps23
  go_wp2_with (first | (go_at_call 42; with_reducible refine Calls.tells (jis_t H.out) ?_) | (go_at_call 44; with_reducible refine Calls.tells (Q.qState_is H.out.qu H.out.ok.q1 rfl) ?_))
  go_ret
  exact Tells.mk rfl
theorem jUntil_any {w : World} {p : JB} {S : JS} {n : Nat} (h : JAt w p S n) (s : Int) :
    Calls Try.prog 28 #[.pointer (some ⟨p.j, 0, none⟩), .int .i64 s] w (Tells w (.int .i64 (Q.qlookO S.Q s).til)) := by
  have H := Lib.hid h
  have c0 := h.c0
  clear h
  go_enter Try.func28, Try.ntmps28
  go_wp2_with (first | (go_at_call 42; with_reducible refine Calls.tells (jis_t H.out) ?_) | (go_at_call 48; with_reducible refine Calls.tells (Q.qUntil_is H.out.qu H.out.ok.q1 rfl) ?_))
  go_ret
  exact Tells.mk rfl
theorem jTimes_any {w : World} {p : JB} {S : JS} {n : Nat} (h : JAt w p S n) (s : Int) :
    Calls Try.prog 24 #[.pointer (some ⟨p.j, 0, none⟩), .int .i64 s] w (Tells w (.int .i64 (Q.qlookO S.Q s).times)) := by
  have H := Lib.hid h
  have c0 := h.c0
  clear h
  go_enter Try.func24, Try.ntmps24
  go_wp2_with (first | (go_at_call 42; with_reducible refine Calls.tells (jis_t H.out) ?_) | (go_at_call 45; with_reducible refine Calls.tells (Q.qTimes_is H.out.qu H.out.ok.q1 rfl) ?_))
  go_ret
  exact Tells.mk rfl
theorem jSums_any {w : World} {p : JB} {S : JS} {n : Nat} (h : JAt w p S n) {s k : Int} (hs : I64 s) (hk : I64 k) :
    Calls Try.prog 27 #[.pointer (some ⟨p.j, 0, none⟩), .int .i64 s, .int .i64 k] w (Gives w (.tuple #[.int .i64 (S.G s k).up, .int .i64 (S.G s k).dn])) := by
  have H := Lib.hid h
  have c4 := h.c4
  have HS := Lib.hid (cSums_made hs hk h.cu)
  obtain ⟨⟨u, d⟩, hv⟩ : ∃ m, S.G s k = m := ⟨_, rfl⟩
  rw [hv] at HS ⊢
  clear h hv
  dsimp only at HS ⊢
  go_enter Try.func27, Try.ntmps27
  go_wp2_with (first | (go_at_call 42; with_reducible refine Calls.tells (jis_t H.out) ?_) | (go_at_call 47; (first | with_reducible refine Calls.fold (HS.out) ?_ | with_reducible refine Calls.fresh (HS.out) ?_); intro x1))
  go_ret2
  exact Gives.mk rfl (by (repeat (first | (with_reducible exact Below.refl _ _) | (with_reducible assumption) | (with_reducible refine Below.alloc ?_ (by (repeat (first | (with_reducible exact Nat.le_refl _) | (with_reducible assumption) | (with_reducible refine le_up ?_) | (with_reducible refine le_alloc ?_) | (with_reducible refine le_setCell ?_) | (with_reducible refine le_drew ?_) | (with_reducible refine le_drewN ?_) | omega))) _) | (with_reducible refine Below.drew ?_) | (with_reducible refine Below.drewN ?_ _) | (with_reducible refine Below.setCell ?_ (by (repeat (first | (with_reducible exact Nat.le_refl _) | (with_reducible assumption) | (with_reducible refine le_up ?_) | (with_reducible refine le_alloc ?_) | (with_reducible refine le_setCell ?_) | (with_reducible refine le_drew ?_) | (with_reducible refine le_drewN ?_) | omega))) _) | (with_reducible refine Below.up ?_ (by (repeat (first | (with_reducible exact Nat.le_refl _) | (with_reducible assumption) | (with_reducible refine le_up ?_) | (with_reducible refine le_alloc ?_) | (with_reducible refine le_setCell ?_) | (with_reducible refine le_drew ?_) | (with_reducible refine le_drewN ?_) | omega)))))))
theorem jCount_any {w : World} {p : JB} {S : JS} {n : Nat} (h : JAt w p S n) {e : Int} (he : I64 e) :
    Calls Try.prog 29 #[.pointer (some ⟨p.j, 0, none⟩), .int .i64 e] w (Tells w (.int .i64 (S.T e))) := by
  have H := Lib.hid h
  have c6 := h.c6
  have hl := h.te.lookup he
  clear h
  go_enter Try.func29, Try.ntmps29
  go_wp2_with (go_at_call 42; with_reducible refine Calls.tells (jis_t H.out) ?_)
  go_ret
  exact Tells.mk rfl
/-- What Turn does: the answer, and the judge behind it. -/
def turnJ (S : JS) (s t : Int) : Int × JS := (Q.hapE s t, { S with Q := Q.hapS S.Q s t 0 })
def JActR (w : World) (p : JB) (r : Int × JS) (n : Nat) (e : Ending) (w' : World) : Prop := e = .returned (.int .i64 r.1) ∧ JAt w' p r.2 n ∧ FrJ w w' p
theorem jTurn_any {w : World} {p : JB} {S : JS} {n : Nat} (h : JAt w p S n) (hn : n < 999980) (s t : Int) :
    Calls Try.prog 46 #[.pointer (some ⟨p.j, 0, none⟩), .int .i64 s, .int .i64 t] w (JActR w p (turnJ S s t) (n + 1)) := by
  have H := Lib.hid h
  have c0 := h.c0
  have HQ := Lib.hid (Q.qLook_any p.q s t S.Q n w h.qu h.ok.q1 (by omega))
  clear h
  go_enter Try.func46, Try.ntmps46
  go_wp2_with (first | (go_at_call 42; with_reducible refine Calls.tells (jis_t H.out) ?_) | (go_at_call 67; refine (HQ.out).mono ?_; rintro e1 w1 ⟨rfl, hq1, hg1⟩))
  go_ret
  exact ⟨rfl, H.out.quar hq1 hg1 (Nat.le_succ _) (H.out.ok.q1.hap _ _ _), FrJ.row (p := p) hg1 (by simp [JB.all])⟩
/-- What Look does: the answer, and the judge behind it. -/
def lookT (S : JS) (s : Int) (x : Rd) : Int × JS := ((lookJ S s x).1, { (lookJ S s x).2 with T := updT (lookJ S s x).2.T (lookJ S s x).1 ((lookJ S s x).2.T (lookJ S s x).1 + 1) })
theorem lookJ_code (S : JS) (s : Int) (x : Rd) : 0 ≤ (lookJ S s x).1 ∧ (lookJ S s x).1 ≤ 262 := by
  unfold lookJ lookX
  split
  · exact ⟨by simp, by simp⟩
  split
  · exact ⟨by simp, by simp⟩
  split
  · exact ⟨by simp, by simp⟩
  split
  · exact ⟨by simp, by simp⟩
  split
  · exact ⟨by simp, by simp⟩
  dsimp only
  split
  · exact ⟨by simp, by simp⟩
  · exact ⟨by simp, by simp⟩
theorem look_any {w : World} {p : JB} {S : JS} {n : Nat} (h : JAt w p S n) (hn : n < 999980) {s : Int} (hs2 : I64 s) {x : Rd} (hx : x.OK) :
    Calls Try.prog 43 #[.pointer (some ⟨p.j, 0, none⟩), .int .i64 s, .agg #[.int .i64 x.ax, .int .i64 x.tk, .int .i64 x.ag, .int .i64 x.s0, .int .i64 x.s1, .int .i64 x.s2, .int .i64 x.o0, .int .i64 x.o1, .int .i64 x.o2]] w (LookR w p S n s x) := by
  by_cases hb : x.ax < 1 ∨ 3 < x.ax
  · exact look_bad h hb
  · exact look_good h hn hs2 hx (by omega) (by omega)
theorem jLook_any {w : World} {p : JB} {S : JS} {n : Nat} (h : JAt w p S n) (hn : n < 999980) {s : Int} (hs2 : I64 s) {x : Rd} (hx : x.OK) :
    Calls Try.prog 22 #[.pointer (some ⟨p.j, 0, none⟩), .int .i64 s, .agg #[.int .i64 x.ax, .int .i64 x.tk, .int .i64 x.ag, .int .i64 x.s0, .int .i64 x.s1, .int .i64 x.s2, .int .i64 x.o0, .int .i64 x.o1, .int .i64 x.o2]] w (JActR w p (lookT S s x) (n + 7)) := by
  have H := Lib.hid (h.below ((Below.refl _ _).alloc (Nat.le_refl _) (Obj.cells #[.int .i64 x.ax, .int .i64 x.tk, .int .i64 x.ag, .int .i64 x.s0, .int .i64 x.s1, .int .i64 x.s2, .int .i64 x.o0, .int .i64 x.o1, .int .i64 x.o2] 71)))
  have HL := Lib.hid (look_any H.out hn hs2 hx)
  unfold LookR at HL
  have HC := Lib.hid (lookJ_code S s x)
  unfold lookT
  generalize lookJ S s x = r at *
  obtain ⟨e, S'⟩ := r
  dsimp only at HC HL ⊢
  clear h
  go_enter Try.func22, Try.ntmps22
  go_upto_region 4 with (first | (go_at_call 42; with_reducible refine Calls.tells (jis_t H.out) ?_) | (go_at_call 43; refine (HL.out).mono ?_; rintro e1 w1 ⟨rfl, hj1, hf1⟩))
  have HE : I64 e := by have := HC.out; exact ⟨by omega, by omega⟩
  have hl := hj1.te.lookup HE
  obtain ⟨w2, hu, ht2, hg2⟩ := hj1.te.update (by omega) HE (S'.T e + 1)
  have hb := hj1.ok.t1 e
  have c6 := hj1.c6
  have hb1 := hb.1
  have hb2 : S'.T e ≤ 1000000 := by omega
  have HT := Lib.hid (show ∀ i, 0 ≤ updT S'.T e (S'.T e + 1) i ∧ updT S'.T e (S'.T e + 1) i ≤ ((n + 6 + 1 : Nat) : Int) from fun i => by
    unfold updT
    have := hj1.ok.t1 i
    split <;> omega)
  have HJ := Lib.hid (And.intro hj1 (And.intro hf1 (And.intro ht2 hg2)))
  clear hj1 hf1 ht2 hg2 hb HE HL
  generalize S'.T e = te at *
  go_wp2_with fail
  go_ret
  exact ⟨rfl, HJ.out.1.tol HJ.out.2.2.1 HJ.out.2.2.2 (Nat.le_succ _) HT.out, ((FrJ.below ((Below.refl _ _).alloc (Nat.le_refl _) _)).trans HJ.out.2.1).trans (FrJ.row (p := p) HJ.out.2.2.2 (by simp [JB.all]))⟩
end Go.Proofs.Ytihalkpcddnikaa
