/-
  The judge: the example, what an act does, and the law WatchVoid, walked.
-/
import Derived.Test.YtihalkpcddnikaaWatF
namespace Go.Proofs.Ytihalkpcddnikaa
open Go.RowKit Go.Maps
set_option linter.unusedVariables false
set_option linter.unusedSimpArgs false

def sp26 : Sp := ⟨10, 1, 20, 1, 12, 3, 50, 2, 6, 2⟩
theorem sp26_ok : sp26.OK := ⟨⟨by simp [sp26], by simp [sp26]⟩, ⟨by simp [sp26], by simp [sp26]⟩, ⟨by simp [sp26], by simp [sp26]⟩, ⟨by simp [sp26], by simp [sp26]⟩⟩
theorem sp26_good : sp26.good = true := by decide +kernel
set_option maxRecDepth 100000 in
theorem small26 (w : World) : Calls Try.prog 25 #[] w (Gives w sp26.v) := by
  go_enter Try.func25, Try.ntmps25
  go_wp2
  refine bodyPost_ret (v := sp26.v) ?_ rfl (Gives.mk rfl (by (repeat (first | (with_reducible exact Below.refl _ _) | (with_reducible assumption) | (with_reducible refine Below.alloc ?_ (by (repeat (first | (with_reducible exact Nat.le_refl _) | (with_reducible assumption) | (with_reducible refine le_up ?_) | (with_reducible refine le_alloc ?_) | (with_reducible refine le_setCell ?_) | (with_reducible refine le_drew ?_) | (with_reducible refine le_drewN ?_) | omega))) _) | (with_reducible refine Below.drew ?_) | (with_reducible refine Below.drewN ?_ _) | (with_reducible refine Below.setCell ?_ (by (repeat (first | (with_reducible exact Nat.le_refl _) | (with_reducible assumption) | (with_reducible refine le_up ?_) | (with_reducible refine le_alloc ?_) | (with_reducible refine le_setCell ?_) | (with_reducible refine le_drew ?_) | (with_reducible refine le_drewN ?_) | omega))) _) | (with_reducible refine Below.up ?_ (by (repeat (first | (with_reducible exact Nat.le_refl _) | (with_reducible assumption) | (with_reducible refine le_up ?_) | (with_reducible refine le_alloc ?_) | (with_reducible refine le_setCell ?_) | (with_reducible refine le_drew ?_) | (with_reducible refine le_drewN ?_) | omega))))))))
  simp only [results, show Try.f25.results = #[ResultVar.cell 0 62] from rfl]
  go_simp
  rfl
def rda : Rd := ⟨1, 0, 0, 5, 0, 0, 3, 0, 0⟩
def rdb : Rd := ⟨1, 1, 0, 6, 0, 0, 11, 0, 0⟩
theorem FrJ.toBelow {a b : World} {p : JB} {B : Nat} (h : FrJ a b p) (hp : ∀ r ∈ p.all, B ≤ r) (hB : B ≤ a.heap.size) : Below B a b :=
  ⟨h.os, h.tape, h.output, h.size, fun k hk => h.block k (Nat.lt_of_lt_of_le hk hB) (fun hm => by have := hp k hm; omega)⟩
theorem rda_ok : rda.OK := by constructor <;> (constructor <;> simp [rda])
theorem rdb_ok : rdb.OK := by constructor <;> (constructor <;> simp [rdb])
def js0 : JS := JS.new sp26
def js1 : JS := (lookT js0 2 rda).2
def js2 : JS := (lookT js1 2 rdb).2
theorem w26_1 : (lookT js0 2 rda).1 = 0 := by decide +kernel
theorem w26_2 : (lookT js1 2 rdb).1 = 260 := by decide +kernel
theorem w26_3 : (Q.qlookO js2.Q 2).st = 1 := by decide +kernel
theorem w26_4 : js2.T 0 = 1 := by decide +kernel
set_option maxRecDepth 100000 in
theorem works26 (w : World) : Calls Try.prog 20 #[] w (Gives w (.bool true)) := by
  have e1 := w26_1
  have e2 := w26_2
  have e3 := w26_3
  have e4 := w26_4
  have HN := Lib.hid (fun W => jNew_good sp26_ok sp26_good W)
  have HE := Lib.hid (And.intro e1 (And.intro e2 (And.intro e3 e4)))
  clear e1 e2 e3 e4
  have HSM := Lib.hid (fun W => small26 W)
  have HSV : Hid (sp26.v = .agg #[.int .i64 10, .int .i64 1, .int .i64 20, .int .i64 1, .int .i64 12, .int .i64 3, .int .i64 50, .int .i64 2, .int .i64 6, .int .i64 2]) := Lib.hid rfl
  rw [HSV.out] at HN HSM
  go_enter Try.func20, Try.ntmps20
  go_upto_region 4 with (first | (go_at_call 25; (first | with_reducible refine Calls.fold (HSM.out _) ?_ | with_reducible refine Calls.fresh (HSM.out _) ?_); intro x1) | (go_at_call 21; refine (HN.out _).mono ?_; rintro e2 w2 ⟨p, rfl, hp, hj, hb⟩))
  have HJ := Lib.hid (And.intro (show ∀ r ∈ p.all, w.heap.size ≤ r from fun r hr => Nat.le_trans (up_size w x1) (hp r hr)) (And.intro hj (Below.trans (up_below w x1) (hb.mono (up_size w x1)))))
  have HL := Lib.hid (jLook_any hj (by omega) (show I64 2 from ⟨by omega, by omega⟩) rda_ok)
  clear hp hj hb
  rw [show lookT (JS.new sp26) 2 rda = (0, js1) from Prod.ext HE.out.1 rfl] at HL
  unfold rda at HL
  dsimp only at HL
  go_upto_region 5 with (go_at_call 22; refine (HL.out).mono ?_; rintro e3 w3 ⟨rfl, hj3, hf3⟩)
  have HJ3 := Lib.hid (And.intro hj3 hf3)
  have HL3 := Lib.hid (jLook_any hj3 (by omega) (show I64 2 from ⟨by omega, by omega⟩) rdb_ok)
  clear hj3 hf3 HL
  rw [show lookT js1 2 rdb = (260, js2) from Prod.ext HE.out.2.1 rfl] at HL3
  unfold rdb at HL3
  dsimp only at HL3
  go_upto_region 6 with (go_at_call 22; refine (HL3.out).mono ?_; rintro e4 w4 ⟨rfl, hj4, hf4⟩)
  have HJ4 := Lib.hid (And.intro hj4 hf4)
  have HS := Lib.hid (jState_any hj4 2)
  have HC := Lib.hid (jCount_any hj4 (show I64 0 from ⟨by omega, by omega⟩))
  clear hj4 hf4 HL3
  rw [HE.out.2.2.1] at HS
  rw [HE.out.2.2.2] at HC
  go_wp2_with (first | (go_at_call 23; with_reducible refine Calls.tells (HS.out) ?_) | (go_at_call 29; with_reducible refine Calls.tells (HC.out) ?_))
  go_ret
  exact Gives.mk rfl ((HJ.out.2.2.trans (HJ3.out.2.toBelow HJ.out.1 HJ.out.2.2.size)).trans (HJ4.out.2.toBelow HJ.out.1 (Nat.le_trans HJ.out.2.2.size HJ3.out.2.size)))
/-! ### an act -/
structure Ac where
  s : Int
  x : Rd
  t : Bool
def Ac.v (a : Ac) : Value := .agg #[.int .i64 a.s, .int .i64 a.x.ax, .int .i64 a.x.tk, .int .i64 a.x.ag, .int .i64 a.x.s0, .int .i64 a.x.s1, .int .i64 a.x.s2, .int .i64 a.x.o0, .int .i64 a.x.o1, .int .i64 a.x.o2, .bool a.t]
def doJ (S : JS) (a : Ac) : Int × JS := if a.t then turnJ S a.s a.x.tk else lookT S a.s a.x
theorem do26_any {w : World} {p : JB} {S : JS} {n : Nat} (h : JAt w p S n) (hn : n < 999980) {a : Ac} (hs : I64 a.s) (hx : a.x.OK) :
    Calls Try.prog 26 #[.pointer (some ⟨p.j, 0, none⟩), a.v] w (JActR w p (doJ S a) (n + 7)) := by
  have HB := Lib.hid (show ∀ W, Below w.heap.size w W → JAt W p S n from fun W hb => h.below hb)
  have HX := Lib.hid (And.intro hs hx)
  clear h hs hx
  obtain ⟨s, ⟨ax, tk, ag, s0, s1, s2, o0, o1, o2⟩, t⟩ := a
  unfold doJ Ac.v
  cases t
  · dsimp only at HX ⊢
    rw [if_neg (by simp)]
    go_enter Try.func26, Try.ntmps26
    go_wp2_with (go_at_call 22; refine (jLook_any (HB.out _ ((Below.refl _ _).alloc (Nat.le_refl _) _)) hn HX.out.1 HX.out.2).mono ?_; rintro e1 w1 ⟨rfl, hj, hf⟩)
    go_ret
    exact ⟨rfl, hj, (FrJ.below ((Below.refl _ _).alloc (Nat.le_refl _) _)).trans hf⟩
  · dsimp only at HX ⊢
    rw [if_pos rfl]
    go_enter Try.func26, Try.ntmps26
    go_wp2_with (go_at_call 46; refine (jTurn_any (HB.out _ ((Below.refl _ _).alloc (Nat.le_refl _) _)) hn s tk).mono ?_; rintro e1 w1 ⟨rfl, hj, hf⟩)
    go_ret
    exact ⟨rfl, hj.mono (by omega), (FrJ.below ((Below.refl _ _).alloc (Nat.le_refl _) _)).trans hf⟩
theorem do26_nil (a : Ac) (w : World) : Calls Try.prog 26 #[.pointer none, a.v] w (Gives w (.int .i64 1)) := by
  obtain ⟨s, ⟨ax, tk, ag, s0, s1, s2, o0, o1, o2⟩, t⟩ := a
  unfold Ac.v
  cases t
  all_goals
    dsimp only
    go_enter Try.func26, Try.ntmps26
    go_wp2_with (first | (go_at_call 22; (first | with_reducible refine Calls.fold (jLook_nil s ⟨ax, tk, ag, s0, s1, s2, o0, o1, o2⟩ _) ?_ | with_reducible refine Calls.fresh (jLook_nil s ⟨ax, tk, ag, s0, s1, s2, o0, o1, o2⟩ _) ?_); intro x1) | (go_at_call 46; with_reducible refine Calls.tells (jTurn_nil s tk _) ?_))
    go_ret
    exact Gives.mk rfl (by (repeat (first | (with_reducible exact Below.refl _ _) | (with_reducible assumption) | (with_reducible refine Below.alloc ?_ (by (repeat (first | (with_reducible exact Nat.le_refl _) | (with_reducible assumption) | (with_reducible refine le_up ?_) | (with_reducible refine le_alloc ?_) | (with_reducible refine le_setCell ?_) | (with_reducible refine le_drew ?_) | (with_reducible refine le_drewN ?_) | omega))) _) | (with_reducible refine Below.drew ?_) | (with_reducible refine Below.drewN ?_ _) | (with_reducible refine Below.setCell ?_ (by (repeat (first | (with_reducible exact Nat.le_refl _) | (with_reducible assumption) | (with_reducible refine le_up ?_) | (with_reducible refine le_alloc ?_) | (with_reducible refine le_setCell ?_) | (with_reducible refine le_drew ?_) | (with_reducible refine le_drewN ?_) | omega))) _) | (with_reducible refine Below.up ?_ (by (repeat (first | (with_reducible exact Nat.le_refl _) | (with_reducible assumption) | (with_reducible refine le_up ?_) | (with_reducible refine le_alloc ?_) | (with_reducible refine le_setCell ?_) | (with_reducible refine le_drew ?_) | (with_reducible refine le_drewN ?_) | omega)))))))
theorem do26_void (c : Nat) (a : Ac) (w : World) [LtSize c w] (hc : w.cell? ⟨c, 6, none⟩ = some (.map none)) : Calls Try.prog 26 #[.pointer (some ⟨c, 0, none⟩), a.v] w (Gives w (.int .i64 1)) := by
  obtain ⟨s, ⟨ax, tk, ag, s0, s1, s2, o0, o1, o2⟩, t⟩ := a
  unfold Ac.v
  cases t
  all_goals
    dsimp only
    go_enter Try.func26, Try.ntmps26
    go_wp2_with (first | (go_at_call 22; (first | with_reducible refine Calls.fold (jLook_void c s ⟨ax, tk, ag, s0, s1, s2, o0, o1, o2⟩ _ (by simp [hc])) ?_ | with_reducible refine Calls.fresh (jLook_void c s ⟨ax, tk, ag, s0, s1, s2, o0, o1, o2⟩ _ (by simp [hc])) ?_); intro x1) | (go_at_call 46; with_reducible refine Calls.tells (jTurn_void c s tk _ (by simp [hc])) ?_))
    go_ret
    exact Gives.mk rfl (by (repeat (first | (with_reducible exact Below.refl _ _) | (with_reducible assumption) | (with_reducible refine Below.alloc ?_ (by (repeat (first | (with_reducible exact Nat.le_refl _) | (with_reducible assumption) | (with_reducible refine le_up ?_) | (with_reducible refine le_alloc ?_) | (with_reducible refine le_setCell ?_) | (with_reducible refine le_drew ?_) | (with_reducible refine le_drewN ?_) | omega))) _) | (with_reducible refine Below.drew ?_) | (with_reducible refine Below.drewN ?_ _) | (with_reducible refine Below.setCell ?_ (by (repeat (first | (with_reducible exact Nat.le_refl _) | (with_reducible assumption) | (with_reducible refine le_up ?_) | (with_reducible refine le_alloc ?_) | (with_reducible refine le_setCell ?_) | (with_reducible refine le_drew ?_) | (with_reducible refine le_drewN ?_) | omega))) _) | (with_reducible refine Below.up ?_ (by (repeat (first | (with_reducible exact Nat.le_refl _) | (with_reducible assumption) | (with_reducible refine le_up ?_) | (with_reducible refine le_alloc ?_) | (with_reducible refine le_setCell ?_) | (with_reducible refine le_drew ?_) | (with_reducible refine le_drewN ?_) | omega)))))))
set_option maxRecDepth 100000 in
set_option maxHeartbeats 1600000 in
theorem WatchVoid_any (a : Ac) (w : World) : Calls Try.prog 9 #[a.v] w (Gives w (.bool true)) := by
  have HD := Lib.hid (fun W => do26_nil a W)
  have HV := Lib.hid (fun (c : Nat) (W : World) (h1 : LtSize c W) h2 => do26_void c a W h2)
  obtain ⟨s, ⟨ax, tk, ag, s0, s1, s2, o0, o1, o2⟩, t⟩ := a
  unfold Ac.v at *
  dsimp only at *
  go_enter Try.func9, Try.ntmps9
  go_upto_region 4 with (go_at_call 20; (first | with_reducible refine Calls.fold (works26 _) ?_ | with_reducible refine Calls.fresh (works26 _) ?_); intro x1)
  refine wp_gen (fun W => Below w.heap.size w W ∧ w.heap.size < W.heap.size ∧ W.cell? ⟨w.heap.size, 0, none⟩ = some (.int .i64 s) ∧ W.cell? ⟨w.heap.size, 1, none⟩ = some (.int .i64 ax) ∧ W.cell? ⟨w.heap.size, 2, none⟩ = some (.int .i64 tk) ∧ W.cell? ⟨w.heap.size, 3, none⟩ = some (.int .i64 ag) ∧ W.cell? ⟨w.heap.size, 4, none⟩ = some (.int .i64 s0) ∧ W.cell? ⟨w.heap.size, 5, none⟩ = some (.int .i64 s1) ∧ W.cell? ⟨w.heap.size, 6, none⟩ = some (.int .i64 s2) ∧ W.cell? ⟨w.heap.size, 7, none⟩ = some (.int .i64 o0) ∧ W.cell? ⟨w.heap.size, 8, none⟩ = some (.int .i64 o1) ∧ W.cell? ⟨w.heap.size, 9, none⟩ = some (.int .i64 o2) ∧ W.cell? ⟨w.heap.size, 10, none⟩ = some (.bool t)) ⟨by (repeat (first | (with_reducible exact Below.refl _ _) | (with_reducible assumption) | (with_reducible refine Below.alloc ?_ (by (repeat (first | (with_reducible exact Nat.le_refl _) | (with_reducible assumption) | (with_reducible refine le_up ?_) | (with_reducible refine le_alloc ?_) | (with_reducible refine le_setCell ?_) | (with_reducible refine le_drew ?_) | (with_reducible refine le_drewN ?_) | omega))) _) | (with_reducible refine Below.drew ?_) | (with_reducible refine Below.drewN ?_ _) | (with_reducible refine Below.setCell ?_ (by (repeat (first | (with_reducible exact Nat.le_refl _) | (with_reducible assumption) | (with_reducible refine le_up ?_) | (with_reducible refine le_alloc ?_) | (with_reducible refine le_setCell ?_) | (with_reducible refine le_drew ?_) | (with_reducible refine le_drewN ?_) | omega))) _) | (with_reducible refine Below.up ?_ (by (repeat (first | (with_reducible exact Nat.le_refl _) | (with_reducible assumption) | (with_reducible refine le_up ?_) | (with_reducible refine le_alloc ?_) | (with_reducible refine le_setCell ?_) | (with_reducible refine le_drew ?_) | (with_reducible refine le_drewN ?_) | omega)))))), LtSize.lt, by simp, by simp, by simp, by simp, by simp, by simp, by simp, by simp, by simp, by simp, by simp⟩ ?_
  rintro w2 ⟨hb2, hl2, g0, g1, g2, g3, g4, g5, g6, g7, g8, g9, g10⟩
  have HB2 := Lib.hid hb2
  have HL2 := Lib.hid hl2
  have HG := Lib.hid (show ∀ W, Below w2.heap.size w2 W → W.cell? ⟨w.heap.size, 0, none⟩ = some (.int .i64 s) ∧ W.cell? ⟨w.heap.size, 1, none⟩ = some (.int .i64 ax) ∧ W.cell? ⟨w.heap.size, 2, none⟩ = some (.int .i64 tk) ∧ W.cell? ⟨w.heap.size, 3, none⟩ = some (.int .i64 ag) ∧ W.cell? ⟨w.heap.size, 4, none⟩ = some (.int .i64 s0) ∧ W.cell? ⟨w.heap.size, 5, none⟩ = some (.int .i64 s1) ∧ W.cell? ⟨w.heap.size, 6, none⟩ = some (.int .i64 s2) ∧ W.cell? ⟨w.heap.size, 7, none⟩ = some (.int .i64 o0) ∧ W.cell? ⟨w.heap.size, 8, none⟩ = some (.int .i64 o1) ∧ W.cell? ⟨w.heap.size, 9, none⟩ = some (.int .i64 o2) ∧ W.cell? ⟨w.heap.size, 10, none⟩ = some (.bool t) from fun W hb => ⟨cell_belowI hb hl2 g0, cell_belowI hb hl2 g1, cell_belowI hb hl2 g2, cell_belowI hb hl2 g3, cell_belowI hb hl2 g4, cell_belowI hb hl2 g5, cell_belowI hb hl2 g6, cell_belowI hb hl2 g7, cell_belowI hb hl2 g8, cell_belowI hb hl2 g9, cell_belowI hb hl2 g10⟩)
  clear hb2 g0 g1 g2 g3 g4 g5 g6 g7 g8 g9 g10 hl2
  clear x1
  go_upto_region 5 with fail
  refine wp_gen (fun W => Below w2.heap.size w2 W ∧ W.cell? ⟨w2.heap.size, 6, none⟩ = some (.map none) ∧ w2.heap.size < W.heap.size) ⟨by (repeat (first | (with_reducible exact Below.refl _ _) | (with_reducible assumption) | (with_reducible refine Below.alloc ?_ (by (repeat (first | (with_reducible exact Nat.le_refl _) | (with_reducible assumption) | (with_reducible refine le_up ?_) | (with_reducible refine le_alloc ?_) | (with_reducible refine le_setCell ?_) | (with_reducible refine le_drew ?_) | (with_reducible refine le_drewN ?_) | omega))) _) | (with_reducible refine Below.drew ?_) | (with_reducible refine Below.drewN ?_ _) | (with_reducible refine Below.setCell ?_ (by (repeat (first | (with_reducible exact Nat.le_refl _) | (with_reducible assumption) | (with_reducible refine le_up ?_) | (with_reducible refine le_alloc ?_) | (with_reducible refine le_setCell ?_) | (with_reducible refine le_drew ?_) | (with_reducible refine le_drewN ?_) | omega))) _) | (with_reducible refine Below.up ?_ (by (repeat (first | (with_reducible exact Nat.le_refl _) | (with_reducible assumption) | (with_reducible refine le_up ?_) | (with_reducible refine le_alloc ?_) | (with_reducible refine le_setCell ?_) | (with_reducible refine le_drew ?_) | (with_reducible refine le_drewN ?_) | omega)))))), by simp, LtSize.lt⟩ ?_
  rintro w3 ⟨hb3, z1, hl3⟩
  have HB3 : Hid (Below w.heap.size w w3) := Lib.hid (HB2.out.trans (hb3.mono HB2.out.size))
  haveI : LtSize w2.heap.size w3 := ⟨hl3⟩
  haveI : LtSize w.heap.size w3 := ⟨Nat.lt_trans HL2.out hl3⟩
  obtain ⟨g0, g1, g2, g3, g4, g5, g6, g7, g8, g9, g10⟩ := HG.out _ hb3
  clear hb3
  go_upto_region 7 with (first
    | (go_at_call 27; with_reducible refine Calls.tells (jSums_nil s 0 _) ?_)
    | (go_at_call 27; with_reducible refine Calls.tells (jSums_void _ s 0 _ (by simp [z1])) ?_))
  clear HG HL2 HB2
  (refine wp_region_up (by kernel_rfl) (by kernel_rfl) ?_; (repeat (go_big_quiet_step (first | (go_at_call 26; with_reducible exact Calls.up_gives (HD.out _)) | (go_at_call 26; with_reducible exact Calls.up_gives (HV.out _ _ inferInstance (by simp [z1]))) | (go_at_call 23; with_reducible exact Calls.up_tells (jState_nil s _)) | (go_at_call 23; with_reducible exact Calls.up_tells (jState_void _ s _ (by simp [z1]))) | (go_at_call 28; with_reducible exact Calls.up_tells (jUntil_nil s _)) | (go_at_call 24; with_reducible exact Calls.up_tells (jTimes_void _ s _ (by simp [z1]))) | (go_at_call 29; with_reducible exact Calls.up_tells (jCount_nil 0 _)) | (go_at_call 29; with_reducible exact Calls.up_tells (jCount_void _ 1 _ (by simp [z1]))) | (go_at_call 30; with_reducible exact Calls.up_tells (jCounts_nil s _)) | (go_at_call 30; with_reducible exact Calls.up_tells (jCounts_void _ s _ (by simp [z1])))))); refine wpQuiet_nil ?_; intro _ hw'; obtain ⟨xq, hw''⟩ := hw'; subst hw'')
  go_wp2_with fail
  go_ret
  exact Gives.mk rfl (below_up HB3.out HB3.out.size _)
end Go.Proofs.Ytihalkpcddnikaa
