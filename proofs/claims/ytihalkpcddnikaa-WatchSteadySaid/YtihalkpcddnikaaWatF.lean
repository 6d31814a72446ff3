/-
  The judge: New; the example; a judge that no call made.
-/
import Derived.Test.YtihalkpcddnikaaWatE
import Derived.Test.YtihalkpcddnikaaLib2
namespace Go.Proofs.Ytihalkpcddnikaa
open Go.RowKit Go.Maps
set_option linter.unusedVariables false
set_option linter.unusedSimpArgs false

/-- What a judge is made of. -/
structure Sp where
  o : Int
  g : Int
  m : Int
  slack : Int
  most : Int
  same : Int
  rate : Int
  bad : Int
  hold : Int
  prove : Int
structure Sp.OK (x : Sp) : Prop where
  m : I64 x.m
  slack : I64 x.slack
  most : I64 x.most
  rate : I64 x.rate
def Sp.good (x : Sp) : Bool := G.gateOK x.o x.g x.m && (cnewB x.slack x.most && (stNewB x.same x.rate && Q.qnewB x.bad x.hold x.prove))
def Sp.v (x : Sp) : Value := .agg #[.int .i64 x.o, .int .i64 x.g, .int .i64 x.m, .int .i64 x.slack, .int .i64 x.most, .int .i64 x.same, .int .i64 x.rate, .int .i64 x.bad, .int .i64 x.hold, .int .i64 x.prove]
def JS.new (x : Sp) : JS := ⟨x.o, x.g, x.m, Q.QuarS.new x.bad x.hold x.prove, x.slack, x.most, fun _ _ => Pr.zero, x.same, x.rate, fun _ => none, fun _ => 0⟩
theorem JOK.new {x : Sp} (hx : x.OK) (h : x.good = true) : JOK (JS.new x) 0 := by
  unfold Sp.good at h
  simp only [Bool.and_eq_true] at h
  obtain ⟨h1, h2, h3, h4⟩ := h
  have h2' : 0 ≤ x.slack ∧ 0 < x.most := by simpa [cnewB] using h2
  exact ⟨h1, hx.m.2, Q.QuarOK.new h4, h2'.1, hx.slack, h2'.2, fun _ _ => ⟨⟨by simp [JS.new, Pr.zero], by simp [JS.new, Pr.zero]⟩, ⟨by simp [JS.new, Pr.zero], by simp [JS.new, Pr.zero]⟩⟩, StOK.new h3 hx.rate.2, fun _ => ⟨by simp [JS.new], by simp [JS.new]⟩⟩
/-- The setup's own block, ahead of which nothing has changed. -/
structure NwAt (w : World) (x : Sp) (W : World) : Prop where
  bl : Below w.heap.size w W
  lt : w.heap.size < W.heap.size
  c0 : W.cell? ⟨w.heap.size, 0, none⟩ = some (.int .i64 x.o)
  c1 : W.cell? ⟨w.heap.size, 1, none⟩ = some (.int .i64 x.g)
  c2 : W.cell? ⟨w.heap.size, 2, none⟩ = some (.int .i64 x.m)
  c3 : W.cell? ⟨w.heap.size, 3, none⟩ = some (.int .i64 x.slack)
  c4 : W.cell? ⟨w.heap.size, 4, none⟩ = some (.int .i64 x.most)
  c5 : W.cell? ⟨w.heap.size, 5, none⟩ = some (.int .i64 x.same)
  c6 : W.cell? ⟨w.heap.size, 6, none⟩ = some (.int .i64 x.rate)
  c7 : W.cell? ⟨w.heap.size, 7, none⟩ = some (.int .i64 x.bad)
  c8 : W.cell? ⟨w.heap.size, 8, none⟩ = some (.int .i64 x.hold)
  c9 : W.cell? ⟨w.heap.size, 9, none⟩ = some (.int .i64 x.prove)
theorem NwAt.below {w W W' : World} {x : Sp} (h : NwAt w x W) (hb : Below W.heap.size W W') : NwAt w x W' :=
  ⟨h.bl.trans (hb.mono h.bl.size), Nat.lt_of_lt_of_le h.lt hb.size, cell_belowI hb h.lt h.c0, cell_belowI hb h.lt h.c1, cell_belowI hb h.lt h.c2, cell_belowI hb h.lt h.c3, cell_belowI hb h.lt h.c4, cell_belowI hb h.lt h.c5, cell_belowI hb h.lt h.c6, cell_belowI hb h.lt h.c7, cell_belowI hb h.lt h.c8, cell_belowI hb h.lt h.c9⟩
theorem NwAt.new (w : World) (x : Sp) (t : TypeId) : NwAt w x (w.alloc (Obj.cells #[.int .i64 x.o, .int .i64 x.g, .int .i64 x.m, .int .i64 x.slack, .int .i64 x.most, .int .i64 x.same, .int .i64 x.rate, .int .i64 x.bad, .int .i64 x.hold, .int .i64 x.prove] t)) :=
  ⟨(Below.refl _ _).alloc (Nat.le_refl _) _, by simp, by simp, by simp, by simp, by simp, by simp, by simp, by simp, by simp, by simp, by simp⟩
theorem jNew_bad {x : Sp} (h : x.good = false) (w : World) :
    Calls Try.prog 21 #[x.v] w (Gives w (.tuple #[.pointer none, .int .i64 2])) := by
  have hcase : G.gateOK x.o x.g x.m = false ∨ (G.gateOK x.o x.g x.m = true ∧ cnewB x.slack x.most = false) ∨ (G.gateOK x.o x.g x.m = true ∧ cnewB x.slack x.most = true ∧ stNewB x.same x.rate = false) ∨ (G.gateOK x.o x.g x.m = true ∧ cnewB x.slack x.most = true ∧ stNewB x.same x.rate = true ∧ Q.qnewB x.bad x.hold x.prove = false) := by
    unfold Sp.good at h
    revert h
    cases G.gateOK x.o x.g x.m <;> cases cnewB x.slack x.most <;> cases stNewB x.same x.rate <;> cases Q.qnewB x.bad x.hold x.prove <;> simp
  have HNW0 := Lib.hid (NwAt.new w x 62)
  clear h
  unfold Sp.v
  rcases hcase with h1 | ⟨h1, h2⟩ | ⟨h1, h2, h3⟩ | ⟨h1, h2, h3, h4⟩
  · have H := Lib.hid (fun W => G.gateCheck_f x.o x.g x.m W h1)
    clear h1
    go_enter Try.func21, Try.ntmps21
    go_wp2_with (go_at_call 39; (first | with_reducible refine Calls.fold (H.out _) ?_ | with_reducible refine Calls.fresh (H.out _) ?_); intro x1)
    go_ret2
    exact Gives.mk rfl (by (repeat (first | (with_reducible exact Below.refl _ _) | (with_reducible assumption) | (with_reducible refine Below.alloc ?_ (by (repeat (first | (with_reducible exact Nat.le_refl _) | (with_reducible assumption) | (with_reducible refine le_up ?_) | (with_reducible refine le_alloc ?_) | (with_reducible refine le_setCell ?_) | (with_reducible refine le_drew ?_) | (with_reducible refine le_drewN ?_) | omega))) _) | (with_reducible refine Below.drew ?_) | (with_reducible refine Below.drewN ?_ _) | (with_reducible refine Below.setCell ?_ (by (repeat (first | (with_reducible exact Nat.le_refl _) | (with_reducible assumption) | (with_reducible refine le_up ?_) | (with_reducible refine le_alloc ?_) | (with_reducible refine le_setCell ?_) | (with_reducible refine le_drew ?_) | (with_reducible refine le_drewN ?_) | omega))) _) | (with_reducible refine Below.up ?_ (by (repeat (first | (with_reducible exact Nat.le_refl _) | (with_reducible assumption) | (with_reducible refine le_up ?_) | (with_reducible refine le_alloc ?_) | (with_reducible refine le_setCell ?_) | (with_reducible refine le_drew ?_) | (with_reducible refine le_drewN ?_) | omega)))))))
  · have H := Lib.hid (fun W => G.gateCheck_t x.o x.g x.m W h1)
    have HC := Lib.hid (fun W => cNew_bad W h2)
    clear h1 h2
    go_enter Try.func21, Try.ntmps21
    go_upto_region 4 with (go_at_call 39; (first | with_reducible refine Calls.fold (H.out _) ?_ | with_reducible refine Calls.fresh (H.out _) ?_); intro x1)
    refine wp_gen (NwAt w x) (HNW0.out.below (by (repeat (first | (with_reducible exact Below.refl _ _) | (with_reducible assumption) | (with_reducible refine Below.alloc ?_ (by (repeat (first | (with_reducible exact Nat.le_refl _) | (with_reducible assumption) | (with_reducible refine le_up ?_) | (with_reducible refine le_alloc ?_) | (with_reducible refine le_setCell ?_) | (with_reducible refine le_drew ?_) | (with_reducible refine le_drewN ?_) | omega))) _) | (with_reducible refine Below.drew ?_) | (with_reducible refine Below.drewN ?_ _) | (with_reducible refine Below.setCell ?_ (by (repeat (first | (with_reducible exact Nat.le_refl _) | (with_reducible assumption) | (with_reducible refine le_up ?_) | (with_reducible refine le_alloc ?_) | (with_reducible refine le_setCell ?_) | (with_reducible refine le_drew ?_) | (with_reducible refine le_drewN ?_) | omega))) _) | (with_reducible refine Below.up ?_ (by (repeat (first | (with_reducible exact Nat.le_refl _) | (with_reducible assumption) | (with_reducible refine le_up ?_) | (with_reducible refine le_alloc ?_) | (with_reducible refine le_setCell ?_) | (with_reducible refine le_drew ?_) | (with_reducible refine le_drewN ?_) | omega)))))))) ?_
    intro W1 hnw
    have HNW := Lib.hid hnw
    obtain ⟨z0, z00, c0, c1, c2, c3, c4, c5, c6, c7, c8, c9⟩ := hnw
    clear z0 z00
    go_wp2_with (go_at_call 40; with_reducible refine Calls.tells (HC.out _) ?_)
    go_ret2
    exact Gives.mk rfl HNW.out.bl
  · have H := Lib.hid (fun W => G.gateCheck_t x.o x.g x.m W h1)
    have HC := Lib.hid (fun W => cNew_good W h2)
    have HS := Lib.hid (fun W => sNew_bad W h3)
    clear h1 h2 h3
    go_enter Try.func21, Try.ntmps21
    go_upto_region 4 with (go_at_call 39; (first | with_reducible refine Calls.fold (H.out _) ?_ | with_reducible refine Calls.fresh (H.out _) ?_); intro x1)
    refine wp_gen (NwAt w x) (HNW0.out.below (by (repeat (first | (with_reducible exact Below.refl _ _) | (with_reducible assumption) | (with_reducible refine Below.alloc ?_ (by (repeat (first | (with_reducible exact Nat.le_refl _) | (with_reducible assumption) | (with_reducible refine le_up ?_) | (with_reducible refine le_alloc ?_) | (with_reducible refine le_setCell ?_) | (with_reducible refine le_drew ?_) | (with_reducible refine le_drewN ?_) | omega))) _) | (with_reducible refine Below.drew ?_) | (with_reducible refine Below.drewN ?_ _) | (with_reducible refine Below.setCell ?_ (by (repeat (first | (with_reducible exact Nat.le_refl _) | (with_reducible assumption) | (with_reducible refine le_up ?_) | (with_reducible refine le_alloc ?_) | (with_reducible refine le_setCell ?_) | (with_reducible refine le_drew ?_) | (with_reducible refine le_drewN ?_) | omega))) _) | (with_reducible refine Below.up ?_ (by (repeat (first | (with_reducible exact Nat.le_refl _) | (with_reducible assumption) | (with_reducible refine le_up ?_) | (with_reducible refine le_alloc ?_) | (with_reducible refine le_setCell ?_) | (with_reducible refine le_drew ?_) | (with_reducible refine le_drewN ?_) | omega)))))))) ?_
    intro W1 hnw
    have HNW := Lib.hid hnw
    obtain ⟨z0, z00, c0, c1, c2, c3, c4, c5, c6, c7, c8, c9⟩ := hnw
    clear z0 z00
    go_upto_region 7 with (go_at_call 40; refine (HC.out _).mono ?_; rintro e1 w1 ⟨c, b, rfl, hb1, hc1, hcu, hbl⟩)
    clear c0 c1 c2 c3 c4 c5 c6 c7 c8 c9
    refine wp_gen (NwAt w x) (HNW.out.below hbl) ?_
    clear HNW hbl hb1 hc1 hcu
    clear w1
    clear W1
    intro W1 hnw
    have HNW := Lib.hid hnw
    obtain ⟨z0, z00, c0, c1, c2, c3, c4, c5, c6, c7, c8, c9⟩ := hnw
    clear z0 z00
    go_wp2_with (go_at_call 12; with_reducible refine Calls.tells (HS.out _) ?_)
    go_ret2
    exact Gives.mk rfl HNW.out.bl
  · have H := Lib.hid (fun W => G.gateCheck_t x.o x.g x.m W h1)
    have HC := Lib.hid (fun W => cNew_good W h2)
    have HS := Lib.hid (fun W => sNew_good W h3)
    have HQ := Lib.hid (fun W => Q.qNew_bad W h4)
    clear h1 h2 h3 h4
    go_enter Try.func21, Try.ntmps21
    go_upto_region 4 with (go_at_call 39; (first | with_reducible refine Calls.fold (H.out _) ?_ | with_reducible refine Calls.fresh (H.out _) ?_); intro x1)
    refine wp_gen (NwAt w x) (HNW0.out.below (by (repeat (first | (with_reducible exact Below.refl _ _) | (with_reducible assumption) | (with_reducible refine Below.alloc ?_ (by (repeat (first | (with_reducible exact Nat.le_refl _) | (with_reducible assumption) | (with_reducible refine le_up ?_) | (with_reducible refine le_alloc ?_) | (with_reducible refine le_setCell ?_) | (with_reducible refine le_drew ?_) | (with_reducible refine le_drewN ?_) | omega))) _) | (with_reducible refine Below.drew ?_) | (with_reducible refine Below.drewN ?_ _) | (with_reducible refine Below.setCell ?_ (by (repeat (first | (with_reducible exact Nat.le_refl _) | (with_reducible assumption) | (with_reducible refine le_up ?_) | (with_reducible refine le_alloc ?_) | (with_reducible refine le_setCell ?_) | (with_reducible refine le_drew ?_) | (with_reducible refine le_drewN ?_) | omega))) _) | (with_reducible refine Below.up ?_ (by (repeat (first | (with_reducible exact Nat.le_refl _) | (with_reducible assumption) | (with_reducible refine le_up ?_) | (with_reducible refine le_alloc ?_) | (with_reducible refine le_setCell ?_) | (with_reducible refine le_drew ?_) | (with_reducible refine le_drewN ?_) | omega)))))))) ?_
    intro W1 hnw
    have HNW := Lib.hid hnw
    obtain ⟨z0, z00, c0, c1, c2, c3, c4, c5, c6, c7, c8, c9⟩ := hnw
    clear z0 z00
    go_upto_region 7 with (go_at_call 40; refine (HC.out _).mono ?_; rintro e1 w1 ⟨c, b, rfl, hb1, hc1, hcu, hbl⟩)
    clear c0 c1 c2 c3 c4 c5 c6 c7 c8 c9
    refine wp_gen (NwAt w x) (HNW.out.below hbl) ?_
    clear HNW hbl hb1 hc1 hcu
    clear w1
    clear W1
    intro W1 hnw
    have HNW := Lib.hid hnw
    obtain ⟨z0, z00, c0, c1, c2, c3, c4, c5, c6, c7, c8, c9⟩ := hnw
    clear z0 z00
    go_upto_region 10 with (go_at_call 12; refine (HS.out _).mono ?_; rintro e1 w1 ⟨k, m, rfl, hb1, hc1, hcu, hbl⟩)
    clear c0 c1 c2 c3 c4 c5 c6 c7 c8 c9
    refine wp_gen (NwAt w x) (HNW.out.below hbl) ?_
    clear HNW hbl hb1 hc1 hcu
    clear w1
    clear W1
    intro W1 hnw
    have HNW := Lib.hid hnw
    obtain ⟨z0, z00, c0, c1, c2, c3, c4, c5, c6, c7, c8, c9⟩ := hnw
    clear z0 z00
    go_wp2_with (go_at_call 41; with_reducible refine Calls.tells (HQ.out _) ?_)
    go_ret2
    exact Gives.mk rfl HNW.out.bl
def JNewR (w : World) (x : Sp) (e : Ending) (w' : World) : Prop := ∃ p : JB, e = .returned (.tuple #[.pointer (some ⟨p.j, 0, none⟩), .int .i64 0]) ∧ (∀ r ∈ p.all, w.heap.size ≤ r) ∧ JAt w' p (JS.new x) 0 ∧ Below w.heap.size w w'
theorem jNew_good {x : Sp} (hx : x.OK) (h : x.good = true) (w : World) :
    Calls Try.prog 21 #[x.v] w (JNewR w x) := by
  have HOK := Lib.hid (JOK.new hx h)
  have hcase : G.gateOK x.o x.g x.m = true ∧ cnewB x.slack x.most = true ∧ stNewB x.same x.rate = true ∧ Q.qnewB x.bad x.hold x.prove = true := by
    unfold Sp.good at h
    simpa only [Bool.and_eq_true] using h
  have HNW0 := Lib.hid (NwAt.new w x 62)
  clear h hx
  unfold Sp.v
  obtain ⟨h1, h2, h3, h4⟩ := hcase
  have H := Lib.hid (fun W => G.gateCheck_t x.o x.g x.m W h1)
  have HC := Lib.hid (fun W => cNew_good W h2)
  have HS := Lib.hid (fun W => sNew_good W h3)
  have HQ := Lib.hid (fun W => Q.qNew_good W h4)
  have hmm := @run_makeMap Try.prog
  clear h1 h2 h3 h4
  go_enter Try.func21, Try.ntmps21
  go_upto_region 4 with (go_at_call 39; (first | with_reducible refine Calls.fold (H.out _) ?_ | with_reducible refine Calls.fresh (H.out _) ?_); intro x1)
  refine wp_gen (NwAt w x) (HNW0.out.below (by (repeat (first | (with_reducible exact Below.refl _ _) | (with_reducible assumption) | (with_reducible refine Below.alloc ?_ (by (repeat (first | (with_reducible exact Nat.le_refl _) | (with_reducible assumption) | (with_reducible refine le_up ?_) | (with_reducible refine le_alloc ?_) | (with_reducible refine le_setCell ?_) | (with_reducible refine le_drew ?_) | (with_reducible refine le_drewN ?_) | omega))) _) | (with_reducible refine Below.drew ?_) | (with_reducible refine Below.drewN ?_ _) | (with_reducible refine Below.setCell ?_ (by (repeat (first | (with_reducible exact Nat.le_refl _) | (with_reducible assumption) | (with_reducible refine le_up ?_) | (with_reducible refine le_alloc ?_) | (with_reducible refine le_setCell ?_) | (with_reducible refine le_drew ?_) | (with_reducible refine le_drewN ?_) | omega))) _) | (with_reducible refine Below.up ?_ (by (repeat (first | (with_reducible exact Nat.le_refl _) | (with_reducible assumption) | (with_reducible refine le_up ?_) | (with_reducible refine le_alloc ?_) | (with_reducible refine le_setCell ?_) | (with_reducible refine le_drew ?_) | (with_reducible refine le_drewN ?_) | omega)))))))) ?_
  intro W1 hnw
  have HNW := Lib.hid hnw
  obtain ⟨z0, z00, c0, c1, c2, c3, c4, c5, c6, c7, c8, c9⟩ := hnw
  clear z0 z00
  go_upto_region 7 with (go_at_call 40; refine (HC.out _).mono ?_; rintro e1 w1 ⟨c, b, rfl, hb1, hc1, hcu, hbl⟩)
  clear c0 c1 c2 c3 c4 c5 c6 c7 c8 c9
  refine wp_gen (fun W => NwAt w x W ∧ CuAt W c b 0 x.slack x.most (fun _ _ => Pr.zero)) ⟨HNW.out.below hbl, hcu⟩ ?_
  have hb2 : w.heap.size ≤ b := Nat.le_trans HNW.out.bl.size hb1
  have hc2 : w.heap.size ≤ c := Nat.le_trans HNW.out.bl.size hc1
  have HB := Lib.hid (And.intro hb2 hc2)
  clear HNW hbl hb1 hc1 hcu hb2 hc2
  clear w1
  clear W1
  rintro W1 ⟨hnw, hcu⟩
  have HCU := Lib.hid hcu
  have HNW := Lib.hid hnw
  obtain ⟨z0, z00, c0, c1, c2, c3, c4, c5, c6, c7, c8, c9⟩ := hnw
  clear z0 z00
  clear hcu
  go_upto_region 10 with (go_at_call 12; refine (HS.out _).mono ?_; rintro e1 w1 ⟨k, m, rfl, hb1, hc1, hsu, hbl⟩)
  clear c0 c1 c2 c3 c4 c5 c6 c7 c8 c9
  refine wp_gen (fun W => (NwAt w x W ∧ W1.heap.size ≤ W.heap.size) ∧ CuAt W c b 0 x.slack x.most (fun _ _ => Pr.zero) ∧ StAt W k m 0 x.same x.rate (fun _ => none)) ⟨⟨HNW.out.below hbl, hbl.size⟩, HCU.out.below hbl, hsu⟩ ?_
  have HB2 := Lib.hid (show (c < W1.heap.size ∧ b < W1.heap.size) ∧ W1.heap.size ≤ m ∧ W1.heap.size ≤ k ∧ w.heap.size ≤ W1.heap.size from ⟨⟨HCU.out.lt, HCU.out.tab.lt⟩, hb1, hc1, HNW.out.bl.size⟩)
  clear HNW HCU hbl hb1 hc1 hsu
  clear w1
  generalize W1.heap.size = z1 at *
  clear W1
  rintro W1 ⟨⟨hnw, hz1⟩, hcu, hsu⟩
  have HCU := Lib.hid (And.intro hcu (And.intro hsu hz1))
  have HNW := Lib.hid hnw
  obtain ⟨z0, z00, c0, c1, c2, c3, c4, c5, c6, c7, c8, c9⟩ := hnw
  clear z0 z00
  clear hcu hsu hz1
  go_upto_region 13 with (go_at_call 41; refine (HQ.out _).mono ?_; rintro e1 w1 ⟨q, rfl, hq1, hqu, hbl⟩)
  clear c0 c1 c2 c3 c4 c5 c6 c7 c8 c9
  refine wp_gen (fun W => (NwAt w x W ∧ W1.heap.size ≤ W.heap.size) ∧ CuAt W c b 0 x.slack x.most (fun _ _ => Pr.zero) ∧ StAt W k m 0 x.same x.rate (fun _ => none) ∧ Q.QuarAt W q (Q.QuarS.new x.bad x.hold x.prove)) ⟨⟨HNW.out.below hbl, hbl.size⟩, HCU.out.1.below hbl, HCU.out.2.1.below' hbl, hqu⟩ ?_
  have HB3 := Lib.hid (show (k < W1.heap.size ∧ m < W1.heap.size) ∧ W1.heap.size ≤ q ∧ z1 ≤ W1.heap.size from ⟨⟨HCU.out.2.1.lt, HCU.out.2.1.tab.lt⟩, hq1, HCU.out.2.2⟩)
  clear HNW HCU hbl hq1 hqu
  clear w1
  generalize W1.heap.size = z2 at *
  clear W1
  rintro W1 ⟨⟨hnw, hz2⟩, hcu, hsu, hqu⟩
  have HCU := Lib.hid (And.intro hcu (And.intro hsu (And.intro hqu hz2)))
  have HNW := Lib.hid hnw
  obtain ⟨z0, z00, c0, c1, c2, c3, c4, c5, c6, c7, c8, c9⟩ := hnw
  clear z0 z00
  clear hcu hsu hz2 hqu
  go_wp2_with fail
  go_ret2
  have hb : ∀ o, Below W1.heap.size W1 ((W1.alloc (.map #[] 0)).alloc o) := fun o => ((Below.refl _ _).alloc (Nat.le_refl _) _).alloc (by simp) _
  have B1 := HB.out
  have B2 := HB2.out
  have B3 := HB3.out
  have B4 := HCU.out.2.2.2
  have B5 := HCU.out.2.2.1.lt
  have B6 := HNW.out.lt
  have B7 := HNW.out.bl.size
  have B8 := HCU.out.1.ne
  have B9 := HCU.out.2.1.ne
  refine ⟨⟨W1.heap.size + 1, q, c, b, k, m, W1.heap.size⟩, rfl, ?_, ⟨by simp, by simp [JS.new], by simp [JS.new], by simp [JS.new], by simp, by simp, by simp, by simp, ?_, HCU.out.2.2.1.below (hb _) B5, HCU.out.1.below (hb _), HCU.out.2.1.below' (hb _), ?_, ?_, HOK.out⟩, ?_⟩
  · intro r hr
    simp only [JB.all, List.mem_cons, List.not_mem_nil, or_false] at hr
    rcases hr with rfl | rfl | rfl | rfl | rfl | rfl | rfl <;> omega
  · simp; omega
  · exact (TabT.new W1).kept (gr_below none ((Below.refl _ _).alloc (Nat.le_refl _) _)) (by simp)
  · simp [JB.all]; omega
  · exact (HNW.out.bl.alloc (by omega) _).alloc (by simp; omega) _
end Go.Proofs.Ytihalkpcddnikaa
