/-
  The law ReplayRises, walked.
-/
import Derived.Test.YtbfloidogdjccaaRepR
namespace Go.Proofs.Ytbfloidogdjccaa
open Go.RowKit Go.Maps

theorem grown_cell {w w' : World} {b x o : Nat} (h : w.grownBy w' (some b)) (hx : x < w.heap.size) (hne : x ≠ b) : w'.cell? ⟨x, o, none⟩ = w.cell? ⟨x, o, none⟩ :=
  World.cell?_of_block (a := ⟨x, o, none⟩) (h.block x hx (fun e => hne (by simpa using e)))
theorem grown_frozen {w w' : World} {b x o : Nat} (h : w.grownBy w' (some b)) (hx : x < w.heap.size) (hne : x ≠ b) : w'.frozen? ⟨x, o, none⟩ = w.frozen? ⟨x, o, none⟩ :=
  World.frozen?_of_block (a := ⟨x, o, none⟩) (h.block x hx (fun e => hne (by simpa using e)))

/-- What holds at a round's head: the table's marks f; the last mark o; the law's own mark m1, m2. -/
structure RisesAt (w wr : World) (c b n pl vb : Nat) (f : Int → Option MarkT) (o : Option MarkT) (m1 m2 : Int) : Prop where
  obj : ObjT wr c b n f
  l1 : wr.cell? ⟨pl, 0, none⟩ = some (.int .u32 (o.getD (0, 0)).1)
  l2 : wr.cell? ⟨pl, 1, none⟩ = some (.int .u64 (o.getD (0, 0)).2)
  z1 : wr.frozen? ⟨pl, 0, none⟩ = false
  z2 : wr.frozen? ⟨pl, 1, none⟩ = false
  p1 : wr.cell? ⟨vb, 0, none⟩ = some (.int .u32 m1)
  p2 : wr.cell? ⟨vb, 1, none⟩ = some (.int .u64 m2)
  plt : pl < wr.heap.size
  vlt : vb < wr.heap.size
  nb : pl ≠ b
  nc : pl ≠ c
  vnb : vb ≠ b
  vnc : vb ≠ c
  vnp : vb ≠ pl
  bb : w.heap.size ≤ b
  bp : w.heap.size ≤ pl
  bel : Below w.heap.size w wr
theorem RisesAt.grown {w wr w2 : World} {c b n n' pl vb : Nat} {f f' : Int → Option MarkT} {o : Option MarkT} {m1 m2 : Int} (h : RisesAt w wr c b n pl vb f o m1 m2) (hg : wr.grownBy w2 (some b)) (ho : ObjT w2 c b n' f') :
    RisesAt w w2 c b n' pl vb f' o m1 m2 :=
  ⟨ho, by rw [grown_cell hg h.plt h.nb]; exact h.l1, by rw [grown_cell hg h.plt h.nb]; exact h.l2, by rw [grown_frozen hg h.plt h.nb]; exact h.z1, by rw [grown_frozen hg h.plt h.nb]; exact h.z2,
   by rw [grown_cell hg h.vlt h.vnb]; exact h.p1, by rw [grown_cell hg h.vlt h.vnb]; exact h.p2, Nat.lt_of_lt_of_le h.plt hg.size, Nat.lt_of_lt_of_le h.vlt hg.size, h.nb, h.nc, h.vnb, h.vnc, h.vnp, h.bb, h.bp, below_own h.bel hg h.bb⟩
theorem RisesAt.after {w wr w2 : World} {c b n pl vb : Nat} {f : Int → Option MarkT} {o : Option MarkT} {m1 m2 : Int} (h : RisesAt w wr c b n pl vb f o m1 m2) (hb : Below wr.heap.size wr w2) (ho : ObjT w2 c b n f) :
    RisesAt w w2 c b n pl vb f o m1 m2 := h.grown (grownBy_below (some b) hb) ho
theorem RisesAt.up {w wr x : World} {c b n pl vb : Nat} {f : Int → Option MarkT} {o : Option MarkT} {m1 m2 : Int} (h : RisesAt w wr c b n pl vb f o m1 m2) : RisesAt w (up wr x) c b n pl vb f o m1 m2 := h.after (up_below wr x) h.obj.up
theorem RisesAt.alloc {w wr : World} {ob : Obj} {c b n pl vb : Nat} {f : Int → Option MarkT} {o : Option MarkT} {m1 m2 : Int} (h : RisesAt w wr c b n pl vb f o m1 m2) : RisesAt w (wr.alloc ob) c b n pl vb f o m1 m2 := h.after (by (repeat (first | (with_reducible exact Below.refl _ _) | (with_reducible assumption) | (with_reducible refine Below.alloc ?_ (by (repeat (first | (with_reducible exact Nat.le_refl _) | (with_reducible assumption) | (with_reducible refine le_up ?_) | (with_reducible refine le_alloc ?_) | (with_reducible refine le_setCell ?_) | (with_reducible refine le_drew ?_) | (with_reducible refine le_drewN ?_) | omega))) _) | (with_reducible refine Below.drew ?_) | (with_reducible refine Below.drewN ?_ _) | (with_reducible refine Below.setCell ?_ (by (repeat (first | (with_reducible exact Nat.le_refl _) | (with_reducible assumption) | (with_reducible refine le_up ?_) | (with_reducible refine le_alloc ?_) | (with_reducible refine le_setCell ?_) | (with_reducible refine le_drew ?_) | (with_reducible refine le_drewN ?_) | omega))) _) | (with_reducible refine Below.up ?_ (by (repeat (first | (with_reducible exact Nat.le_refl _) | (with_reducible assumption) | (with_reducible refine le_up ?_) | (with_reducible refine le_alloc ?_) | (with_reducible refine le_setCell ?_) | (with_reducible refine le_drew ?_) | (with_reducible refine le_drewN ?_) | omega))))))) h.obj.alloc
theorem ObjT.setCell {w : World} {c b n : Nat} {f : Int → Option MarkT} (h : ObjT w c b n f) {a : Addr} (u : Value) (h1 : a.block ≠ b) (h2 : a.block ≠ c) : ObjT (w.setCell a u) c b n f :=
  ⟨by rw [World.cell?_of_block (a := ⟨c, 0, none⟩) (Below.heap_setCell w a u c (fun e => h2 e.symm))]; exact h.cell, by rw [World.size_setCell]; exact h.lt, h.ne, h.tab.setCell (fun e => h1 e.symm) u⟩
theorem RisesAt.set {w wr : World} {c b n pl vb : Nat} {f : Int → Option MarkT} {o : Option MarkT} {m1 m2 : Int} (h : RisesAt w wr c b n pl vb f o m1 m2) (e1 e2 : Int) :
    RisesAt w ((wr.setCell ⟨pl, 0, none⟩ (.int .u32 e1)).setCell ⟨pl, 1, none⟩ (.int .u64 e2)) c b n pl vb f (some (e1, e2)) m1 m2 := by
  have hvp := h.vnp
  have hp1 := h.p1
  have hp2 := h.p2
  have hz1 := h.z1
  have hz2 := h.z2
  have hl1 := h.l1
  have hl2 := h.l2
  refine ⟨(h.obj.setCell _ h.nb h.nc).setCell _ h.nb h.nc, by rw [World.cell?_setCell_other _ _ _ _ (by simp)]; exact World.cell?_setCell_same _ _ _ hl1, World.cell?_setCell_same _ _ _ (by rw [World.cell?_setCell_other _ _ _ _ (by simp)]; exact hl2), by rw [World.frozen?_setCell, World.frozen?_setCell]; exact hz1, by rw [World.frozen?_setCell, World.frozen?_setCell]; exact hz2, by rw [World.cell?_setCell_other _ _ _ _ (by intro e; injection e with e1; omega), World.cell?_setCell_other _ _ _ _ (by intro e; injection e with e1; omega)]; exact hp1, by rw [World.cell?_setCell_other _ _ _ _ (by intro e; injection e with e1; omega), World.cell?_setCell_other _ _ _ _ (by intro e; injection e with e1; omega)]; exact hp2, by simp [h.plt], by simp [h.vlt], h.nb, h.nc, h.vnb, h.vnc, h.vnp, h.bb, h.bp, (h.bel.setCell h.bp _).setCell h.bp _⟩

theorem three_ways {f : Int → Option MarkT} {s : Int} (m : MarkT) (h : srcOK s = true) :
    ((f s).isSome = false ∧ mayE f s m = 0 ∧ takeF f s m s = some m) ∨
    ((f s).isSome = true ∧ grB m (((f s).getD (0, 0)).1, ((f s).getD (0, 0)).2) = true ∧ mayE f s m = 0 ∧ takeF f s m s = some m) ∨
    ((f s).isSome = true ∧ grB m (((f s).getD (0, 0)).1, ((f s).getD (0, 0)).2) = false ∧ mayE f s m = 170 ∧ takeF f s m s = f s) := by
  rw [mayE_ok h, takeF_ok h]
  cases hi : (f s).isSome
  · exact .inl ⟨rfl, by simp [freshB, hi], by simp [freshB, hi, updT_same]⟩
  · cases hg : grB m ((f s).getD (0, 0))
    · exact .inr (.inr ⟨rfl, rfl, by simp [freshB, hi, hg], by simp [freshB, hi, hg]⟩)
    · exact .inr (.inl ⟨rfl, rfl, by simp [freshB, hi, hg], by simp [freshB, hi, hg, updT_same]⟩)

def RisesRel (w : World) (c b pl vb : Nat) (s m1 m2 : Int) (v9 v10 : Value) (wr : World) : Prop :=
  ∃ (k n : Nat) (f : Int → Option MarkT), k ≤ 60 ∧ n ≤ k ∧ v10 = .int .i64 k ∧ v9 = .bool (f s).isSome ∧ RisesAt w wr c b n pl vb f (f s) m1 m2

set_option maxRecDepth 100000 in
set_option maxHeartbeats 3200000 in
theorem ReplayRises_any (a : Option Addr) (len cap : Nat) (s m1 m2 : Int) (w : World) (hr : Elems w [some .i64, some .i64, some .u32, some .u64] a len) :
    Calls Try.prog 8 #[.slice a len cap, .int .i64 s, .agg #[.int .u32 m1, .int .u64 m2]] w (Gives w (.bool true)) := by
  have HR := Lib.hid hr
  have hlen := hr.1
  have HS : Hid (srcOK (amongV s 8) = true) := Lib.hid (by have := amongV_bd s 8 (by omega); simp only [srcOK, decide_eq_true_eq]; exact this)
  clear hr
  go_enter Try.func8, Try.ntmps8
  go_wp2_with (go_at_call 32; (first | with_reducible refine Calls.fold (works17 _) ?_ | with_reducible refine Calls.fresh (works17 _) ?_); intro x1)
  refine (New_any _).mono ?_
  rintro e w1 ⟨c, b, rfl, hb, hc, ho, hbel⟩
  have HO := Lib.hid ho
  have hclt := ho.lt
  have hblt := ho.tab.lt
  have hz0 : (w.alloc (Obj.cells #[Value.int IntKind.u32 m1, Value.int IntKind.u64 m2] 56)).heap.size ≤ (up (w.alloc (Obj.cells #[Value.int IntKind.u32 m1, Value.int IntKind.u64 m2] 56)) x1).heap.size := up_size _ _
  rw [World.size_alloc] at hz0
  haveI : LtSize w.heap.size w1 := ⟨by have := hbel.size; omega⟩
  have p1 : w1.cell? ⟨w.heap.size, 0, none⟩ = some (.int .u32 m1) := by rw [hbel.cell (p := ⟨_, 0, none⟩) (by exact hz0)]; simp
  have p2 : w1.cell? ⟨w.heap.size, 1, none⟩ = some (.int .u64 m2) := by rw [hbel.cell (p := ⟨_, 1, none⟩) (by exact hz0)]; simp
  have hbel1 : Below w.heap.size w w1 := (show Below w.heap.size w (up (w.alloc _) x1) by (repeat (first | (with_reducible exact Below.refl _ _) | (with_reducible assumption) | (with_reducible refine Below.alloc ?_ (by (repeat (first | (with_reducible exact Nat.le_refl _) | (with_reducible assumption) | (with_reducible refine le_up ?_) | (with_reducible refine le_alloc ?_) | (with_reducible refine le_setCell ?_) | (with_reducible refine le_drew ?_) | (with_reducible refine le_drewN ?_) | omega))) _) | (with_reducible refine Below.drew ?_) | (with_reducible refine Below.drewN ?_ _) | (with_reducible refine Below.setCell ?_ (by (repeat (first | (with_reducible exact Nat.le_refl _) | (with_reducible assumption) | (with_reducible refine le_up ?_) | (with_reducible refine le_alloc ?_) | (with_reducible refine le_setCell ?_) | (with_reducible refine le_drew ?_) | (with_reducible refine le_drewN ?_) | omega))) _) | (with_reducible refine Below.up ?_ (by (repeat (first | (with_reducible exact Nat.le_refl _) | (with_reducible assumption) | (with_reducible refine le_up ?_) | (with_reducible refine le_alloc ?_) | (with_reducible refine le_setCell ?_) | (with_reducible refine le_drew ?_) | (with_reducible refine le_drewN ?_) | omega))))))).trans (hbel.mono (by omega))
  have HB := Lib.hid hbel1
  clear ho hbel hbel1
  go_wp2_with (go_at_call 16; with_reducible refine Calls.tells (Among_any _ _ _ (by omega) (by omega)) ?_)
  generalize amongV s 8 = S at *
  have hst : RisesAt w (w1.alloc (Obj.cells #[.int .u32 0, .int .u64 0] 56)) c b 0 w1.heap.size w.heap.size (fun _ => none) none m1 m2 :=
    ⟨HO.out.alloc, by simp, by simp, by simp, by simp, by simpa using p1, by simpa using p2, by simp, by simp; omega, by omega, by omega, by omega, by omega, by omega, by omega, by omega, HB.out.alloc (by omega) _⟩
  clear p1 p2 this
  have HST := Lib.hid hst
  clear hst HO HB hclt hblt hb hc
  go_loopw [9, 10] (fun v9 v10 wr => RisesRel w c b w1.heap.size w.heap.size S m1 m2 v9 v10 wr) (fun _ v10 _ => 60 - (intOf v10).toNat)
  case atStart => exact ⟨0, 0, _, by omega, Nat.le_refl _, rfl, rfl, HST.out⟩
  case round =>
    clear HST
    obtain ⟨k, n, f, hk, hn, rfl, rfl, ha⟩ := hrel
    have HA := Lib.hid ha
    haveI : LtSize w1.heap.size wr := ⟨ha.plt⟩
    haveI : LtSize w.heap.size wr := ⟨ha.vlt⟩
    have hcl := ha.obj.lt
    have hbl := ha.obj.tab.lt
    have g1 := ha.l1
    have g2 := ha.l2
    have hp1 := ha.p1
    have hp2 := ha.p2
    have hszr := ha.bel.size
    have hqb : wr.heap.size ≠ b := by omega
    clear ha
    generalize w1.heap.size = pl at *
    generalize hvb : w.heap.size = vb at *
    by_cases hkl : k < len
    · by_cases hk60 : k < 60
      · obtain ⟨_, h0 | ⟨B, off, rfl, hB, hcell⟩⟩ := HR.out
        · omega
        · obtain ⟨cs, hic, hcs⟩ := hcell k hkl
          obtain ⟨d, cs, rfl, hw0, hic⟩ := hic.cons
          obtain ⟨src, cs, rfl, hw1, hic⟩ := hic.cons
          obtain ⟨e1, cs, rfl, hw2, hic⟩ := hic.cons
          obtain ⟨e2, cs, rfl, hw3, hic⟩ := hic.cons
          obtain rfl := hic.nil
          obtain ⟨hs1, hs2⟩ := bounds_i64 hw1
          have hB' : B < vb := by omega
          haveI : LtSize B wr := ⟨by omega⟩
          have a0 : wr.cell? ⟨B, off + k * 4, none⟩ = some (.int .i64 d) := by rw [HA.out.bel.cell (p := ⟨B, _, none⟩) hB]; exact hcs 0 (by decide)
          have a1 : wr.cell? ⟨B, off + k * 4 + 1, none⟩ = some (.int .i64 src) := by rw [HA.out.bel.cell (p := ⟨B, _, none⟩) hB]; exact hcs 1 (by decide)
          have a2 : wr.cell? ⟨B, off + k * 4 + 2, none⟩ = some (.int .u32 e1) := by rw [HA.out.bel.cell (p := ⟨B, _, none⟩) hB]; exact hcs 2 (by decide)
          have a3 : wr.cell? ⟨B, off + k * 4 + 3, none⟩ = some (.int .u64 e2) := by rw [HA.out.bel.cell (p := ⟨B, _, none⟩) hB]; exact hcs 3 (by decide)
          clear hcell hcs hw0 hw1 hw2 hw3
          by_cases hdo : amongV d 5 = 4
          · go_wp2_with (go_at_call 16; with_reducible refine Calls.tells (Among_any _ _ _ (by omega) (by omega)) ?_)
            refine (Raise_any c b n f src (e1, e2) _ HA.out.obj.alloc (by omega) hs1 hs2).mono ?_
            rintro e w2 ⟨n2, rfl, hn2, ht, hg⟩
            have HT := Lib.hid ht
            have HG := Lib.hid hg
            clear ht hg a0 a1 a2 a3 g1 g2 hp1 hp2
            have hqp : ¬ pl = wr.heap.size := by have := HA.out.plt; omega
            have hqp' : ¬ wr.heap.size = pl := fun e => hqp e.symm
            have HA2 := Lib.hid ((HA.out.alloc).grown HG.out HT.out)
            have q0 := grown_cell (o := 0) HG.out (show wr.heap.size < (wr.alloc (Obj.cells #[.int .i64 d, .int .i64 src, .int .u32 e1, .int .u64 e2] 60)).heap.size by simp) hqb
            have q1 := grown_cell (o := 1) HG.out (show wr.heap.size < (wr.alloc (Obj.cells #[.int .i64 d, .int .i64 src, .int .u32 e1, .int .u64 e2] 60)).heap.size by simp) hqb
            have q2 := grown_cell (o := 2) HG.out (show wr.heap.size < (wr.alloc (Obj.cells #[.int .i64 d, .int .i64 src, .int .u32 e1, .int .u64 e2] 60)).heap.size by simp) hqb
            have q3 := grown_cell (o := 3) HG.out (show wr.heap.size < (wr.alloc (Obj.cells #[.int .i64 d, .int .i64 src, .int .u32 e1, .int .u64 e2] 60)).heap.size by simp) hqb
            simp at q0 q1 q2 q3
            haveI : LtSize wr.heap.size w2 := ⟨Nat.lt_of_lt_of_le (by simp) HG.out.size⟩
            haveI : LtSize pl w2 := ⟨HA2.out.plt⟩
            haveI : LtSize vb w2 := ⟨HA2.out.vlt⟩
            have g1 := HA2.out.l1
            have g2 := HA2.out.l2
            have gz1 := HA2.out.z1
            have gz2 := HA2.out.z2
            have hbel2 := HA2.out.bel
            have hsz2 := hbel2.size
            by_cases hsrc : src = S
            · subst hsrc
              have hmb := may_behind (f := f) (m := (e1, e2)) HS.out
              have hr0 : raiseE src = 0 := by simp [raiseE, HS.out]
              rcases three_ways (f := f) (e1, e2) HS.out with ⟨h1, h2, h3⟩ | ⟨h1, hg, h2, h3⟩ | ⟨h1, hg, h2, h3⟩
              · have H3 := Lib.hid h3
                clear h3
                go_wp2_with (first | (go_at_call 37; (first | with_reducible refine Calls.fold (May_any c b n2 (takeF f src (e1, e2)) src (e1, e2) _ (HA2.out.set e1 e2).obj) ?_ | with_reducible refine Calls.fresh (May_any c b n2 (takeF f src (e1, e2)) src (e1, e2) _ (HA2.out.set e1 e2).obj) ?_); intro x1) | (go_at_call 36; (first | with_reducible refine Calls.fold (Greater_any _ _ _ _ _) ?_ | with_reducible refine Calls.fresh (Greater_any _ _ _ _ _) ?_); intro x1))
                exact ⟨⟨k + 1, n2, takeF f src (e1, e2), by omega, by omega, by go_num, by rw [H3.out]; rfl, by rw [H3.out]; exact (HA2.out.set e1 e2).up⟩, by simp [intOf]; omega⟩
              · have H3 := Lib.hid h3
                clear h3
                go_wp2_with (first | (go_at_call 37; (first | with_reducible refine Calls.fold (May_any c b n2 (takeF f src (e1, e2)) src (e1, e2) _ (HA2.out.up.set e1 e2).obj) ?_ | with_reducible refine Calls.fresh (May_any c b n2 (takeF f src (e1, e2)) src (e1, e2) _ (HA2.out.up.set e1 e2).obj) ?_); intro x1) | (go_at_call 36; (first | with_reducible refine Calls.fold (Greater_any _ _ _ _ _) ?_ | with_reducible refine Calls.fresh (Greater_any _ _ _ _ _) ?_); intro x1))
                exact ⟨⟨k + 1, n2, takeF f src (e1, e2), by omega, by omega, by go_num, by rw [H3.out]; rfl, by rw [H3.out]; exact (HA2.out.up.set e1 e2).up⟩, by simp [intOf]; omega⟩
              · have H3 := Lib.hid h3
                clear h3
                go_wp2_with (first | (go_at_call 37; (first | with_reducible refine Calls.fold (May_any c b n2 (takeF f src (e1, e2)) src (e1, e2) _ HA2.out.up.obj) ?_ | with_reducible refine Calls.fresh (May_any c b n2 (takeF f src (e1, e2)) src (e1, e2) _ HA2.out.up.obj) ?_); intro x1) | (go_at_call 37; (first | with_reducible refine Calls.fold (May_any c b n2 (takeF f src (e1, e2)) src (e1, e2) _ HA2.out.obj) ?_ | with_reducible refine Calls.fresh (May_any c b n2 (takeF f src (e1, e2)) src (e1, e2) _ HA2.out.obj) ?_); intro x1) | (go_at_call 36; (first | with_reducible refine Calls.fold (Greater_any _ _ _ _ _) ?_ | with_reducible refine Calls.fresh (Greater_any _ _ _ _ _) ?_); intro x1))
                exact ⟨⟨k + 1, n2, takeF f src (e1, e2), by omega, by omega, by go_num, by rw [H3.out, h1], by rw [H3.out]; exact HA2.out.up⟩, by simp [intOf]; omega⟩
            · have hto := Lib.hid (takeF_other (f := f) (m := (e1, e2)) (fun e => hsrc e.symm))
              go_wp2_with fail
              exact ⟨⟨k + 1, n2, takeF f src (e1, e2), by omega, by omega, by go_num, by rw [hto.out], by rw [hto.out]; exact HA2.out⟩, by simp [intOf]; omega⟩
          · go_wp2_with (go_at_call 16; with_reducible refine Calls.tells (Among_any _ _ _ (by omega) (by omega)) ?_)
            refine (Take_any c b n f src (e1, e2) _ HA.out.obj.alloc (by omega)).mono ?_
            rintro e w2 ⟨n2, rfl, hn2, ht, hg⟩
            have HT := Lib.hid ht
            have HG := Lib.hid hg
            clear ht hg a0 a1 a2 a3 g1 g2 hp1 hp2
            have hqp : ¬ pl = wr.heap.size := by have := HA.out.plt; omega
            have hqp' : ¬ wr.heap.size = pl := fun e => hqp e.symm
            have HA2 := Lib.hid ((HA.out.alloc).grown HG.out HT.out)
            have q0 := grown_cell (o := 0) HG.out (show wr.heap.size < (wr.alloc (Obj.cells #[.int .i64 d, .int .i64 src, .int .u32 e1, .int .u64 e2] 60)).heap.size by simp) hqb
            have q1 := grown_cell (o := 1) HG.out (show wr.heap.size < (wr.alloc (Obj.cells #[.int .i64 d, .int .i64 src, .int .u32 e1, .int .u64 e2] 60)).heap.size by simp) hqb
            have q2 := grown_cell (o := 2) HG.out (show wr.heap.size < (wr.alloc (Obj.cells #[.int .i64 d, .int .i64 src, .int .u32 e1, .int .u64 e2] 60)).heap.size by simp) hqb
            have q3 := grown_cell (o := 3) HG.out (show wr.heap.size < (wr.alloc (Obj.cells #[.int .i64 d, .int .i64 src, .int .u32 e1, .int .u64 e2] 60)).heap.size by simp) hqb
            simp at q0 q1 q2 q3
            haveI : LtSize wr.heap.size w2 := ⟨Nat.lt_of_lt_of_le (by simp) HG.out.size⟩
            haveI : LtSize pl w2 := ⟨HA2.out.plt⟩
            haveI : LtSize vb w2 := ⟨HA2.out.vlt⟩
            have g1 := HA2.out.l1
            have g2 := HA2.out.l2
            have gz1 := HA2.out.z1
            have gz2 := HA2.out.z2
            have hbel2 := HA2.out.bel
            have hsz2 := hbel2.size
            by_cases hsrc : src = S
            · subst hsrc
              have hmb := may_behind (f := f) (m := (e1, e2)) HS.out
              have hr0 : raiseE src = 0 := by simp [raiseE, HS.out]
              rcases three_ways (f := f) (e1, e2) HS.out with ⟨h1, h2, h3⟩ | ⟨h1, hg, h2, h3⟩ | ⟨h1, hg, h2, h3⟩
              · have H3 := Lib.hid h3
                clear h3
                go_wp2_with (first | (go_at_call 37; (first | with_reducible refine Calls.fold (May_any c b n2 (takeF f src (e1, e2)) src (e1, e2) _ (HA2.out.set e1 e2).obj) ?_ | with_reducible refine Calls.fresh (May_any c b n2 (takeF f src (e1, e2)) src (e1, e2) _ (HA2.out.set e1 e2).obj) ?_); intro x1) | (go_at_call 36; (first | with_reducible refine Calls.fold (Greater_any _ _ _ _ _) ?_ | with_reducible refine Calls.fresh (Greater_any _ _ _ _ _) ?_); intro x1))
                exact ⟨⟨k + 1, n2, takeF f src (e1, e2), by omega, by omega, by go_num, by rw [H3.out]; rfl, by rw [H3.out]; exact (HA2.out.set e1 e2).up⟩, by simp [intOf]; omega⟩
              · have H3 := Lib.hid h3
                clear h3
                go_wp2_with (first | (go_at_call 37; (first | with_reducible refine Calls.fold (May_any c b n2 (takeF f src (e1, e2)) src (e1, e2) _ (HA2.out.up.set e1 e2).obj) ?_ | with_reducible refine Calls.fresh (May_any c b n2 (takeF f src (e1, e2)) src (e1, e2) _ (HA2.out.up.set e1 e2).obj) ?_); intro x1) | (go_at_call 36; (first | with_reducible refine Calls.fold (Greater_any _ _ _ _ _) ?_ | with_reducible refine Calls.fresh (Greater_any _ _ _ _ _) ?_); intro x1))
                exact ⟨⟨k + 1, n2, takeF f src (e1, e2), by omega, by omega, by go_num, by rw [H3.out]; rfl, by rw [H3.out]; exact (HA2.out.up.set e1 e2).up⟩, by simp [intOf]; omega⟩
              · have H3 := Lib.hid h3
                clear h3
                go_wp2_with (first | (go_at_call 37; (first | with_reducible refine Calls.fold (May_any c b n2 (takeF f src (e1, e2)) src (e1, e2) _ HA2.out.up.obj) ?_ | with_reducible refine Calls.fresh (May_any c b n2 (takeF f src (e1, e2)) src (e1, e2) _ HA2.out.up.obj) ?_); intro x1) | (go_at_call 37; (first | with_reducible refine Calls.fold (May_any c b n2 (takeF f src (e1, e2)) src (e1, e2) _ HA2.out.obj) ?_ | with_reducible refine Calls.fresh (May_any c b n2 (takeF f src (e1, e2)) src (e1, e2) _ HA2.out.obj) ?_); intro x1) | (go_at_call 36; (first | with_reducible refine Calls.fold (Greater_any _ _ _ _ _) ?_ | with_reducible refine Calls.fresh (Greater_any _ _ _ _ _) ?_); intro x1))
                exact ⟨⟨k + 1, n2, takeF f src (e1, e2), by omega, by omega, by go_num, by rw [H3.out, h1], by rw [H3.out]; exact HA2.out.up⟩, by simp [intOf]; omega⟩
            · have hto := Lib.hid (takeF_other (f := f) (m := (e1, e2)) (fun e => hsrc e.symm))
              go_wp2_with fail
              exact ⟨⟨k + 1, n2, takeF f src (e1, e2), by omega, by omega, by go_num, by rw [hto.out], by rw [hto.out]; exact HA2.out⟩, by simp [intOf]; omega⟩
      ·
        have hbelx := HA.out.bel
        rcases three_ways (f := f) (m1, m2) HS.out with ⟨h1, h2, _⟩ | ⟨h1, hg, h2, _⟩ | ⟨h1, hg, h2, _⟩
        all_goals
          go_wp2_with (first | (go_at_call 37; (first | with_reducible refine Calls.fold (May_any c b n f S (m1, m2) _ HA.out.obj) ?_ | with_reducible refine Calls.fresh (May_any c b n f S (m1, m2) _ HA.out.obj) ?_); intro x1) | (go_at_call 36; (first | with_reducible refine Calls.fold (Greater_any _ _ _ _ _) ?_ | with_reducible refine Calls.fresh (Greater_any _ _ _ _ _) ?_); intro x1))
          go_ret
          exact Gives.mk rfl (by (repeat (first | (with_reducible exact Below.refl _ _) | (with_reducible assumption) | (with_reducible refine Below.alloc ?_ (by (repeat (first | (with_reducible exact Nat.le_refl _) | (with_reducible assumption) | (with_reducible refine le_up ?_) | (with_reducible refine le_alloc ?_) | (with_reducible refine le_setCell ?_) | (with_reducible refine le_drew ?_) | (with_reducible refine le_drewN ?_) | omega))) _) | (with_reducible refine Below.drew ?_) | (with_reducible refine Below.drewN ?_ _) | (with_reducible refine Below.setCell ?_ (by (repeat (first | (with_reducible exact Nat.le_refl _) | (with_reducible assumption) | (with_reducible refine le_up ?_) | (with_reducible refine le_alloc ?_) | (with_reducible refine le_setCell ?_) | (with_reducible refine le_drew ?_) | (with_reducible refine le_drewN ?_) | omega))) _) | (with_reducible refine Below.up ?_ (by (repeat (first | (with_reducible exact Nat.le_refl _) | (with_reducible assumption) | (with_reducible refine le_up ?_) | (with_reducible refine le_alloc ?_) | (with_reducible refine le_setCell ?_) | (with_reducible refine le_drew ?_) | (with_reducible refine le_drewN ?_) | omega)))))))
    ·
      have hbelx := HA.out.bel
      rcases three_ways (f := f) (m1, m2) HS.out with ⟨h1, h2, _⟩ | ⟨h1, hg, h2, _⟩ | ⟨h1, hg, h2, _⟩
      all_goals
        go_wp2_with (first | (go_at_call 37; (first | with_reducible refine Calls.fold (May_any c b n f S (m1, m2) _ HA.out.obj) ?_ | with_reducible refine Calls.fresh (May_any c b n f S (m1, m2) _ HA.out.obj) ?_); intro x1) | (go_at_call 36; (first | with_reducible refine Calls.fold (Greater_any _ _ _ _ _) ?_ | with_reducible refine Calls.fresh (Greater_any _ _ _ _ _) ?_); intro x1))
        go_ret
        exact Gives.mk rfl (by (repeat (first | (with_reducible exact Below.refl _ _) | (with_reducible assumption) | (with_reducible refine Below.alloc ?_ (by (repeat (first | (with_reducible exact Nat.le_refl _) | (with_reducible assumption) | (with_reducible refine le_up ?_) | (with_reducible refine le_alloc ?_) | (with_reducible refine le_setCell ?_) | (with_reducible refine le_drew ?_) | (with_reducible refine le_drewN ?_) | omega))) _) | (with_reducible refine Below.drew ?_) | (with_reducible refine Below.drewN ?_ _) | (with_reducible refine Below.setCell ?_ (by (repeat (first | (with_reducible exact Nat.le_refl _) | (with_reducible assumption) | (with_reducible refine le_up ?_) | (with_reducible refine le_alloc ?_) | (with_reducible refine le_setCell ?_) | (with_reducible refine le_drew ?_) | (with_reducible refine le_drewN ?_) | omega))) _) | (with_reducible refine Below.up ?_ (by (repeat (first | (with_reducible exact Nat.le_refl _) | (with_reducible assumption) | (with_reducible refine le_up ?_) | (with_reducible refine le_alloc ?_) | (with_reducible refine le_setCell ?_) | (with_reducible refine le_drew ?_) | (with_reducible refine le_drewN ?_) | omega)))))))
end Go.Proofs.Ytbfloidogdjccaa
