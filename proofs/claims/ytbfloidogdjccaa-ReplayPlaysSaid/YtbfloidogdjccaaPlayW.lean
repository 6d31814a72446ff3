/-
  The law ReplayPlays, walked.
-/
import Derived.Test.YtbfloidogdjccaaDoW
import Derived.Test.YtbfloidogdjccaaElem
import Derived.Test.YtbfloidogdjccaaRepL
import Derived.Test.YtbfloidogdjccaaForkM
import Derived.Deep.CutBlock
import Derived.Deep.CutRange
namespace Go.Proofs.Ytbfloidogdjccaa
open Go.RowKit Go.Maps
set_option linter.unusedVariables false
set_option linter.unusedSimpArgs false

theorem BothT.alloc {w : World} {o : Obj} {c b y n : Nat} {f : Int → Option MarkT} (h : BothT w c b y n f) : BothT (w.alloc o) c b y n f := h.below ((Below.refl _ w).alloc (Nat.le_refl _) o)
theorem BothT.up {w x : World} {c b y n : Nat} {f : Int → Option MarkT} (h : BothT w c b y n f) : BothT (up w x) c b y n f := h.below (up_below w x)
theorem BothT.drew {w : World} {c b y n : Nat} {f : Int → Option MarkT} (h : BothT w c b y n f) : BothT w.drew c b y n f := h.below (Below.drew (Below.refl _ w))
def cells24 : Array Value := #[.int .u32 0, .int .u64 0, .int .u32 0, .int .u64 0, .int .u32 0, .int .u64 0, .int .u32 0, .int .u64 0, .int .u32 0, .int .u64 0, .int .u32 0, .int .u64 0, .int .u32 0, .int .u64 0, .int .u32 0, .int .u64 0, .bool false, .bool false, .bool false, .bool false, .bool false, .bool false, .bool false, .bool false]
theorem RefT.new (w : World) (t : TypeId) : RefT (w.alloc (.cells cells24 t)) w.heap.size (fun _ => none) :=
  ⟨⟨by simp, fun k hk => by
    rcases k with _ | _ | _ | _ | _ | _ | _ | _ | k <;> first | omega | (simp [cells24]), fun k hk => by
    rcases k with _ | _ | _ | _ | _ | _ | _ | _ | k <;> first | omega | (simp [cells24]), fun o => by simp⟩, fun k hk => by
    rcases k with _ | _ | _ | _ | _ | _ | _ | _ | k <;> first | omega | (simp [cells24])⟩

theorem below_up {B : Nat} {a w : World} (h : Below B a w) (hB : B ≤ w.heap.size) (x : World) : Below B a (up w x) := h.trans ((up_below w x).mono hB)
structure PlaysAt (w : World) (c b y B : Nat) (f : Int → Option MarkT) (n : Nat) (wr : World) : Prop where
  both : BothT wr c b y n f
  bel : Below B w wr
  bb : B ≤ b
  bc : B ≤ c
  bY : B ≤ y

theorem PlaysAt.alloc {w wr : World} {o : Obj} {c b y B n : Nat} {f : Int → Option MarkT} (h : PlaysAt w c b y B f n wr) (hB : B ≤ w.heap.size) : PlaysAt w c b y B f n (wr.alloc o) :=
  ⟨h.both.alloc, h.bel.alloc (Nat.le_trans hB h.bel.size) o, h.bb, h.bc, h.bY⟩

@[simp high, go_sem high] theorem set_cell_new (W X : World) (b o o' : Nat) (v : Value) [h : LtSize b X] : (W.setCell ⟨b, o, none⟩ v).cell? ⟨X.heap.size, o', none⟩ = W.cell? ⟨X.heap.size, o', none⟩ :=
  World.cell?_setCell_other _ _ _ _ (by intro e; injection e with e1; have := h.lt; omega)
@[simp high, go_sem high] theorem set_cell_old (W X : World) (b o o' : Nat) (v : Value) [h : LtSize b X] : (W.setCell ⟨X.heap.size, o, none⟩ v).cell? ⟨b, o', none⟩ = W.cell? ⟨b, o', none⟩ :=
  World.cell?_setCell_other _ _ _ _ (by intro e; injection e with e1; have := h.lt; omega)
theorem le_blk {B n o : Nat} (h : B ≤ n) : B ≤ (Addr.mk n o none).block := h
theorem le_add1 {B n k : Nat} (h : B ≤ n) : B ≤ n + k := Nat.le_trans h (Nat.le_add_right n k)
def IsMark (w : World) (p : Nat) (a b : Int) : Prop := p < w.heap.size ∧ w.cell? ⟨p, 0, none⟩ = some (.int .u32 a) ∧ w.cell? ⟨p, 1, none⟩ = some (.int .u64 b)
theorem IsMark.below {w w' : World} {p : Nat} {a b : Int} (h : IsMark w p a b) (hb : Below w.heap.size w w') : IsMark w' p a b :=
  ⟨Nat.lt_of_lt_of_le h.1 hb.size, by rw [hb.cell (p := ⟨p, _, none⟩) h.1]; exact h.2.1, by rw [hb.cell (p := ⟨p, _, none⟩) h.1]; exact h.2.2⟩

theorem run_al1 (w : World) : (Instr.alloc 56 true (.tuple #[])).run Try.prog w = .ok (.pointer (some ⟨w.heap.size, 0, none⟩)) (w.alloc (.cells #[.int .u32 0, .int .u64 0] 56)) := by kernel_rfl
theorem run_al2 (w : World) : (Instr.alloc 86 true (.tuple #[])).run Try.prog w = .ok (.pointer (some ⟨w.heap.size, 0, none⟩)) (w.alloc (.cells #[.int .u32 0, .int .u64 0] 86)) := by kernel_rfl
theorem two_one (x y : Int) : ([Value.int .u32 x, .int .u64 y].toArray.all (·.oneCell')) = true := all_oneCell_toArray (fun v hv => by
  simp only [List.mem_cons, List.not_mem_nil, or_false] at hv
  rcases hv with rfl | rfl <;> rfl)
theorem two_marks {w4 W : World} {r t : Nat} (hb : Below w4.heap.size w4 W) (hr : Two w4 W r) (ht : Two w4 W t) (hne : r ≠ t) (x y : Int) :
    Below w4.heap.size w4 (W.setCells r 0 [.int .u32 x, .int .u64 y]) ∧ (W.setCells r 0 [.int .u32 x, .int .u64 y]).there t 0 2 ∧
    IsMark ((W.setCells r 0 [.int .u32 x, .int .u64 y]).setCells t 0 [.int .u32 x, .int .u64 y]) r x y ∧ IsMark ((W.setCells r 0 [.int .u32 x, .int .u64 y]).setCells t 0 [.int .u32 x, .int .u64 y]) t x y ∧
    Below w4.heap.size w4 ((W.setCells r 0 [.int .u32 x, .int .u64 y]).setCells t 0 [.int .u32 x, .int .u64 y]) := by
  have h1 := below_setC [.int .u32 x, .int .u64 y] hb hr.le
  have h2 := World.there_setCells ht.th r 0 [.int .u32 x, .int .u64 y]
  have h3 := below_setC [.int .u32 x, .int .u64 y] h1 ht.le
  have e1 := World.rangeAt_setCells_same W r 0 [.int .u32 x, .int .u64 y] hr.th
  have e2 := World.rangeAt_setCells_apart e1 t 0 [.int .u32 x, .int .u64 y] (.inl hne)
  have e3 := World.rangeAt_setCells_same (W.setCells r 0 [.int .u32 x, .int .u64 y]) t 0 [.int .u32 x, .int .u64 y] h2
  exact ⟨h1, h2, ⟨by rw [size_setC, size_setC]; exact hr.lt, by simpa using e2 0 _ rfl, by simpa using e2 1 _ rfl⟩, ⟨by rw [size_setC, size_setC]; exact ht.lt, by simpa using e3 0 _ rfl, by simpa using e3 1 _ rfl⟩, h3⟩
set_option maxRecDepth 100000 in
set_option maxHeartbeats 40000000 in
theorem ReplayPlays_any (a : Option Addr) (len cap : Nat) (a1 a2 b1 b2 s : Int) (w : World) (hr : Elems w [some .i64, some .i64, some .u32, some .u64] a len) (ha1 : 0 ≤ a2) (ha2 : a2 ≤ topU) (hb1 : 0 ≤ b2) (hb2 : b2 ≤ topU) (hs1 : 0 ≤ s) (hs2 : s ≤ topU) :
    Calls Try.prog 12 #[.slice a len cap, .agg #[.int .u32 a1, .int .u64 a2], .agg #[.int .u32 b1, .int .u64 b2], .int .u64 s] w (Gives w (.bool true)) := by
  have HR := Lib.hid hr
  have hlen := hr.1
  have hz1 := Lib.hid ha1
  have hz2 := Lib.hid ha2
  have hz3 := Lib.hid hb1
  have hz4 := Lib.hid hb2
  have hz5 := Lib.hid hs1
  have hz6 := Lib.hid hs2
  clear hr ha1 ha2 hb1 hb2 hs1 hs2
  go_enter Try.func12, Try.ntmps12
  go_wp2_with fail
  refine (New_any _).mono ?_
  rintro e w1 ⟨c, b, rfl, hb, hc, ho, hbel⟩
  have HO := Lib.hid ho
  have HB := Lib.hid hbel
  have hb' := Lib.hid hb
  have hc' := Lib.hid hc
  clear ho hbel hb hc
  go_upto_block 0 with fail
  have hW0 : ∃ W0, W0 = (w.alloc (Obj.cells #[.int .u32 a1, .int .u64 a2] 56)).alloc (Obj.cells #[.int .u32 b1, .int .u64 b2] 56) := ⟨_, rfl⟩
  obtain ⟨W0, hW0⟩ := hW0
  have q1 : W0.cell? ⟨w.heap.size, 0, none⟩ = some (.int .u32 a1) := by rw [hW0]; simp
  have q2 : W0.cell? ⟨w.heap.size, 1, none⟩ = some (.int .u64 a2) := by rw [hW0]; simp
  have q3 : W0.cell? ⟨w.heap.size + 1, 0, none⟩ = some (.int .u32 b1) := by rw [hW0]; simp
  have q4 : W0.cell? ⟨w.heap.size + 1, 1, none⟩ = some (.int .u64 b2) := by rw [hW0]; simp
  have hz : W0.heap.size = w.heap.size + 2 := by rw [hW0]; simp
  have hbw : Below w.heap.size w W0 := by rw [hW0]; (repeat (first | (with_reducible exact Below.refl _ _) | (with_reducible assumption) | (with_reducible refine Below.alloc ?_ (by (repeat (first | (with_reducible exact Nat.le_refl _) | (with_reducible assumption) | (with_reducible refine le_up ?_) | (with_reducible refine le_alloc ?_) | (with_reducible refine le_setCell ?_) | (with_reducible refine le_drew ?_) | (with_reducible refine le_drewN ?_) | omega))) _) | (with_reducible refine Below.drew ?_) | (with_reducible refine Below.drewN ?_ _) | (with_reducible refine Below.setCell ?_ (by (repeat (first | (with_reducible exact Nat.le_refl _) | (with_reducible assumption) | (with_reducible refine le_up ?_) | (with_reducible refine le_alloc ?_) | (with_reducible refine le_setCell ?_) | (with_reducible refine le_drew ?_) | (with_reducible refine le_drewN ?_) | omega))) _) | (with_reducible refine Below.up ?_ (by (repeat (first | (with_reducible exact Nat.le_refl _) | (with_reducible assumption) | (with_reducible refine le_up ?_) | (with_reducible refine le_alloc ?_) | (with_reducible refine le_setCell ?_) | (with_reducible refine le_drew ?_) | (with_reducible refine le_drewN ?_) | omega))))))
  have hst : PlaysAt W0 c b w1.heap.size W0.heap.size (fun _ => none) 0 (w1.alloc (Obj.cells cells24 90)) := by
    have hb2 := HB.out
    have hb3 := hb'.out
    have hc3 := hc'.out
    rw [← hW0] at hb2 hb3 hc3
    exact ⟨⟨HO.out.alloc, RefT.new _ _, by have := HO.out.lt; omega, by have := HO.out.tab.lt; omega, fun i hi => by cases hi⟩, hb2.alloc hb2.size _, hb3, hc3, hb2.size⟩
  generalize w1.heap.size = y at *
  have Q1 := Lib.hid q1
  have Q2 := Lib.hid q2
  have Q3 := Lib.hid q3
  have Q4 := Lib.hid q4
  have HBW := Lib.hid hbw
  have HST := Lib.hid hst
  clear hW0 q1 q2 q3 q4 hbw hst HO HB hb' hc'
  go_cut [8, 11] from 12 to 124 (fun _ _ wc => ∃ (f : Int → Option MarkT) (n : Nat), PlaysAt W0 c b y W0.heap.size f n wc)
  case first =>
    go_wp2_with fail
    go_loopw [11] (fun v11 wr => ∃ (k n : Nat) (f : Int → Option MarkT), k ≤ 60 ∧ n ≤ k ∧ v11 = .int .i64 k ∧ PlaysAt W0 c b y W0.heap.size f n wr) (fun v11 _ => 60 - (intOf v11).toNat)
    case atStart => exact ⟨0, 0, _, by omega, Nat.le_refl _, rfl, HST.out⟩
    case round =>
      clear HST
      obtain ⟨k, n, f, hk, hn, rfl, ha⟩ := hrel
      have HA := Lib.hid ha
      have hbz := ha.bb
      have hcz := ha.bc
      have hyz := ha.bY
      have hszr := ha.bel.size
      clear ha
      by_cases hkl : k < len
      · by_cases hk60 : k < 60
        · obtain ⟨_, h0 | ⟨Bq, off, rfl, hBq, hcell⟩⟩ := HR.out
          · omega
          · obtain ⟨cs, hic, hcs⟩ := hcell k hkl
            obtain ⟨d, cs, rfl, hw0, hic⟩ := hic.cons
            obtain ⟨src, cs, rfl, hw1, hic⟩ := hic.cons
            obtain ⟨e1, cs, rfl, hw2, hic⟩ := hic.cons
            obtain ⟨e2, cs, rfl, hw3, hic⟩ := hic.cons
            obtain rfl := hic.nil
            obtain ⟨hs1, hs2⟩ := bounds_i64 hw1
            have hbwr : Below w.heap.size w wr := HBW.out.trans (HA.out.bel.mono (by omega))
            haveI : LtSize Bq wr := ⟨by omega⟩
            have a0 : wr.cell? ⟨Bq, off + k * 4, none⟩ = some (.int .i64 d) := by rw [hbwr.cell (p := ⟨Bq, _, none⟩) hBq]; exact hcs 0 (by decide)
            have x1 : wr.cell? ⟨Bq, off + k * 4 + 1, none⟩ = some (.int .i64 src) := by rw [hbwr.cell (p := ⟨Bq, _, none⟩) hBq]; exact hcs 1 (by decide)
            have x2 : wr.cell? ⟨Bq, off + k * 4 + 2, none⟩ = some (.int .u32 e1) := by rw [hbwr.cell (p := ⟨Bq, _, none⟩) hBq]; exact hcs 2 (by decide)
            have x3 : wr.cell? ⟨Bq, off + k * 4 + 3, none⟩ = some (.int .u64 e2) := by rw [hbwr.cell (p := ⟨Bq, _, none⟩) hBq]; exact hcs 3 (by decide)
            have HX1 := Lib.hid x1
            clear hcell hcs hw0 hw1 hw2 hw3 hbwr
            go_wp2_with fail
            refine (do_any c b y n W0.heap.size f d src e1 e2 _ HA.out.both (by omega) hs1 hs2 HA.out.bel.size hbz hyz).mono ?_
            rintro e w4 ⟨n2, rfl, hn2, hbo, hbe⟩
            have HBO := Lib.hid hbo
            have HBE := Lib.hid hbe
            clear hbo hbe a0 x1 x2 x3
            generalize hf' : takeF f src (e1, e2) = f' at *
            clear hf'
            go_wp2_with fail
            refine (All_any c b n2 f' _ HBO.out.obj HBO.out.src).mono ?_
            rintro e w5 ⟨g, rfl, hg, hgl, hb5, hrow⟩
            have HB5 := Lib.hid hb5
            have HRW := Lib.hid hrow
            have hbo5 := HBO.out.below hb5
            have HO5 := Lib.hid hbo5
            clear hb5 hrow hbo5
            go_wp2_with fail
            have hy5 := HO5.out.ref.row.lt
            have hc5 := HO5.out.obj.lt
            go_loopw [13] (fun v13 wq => ∃ (j : Nat), j ≤ 8 ∧ v13 = .int .i64 j ∧ ∃ x, wq = up w5 x) (fun v13 _ => 8 - (intOf v13).toNat)
            case atStart => exact ⟨0, by omega, rfl, ex_up (Below.refl _ _)⟩
            case round =>
              obtain ⟨j, hj, rfl, x, rfl⟩ := hrel
              haveI : LtSize y w5 := ⟨hy5⟩
              haveI : LtSize c w5 := ⟨hc5⟩
              haveI : LtSize g w5 := ⟨HRW.out.lt⟩
              by_cases hj8 : j < 8
              · have c1 := HO5.out.ref.row.at1 j hj8
                have c2 := HO5.out.ref.row.at2 j hj8
                have c3 := HO5.out.ref.has j hj8
                have c4 := HRW.out.at1 j hj8
                have c5 := HRW.out.at2 j hj8
                go_wp2_with (go_at_call 48; (first | with_reducible refine Calls.fold (Last_any c b n2 f' j _ HO5.out.obj.up (by omega) (by omega)) ?_ | with_reducible refine Calls.fresh (Last_any c b n2 f' j _ HO5.out.obj.up (by omega) (by omega)) ?_); intro x1)
                (refine wp_region_up (by kernel_rfl) (by kernel_rfl) ?_; (repeat (go_big_quiet_step (fail))); refine wpQuiet_nil ?_; intro _ hw'; obtain ⟨xq, hw''⟩ := hw'; subst hw'')
                go_wp2_with fail
                exact ⟨⟨j + 1, by omega, by go_num, ex_up (by (repeat (first | (with_reducible exact Below.refl _ _) | (with_reducible assumption) | (with_reducible refine Below.alloc ?_ (by (repeat (first | (with_reducible exact Nat.le_refl _) | (with_reducible assumption) | (with_reducible refine le_up ?_) | (with_reducible refine le_alloc ?_) | (with_reducible refine le_setCell ?_) | (with_reducible refine le_drew ?_) | (with_reducible refine le_drewN ?_) | omega))) _) | (with_reducible refine Below.drew ?_) | (with_reducible refine Below.drewN ?_ _) | (with_reducible refine Below.setCell ?_ (by (repeat (first | (with_reducible exact Nat.le_refl _) | (with_reducible assumption) | (with_reducible refine le_up ?_) | (with_reducible refine le_alloc ?_) | (with_reducible refine le_setCell ?_) | (with_reducible refine le_drew ?_) | (with_reducible refine le_drewN ?_) | omega))) _) | (with_reducible refine Below.up ?_ (by (repeat (first | (with_reducible exact Nat.le_refl _) | (with_reducible assumption) | (with_reducible refine le_up ?_) | (with_reducible refine le_alloc ?_) | (with_reducible refine le_setCell ?_) | (with_reducible refine le_drew ?_) | (with_reducible refine le_drewN ?_) | omega)))))))⟩, by simp [intOf]; omega⟩
              · have hj8' : j = 8 := by omega
                have x1 : w5.cell? ⟨Bq, off + k * 4 + 1, none⟩ = some (.int .i64 src) := by
                  have b1 : Below w.heap.size wr w5 := (HBE.out.mono (by omega)).trans (HB5.out.mono (by have := HBE.out.size; omega))
                  rw [b1.cell (p := ⟨Bq, _, none⟩) hBq]; exact HX1.out
                haveI : LtSize Bq w5 := ⟨by have := HBE.out.size; have := HB5.out.size; omega⟩
                have hend : ∀ x, PlaysAt W0 c b y W0.heap.size f' n2 (up w5 x) := fun x =>
                  ⟨HO5.out.up, below_up ((HA.out.bel.trans HBE.out).trans (HB5.out.mono (by have := HBE.out.size; omega))) (by have := HBE.out.size; have := HB5.out.size; omega) x, hbz, hcz, hyz⟩
                cases hsome : (f' src).isSome
                · go_wp2_with (go_at_call 48; (first | with_reducible refine Calls.fold ((Last_any c b n2 f' src _ HO5.out.obj.up hs1 hs2)) ?_ | with_reducible refine Calls.fresh ((Last_any c b n2 f' src _ HO5.out.obj.up hs1 hs2)) ?_); intro x1)
                  exact ⟨⟨k + 1, n2, f', by omega, by omega, by go_num, (hend _).alloc (Nat.le_refl _)⟩, by simp [intOf]; omega⟩
                · obtain ⟨g1, g2⟩ := HBO.out.src src hsome
                  have g3 : decide (src < 0) = false := by simp; omega
                  have g4 : decide (7 < src) = false := by simp; omega
                  go_wp2_with (go_at_call 48; (first | with_reducible refine Calls.fold ((Last_any c b n2 f' src _ HO5.out.obj.up hs1 hs2)) ?_ | with_reducible refine Calls.fresh ((Last_any c b n2 f' src _ HO5.out.obj.up hs1 hs2)) ?_); intro x1)
                  exact ⟨⟨k + 1, n2, f', by omega, by omega, by go_num, (hend _).alloc (Nat.le_refl _)⟩, by simp [intOf]; omega⟩
        · go_wp2_with fail
          go_meet
          exact ⟨f, n, HA.out⟩
      · go_wp2_with fail
        go_meet
        exact ⟨f, n, HA.out⟩
  case rest =>
    obtain ⟨f, n, ha⟩ := hcut
    obtain ⟨w3, hw3⟩ : ∃ w3, w3 = wc := ⟨_, rfl⟩
    subst hw3
    have m5 : IsMark w3 w.heap.size a1 a2 := by
      refine ⟨by have := ha.bel.size; omega, ?_, ?_⟩
      · rw [ha.bel.cell (p := ⟨w.heap.size, _, none⟩) (by show w.heap.size < _; omega)]; exact Q1.out
      · rw [ha.bel.cell (p := ⟨w.heap.size, _, none⟩) (by show w.heap.size < _; omega)]; exact Q2.out
    have m6 : IsMark w3 (w.heap.size + 1) b1 b2 := by
      refine ⟨by have := ha.bel.size; omega, ?_, ?_⟩
      · rw [ha.bel.cell (p := ⟨w.heap.size + 1, _, none⟩) (by show w.heap.size + 1 < _; omega)]; exact Q3.out
      · rw [ha.bel.cell (p := ⟨w.heap.size + 1, _, none⟩) (by show w.heap.size + 1 < _; omega)]; exact Q4.out
    have hbel := Lib.hid (HBW.out.trans (ha.bel.mono (by omega)))
    clear ha HST Q1 Q2 Q3 Q4 HBW
    generalize hp5 : w.heap.size = p5 at *
    go_upto_region 19 with fail
    go_cut [18, 19] from 125 to 134 (fun v18 v19 wx => ∃ p q : Nat, v18 = .pointer (some ⟨p, 0, none⟩) ∧ v19 = .pointer (some ⟨q, 0, none⟩) ∧ IsMark wx p a1 a2 ∧ IsMark wx q b1 b2 ∧ Below w3.heap.size w3 wx)
    case first =>
      haveI : LtSize p5 w3 := ⟨m5.1⟩
      haveI : LtSize (p5 + 1) w3 := ⟨m6.1⟩
      have k1 := m5.2.1
      have k2 := m5.2.2
      have k3 := m6.2.1
      have k4 := m6.2.2
      have K1 := Lib.hid k1
      have K2 := Lib.hid k2
      have K3 := Lib.hid k3
      have K4 := Lib.hid k4
      clear m5 m6
      go_region_held (fun W => W.cell? ⟨p5, 0, none⟩ = some (.int .u32 a1) ∧ W.cell? ⟨p5, 1, none⟩ = some (.int .u64 a2) ∧ W.cell? ⟨p5 + 1, 0, none⟩ = some (.int .u32 b1) ∧ W.cell? ⟨p5 + 1, 1, none⟩ = some (.int .u64 b2)) (first | exact ⟨K1.out, K2.out, K3.out, K4.out⟩ | (refine ⟨?_, ?_, ?_, ?_⟩ <;> simp [K1.out, K2.out, K3.out, K4.out])) (fail)
      all_goals go_wp2_with fail
      all_goals go_meet
      all_goals exact ⟨_, _, rfl, rfl, ⟨by simp <;> omega, by simp, by simp⟩, ⟨by simp <;> omega, by simp, by simp⟩, by (repeat (first | (with_reducible exact Below.refl _ _) | (with_reducible assumption) | (with_reducible refine Below.alloc ?_ (by (repeat (first | (with_reducible exact Nat.le_refl _) | (with_reducible assumption) | (with_reducible refine le_up ?_) | (with_reducible refine le_alloc ?_) | (with_reducible refine le_setCell ?_) | (with_reducible refine le_drew ?_) | (with_reducible refine le_drewN ?_) | omega))) _) | (with_reducible refine Below.drew ?_) | (with_reducible refine Below.drewN ?_ _) | (with_reducible refine Below.setCell ?_ (by (repeat (first | (with_reducible exact Nat.le_refl _) | (with_reducible assumption) | (with_reducible refine le_up ?_) | (with_reducible refine le_alloc ?_) | (with_reducible refine le_setCell ?_) | (with_reducible refine le_drew ?_) | (with_reducible refine le_drewN ?_) | omega))) _) | (with_reducible refine Below.up ?_ (by (repeat (first | (with_reducible exact Nat.le_refl _) | (with_reducible assumption) | (with_reducible refine le_up ?_) | (with_reducible refine le_alloc ?_) | (with_reducible refine le_setCell ?_) | (with_reducible refine le_drew ?_) | (with_reducible refine le_drewN ?_) | omega))))))⟩
    case rest =>
      obtain ⟨p, q, rfl, rfl, mp, mq, hb2⟩ := hcut
      have M5 := Lib.hid (m5.below hb2)
      have M6 := Lib.hid (m6.below hb2)
      have MP := Lib.hid mp
      have MQ := Lib.hid mq
      have HBL : Hid (Below p5 w wc) := Lib.hid (hbel.out.trans (hb2.mono (by have := hbel.out.size; omega)))
      clear m5 m6 mp mq hb2
      haveI : LtSize p wc := ⟨MP.out.1⟩
      haveI : LtSize q wc := ⟨MQ.out.1⟩
      haveI : LtSize p5 wc := ⟨M5.out.1⟩
      haveI : LtSize (p5 + 1) wc := ⟨M6.out.1⟩
      obtain ⟨w4, hw4⟩ : ∃ w4, w4 = wc := ⟨_, rfl⟩
      subst hw4
      go_upto_region 20 with fail
      go_cut [20, 21] from 135 to 140 (fun v20 v21 wx => ∃ r t : Nat, v20 = .pointer (some ⟨r, 0, none⟩) ∧ v21 = .pointer (some ⟨t, 0, none⟩) ∧ IsMark wx r a1 (aheadV a2 s) ∧ IsMark wx t a1 (aheadV a2 s) ∧ Below w4.heap.size w4 wx)
      case first =>
        refine wp_region_pre [(0, 0), (1, 1), (3, 0), (4, 1)] 6 (fun W => Below w4.heap.size w4 W) (by kernel_rfl) (by kernel_rfl) (fun d v c a w h => by cases d <;> exact h) (Below.drew (Below.refl _ _)) ?_
        refine wpPre_still ?sv1 rfl (by rfl) (fun W hW => ?sh1) ?sr1; (case sh1 => (obtain ⟨_, h2, h3⟩ := M5.out.below hW; go_simp; try (with_reducible rfl))); simp only [Act.put, List.getElem_toArray, List.getElem_cons_zero, List.getElem_cons_succ, List.setIfInBounds_toArray, List.set_cons_zero, List.set_cons_succ]
        refine wpPre_pure ?sv2 rfl (by rfl) (fun W => ?sh2) ?sr2; (case sh2 => (go_simp; try (with_reducible rfl))); simp only [Act.put, List.getElem_toArray, List.getElem_cons_zero, List.getElem_cons_succ, List.setIfInBounds_toArray, List.set_cons_zero, List.set_cons_succ]
        refine wpPre_still ?sv3 rfl (by rfl) (fun W hW => ?sh3) ?sr3; (case sh3 => (obtain ⟨_, h2, h3⟩ := MP.out.below hW; go_simp; try (with_reducible rfl))); simp only [Act.put, List.getElem_toArray, List.getElem_cons_zero, List.getElem_cons_succ, List.setIfInBounds_toArray, List.set_cons_zero, List.set_cons_succ]
        refine wpPre_pure ?sv4 rfl (by rfl) (fun W => ?sh4) ?sr4; (case sh4 => (go_simp; try (with_reducible rfl))); simp only [Act.put, List.getElem_toArray, List.getElem_cons_zero, List.getElem_cons_succ, List.setIfInBounds_toArray, List.set_cons_zero, List.set_cons_succ]
        refine wpPre_nil ?_
        have hb0 : Below w4.heap.size w4 w4.drew := Below.drew (Below.refl _ _)
        generalize w4.drew = W0 at *
        refine fork3 (i := 2) (j := 6) (k := 7) (by kernel_rfl) ?_ ?_ ?_
        · refine fork_gives 51 #[.agg #[.int .u32 a1, .int .u64 a2], .int .u64 s] _ rfl (by rfl) (by kernel_rfl) (Ahead_any _ _ _ _ hz1.out hz2.out hz5.out hz6.out) (fun W5 b5 => ?_)
          have hb5 := hb0.trans (b5.mono hb0.size)
          have hz5s := hb0.size
          refine ⟨hb5, ?_⟩
          refine fork3 (i := 5) (j := 6) (k := 7) (by kernel_rfl) ?_ ?_ ?_
          · refine fork_gives 52 #[.agg #[.int .u32 a1, .int .u64 a2], .int .u64 s] _ rfl (by rfl) (by kernel_rfl) (rAhead_any _ _ _ _ hz1.out hz2.out hz5.out hz6.out) (fun W6 b6 => ?_)
            have hb6 := hb5.trans (b6.mono hb5.size)
            have hz6s := hb5.size
            refine ⟨hb6, ?_⟩
            refine fork2 (i := 6) (j := 7) (by kernel_rfl) ?_ ?_
            · refine fork_new 56 #[.int .u32 0, .int .u64 0] rfl (by rfl) rfl run_al1 (fun W7 r b7 r1 r2 r3 => ?_)
              have hb7 := hb6.trans (b7.mono hb6.size)
              have hz7s := hb6.size
              have hR7 : Two w4 W7 r := ⟨by omega, r2, r3⟩
              refine ⟨hb7, ?_⟩
              refine fork1 (i := 7) (by kernel_rfl) ?_
              refine fork_new 86 #[.int .u32 0, .int .u64 0] rfl (by rfl) rfl run_al2 (fun W8 t b8 t1 t2 t3 => ?_)
              have hb8 := hb7.trans (b8.mono hb7.size)
              have hz8s := hb7.size
              have hR8 := hR7.below b8
              have hT8 : Two w4 W8 t := ⟨by omega, t2, t3⟩
              have hne : r ≠ t := by have := hR7.lt; omega
              refine ⟨hb8, ?_⟩
              refine fork1 (i := 8) (by kernel_rfl) ?_
              have hL := two_marks hb8 hR8 hT8 hne a1 (aheadV a2 s)
              refine fork_store rfl (by rfl) (exec_store 56 (.tmp 20) (.tmp 137) r 0 [.int .u32 a1, .int .u64 (aheadV a2 s)] rfl (by rfl) (by rfl) hR8.th (by kernel_rfl) (two_one _ _)) hL.1 ?_
              refine fork1 (i := 9) (by kernel_rfl) ?_
              refine fork_store rfl (by rfl) (exec_store 86 (.tmp 21) (.tmp 140) t 0 [.int .u32 a1, .int .u64 (aheadV a2 s)] rfl (by rfl) (by rfl) hL.2.1 (by kernel_rfl) (two_one _ _)) hL.2.2.2.2 ?_
              refine fork_end (by kernel_rfl) ?_
              simp only [Act.put, List.getElem_toArray, List.getElem_cons_zero, List.getElem_cons_succ, List.setIfInBounds_toArray, List.set_cons_zero, List.set_cons_succ]
              go_wp2_with fail; go_meet; exact ⟨_, _, rfl, rfl, hL.2.2.1, hL.2.2.2.1, hL.2.2.2.2⟩
            · refine fork_new 86 #[.int .u32 0, .int .u64 0] rfl (by rfl) rfl run_al2 (fun W11 t b11 t1 t2 t3 => ?_)
              have hb11 := hb6.trans (b11.mono hb6.size)
              have hz11s := hb6.size
              have hT11 : Two w4 W11 t := ⟨by omega, t2, t3⟩
              refine ⟨hb11, ?_⟩
              refine fork1 (i := 6) (by kernel_rfl) ?_
              refine fork_new 56 #[.int .u32 0, .int .u64 0] rfl (by rfl) rfl run_al1 (fun W12 r b12 r1 r2 r3 => ?_)
              have hb12 := hb11.trans (b12.mono hb11.size)
              have hz12s := hb11.size
              have hT12 := hT11.below b12
              have hR12 : Two w4 W12 r := ⟨by omega, r2, r3⟩
              have hne : r ≠ t := by have := hT11.lt; omega
              refine ⟨hb12, ?_⟩
              refine fork1 (i := 8) (by kernel_rfl) ?_
              have hL := two_marks hb12 hR12 hT12 hne a1 (aheadV a2 s)
              refine fork_store rfl (by rfl) (exec_store 56 (.tmp 20) (.tmp 137) r 0 [.int .u32 a1, .int .u64 (aheadV a2 s)] rfl (by rfl) (by rfl) hR12.th (by kernel_rfl) (two_one _ _)) hL.1 ?_
              refine fork1 (i := 9) (by kernel_rfl) ?_
              refine fork_store rfl (by rfl) (exec_store 86 (.tmp 21) (.tmp 140) t 0 [.int .u32 a1, .int .u64 (aheadV a2 s)] rfl (by rfl) (by rfl) hL.2.1 (by kernel_rfl) (two_one _ _)) hL.2.2.2.2 ?_
              refine fork_end (by kernel_rfl) ?_
              simp only [Act.put, List.getElem_toArray, List.getElem_cons_zero, List.getElem_cons_succ, List.setIfInBounds_toArray, List.set_cons_zero, List.set_cons_succ]
              go_wp2_with fail; go_meet; exact ⟨_, _, rfl, rfl, hL.2.2.1, hL.2.2.2.1, hL.2.2.2.2⟩
          · refine fork_new 56 #[.int .u32 0, .int .u64 0] rfl (by rfl) rfl run_al1 (fun W15 r b15 r1 r2 r3 => ?_)
            have hb15 := hb5.trans (b15.mono hb5.size)
            have hz15s := hb5.size
            have hR15 : Two w4 W15 r := ⟨by omega, r2, r3⟩
            refine ⟨hb15, ?_⟩
            refine fork2 (i := 5) (j := 7) (by kernel_rfl) ?_ ?_
            · refine fork_gives 52 #[.agg #[.int .u32 a1, .int .u64 a2], .int .u64 s] _ rfl (by rfl) (by kernel_rfl) (rAhead_any _ _ _ _ hz1.out hz2.out hz5.out hz6.out) (fun W16 b16 => ?_)
              have hb16 := hb15.trans (b16.mono hb15.size)
              have hz16s := hb15.size
              have hR16 := hR15.below b16
              refine ⟨hb16, ?_⟩
              refine fork1 (i := 7) (by kernel_rfl) ?_
              refine fork_new 86 #[.int .u32 0, .int .u64 0] rfl (by rfl) rfl run_al2 (fun W17 t b17 t1 t2 t3 => ?_)
              have hb17 := hb16.trans (b17.mono hb16.size)
              have hz17s := hb16.size
              have hR17 := hR16.below b17
              have hT17 : Two w4 W17 t := ⟨by omega, t2, t3⟩
              have hne : r ≠ t := by have := hR16.lt; omega
              refine ⟨hb17, ?_⟩
              refine fork1 (i := 8) (by kernel_rfl) ?_
              have hL := two_marks hb17 hR17 hT17 hne a1 (aheadV a2 s)
              refine fork_store rfl (by rfl) (exec_store 56 (.tmp 20) (.tmp 137) r 0 [.int .u32 a1, .int .u64 (aheadV a2 s)] rfl (by rfl) (by rfl) hR17.th (by kernel_rfl) (two_one _ _)) hL.1 ?_
              refine fork1 (i := 9) (by kernel_rfl) ?_
              refine fork_store rfl (by rfl) (exec_store 86 (.tmp 21) (.tmp 140) t 0 [.int .u32 a1, .int .u64 (aheadV a2 s)] rfl (by rfl) (by rfl) hL.2.1 (by kernel_rfl) (two_one _ _)) hL.2.2.2.2 ?_
              refine fork_end (by kernel_rfl) ?_
              simp only [Act.put, List.getElem_toArray, List.getElem_cons_zero, List.getElem_cons_succ, List.setIfInBounds_toArray, List.set_cons_zero, List.set_cons_succ]
              go_wp2_with fail; go_meet; exact ⟨_, _, rfl, rfl, hL.2.2.1, hL.2.2.2.1, hL.2.2.2.2⟩
            · refine fork_new 86 #[.int .u32 0, .int .u64 0] rfl (by rfl) rfl run_al2 (fun W20 t b20 t1 t2 t3 => ?_)
              have hb20 := hb15.trans (b20.mono hb15.size)
              have hz20s := hb15.size
              have hR20 := hR15.below b20
              have hT20 : Two w4 W20 t := ⟨by omega, t2, t3⟩
              have hne : r ≠ t := by have := hR15.lt; omega
              refine ⟨hb20, ?_⟩
              refine fork1 (i := 5) (by kernel_rfl) ?_
              refine fork_gives 52 #[.agg #[.int .u32 a1, .int .u64 a2], .int .u64 s] _ rfl (by rfl) (by kernel_rfl) (rAhead_any _ _ _ _ hz1.out hz2.out hz5.out hz6.out) (fun W21 b21 => ?_)
              have hb21 := hb20.trans (b21.mono hb20.size)
              have hz21s := hb20.size
              have hR21 := hR20.below b21
              have hT21 := hT20.below b21
              refine ⟨hb21, ?_⟩
              refine fork1 (i := 8) (by kernel_rfl) ?_
              have hL := two_marks hb21 hR21 hT21 hne a1 (aheadV a2 s)
              refine fork_store rfl (by rfl) (exec_store 56 (.tmp 20) (.tmp 137) r 0 [.int .u32 a1, .int .u64 (aheadV a2 s)] rfl (by rfl) (by rfl) hR21.th (by kernel_rfl) (two_one _ _)) hL.1 ?_
              refine fork1 (i := 9) (by kernel_rfl) ?_
              refine fork_store rfl (by rfl) (exec_store 86 (.tmp 21) (.tmp 140) t 0 [.int .u32 a1, .int .u64 (aheadV a2 s)] rfl (by rfl) (by rfl) hL.2.1 (by kernel_rfl) (two_one _ _)) hL.2.2.2.2 ?_
              refine fork_end (by kernel_rfl) ?_
              simp only [Act.put, List.getElem_toArray, List.getElem_cons_zero, List.getElem_cons_succ, List.setIfInBounds_toArray, List.set_cons_zero, List.set_cons_succ]
              go_wp2_with fail; go_meet; exact ⟨_, _, rfl, rfl, hL.2.2.1, hL.2.2.2.1, hL.2.2.2.2⟩
          · refine fork_new 86 #[.int .u32 0, .int .u64 0] rfl (by rfl) rfl run_al2 (fun W24 t b24 t1 t2 t3 => ?_)
            have hb24 := hb5.trans (b24.mono hb5.size)
            have hz24s := hb5.size
            have hT24 : Two w4 W24 t := ⟨by omega, t2, t3⟩
            refine ⟨hb24, ?_⟩
            refine fork2 (i := 5) (j := 6) (by kernel_rfl) ?_ ?_
            · refine fork_gives 52 #[.agg #[.int .u32 a1, .int .u64 a2], .int .u64 s] _ rfl (by rfl) (by kernel_rfl) (rAhead_any _ _ _ _ hz1.out hz2.out hz5.out hz6.out) (fun W25 b25 => ?_)
              have hb25 := hb24.trans (b25.mono hb24.size)
              have hz25s := hb24.size
              have hT25 := hT24.below b25
              refine ⟨hb25, ?_⟩
              refine fork1 (i := 6) (by kernel_rfl) ?_
              refine fork_new 56 #[.int .u32 0, .int .u64 0] rfl (by rfl) rfl run_al1 (fun W26 r b26 r1 r2 r3 => ?_)
              have hb26 := hb25.trans (b26.mono hb25.size)
              have hz26s := hb25.size
              have hT26 := hT25.below b26
              have hR26 : Two w4 W26 r := ⟨by omega, r2, r3⟩
              have hne : r ≠ t := by have := hT25.lt; omega
              refine ⟨hb26, ?_⟩
              refine fork1 (i := 8) (by kernel_rfl) ?_
              have hL := two_marks hb26 hR26 hT26 hne a1 (aheadV a2 s)
              refine fork_store rfl (by rfl) (exec_store 56 (.tmp 20) (.tmp 137) r 0 [.int .u32 a1, .int .u64 (aheadV a2 s)] rfl (by rfl) (by rfl) hR26.th (by kernel_rfl) (two_one _ _)) hL.1 ?_
              refine fork1 (i := 9) (by kernel_rfl) ?_
              refine fork_store rfl (by rfl) (exec_store 86 (.tmp 21) (.tmp 140) t 0 [.int .u32 a1, .int .u64 (aheadV a2 s)] rfl (by rfl) (by rfl) hL.2.1 (by kernel_rfl) (two_one _ _)) hL.2.2.2.2 ?_
              refine fork_end (by kernel_rfl) ?_
              simp only [Act.put, List.getElem_toArray, List.getElem_cons_zero, List.getElem_cons_succ, List.setIfInBounds_toArray, List.set_cons_zero, List.set_cons_succ]
              go_wp2_with fail; go_meet; exact ⟨_, _, rfl, rfl, hL.2.2.1, hL.2.2.2.1, hL.2.2.2.2⟩
            · refine fork_new 56 #[.int .u32 0, .int .u64 0] rfl (by rfl) rfl run_al1 (fun W29 r b29 r1 r2 r3 => ?_)
              have hb29 := hb24.trans (b29.mono hb24.size)
              have hz29s := hb24.size
              have hT29 := hT24.below b29
              have hR29 : Two w4 W29 r := ⟨by omega, r2, r3⟩
              have hne : r ≠ t := by have := hT24.lt; omega
              refine ⟨hb29, ?_⟩
              refine fork1 (i := 5) (by kernel_rfl) ?_
              refine fork_gives 52 #[.agg #[.int .u32 a1, .int .u64 a2], .int .u64 s] _ rfl (by rfl) (by kernel_rfl) (rAhead_any _ _ _ _ hz1.out hz2.out hz5.out hz6.out) (fun W30 b30 => ?_)
              have hb30 := hb29.trans (b30.mono hb29.size)
              have hz30s := hb29.size
              have hR30 := hR29.below b30
              have hT30 := hT29.below b30
              refine ⟨hb30, ?_⟩
              refine fork1 (i := 8) (by kernel_rfl) ?_
              have hL := two_marks hb30 hR30 hT30 hne a1 (aheadV a2 s)
              refine fork_store rfl (by rfl) (exec_store 56 (.tmp 20) (.tmp 137) r 0 [.int .u32 a1, .int .u64 (aheadV a2 s)] rfl (by rfl) (by rfl) hR30.th (by kernel_rfl) (two_one _ _)) hL.1 ?_
              refine fork1 (i := 9) (by kernel_rfl) ?_
              refine fork_store rfl (by rfl) (exec_store 86 (.tmp 21) (.tmp 140) t 0 [.int .u32 a1, .int .u64 (aheadV a2 s)] rfl (by rfl) (by rfl) hL.2.1 (by kernel_rfl) (two_one _ _)) hL.2.2.2.2 ?_
              refine fork_end (by kernel_rfl) ?_
              simp only [Act.put, List.getElem_toArray, List.getElem_cons_zero, List.getElem_cons_succ, List.setIfInBounds_toArray, List.set_cons_zero, List.set_cons_succ]
              go_wp2_with fail; go_meet; exact ⟨_, _, rfl, rfl, hL.2.2.1, hL.2.2.2.1, hL.2.2.2.2⟩
        · refine fork_new 56 #[.int .u32 0, .int .u64 0] rfl (by rfl) rfl run_al1 (fun W33 r b33 r1 r2 r3 => ?_)
          have hb33 := hb0.trans (b33.mono hb0.size)
          have hz33s := hb0.size
          have hR33 : Two w4 W33 r := ⟨by omega, r2, r3⟩
          refine ⟨hb33, ?_⟩
          refine fork2 (i := 2) (j := 7) (by kernel_rfl) ?_ ?_
          · refine fork_gives 51 #[.agg #[.int .u32 a1, .int .u64 a2], .int .u64 s] _ rfl (by rfl) (by kernel_rfl) (Ahead_any _ _ _ _ hz1.out hz2.out hz5.out hz6.out) (fun W34 b34 => ?_)
            have hb34 := hb33.trans (b34.mono hb33.size)
            have hz34s := hb33.size
            have hR34 := hR33.below b34
            refine ⟨hb34, ?_⟩
            refine fork2 (i := 5) (j := 7) (by kernel_rfl) ?_ ?_
            · refine fork_gives 52 #[.agg #[.int .u32 a1, .int .u64 a2], .int .u64 s] _ rfl (by rfl) (by kernel_rfl) (rAhead_any _ _ _ _ hz1.out hz2.out hz5.out hz6.out) (fun W35 b35 => ?_)
              have hb35 := hb34.trans (b35.mono hb34.size)
              have hz35s := hb34.size
              have hR35 := hR34.below b35
              refine ⟨hb35, ?_⟩
              refine fork1 (i := 7) (by kernel_rfl) ?_
              refine fork_new 86 #[.int .u32 0, .int .u64 0] rfl (by rfl) rfl run_al2 (fun W36 t b36 t1 t2 t3 => ?_)
              have hb36 := hb35.trans (b36.mono hb35.size)
              have hz36s := hb35.size
              have hR36 := hR35.below b36
              have hT36 : Two w4 W36 t := ⟨by omega, t2, t3⟩
              have hne : r ≠ t := by have := hR35.lt; omega
              refine ⟨hb36, ?_⟩
              refine fork1 (i := 8) (by kernel_rfl) ?_
              have hL := two_marks hb36 hR36 hT36 hne a1 (aheadV a2 s)
              refine fork_store rfl (by rfl) (exec_store 56 (.tmp 20) (.tmp 137) r 0 [.int .u32 a1, .int .u64 (aheadV a2 s)] rfl (by rfl) (by rfl) hR36.th (by kernel_rfl) (two_one _ _)) hL.1 ?_
              refine fork1 (i := 9) (by kernel_rfl) ?_
              refine fork_store rfl (by rfl) (exec_store 86 (.tmp 21) (.tmp 140) t 0 [.int .u32 a1, .int .u64 (aheadV a2 s)] rfl (by rfl) (by rfl) hL.2.1 (by kernel_rfl) (two_one _ _)) hL.2.2.2.2 ?_
              refine fork_end (by kernel_rfl) ?_
              simp only [Act.put, List.getElem_toArray, List.getElem_cons_zero, List.getElem_cons_succ, List.setIfInBounds_toArray, List.set_cons_zero, List.set_cons_succ]
              go_wp2_with fail; go_meet; exact ⟨_, _, rfl, rfl, hL.2.2.1, hL.2.2.2.1, hL.2.2.2.2⟩
            · refine fork_new 86 #[.int .u32 0, .int .u64 0] rfl (by rfl) rfl run_al2 (fun W39 t b39 t1 t2 t3 => ?_)
              have hb39 := hb34.trans (b39.mono hb34.size)
              have hz39s := hb34.size
              have hR39 := hR34.below b39
              have hT39 : Two w4 W39 t := ⟨by omega, t2, t3⟩
              have hne : r ≠ t := by have := hR34.lt; omega
              refine ⟨hb39, ?_⟩
              refine fork1 (i := 5) (by kernel_rfl) ?_
              refine fork_gives 52 #[.agg #[.int .u32 a1, .int .u64 a2], .int .u64 s] _ rfl (by rfl) (by kernel_rfl) (rAhead_any _ _ _ _ hz1.out hz2.out hz5.out hz6.out) (fun W40 b40 => ?_)
              have hb40 := hb39.trans (b40.mono hb39.size)
              have hz40s := hb39.size
              have hR40 := hR39.below b40
              have hT40 := hT39.below b40
              refine ⟨hb40, ?_⟩
              refine fork1 (i := 8) (by kernel_rfl) ?_
              have hL := two_marks hb40 hR40 hT40 hne a1 (aheadV a2 s)
              refine fork_store rfl (by rfl) (exec_store 56 (.tmp 20) (.tmp 137) r 0 [.int .u32 a1, .int .u64 (aheadV a2 s)] rfl (by rfl) (by rfl) hR40.th (by kernel_rfl) (two_one _ _)) hL.1 ?_
              refine fork1 (i := 9) (by kernel_rfl) ?_
              refine fork_store rfl (by rfl) (exec_store 86 (.tmp 21) (.tmp 140) t 0 [.int .u32 a1, .int .u64 (aheadV a2 s)] rfl (by rfl) (by rfl) hL.2.1 (by kernel_rfl) (two_one _ _)) hL.2.2.2.2 ?_
              refine fork_end (by kernel_rfl) ?_
              simp only [Act.put, List.getElem_toArray, List.getElem_cons_zero, List.getElem_cons_succ, List.setIfInBounds_toArray, List.set_cons_zero, List.set_cons_succ]
              go_wp2_with fail; go_meet; exact ⟨_, _, rfl, rfl, hL.2.2.1, hL.2.2.2.1, hL.2.2.2.2⟩
          · refine fork_new 86 #[.int .u32 0, .int .u64 0] rfl (by rfl) rfl run_al2 (fun W43 t b43 t1 t2 t3 => ?_)
            have hb43 := hb33.trans (b43.mono hb33.size)
            have hz43s := hb33.size
            have hR43 := hR33.below b43
            have hT43 : Two w4 W43 t := ⟨by omega, t2, t3⟩
            have hne : r ≠ t := by have := hR33.lt; omega
            refine ⟨hb43, ?_⟩
            refine fork1 (i := 2) (by kernel_rfl) ?_
            refine fork_gives 51 #[.agg #[.int .u32 a1, .int .u64 a2], .int .u64 s] _ rfl (by rfl) (by kernel_rfl) (Ahead_any _ _ _ _ hz1.out hz2.out hz5.out hz6.out) (fun W44 b44 => ?_)
            have hb44 := hb43.trans (b44.mono hb43.size)
            have hz44s := hb43.size
            have hR44 := hR43.below b44
            have hT44 := hT43.below b44
            refine ⟨hb44, ?_⟩
            refine fork1 (i := 5) (by kernel_rfl) ?_
            refine fork_gives 52 #[.agg #[.int .u32 a1, .int .u64 a2], .int .u64 s] _ rfl (by rfl) (by kernel_rfl) (rAhead_any _ _ _ _ hz1.out hz2.out hz5.out hz6.out) (fun W45 b45 => ?_)
            have hb45 := hb44.trans (b45.mono hb44.size)
            have hz45s := hb44.size
            have hR45 := hR44.below b45
            have hT45 := hT44.below b45
            refine ⟨hb45, ?_⟩
            refine fork1 (i := 8) (by kernel_rfl) ?_
            have hL := two_marks hb45 hR45 hT45 hne a1 (aheadV a2 s)
            refine fork_store rfl (by rfl) (exec_store 56 (.tmp 20) (.tmp 137) r 0 [.int .u32 a1, .int .u64 (aheadV a2 s)] rfl (by rfl) (by rfl) hR45.th (by kernel_rfl) (two_one _ _)) hL.1 ?_
            refine fork1 (i := 9) (by kernel_rfl) ?_
            refine fork_store rfl (by rfl) (exec_store 86 (.tmp 21) (.tmp 140) t 0 [.int .u32 a1, .int .u64 (aheadV a2 s)] rfl (by rfl) (by rfl) hL.2.1 (by kernel_rfl) (two_one _ _)) hL.2.2.2.2 ?_
            refine fork_end (by kernel_rfl) ?_
            simp only [Act.put, List.getElem_toArray, List.getElem_cons_zero, List.getElem_cons_succ, List.setIfInBounds_toArray, List.set_cons_zero, List.set_cons_succ]
            go_wp2_with fail; go_meet; exact ⟨_, _, rfl, rfl, hL.2.2.1, hL.2.2.2.1, hL.2.2.2.2⟩
        · refine fork_new 86 #[.int .u32 0, .int .u64 0] rfl (by rfl) rfl run_al2 (fun W48 t b48 t1 t2 t3 => ?_)
          have hb48 := hb0.trans (b48.mono hb0.size)
          have hz48s := hb0.size
          have hT48 : Two w4 W48 t := ⟨by omega, t2, t3⟩
          refine ⟨hb48, ?_⟩
          refine fork2 (i := 2) (j := 6) (by kernel_rfl) ?_ ?_
          · refine fork_gives 51 #[.agg #[.int .u32 a1, .int .u64 a2], .int .u64 s] _ rfl (by rfl) (by kernel_rfl) (Ahead_any _ _ _ _ hz1.out hz2.out hz5.out hz6.out) (fun W49 b49 => ?_)
            have hb49 := hb48.trans (b49.mono hb48.size)
            have hz49s := hb48.size
            have hT49 := hT48.below b49
            refine ⟨hb49, ?_⟩
            refine fork2 (i := 5) (j := 6) (by kernel_rfl) ?_ ?_
            · refine fork_gives 52 #[.agg #[.int .u32 a1, .int .u64 a2], .int .u64 s] _ rfl (by rfl) (by kernel_rfl) (rAhead_any _ _ _ _ hz1.out hz2.out hz5.out hz6.out) (fun W50 b50 => ?_)
              have hb50 := hb49.trans (b50.mono hb49.size)
              have hz50s := hb49.size
              have hT50 := hT49.below b50
              refine ⟨hb50, ?_⟩
              refine fork1 (i := 6) (by kernel_rfl) ?_
              refine fork_new 56 #[.int .u32 0, .int .u64 0] rfl (by rfl) rfl run_al1 (fun W51 r b51 r1 r2 r3 => ?_)
              have hb51 := hb50.trans (b51.mono hb50.size)
              have hz51s := hb50.size
              have hT51 := hT50.below b51
              have hR51 : Two w4 W51 r := ⟨by omega, r2, r3⟩
              have hne : r ≠ t := by have := hT50.lt; omega
              refine ⟨hb51, ?_⟩
              refine fork1 (i := 8) (by kernel_rfl) ?_
              have hL := two_marks hb51 hR51 hT51 hne a1 (aheadV a2 s)
              refine fork_store rfl (by rfl) (exec_store 56 (.tmp 20) (.tmp 137) r 0 [.int .u32 a1, .int .u64 (aheadV a2 s)] rfl (by rfl) (by rfl) hR51.th (by kernel_rfl) (two_one _ _)) hL.1 ?_
              refine fork1 (i := 9) (by kernel_rfl) ?_
              refine fork_store rfl (by rfl) (exec_store 86 (.tmp 21) (.tmp 140) t 0 [.int .u32 a1, .int .u64 (aheadV a2 s)] rfl (by rfl) (by rfl) hL.2.1 (by kernel_rfl) (two_one _ _)) hL.2.2.2.2 ?_
              refine fork_end (by kernel_rfl) ?_
              simp only [Act.put, List.getElem_toArray, List.getElem_cons_zero, List.getElem_cons_succ, List.setIfInBounds_toArray, List.set_cons_zero, List.set_cons_succ]
              go_wp2_with fail; go_meet; exact ⟨_, _, rfl, rfl, hL.2.2.1, hL.2.2.2.1, hL.2.2.2.2⟩
            · refine fork_new 56 #[.int .u32 0, .int .u64 0] rfl (by rfl) rfl run_al1 (fun W54 r b54 r1 r2 r3 => ?_)
              have hb54 := hb49.trans (b54.mono hb49.size)
              have hz54s := hb49.size
              have hT54 := hT49.below b54
              have hR54 : Two w4 W54 r := ⟨by omega, r2, r3⟩
              have hne : r ≠ t := by have := hT49.lt; omega
              refine ⟨hb54, ?_⟩
              refine fork1 (i := 5) (by kernel_rfl) ?_
              refine fork_gives 52 #[.agg #[.int .u32 a1, .int .u64 a2], .int .u64 s] _ rfl (by rfl) (by kernel_rfl) (rAhead_any _ _ _ _ hz1.out hz2.out hz5.out hz6.out) (fun W55 b55 => ?_)
              have hb55 := hb54.trans (b55.mono hb54.size)
              have hz55s := hb54.size
              have hR55 := hR54.below b55
              have hT55 := hT54.below b55
              refine ⟨hb55, ?_⟩
              refine fork1 (i := 8) (by kernel_rfl) ?_
              have hL := two_marks hb55 hR55 hT55 hne a1 (aheadV a2 s)
              refine fork_store rfl (by rfl) (exec_store 56 (.tmp 20) (.tmp 137) r 0 [.int .u32 a1, .int .u64 (aheadV a2 s)] rfl (by rfl) (by rfl) hR55.th (by kernel_rfl) (two_one _ _)) hL.1 ?_
              refine fork1 (i := 9) (by kernel_rfl) ?_
              refine fork_store rfl (by rfl) (exec_store 86 (.tmp 21) (.tmp 140) t 0 [.int .u32 a1, .int .u64 (aheadV a2 s)] rfl (by rfl) (by rfl) hL.2.1 (by kernel_rfl) (two_one _ _)) hL.2.2.2.2 ?_
              refine fork_end (by kernel_rfl) ?_
              simp only [Act.put, List.getElem_toArray, List.getElem_cons_zero, List.getElem_cons_succ, List.setIfInBounds_toArray, List.set_cons_zero, List.set_cons_succ]
              go_wp2_with fail; go_meet; exact ⟨_, _, rfl, rfl, hL.2.2.1, hL.2.2.2.1, hL.2.2.2.2⟩
          · refine fork_new 56 #[.int .u32 0, .int .u64 0] rfl (by rfl) rfl run_al1 (fun W58 r b58 r1 r2 r3 => ?_)
            have hb58 := hb48.trans (b58.mono hb48.size)
            have hz58s := hb48.size
            have hT58 := hT48.below b58
            have hR58 : Two w4 W58 r := ⟨by omega, r2, r3⟩
            have hne : r ≠ t := by have := hT48.lt; omega
            refine ⟨hb58, ?_⟩
            refine fork1 (i := 2) (by kernel_rfl) ?_
            refine fork_gives 51 #[.agg #[.int .u32 a1, .int .u64 a2], .int .u64 s] _ rfl (by rfl) (by kernel_rfl) (Ahead_any _ _ _ _ hz1.out hz2.out hz5.out hz6.out) (fun W59 b59 => ?_)
            have hb59 := hb58.trans (b59.mono hb58.size)
            have hz59s := hb58.size
            have hR59 := hR58.below b59
            have hT59 := hT58.below b59
            refine ⟨hb59, ?_⟩
            refine fork1 (i := 5) (by kernel_rfl) ?_
            refine fork_gives 52 #[.agg #[.int .u32 a1, .int .u64 a2], .int .u64 s] _ rfl (by rfl) (by kernel_rfl) (rAhead_any _ _ _ _ hz1.out hz2.out hz5.out hz6.out) (fun W60 b60 => ?_)
            have hb60 := hb59.trans (b60.mono hb59.size)
            have hz60s := hb59.size
            have hR60 := hR59.below b60
            have hT60 := hT59.below b60
            refine ⟨hb60, ?_⟩
            refine fork1 (i := 8) (by kernel_rfl) ?_
            have hL := two_marks hb60 hR60 hT60 hne a1 (aheadV a2 s)
            refine fork_store rfl (by rfl) (exec_store 56 (.tmp 20) (.tmp 137) r 0 [.int .u32 a1, .int .u64 (aheadV a2 s)] rfl (by rfl) (by rfl) hR60.th (by kernel_rfl) (two_one _ _)) hL.1 ?_
            refine fork1 (i := 9) (by kernel_rfl) ?_
            refine fork_store rfl (by rfl) (exec_store 86 (.tmp 21) (.tmp 140) t 0 [.int .u32 a1, .int .u64 (aheadV a2 s)] rfl (by rfl) (by rfl) hL.2.1 (by kernel_rfl) (two_one _ _)) hL.2.2.2.2 ?_
            refine fork_end (by kernel_rfl) ?_
            simp only [Act.put, List.getElem_toArray, List.getElem_cons_zero, List.getElem_cons_succ, List.setIfInBounds_toArray, List.set_cons_zero, List.set_cons_succ]
            go_wp2_with fail; go_meet; exact ⟨_, _, rfl, rfl, hL.2.2.1, hL.2.2.2.1, hL.2.2.2.2⟩
      case rest =>
        obtain ⟨r, t, rfl, rfl, mr, mt, hb3⟩ := hcut
        have m5 := M5.out.below hb3
        have m6 := M6.out.below hb3
        have mp := MP.out.below hb3
        have mq := MQ.out.below hb3
        haveI : LtSize p wc := ⟨mp.1⟩
        haveI : LtSize q wc := ⟨mq.1⟩
        haveI : LtSize p5 wc := ⟨m5.1⟩
        haveI : LtSize (p5 + 1) wc := ⟨m6.1⟩
        haveI : LtSize r wc := ⟨mr.1⟩
        haveI : LtSize t wc := ⟨mt.1⟩
        have HBE : Hid (Below p5 w wc) := Lib.hid (HBL.out.trans (hb3.mono (by have := HBL.out.size; omega)))
        obtain ⟨_, c1, c2⟩ := m5
        obtain ⟨_, c3, c4⟩ := m6
        obtain ⟨_, c5, c6⟩ := mp
        obtain ⟨_, c7, c8⟩ := mq
        obtain ⟨_, c9, c10⟩ := mr
        obtain ⟨_, c11, c12⟩ := mt
        clear M5 M6 MP MQ HBL hbel hb3
        go_wp2_with fail
        (refine wp_region_up (by kernel_rfl) (by kernel_rfl) ?_; (repeat (go_big_quiet_step (first | (go_at_call 36; exact Calls.up_gives (Greater_any _ _ _ _ _)) | (go_at_call 53; exact Calls.up_gives (rGreater_any _ _ _ _ _)) | (go_at_call 32; exact Calls.up_gives (works17 _))))); refine wpQuiet_nil ?_; intro _ hw'; obtain ⟨xq, hw''⟩ := hw'; subst hw'')
        go_wp2_with fail
        go_ret
        exact Gives.mk rfl (by rw [hp5]; exact below_up HBE.out (by have := HBE.out.size; omega) _)
end Go.Proofs.Ytbfloidogdjccaa
