/-
  The law StuckPlays, walked.
-/
import Derived.Test.YtihalkpcddnikaaStuC
import Derived.Test.YtihalkpcddnikaaElemB
import Derived.Test.YtihalkpcddnikaaBaseB
namespace Go.Proofs.Ytihalkpcddnikaa
open Go.RowKit
set_option linter.unusedVariables false
set_option linter.unusedSimpArgs false

structure StuRel (w : World) (c b d : Nat) (same rate : Int) (k n : Nat) (f : Int → Option StO) (W : World) : Prop where
  st : Stu2 w c b d n same rate f (lastL f) W
  ok : StOK same rate f k
  nk : n ≤ k
  k60 : k ≤ 60
set_option maxRecDepth 100000 in
set_option maxHeartbeats 8000000 in
theorem StuckPlays_any (same rate : Int) (a : Option Addr) (len cap : Nat) (w : World) (r2 : rate ≤ 9223372036854775807) (hr : Elems w [some .i64, some .i64, some .i64, some .i64, some .i64, some .i64] a len) :
    Calls Try.prog 4 #[.int .i64 same, .int .i64 rate, .slice a len cap] w (Gives w (.bool true)) := by
  have HR := Lib.hid hr
  have hlen := hr.1
  clear hr
  cases hnew : stNewB same rate
  · have HWK := Lib.hid (works24 w)
    by_cases h0 : 0 < len
    all_goals
      go_enter Try.func4, Try.ntmps4
      go_wp2_with (first | (go_at_call 12; with_reducible refine Calls.tells (sNew_bad _ hnew) ?_) | (go_at_call 14; with_reducible refine Calls.tells (rsNew_bad _ hnew) ?_))
      refine wp_loop_rounds 1 ?_
      rw [rounds_succ]
      go_wp2_with (go_at_call 10; (first | with_reducible refine Calls.fold (works24 _) ?_ | with_reducible refine Calls.fresh (works24 _) ?_); intro x1)
      go_ret
      exact Gives.mk rfl (by (repeat (first | (with_reducible exact Below.refl _ _) | (with_reducible assumption) | (with_reducible refine Below.alloc ?_ (by (repeat (first | (with_reducible exact Nat.le_refl _) | (with_reducible assumption) | (with_reducible refine le_up ?_) | (with_reducible refine le_alloc ?_) | (with_reducible refine le_setCell ?_) | (with_reducible refine le_drew ?_) | (with_reducible refine le_drewN ?_) | omega))) _) | (with_reducible refine Below.drew ?_) | (with_reducible refine Below.drewN ?_ _) | (with_reducible refine Below.setCell ?_ (by (repeat (first | (with_reducible exact Nat.le_refl _) | (with_reducible assumption) | (with_reducible refine le_up ?_) | (with_reducible refine le_alloc ?_) | (with_reducible refine le_setCell ?_) | (with_reducible refine le_drew ?_) | (with_reducible refine le_drewN ?_) | omega))) _) | (with_reducible refine Below.up ?_ (by (repeat (first | (with_reducible exact Nat.le_refl _) | (with_reducible assumption) | (with_reducible refine le_up ?_) | (with_reducible refine le_alloc ?_) | (with_reducible refine le_setCell ?_) | (with_reducible refine le_drew ?_) | (with_reducible refine le_drewN ?_) | omega)))))))
  · go_enter Try.func4, Try.ntmps4
    go_wp2_with fail
    refine (sNew_good w hnew).mono ?_
    rintro e w1 ⟨c, b, rfl, hb, hc, hx, hb1⟩
    have HX := Lib.hid hx
    have HB1 := Lib.hid (And.intro hb1 (And.intro hb hc))
    clear hx hb1 hb hc
    go_wp2_with fail
    refine (rsNew_good w1 hnew).mono ?_
    rintro e w2 ⟨rfl, hy, hb2, hl2⟩
    obtain ⟨d, hd⟩ : ∃ d, d = w1.heap.size := ⟨_, rfl⟩
    rw [← hd] at hy ⊢
    have HST := Lib.hid (show StuRel w c b d same rate 0 0 (fun _ => none) w2 from by
      obtain ⟨k1, k2, k3⟩ := HB1.out
      have hcl := HX.out.lt
      have hbl := HX.out.tab.lt
      exact ⟨⟨HX.out.below' hb2, hy, k1.trans (hb2.mono k1.size), ⟨k3, k2, by rw [hd]; exact k1.size⟩, by omega, by omega⟩, StOK.new hnew r2, Nat.le_refl _, by omega⟩)
    clear hy hb2 hl2 hd HB1 HX hnew
    go_wp2_with fail
    go_loopw [11] (fun v11 wr => ∃ (k n : Nat) (f : Int → Option StO), v11 = .int .i64 (k : Int) ∧ StuRel w c b d same rate k n f wr) (fun v11 _ => 60 - (intOf v11).toNat)
    case atStart => exact ⟨0, 0, _, rfl, HST.out⟩
    case round =>
      clear HST
      obtain ⟨k, n, f, rfl, hS⟩ := hrel
      have HS := Lib.hid hS
      have hk60 := hS.k60
      clear hS
      by_cases hend : k < len ∧ k < 60
      · obtain ⟨hkl, hk6⟩ := hend
        obtain ⟨_, h0 | ⟨Bq, off, rfl, hBq, hcell⟩⟩ := HR.out
        · omega
        obtain ⟨cs, hic, hcs⟩ := hcell k hkl
        obtain ⟨ad, cs, rfl, wd0, hic⟩ := hic.cons
        obtain ⟨as_, cs, rfl, wd1, hic⟩ := hic.cons
        obtain ⟨x, cs, rfl, wd2, hic⟩ := hic.cons
        obtain ⟨y, cs, rfl, wd3, hic⟩ := hic.cons
        obtain ⟨z, cs, rfl, wd4, hic⟩ := hic.cons
        obtain ⟨t, cs, rfl, wd5, hic⟩ := hic.cons
        obtain rfl := hic.nil
        have hx : I64 x := bounds_i64 wd2
        have hy : I64 y := bounds_i64 wd3
        have hz : I64 z := bounds_i64 wd4
        have ht := bounds_i64 wd5
        have hsz := HS.out.st.bel.size
        haveI : LtSize Bq wr := ⟨by omega⟩
        have x0 : wr.cell? ⟨Bq, off + k * 6, none⟩ = some (.int .i64 ad) := by rw [HS.out.st.bel.cell (p := ⟨Bq, _, none⟩) hBq]; exact hcs 0 (by decide)
        have x1 : wr.cell? ⟨Bq, off + k * 6 + 1, none⟩ = some (.int .i64 as_) := by rw [HS.out.st.bel.cell (p := ⟨Bq, _, none⟩) hBq]; exact hcs 1 (by decide)
        have x2 : wr.cell? ⟨Bq, off + k * 6 + 2, none⟩ = some (.int .i64 x) := by rw [HS.out.st.bel.cell (p := ⟨Bq, _, none⟩) hBq]; exact hcs 2 (by decide)
        have x3 : wr.cell? ⟨Bq, off + k * 6 + 3, none⟩ = some (.int .i64 y) := by rw [HS.out.st.bel.cell (p := ⟨Bq, _, none⟩) hBq]; exact hcs 3 (by decide)
        have x4 : wr.cell? ⟨Bq, off + k * 6 + 4, none⟩ = some (.int .i64 z) := by rw [HS.out.st.bel.cell (p := ⟨Bq, _, none⟩) hBq]; exact hcs 4 (by decide)
        have x5 : wr.cell? ⟨Bq, off + k * 6 + 5, none⟩ = some (.int .i64 t) := by rw [HS.out.st.bel.cell (p := ⟨Bq, _, none⟩) hBq]; exact hcs 5 (by decide)
        have hkd : decide ((k : Int) < 60) = true := by simp; omega
        have hkI : (k : Int) < 60 := by omega
        clear hcell hcs wd0 wd1 wd2 wd3 wd4 wd5
        go_upto_region 9 with fail
        refine wp_gen (fun W => Stu2 w c b d n same rate f (lastL f) W ∧ wr.heap.size < W.heap.size ∧ W.cell? ⟨wr.heap.size, 0, none⟩ = some (.int .i64 ad) ∧ W.cell? ⟨wr.heap.size, 1, none⟩ = some (.int .i64 as_) ∧ W.cell? ⟨wr.heap.size, 2, none⟩ = some (.int .i64 x) ∧ W.cell? ⟨wr.heap.size, 3, none⟩ = some (.int .i64 y) ∧ W.cell? ⟨wr.heap.size, 4, none⟩ = some (.int .i64 z) ∧ W.cell? ⟨wr.heap.size, 5, none⟩ = some (.int .i64 t)) ?_ ?_
        · exact ⟨HS.out.st.below ((Below.refl _ _).alloc (Nat.le_refl _) _), by simp, by simp, by simp, by simp, by simp, by simp, by simp⟩
        clear x0 x1 x2 x3 x4 x5
        have HQ := Lib.hid (show c < wr.heap.size ∧ b < wr.heap.size ∧ d < wr.heap.size from ⟨HS.out.st.x.lt, HS.out.st.x.tab.lt, HS.out.st.y.lt⟩)
        generalize wr.heap.size = q at *
        rintro W1 ⟨hs1, hl1, z0, z1, z2, z3, z4, z5⟩
        haveI : LtSize q W1 := ⟨hl1⟩
        have H1 := Lib.hid hs1
        have HZ := Lib.hid (And.intro z1 (And.intro z2 (And.intro z3 (And.intro z4 (And.intro z5 hl1)))))
        have hm := amongV_bd ad 10 (by omega)
        have HAM := Lib.hid (Among_any ad 10 W1 (by omega) (by omega))
        clear hs1
        generalize amongV ad 10 = m at *
        by_cases hm9 : m = 9
        · subst hm9
          have HCX := Lib.hid (sClear_any c b n same rate f as_ W1.drew H1.out.x.drew)
          go_upto_region 10 with (go_at_call 11; with_reducible refine Calls.tells (HAM.out) ?_)
          refine wp_region_slim [7] [(0, 3), (1, 3), (2, 0), (4, 3), (5, 3), (6, 0), (3, 1), (7, 2), (8, 3)] (fun X => X.cell? ⟨q, 1, none⟩ = some (.int .i64 as_)) (by kernel_rfl) (by kernel_rfl) (fun d v c a w h => by cases d <;> exact h) HZ.out.1 ?_
          simp only [List.map_cons, List.map_nil, slim]
          refine wpSched_pure ?sv1 rfl (by rfl) (fun W => ?sh1) ?sr1; (case sh1 => (go_simp; try (with_reducible rfl))); simp only [Act.put, List.getElem_toArray, List.getElem_cons_zero, List.getElem_cons_succ, List.setIfInBounds_toArray, List.set_cons_zero, List.set_cons_succ]
          refine wpSched_pure ?sv2 rfl (by rfl) (fun W => ?sh2) ?sr2; (case sh2 => (go_simp; try (with_reducible rfl))); simp only [Act.put, List.getElem_toArray, List.getElem_cons_zero, List.getElem_cons_succ, List.setIfInBounds_toArray, List.set_cons_zero, List.set_cons_succ]
          refine wpSched_still ?sv3 rfl (by rfl) (fun W hW => ?sh3) ?sr3; (case sh3 => (have h1 := hW; go_simp; try (with_reducible rfl))); simp only [Act.put, List.getElem_toArray, List.getElem_cons_zero, List.getElem_cons_succ, List.setIfInBounds_toArray, List.set_cons_zero, List.set_cons_succ]
          refine wpSched_pure ?sv4 rfl (by rfl) (fun W => ?sh4) ?sr4; (case sh4 => (go_simp; try (with_reducible rfl))); simp only [Act.put, List.getElem_toArray, List.getElem_cons_zero, List.getElem_cons_succ, List.setIfInBounds_toArray, List.set_cons_zero, List.set_cons_succ]
          refine wpSched_pure ?sv5 rfl (by rfl) (fun W => ?sh5) ?sr5; (case sh5 => (go_simp; try (with_reducible rfl))); simp only [Act.put, List.getElem_toArray, List.getElem_cons_zero, List.getElem_cons_succ, List.setIfInBounds_toArray, List.set_cons_zero, List.set_cons_succ]
          refine wpSched_still ?sv6 rfl (by rfl) (fun W hW => ?sh6) ?sr6; (case sh6 => (have h1 := hW; go_simp; try (with_reducible rfl))); simp only [Act.put, List.getElem_toArray, List.getElem_cons_zero, List.getElem_cons_succ, List.setIfInBounds_toArray, List.set_cons_zero, List.set_cons_succ]
          refine wpSched_eff rfl (by rfl) (fun K hK => ?_); go_simp
          refine HCX.out.mono ?_
          rintro e2 w2 ⟨rfl, hx2, hg2⟩
          refine hK _ _ (kept_cellR (w := W1.drew) HZ.out.1 hg2 (by have := HQ.out; simp; omega)) ?_
          clear hK K
          have H2 := Lib.hid ((H1.out.below (Below.drew (Below.refl _ _))).px hx2 hg2)
          have HCY := Lib.hid (rsClear_any H2.out as_)
          clear hx2 hg2
          refine wpSched_tail rfl (by rfl) (fun K hK => ?_); go_simp
          refine HCY.out.mono ?_
          rintro e3 w3 ⟨rfl, h3⟩
          refine hK _ _ ?_
          clear hK K
          refine wpSched_pure ?sv7 rfl (by rfl) (fun W => ?sh7) ?sr7; (case sh7 => (go_simp; try (with_reducible rfl))); simp only [Act.put, List.getElem_toArray, List.getElem_cons_zero, List.getElem_cons_succ, List.setIfInBounds_toArray, List.set_cons_zero, List.set_cons_succ]
          refine wpSched_nil ?_
          have hE : clrE as_ = 0 ∨ clrE as_ = 2 := by unfold clrE; split <;> simp
          have H3 := Lib.hid (show StuRel w c b d same rate (k + 1) n (clrF f as_) w3 from ⟨h3, by have := (HS.out.ok.clr as_).mono (show (k : Int) ≤ ((k + 1 : Nat) : Int) by omega); exact this, by have := HS.out.nk; omega, by omega⟩)
          clear h3 H2 HCX HCY HZ HAM z0 z1 z2 z3 z4 z5 H1 hm
          obtain ⟨n5, hn5⟩ : ∃ x, x = n := ⟨_, rfl⟩
          rw [← hn5] at H3
          generalize clrF f as_ = f5 at *
          go_upto_region 16 with fail
          refine wp_gen (StuRel w c b d same rate (k + 1) n5 f5) H3.out ?_
          clear H3 hE
          rintro W5 hS5
          have HS5 := Lib.hid hS5
          have hcl := hS5.st.x.lt
          have hdl := hS5.st.y.lt
          clear hS5
          go_wp2_with fail
          go_loopw [17] (fun v17 wq => ∃ q : Nat, q ≤ 8 ∧ v17 = .int .i64 (q : Int) ∧ ∃ x, wq = up W5 x) (fun v17 _ => 8 - (intOf v17).toNat)
          case atStart => exact ⟨0, by omega, rfl, ex_up (Below.refl _ _)⟩
          case round =>
            obtain ⟨q, hq8, rfl, y5, rfl⟩ := hrel
            by_cases hq : q < 8
            · have HX := Lib.hid (HS5.out.st.below (up_below W5 y5))
              have hqI : (q : Int) < 8 := by omega
              have hsb : srcB (q : Int) = true := by simp [srcB]; omega
              have HLS := Lib.hid (fun (W : World) (h : StAt W c b n5 same rate f5) => sLast_any c b n5 same rate f5 (q : Int) W h)
              have HRW := Lib.hid (fun (W : World) (h : StAt W c b n5 same rate f5) => sRow_any c b n5 same rate f5 (q : Int) W h)
              have hlo : slookO f5 (q : Int) = lastO f5 (q : Int) := by unfold slookO; rw [hsb]; rfl
              have hlk : slookK f5 (q : Int) = decide (0 < (lastO f5 (q : Int)).row) := by unfold slookK; rw [hsb, ← (last_some HS5.out.ok _).1]; rfl
              rw [hlo, hlk] at HLS
              rw [hlo] at HRW
              have c0 := HX.out.y.cell hq 0 (by omega)
              have c1 := HX.out.y.cell hq 1 (by omega)
              have c2 := HX.out.y.cell hq 2 (by omega)
              have c3 := HX.out.y.cell hq 3 (by omega)
              have c4 := HX.out.y.cell hq 4 (by omega)
              rw [Nat.add_zero] at c0
              simp only [oneF, lastL] at c0 c1 c2 c3 c4
              have HC := Lib.hid (And.intro (And.intro c0 c1) (And.intro c2 (And.intro c3 c4)))
              clear hlo hlk c0 c1 c2 c3 c4
              generalize (lastO f5 (q : Int)).a = oa at *
              generalize (lastO f5 (q : Int)).b = ob at *
              generalize (lastO f5 (q : Int)).c = oc at *
              generalize (lastO f5 (q : Int)).tk = ok at *
              generalize (lastO f5 (q : Int)).row = orow at *
              have heq : ∀ W, (Op.equalIn 10000 25 (.agg #[.int .i64 oa, .int .i64 ob, .int .i64 oc]) (.agg #[.int .i64 oa, .int .i64 ob, .int .i64 oc])).run Try.prog W = .ok true W := fun W => by
                rw [eq3 W oa ob oc oa ob oc]; simp
              have HXX := Lib.hid (HLS.out _ HX.out.x)
              go_wp2_with fail
              refine HXX.out.mono ?_
              rintro e6 w6 ⟨rfl, y6, rfl⟩
              have HX6 := Lib.hid (HX.out.below (up_below _ y6))
              obtain ⟨⟨c0, c1⟩, c2, c3, c4⟩ := HC.out
              haveI : LtSize d (up W5 y5) := ⟨HX.out.y.lt⟩
              go_upto_region 21 with fail
              have HB6 := Lib.hid (show Below W5.heap.size W5 (up (up W5 y5) y6) from (up_below W5 y5).trans ((up_below _ y6).mono (up_size W5 y5)))
              generalize up (up W5 y5) y6 = W7 at *
              refine wp_gen (fun W => Below W7.heap.size W7 W ∧ W7.heap.size + 2 ≤ W.heap.size ∧ (W.cell? ⟨W7.heap.size, 0, none⟩ = some (.int .i64 oa) ∧ W.cell? ⟨W7.heap.size, 1, none⟩ = some (.int .i64 ob) ∧ W.cell? ⟨W7.heap.size, 2, none⟩ = some (.int .i64 oc)) ∧ W.cell? ⟨W7.heap.size + 1, 0, none⟩ = some (.int .i64 oa) ∧ W.cell? ⟨W7.heap.size + 1, 1, none⟩ = some (.int .i64 ob) ∧ W.cell? ⟨W7.heap.size + 1, 2, none⟩ = some (.int .i64 oc) ∧ W.cell? ⟨W7.heap.size + 1, 3, none⟩ = some (.int .i64 ok) ∧ W.cell? ⟨W7.heap.size + 1, 4, none⟩ = some (.int .i64 orow)) ?_ ?_
              · exact ⟨by (repeat (first | (with_reducible exact Below.refl _ _) | (with_reducible assumption) | (with_reducible refine Below.alloc ?_ (by (repeat (first | (with_reducible exact Nat.le_refl _) | (with_reducible assumption) | (with_reducible refine le_up ?_) | (with_reducible refine le_alloc ?_) | (with_reducible refine le_setCell ?_) | (with_reducible refine le_drew ?_) | (with_reducible refine le_drewN ?_) | omega))) _) | (with_reducible refine Below.drew ?_) | (with_reducible refine Below.drewN ?_ _) | (with_reducible refine Below.setCell ?_ (by (repeat (first | (with_reducible exact Nat.le_refl _) | (with_reducible assumption) | (with_reducible refine le_up ?_) | (with_reducible refine le_alloc ?_) | (with_reducible refine le_setCell ?_) | (with_reducible refine le_drew ?_) | (with_reducible refine le_drewN ?_) | omega))) _) | (with_reducible refine Below.up ?_ (by (repeat (first | (with_reducible exact Nat.le_refl _) | (with_reducible assumption) | (with_reducible refine le_up ?_) | (with_reducible refine le_alloc ?_) | (with_reducible refine le_setCell ?_) | (with_reducible refine le_drew ?_) | (with_reducible refine le_drewN ?_) | omega)))))), by simp, ⟨by rw [alloc_cell_lt, cell_at]; rfl, by rw [alloc_cell_lt, cell_at]; rfl, by rw [alloc_cell_lt, cell_at]; rfl⟩, by rw [cell_at]; rfl, by rw [cell_at]; rfl, by rw [cell_at]; rfl, by rw [cell_at]; rfl, by rw [cell_at]; rfl⟩
              clear c0 c1 c2 c3 c4 HC HXX
              rintro W8 ⟨hb8, hl8, hc8⟩
              have HB8 := Lib.hid (HB6.out.trans (hb8.mono HB6.out.size))
              have HX8 := Lib.hid (HX6.out.below hb8)
              generalize W7.heap.size = r1 at *
              have HC8 := Lib.hid (fun (X : World) (hX : Below W8.heap.size W8 X) => (show (X.cell? ⟨r1, 0, none⟩ = some (.int .i64 oa) ∧ X.cell? ⟨r1, 1, none⟩ = some (.int .i64 ob) ∧ X.cell? ⟨r1, 2, none⟩ = some (.int .i64 oc)) ∧ X.cell? ⟨r1 + 1, 0, none⟩ = some (.int .i64 oa) ∧ X.cell? ⟨r1 + 1, 1, none⟩ = some (.int .i64 ob) ∧ X.cell? ⟨r1 + 1, 2, none⟩ = some (.int .i64 oc) ∧ X.cell? ⟨r1 + 1, 3, none⟩ = some (.int .i64 ok) ∧ X.cell? ⟨r1 + 1, 4, none⟩ = some (.int .i64 orow) from by
                obtain ⟨⟨k1, k2, k3⟩, k4, k5, k6, k7, k8⟩ := hc8
                exact ⟨⟨cell_belowI hX (by omega) k1, cell_belowI hX (by omega) k2, cell_belowI hX (by omega) k3⟩, cell_belowI hX (by omega) k4, cell_belowI hX (by omega) k5, cell_belowI hX (by omega) k6, cell_belowI hX (by omega) k7, cell_belowI hX (by omega) k8⟩))
              clear hb8 hl8 hc8 HX6 HB6
              refine wp_region_slim [] [(0, 0), (1, 3), (2, 0), (3, 3), (4, 3), (5, 3), (6, 3), (7, 0), (8, 3), (9, 3), (10, 3), (11, 3), (12, 3), (13, 0), (14, 3), (15, 3), (16, 3), (17, 3), (18, 3), (19, 3), (21, 3), (22, 0), (20, 1), (23, 3), (24, 3)] (fun X => (X.cell? ⟨r1, 0, none⟩ = some (.int .i64 oa) ∧ X.cell? ⟨r1, 1, none⟩ = some (.int .i64 ob) ∧ X.cell? ⟨r1, 2, none⟩ = some (.int .i64 oc)) ∧ X.cell? ⟨r1 + 1, 0, none⟩ = some (.int .i64 oa) ∧ X.cell? ⟨r1 + 1, 1, none⟩ = some (.int .i64 ob) ∧ X.cell? ⟨r1 + 1, 2, none⟩ = some (.int .i64 oc) ∧ X.cell? ⟨r1 + 1, 3, none⟩ = some (.int .i64 ok) ∧ X.cell? ⟨r1 + 1, 4, none⟩ = some (.int .i64 orow)) (by kernel_rfl) (by kernel_rfl) (fun d v c a w h => by cases d <;> exact h) (HC8.out _ (Below.drew (Below.refl _ _))) ?_
              simp only [List.map_cons, List.map_nil, slim]
              refine wpSched_still ?sv8 rfl (by rfl) (fun W hW => ?sh8) ?sr8; (case sh8 => (obtain ⟨⟨h1, h2, h3⟩, h4, h5, h6, h7, h8⟩ := hW; go_simp; try (with_reducible rfl))); simp only [Act.put, List.getElem_toArray, List.getElem_cons_zero, List.getElem_cons_succ, List.setIfInBounds_toArray, List.set_cons_zero, List.set_cons_succ]
              refine wpSched_pure ?sv9 rfl (by rfl) (fun W => ?sh9) ?sr9; (case sh9 => (go_simp; try (with_reducible rfl))); simp only [Act.put, List.getElem_toArray, List.getElem_cons_zero, List.getElem_cons_succ, List.setIfInBounds_toArray, List.set_cons_zero, List.set_cons_succ]
              refine wpSched_still ?sv10 rfl (by rfl) (fun W hW => ?sh10) ?sr10; (case sh10 => (obtain ⟨⟨h1, h2, h3⟩, h4, h5, h6, h7, h8⟩ := hW; go_simp; try (with_reducible rfl))); simp only [Act.put, List.getElem_toArray, List.getElem_cons_zero, List.getElem_cons_succ, List.setIfInBounds_toArray, List.set_cons_zero, List.set_cons_succ]
              refine wpSched_pure ?sv11 rfl (by rfl) (fun W => ?sh11) ?sr11; (case sh11 => (go_simp; try (with_reducible rfl))); simp only [Act.put, List.getElem_toArray, List.getElem_cons_zero, List.getElem_cons_succ, List.setIfInBounds_toArray, List.set_cons_zero, List.set_cons_succ]
              refine wpSched_pure ?sv12 rfl (by rfl) (fun W => ?sh12) ?sr12; (case sh12 => (go_simp; try (with_reducible rfl))); simp only [Act.put, List.getElem_toArray, List.getElem_cons_zero, List.getElem_cons_succ, List.setIfInBounds_toArray, List.set_cons_zero, List.set_cons_succ]
              refine wpSched_pure ?sv13 rfl (by rfl) (fun W => ?sh13) ?sr13; (case sh13 => (go_simp; try (with_reducible rfl))); simp only [Act.put, List.getElem_toArray, List.getElem_cons_zero, List.getElem_cons_succ, List.setIfInBounds_toArray, List.set_cons_zero, List.set_cons_succ]
              refine wpSched_pure ?sv14 rfl (by rfl) (fun W => ?sh14) ?sr14; (case sh14 => (go_simp; try (with_reducible rfl))); simp only [Act.put, List.getElem_toArray, List.getElem_cons_zero, List.getElem_cons_succ, List.setIfInBounds_toArray, List.set_cons_zero, List.set_cons_succ]
              refine wpSched_still ?sv15 rfl (by rfl) (fun W hW => ?sh15) ?sr15; (case sh15 => (obtain ⟨⟨h1, h2, h3⟩, h4, h5, h6, h7, h8⟩ := hW; go_simp; try (with_reducible rfl))); simp only [Act.put, List.getElem_toArray, List.getElem_cons_zero, List.getElem_cons_succ, List.setIfInBounds_toArray, List.set_cons_zero, List.set_cons_succ]
              refine wpSched_pure ?sv16 rfl (by rfl) (fun W => ?sh16) ?sr16; (case sh16 => (go_simp; try (with_reducible rfl))); simp only [Act.put, List.getElem_toArray, List.getElem_cons_zero, List.getElem_cons_succ, List.setIfInBounds_toArray, List.set_cons_zero, List.set_cons_succ]
              refine wpSched_pure ?sv17 rfl (by rfl) (fun W => ?sh17) ?sr17; (case sh17 => (go_simp; try (with_reducible rfl))); simp only [Act.put, List.getElem_toArray, List.getElem_cons_zero, List.getElem_cons_succ, List.setIfInBounds_toArray, List.set_cons_zero, List.set_cons_succ]
              refine wpSched_pure ?sv18 rfl (by rfl) (fun W => ?sh18) ?sr18; (case sh18 => (go_simp; try (with_reducible rfl))); simp only [Act.put, List.getElem_toArray, List.getElem_cons_zero, List.getElem_cons_succ, List.setIfInBounds_toArray, List.set_cons_zero, List.set_cons_succ]
              refine wpSched_pure ?sv19 rfl (by rfl) (fun W => ?sh19) ?sr19; (case sh19 => (go_simp; try (with_reducible rfl))); simp only [Act.put, List.getElem_toArray, List.getElem_cons_zero, List.getElem_cons_succ, List.setIfInBounds_toArray, List.set_cons_zero, List.set_cons_succ]
              refine wpSched_pure ?sv20 rfl (by rfl) (fun W => ?sh20) ?sr20; (case sh20 => (go_simp; try (with_reducible rfl))); simp only [Act.put, List.getElem_toArray, List.getElem_cons_zero, List.getElem_cons_succ, List.setIfInBounds_toArray, List.set_cons_zero, List.set_cons_succ]
              refine wpSched_still ?sv21 rfl (by rfl) (fun W hW => ?sh21) ?sr21; (case sh21 => (obtain ⟨⟨h1, h2, h3⟩, h4, h5, h6, h7, h8⟩ := hW; go_simp; try (with_reducible rfl))); simp only [Act.put, List.getElem_toArray, List.getElem_cons_zero, List.getElem_cons_succ, List.setIfInBounds_toArray, List.set_cons_zero, List.set_cons_succ]
              refine wpSched_pure ?sv22 rfl (by rfl) (fun W => ?sh22) ?sr22; (case sh22 => (go_simp; try (with_reducible rfl))); simp only [Act.put, List.getElem_toArray, List.getElem_cons_zero, List.getElem_cons_succ, List.setIfInBounds_toArray, List.set_cons_zero, List.set_cons_succ]
              refine wpSched_pure ?sv23 rfl (by rfl) (fun W => ?sh23) ?sr23; (case sh23 => (go_simp; try (with_reducible rfl))); simp only [Act.put, List.getElem_toArray, List.getElem_cons_zero, List.getElem_cons_succ, List.setIfInBounds_toArray, List.set_cons_zero, List.set_cons_succ]
              refine wpSched_pure ?sv24 rfl (by rfl) (fun W => ?sh24) ?sr24; (case sh24 => (go_simp; try (with_reducible rfl))); simp only [Act.put, List.getElem_toArray, List.getElem_cons_zero, List.getElem_cons_succ, List.setIfInBounds_toArray, List.set_cons_zero, List.set_cons_succ]
              refine wpSched_pure ?sv25 rfl (by rfl) (fun W => ?sh25) ?sr25; (case sh25 => (go_simp; try (with_reducible rfl))); simp only [Act.put, List.getElem_toArray, List.getElem_cons_zero, List.getElem_cons_succ, List.setIfInBounds_toArray, List.set_cons_zero, List.set_cons_succ]
              refine wpSched_pure ?sv26 rfl (by rfl) (fun W => ?sh26) ?sr26; (case sh26 => (go_simp; try (with_reducible rfl))); simp only [Act.put, List.getElem_toArray, List.getElem_cons_zero, List.getElem_cons_succ, List.setIfInBounds_toArray, List.set_cons_zero, List.set_cons_succ]
              refine wpSched_pure ?sv27 rfl (by rfl) (fun W => ?sh27) ?sr27; (case sh27 => (go_simp; try (with_reducible rfl))); simp only [Act.put, List.getElem_toArray, List.getElem_cons_zero, List.getElem_cons_succ, List.setIfInBounds_toArray, List.set_cons_zero, List.set_cons_succ]
              refine wpSched_pure ?sv28 rfl (by rfl) (fun W => ?sh28) ?sr28; (case sh28 => (go_simp; try (with_reducible rfl))); simp only [Act.put, List.getElem_toArray, List.getElem_cons_zero, List.getElem_cons_succ, List.setIfInBounds_toArray, List.set_cons_zero, List.set_cons_succ]
              refine wpSched_still ?sv29 rfl (by rfl) (fun W hW => ?sh29) ?sr29; (case sh29 => (obtain ⟨⟨h1, h2, h3⟩, h4, h5, h6, h7, h8⟩ := hW; go_simp; try (with_reducible rfl))); simp only [Act.put, List.getElem_toArray, List.getElem_cons_zero, List.getElem_cons_succ, List.setIfInBounds_toArray, List.set_cons_zero, List.set_cons_succ]
              refine wpSched_eff rfl (by rfl) (fun K hK => ?_); go_simp
              refine (HRW.out _ HX8.out.x.drew).mono ?_
              rintro e7 w7 ⟨rfl, y7, rfl⟩
              have hb9 : Below W8.heap.size W8 (up W8.drew y7) := (Below.drew (Below.refl _ _)).trans (up_below W8.drew y7)
              have HX9 := Lib.hid (show ∃ x, up W8.drew y7 = up W5 x from ex_up (HB8.out.trans (hb9.mono HB8.out.size)))
              refine hK _ _ (HC8.out _ hb9) ?_
              clear hK K hb9
              refine wpSched_pure ?sv30 rfl (by rfl) (fun W => ?sh30) ?sr30; (case sh30 => (go_simp; try (with_reducible rfl))); simp only [Act.put, List.getElem_toArray, List.getElem_cons_zero, List.getElem_cons_succ, List.setIfInBounds_toArray, List.set_cons_zero, List.set_cons_succ]
              refine wpSched_pure ?sv31 rfl (by rfl) (fun W => ?sh31) ?sr31; (case sh31 => (go_simp; try (with_reducible rfl))); simp only [Act.put, List.getElem_toArray, List.getElem_cons_zero, List.getElem_cons_succ, List.setIfInBounds_toArray, List.set_cons_zero, List.set_cons_succ]
              refine wpSched_nil ?_
              clear HC8 HX8 HB8 heq HRW HLS
              go_wp2_with fail
              exact ⟨⟨q + 1, by omega, (by first | rfl | go_num), HX9.out⟩, by simp [intOf]; omega⟩
            · obtain rfl : q = 8 := by omega
              have HEND := Lib.hid (show StuRel w c b d same rate (k + 1) n5 f5 (up W5 y5) from ⟨HS5.out.st.below (up_below W5 y5), HS5.out.ok, HS5.out.nk, by omega⟩)
              go_wp2_with fail
              exact ⟨⟨k + 1, n5, f5, (by first | rfl | go_num), HEND.out⟩, by simp [intOf]; omega⟩
        · have hm9b : (m == 9) = false := by simpa using hm9
          have HTX := Lib.hid (sTake_any c b n same rate f as_ x y z t (k : Int) W1 H1.out.x HS.out.ok (by omega) (by have := HS.out.nk; omega) hx hy hz ht.1 ht.2)
          have HTY := Lib.hid (fun (n' : Nat) (W : World) (h : Stu2 w c b d n' same rate (tkF f as_ x y z t) (lastL f) W) => rsTake_any h HS.out.ok (by omega) as_ x y z t hx hy hz)
          have HOK := Lib.hid (HS.out.ok.take (by omega) (s := as_) (t := t) hx hy hz)
          have hfl := tkFl_bd same rate f as_ x y z t
          generalize tkFl same rate f as_ x y z t = fl at *
          generalize tkE f as_ t = code at *
          generalize tkF f as_ x y z t = f5 at *
          have hwf : IntKind.i64.wrap fl = fl := by rw [IntKind.wrap_i64]; omega
          go_wp2_with (go_at_call 11; with_reducible refine Calls.tells (HAM.out) ?_)
          refine HTX.out.mono ?_
          rintro e2 w2 ⟨n5, rfl, hn5, hx2, hg2⟩
          have hqb : some b ≠ some q := by have := HQ.out; simp; omega
          have H2 := Lib.hid (H1.out.px hx2 hg2)
          have z1' := kept_cellR z1 hg2 hqb
          have z2' := kept_cellR z2 hg2 hqb
          have z3' := kept_cellR z3 hg2 hqb
          have z4' := kept_cellR z4 hg2 hqb
          have z5' := kept_cellR z5 hg2 hqb
          haveI : LtSize q w2 := ⟨Nat.lt_of_lt_of_le hl1 hg2.size⟩
          have HTY2 := Lib.hid (HTY.out n5 w2 H2.out)
          have HN5 := Lib.hid hn5
          clear hx2 hg2 hqb z0 z1 z2 z3 z4 z5 hn5 HTX HTY H1
          go_wp2_with fail
          refine HTY2.out.mono ?_
          rintro e3 w3 ⟨rfl, h3⟩
          have H3 := Lib.hid (show StuRel w c b d same rate (k + 1) n5 f5 w3 from ⟨h3, by have := HOK.out; simpa using this, by have := HS.out.nk; have := HN5.out; omega, by omega⟩)
          clear h3 H2 HTY2 HZ HAM hm hm9 z1' z2' z3' z4' z5' HOK HN5
          go_upto_region 16 with fail
          refine wp_gen (StuRel w c b d same rate (k + 1) n5 f5) H3.out ?_
          clear H3 hfl hwf hm9b
          rintro W5 hS5
          have HS5 := Lib.hid hS5
          have hcl := hS5.st.x.lt
          have hdl := hS5.st.y.lt
          clear hS5
          go_wp2_with fail
          go_loopw [17] (fun v17 wq => ∃ q : Nat, q ≤ 8 ∧ v17 = .int .i64 (q : Int) ∧ ∃ x, wq = up W5 x) (fun v17 _ => 8 - (intOf v17).toNat)
          case atStart => exact ⟨0, by omega, rfl, ex_up (Below.refl _ _)⟩
          case round =>
            obtain ⟨q, hq8, rfl, y5, rfl⟩ := hrel
            by_cases hq : q < 8
            · have HX := Lib.hid (HS5.out.st.below (up_below W5 y5))
              have hqI : (q : Int) < 8 := by omega
              have hsb : srcB (q : Int) = true := by simp [srcB]; omega
              have HLS := Lib.hid (fun (W : World) (h : StAt W c b n5 same rate f5) => sLast_any c b n5 same rate f5 (q : Int) W h)
              have HRW := Lib.hid (fun (W : World) (h : StAt W c b n5 same rate f5) => sRow_any c b n5 same rate f5 (q : Int) W h)
              have hlo : slookO f5 (q : Int) = lastO f5 (q : Int) := by unfold slookO; rw [hsb]; rfl
              have hlk : slookK f5 (q : Int) = decide (0 < (lastO f5 (q : Int)).row) := by unfold slookK; rw [hsb, ← (last_some HS5.out.ok _).1]; rfl
              rw [hlo, hlk] at HLS
              rw [hlo] at HRW
              have c0 := HX.out.y.cell hq 0 (by omega)
              have c1 := HX.out.y.cell hq 1 (by omega)
              have c2 := HX.out.y.cell hq 2 (by omega)
              have c3 := HX.out.y.cell hq 3 (by omega)
              have c4 := HX.out.y.cell hq 4 (by omega)
              rw [Nat.add_zero] at c0
              simp only [oneF, lastL] at c0 c1 c2 c3 c4
              have HC := Lib.hid (And.intro (And.intro c0 c1) (And.intro c2 (And.intro c3 c4)))
              clear hlo hlk c0 c1 c2 c3 c4
              generalize (lastO f5 (q : Int)).a = oa at *
              generalize (lastO f5 (q : Int)).b = ob at *
              generalize (lastO f5 (q : Int)).c = oc at *
              generalize (lastO f5 (q : Int)).tk = ok at *
              generalize (lastO f5 (q : Int)).row = orow at *
              have heq : ∀ W, (Op.equalIn 10000 25 (.agg #[.int .i64 oa, .int .i64 ob, .int .i64 oc]) (.agg #[.int .i64 oa, .int .i64 ob, .int .i64 oc])).run Try.prog W = .ok true W := fun W => by
                rw [eq3 W oa ob oc oa ob oc]; simp
              have HXX := Lib.hid (HLS.out _ HX.out.x)
              go_wp2_with fail
              refine HXX.out.mono ?_
              rintro e6 w6 ⟨rfl, y6, rfl⟩
              have HX6 := Lib.hid (HX.out.below (up_below _ y6))
              obtain ⟨⟨c0, c1⟩, c2, c3, c4⟩ := HC.out
              haveI : LtSize d (up W5 y5) := ⟨HX.out.y.lt⟩
              go_upto_region 21 with fail
              have HB6 := Lib.hid (show Below W5.heap.size W5 (up (up W5 y5) y6) from (up_below W5 y5).trans ((up_below _ y6).mono (up_size W5 y5)))
              generalize up (up W5 y5) y6 = W7 at *
              refine wp_gen (fun W => Below W7.heap.size W7 W ∧ W7.heap.size + 2 ≤ W.heap.size ∧ (W.cell? ⟨W7.heap.size, 0, none⟩ = some (.int .i64 oa) ∧ W.cell? ⟨W7.heap.size, 1, none⟩ = some (.int .i64 ob) ∧ W.cell? ⟨W7.heap.size, 2, none⟩ = some (.int .i64 oc)) ∧ W.cell? ⟨W7.heap.size + 1, 0, none⟩ = some (.int .i64 oa) ∧ W.cell? ⟨W7.heap.size + 1, 1, none⟩ = some (.int .i64 ob) ∧ W.cell? ⟨W7.heap.size + 1, 2, none⟩ = some (.int .i64 oc) ∧ W.cell? ⟨W7.heap.size + 1, 3, none⟩ = some (.int .i64 ok) ∧ W.cell? ⟨W7.heap.size + 1, 4, none⟩ = some (.int .i64 orow)) ?_ ?_
              · exact ⟨by (repeat (first | (with_reducible exact Below.refl _ _) | (with_reducible assumption) | (with_reducible refine Below.alloc ?_ (by (repeat (first | (with_reducible exact Nat.le_refl _) | (with_reducible assumption) | (with_reducible refine le_up ?_) | (with_reducible refine le_alloc ?_) | (with_reducible refine le_setCell ?_) | (with_reducible refine le_drew ?_) | (with_reducible refine le_drewN ?_) | omega))) _) | (with_reducible refine Below.drew ?_) | (with_reducible refine Below.drewN ?_ _) | (with_reducible refine Below.setCell ?_ (by (repeat (first | (with_reducible exact Nat.le_refl _) | (with_reducible assumption) | (with_reducible refine le_up ?_) | (with_reducible refine le_alloc ?_) | (with_reducible refine le_setCell ?_) | (with_reducible refine le_drew ?_) | (with_reducible refine le_drewN ?_) | omega))) _) | (with_reducible refine Below.up ?_ (by (repeat (first | (with_reducible exact Nat.le_refl _) | (with_reducible assumption) | (with_reducible refine le_up ?_) | (with_reducible refine le_alloc ?_) | (with_reducible refine le_setCell ?_) | (with_reducible refine le_drew ?_) | (with_reducible refine le_drewN ?_) | omega)))))), by simp, ⟨by rw [alloc_cell_lt, cell_at]; rfl, by rw [alloc_cell_lt, cell_at]; rfl, by rw [alloc_cell_lt, cell_at]; rfl⟩, by rw [cell_at]; rfl, by rw [cell_at]; rfl, by rw [cell_at]; rfl, by rw [cell_at]; rfl, by rw [cell_at]; rfl⟩
              clear c0 c1 c2 c3 c4 HC HXX
              rintro W8 ⟨hb8, hl8, hc8⟩
              have HB8 := Lib.hid (HB6.out.trans (hb8.mono HB6.out.size))
              have HX8 := Lib.hid (HX6.out.below hb8)
              generalize W7.heap.size = r1 at *
              have HC8 := Lib.hid (fun (X : World) (hX : Below W8.heap.size W8 X) => (show (X.cell? ⟨r1, 0, none⟩ = some (.int .i64 oa) ∧ X.cell? ⟨r1, 1, none⟩ = some (.int .i64 ob) ∧ X.cell? ⟨r1, 2, none⟩ = some (.int .i64 oc)) ∧ X.cell? ⟨r1 + 1, 0, none⟩ = some (.int .i64 oa) ∧ X.cell? ⟨r1 + 1, 1, none⟩ = some (.int .i64 ob) ∧ X.cell? ⟨r1 + 1, 2, none⟩ = some (.int .i64 oc) ∧ X.cell? ⟨r1 + 1, 3, none⟩ = some (.int .i64 ok) ∧ X.cell? ⟨r1 + 1, 4, none⟩ = some (.int .i64 orow) from by
                obtain ⟨⟨k1, k2, k3⟩, k4, k5, k6, k7, k8⟩ := hc8
                exact ⟨⟨cell_belowI hX (by omega) k1, cell_belowI hX (by omega) k2, cell_belowI hX (by omega) k3⟩, cell_belowI hX (by omega) k4, cell_belowI hX (by omega) k5, cell_belowI hX (by omega) k6, cell_belowI hX (by omega) k7, cell_belowI hX (by omega) k8⟩))
              clear hb8 hl8 hc8 HX6 HB6
              refine wp_region_slim [] [(0, 0), (1, 3), (2, 0), (3, 3), (4, 3), (5, 3), (6, 3), (7, 0), (8, 3), (9, 3), (10, 3), (11, 3), (12, 3), (13, 0), (14, 3), (15, 3), (16, 3), (17, 3), (18, 3), (19, 3), (21, 3), (22, 0), (20, 1), (23, 3), (24, 3)] (fun X => (X.cell? ⟨r1, 0, none⟩ = some (.int .i64 oa) ∧ X.cell? ⟨r1, 1, none⟩ = some (.int .i64 ob) ∧ X.cell? ⟨r1, 2, none⟩ = some (.int .i64 oc)) ∧ X.cell? ⟨r1 + 1, 0, none⟩ = some (.int .i64 oa) ∧ X.cell? ⟨r1 + 1, 1, none⟩ = some (.int .i64 ob) ∧ X.cell? ⟨r1 + 1, 2, none⟩ = some (.int .i64 oc) ∧ X.cell? ⟨r1 + 1, 3, none⟩ = some (.int .i64 ok) ∧ X.cell? ⟨r1 + 1, 4, none⟩ = some (.int .i64 orow)) (by kernel_rfl) (by kernel_rfl) (fun d v c a w h => by cases d <;> exact h) (HC8.out _ (Below.drew (Below.refl _ _))) ?_
              simp only [List.map_cons, List.map_nil, slim]
              refine wpSched_still ?sv32 rfl (by rfl) (fun W hW => ?sh32) ?sr32; (case sh32 => (obtain ⟨⟨h1, h2, h3⟩, h4, h5, h6, h7, h8⟩ := hW; go_simp; try (with_reducible rfl))); simp only [Act.put, List.getElem_toArray, List.getElem_cons_zero, List.getElem_cons_succ, List.setIfInBounds_toArray, List.set_cons_zero, List.set_cons_succ]
              refine wpSched_pure ?sv33 rfl (by rfl) (fun W => ?sh33) ?sr33; (case sh33 => (go_simp; try (with_reducible rfl))); simp only [Act.put, List.getElem_toArray, List.getElem_cons_zero, List.getElem_cons_succ, List.setIfInBounds_toArray, List.set_cons_zero, List.set_cons_succ]
              refine wpSched_still ?sv34 rfl (by rfl) (fun W hW => ?sh34) ?sr34; (case sh34 => (obtain ⟨⟨h1, h2, h3⟩, h4, h5, h6, h7, h8⟩ := hW; go_simp; try (with_reducible rfl))); simp only [Act.put, List.getElem_toArray, List.getElem_cons_zero, List.getElem_cons_succ, List.setIfInBounds_toArray, List.set_cons_zero, List.set_cons_succ]
              refine wpSched_pure ?sv35 rfl (by rfl) (fun W => ?sh35) ?sr35; (case sh35 => (go_simp; try (with_reducible rfl))); simp only [Act.put, List.getElem_toArray, List.getElem_cons_zero, List.getElem_cons_succ, List.setIfInBounds_toArray, List.set_cons_zero, List.set_cons_succ]
              refine wpSched_pure ?sv36 rfl (by rfl) (fun W => ?sh36) ?sr36; (case sh36 => (go_simp; try (with_reducible rfl))); simp only [Act.put, List.getElem_toArray, List.getElem_cons_zero, List.getElem_cons_succ, List.setIfInBounds_toArray, List.set_cons_zero, List.set_cons_succ]
              refine wpSched_pure ?sv37 rfl (by rfl) (fun W => ?sh37) ?sr37; (case sh37 => (go_simp; try (with_reducible rfl))); simp only [Act.put, List.getElem_toArray, List.getElem_cons_zero, List.getElem_cons_succ, List.setIfInBounds_toArray, List.set_cons_zero, List.set_cons_succ]
              refine wpSched_pure ?sv38 rfl (by rfl) (fun W => ?sh38) ?sr38; (case sh38 => (go_simp; try (with_reducible rfl))); simp only [Act.put, List.getElem_toArray, List.getElem_cons_zero, List.getElem_cons_succ, List.setIfInBounds_toArray, List.set_cons_zero, List.set_cons_succ]
              refine wpSched_still ?sv39 rfl (by rfl) (fun W hW => ?sh39) ?sr39; (case sh39 => (obtain ⟨⟨h1, h2, h3⟩, h4, h5, h6, h7, h8⟩ := hW; go_simp; try (with_reducible rfl))); simp only [Act.put, List.getElem_toArray, List.getElem_cons_zero, List.getElem_cons_succ, List.setIfInBounds_toArray, List.set_cons_zero, List.set_cons_succ]
              refine wpSched_pure ?sv40 rfl (by rfl) (fun W => ?sh40) ?sr40; (case sh40 => (go_simp; try (with_reducible rfl))); simp only [Act.put, List.getElem_toArray, List.getElem_cons_zero, List.getElem_cons_succ, List.setIfInBounds_toArray, List.set_cons_zero, List.set_cons_succ]
              refine wpSched_pure ?sv41 rfl (by rfl) (fun W => ?sh41) ?sr41; (case sh41 => (go_simp; try (with_reducible rfl))); simp only [Act.put, List.getElem_toArray, List.getElem_cons_zero, List.getElem_cons_succ, List.setIfInBounds_toArray, List.set_cons_zero, List.set_cons_succ]
              refine wpSched_pure ?sv42 rfl (by rfl) (fun W => ?sh42) ?sr42; (case sh42 => (go_simp; try (with_reducible rfl))); simp only [Act.put, List.getElem_toArray, List.getElem_cons_zero, List.getElem_cons_succ, List.setIfInBounds_toArray, List.set_cons_zero, List.set_cons_succ]
              refine wpSched_pure ?sv43 rfl (by rfl) (fun W => ?sh43) ?sr43; (case sh43 => (go_simp; try (with_reducible rfl))); simp only [Act.put, List.getElem_toArray, List.getElem_cons_zero, List.getElem_cons_succ, List.setIfInBounds_toArray, List.set_cons_zero, List.set_cons_succ]
              refine wpSched_pure ?sv44 rfl (by rfl) (fun W => ?sh44) ?sr44; (case sh44 => (go_simp; try (with_reducible rfl))); simp only [Act.put, List.getElem_toArray, List.getElem_cons_zero, List.getElem_cons_succ, List.setIfInBounds_toArray, List.set_cons_zero, List.set_cons_succ]
              refine wpSched_still ?sv45 rfl (by rfl) (fun W hW => ?sh45) ?sr45; (case sh45 => (obtain ⟨⟨h1, h2, h3⟩, h4, h5, h6, h7, h8⟩ := hW; go_simp; try (with_reducible rfl))); simp only [Act.put, List.getElem_toArray, List.getElem_cons_zero, List.getElem_cons_succ, List.setIfInBounds_toArray, List.set_cons_zero, List.set_cons_succ]
              refine wpSched_pure ?sv46 rfl (by rfl) (fun W => ?sh46) ?sr46; (case sh46 => (go_simp; try (with_reducible rfl))); simp only [Act.put, List.getElem_toArray, List.getElem_cons_zero, List.getElem_cons_succ, List.setIfInBounds_toArray, List.set_cons_zero, List.set_cons_succ]
              refine wpSched_pure ?sv47 rfl (by rfl) (fun W => ?sh47) ?sr47; (case sh47 => (go_simp; try (with_reducible rfl))); simp only [Act.put, List.getElem_toArray, List.getElem_cons_zero, List.getElem_cons_succ, List.setIfInBounds_toArray, List.set_cons_zero, List.set_cons_succ]
              refine wpSched_pure ?sv48 rfl (by rfl) (fun W => ?sh48) ?sr48; (case sh48 => (go_simp; try (with_reducible rfl))); simp only [Act.put, List.getElem_toArray, List.getElem_cons_zero, List.getElem_cons_succ, List.setIfInBounds_toArray, List.set_cons_zero, List.set_cons_succ]
              refine wpSched_pure ?sv49 rfl (by rfl) (fun W => ?sh49) ?sr49; (case sh49 => (go_simp; try (with_reducible rfl))); simp only [Act.put, List.getElem_toArray, List.getElem_cons_zero, List.getElem_cons_succ, List.setIfInBounds_toArray, List.set_cons_zero, List.set_cons_succ]
              refine wpSched_pure ?sv50 rfl (by rfl) (fun W => ?sh50) ?sr50; (case sh50 => (go_simp; try (with_reducible rfl))); simp only [Act.put, List.getElem_toArray, List.getElem_cons_zero, List.getElem_cons_succ, List.setIfInBounds_toArray, List.set_cons_zero, List.set_cons_succ]
              refine wpSched_pure ?sv51 rfl (by rfl) (fun W => ?sh51) ?sr51; (case sh51 => (go_simp; try (with_reducible rfl))); simp only [Act.put, List.getElem_toArray, List.getElem_cons_zero, List.getElem_cons_succ, List.setIfInBounds_toArray, List.set_cons_zero, List.set_cons_succ]
              refine wpSched_pure ?sv52 rfl (by rfl) (fun W => ?sh52) ?sr52; (case sh52 => (go_simp; try (with_reducible rfl))); simp only [Act.put, List.getElem_toArray, List.getElem_cons_zero, List.getElem_cons_succ, List.setIfInBounds_toArray, List.set_cons_zero, List.set_cons_succ]
              refine wpSched_still ?sv53 rfl (by rfl) (fun W hW => ?sh53) ?sr53; (case sh53 => (obtain ⟨⟨h1, h2, h3⟩, h4, h5, h6, h7, h8⟩ := hW; go_simp; try (with_reducible rfl))); simp only [Act.put, List.getElem_toArray, List.getElem_cons_zero, List.getElem_cons_succ, List.setIfInBounds_toArray, List.set_cons_zero, List.set_cons_succ]
              refine wpSched_eff rfl (by rfl) (fun K hK => ?_); go_simp
              refine (HRW.out _ HX8.out.x.drew).mono ?_
              rintro e7 w7 ⟨rfl, y7, rfl⟩
              have hb9 : Below W8.heap.size W8 (up W8.drew y7) := (Below.drew (Below.refl _ _)).trans (up_below W8.drew y7)
              have HX9 := Lib.hid (show ∃ x, up W8.drew y7 = up W5 x from ex_up (HB8.out.trans (hb9.mono HB8.out.size)))
              refine hK _ _ (HC8.out _ hb9) ?_
              clear hK K hb9
              refine wpSched_pure ?sv54 rfl (by rfl) (fun W => ?sh54) ?sr54; (case sh54 => (go_simp; try (with_reducible rfl))); simp only [Act.put, List.getElem_toArray, List.getElem_cons_zero, List.getElem_cons_succ, List.setIfInBounds_toArray, List.set_cons_zero, List.set_cons_succ]
              refine wpSched_pure ?sv55 rfl (by rfl) (fun W => ?sh55) ?sr55; (case sh55 => (go_simp; try (with_reducible rfl))); simp only [Act.put, List.getElem_toArray, List.getElem_cons_zero, List.getElem_cons_succ, List.setIfInBounds_toArray, List.set_cons_zero, List.set_cons_succ]
              refine wpSched_nil ?_
              clear HC8 HX8 HB8 heq HRW HLS
              go_wp2_with fail
              exact ⟨⟨q + 1, by omega, (by first | rfl | go_num), HX9.out⟩, by simp [intOf]; omega⟩
            · obtain rfl : q = 8 := by omega
              have HEND := Lib.hid (show StuRel w c b d same rate (k + 1) n5 f5 (up W5 y5) from ⟨HS5.out.st.below (up_below W5 y5), HS5.out.ok, HS5.out.nk, by omega⟩)
              go_wp2_with fail
              exact ⟨⟨k + 1, n5, f5, (by first | rfl | go_num), HEND.out⟩, by simp [intOf]; omega⟩
      · by_cases hkl : k < len
        · have hk4 : ¬ (k : Int) < 60 := by omega
          have hk5 : decide ((k : Int) < 60) = false := by simp; omega
          clear hend
          have HWK := Lib.hid (works24 wr)
          go_wp2_with fail
          refine HWK.out.mono ?_
          rintro e3 w3 ⟨rfl, y3, rfl⟩
          go_wp2_with fail
          go_ret
          exact Gives.mk rfl (below_up HS.out.st.bel HS.out.st.bel.size y3)
        · have hk4 : ¬ (k : Int) < (len : Int) := by omega
          clear hend
          have HWK := Lib.hid (works24 wr)
          go_wp2_with fail
          refine HWK.out.mono ?_
          rintro e3 w3 ⟨rfl, y3, rfl⟩
          go_wp2_with fail
          go_ret
          exact Gives.mk rfl (below_up HS.out.st.bel HS.out.st.bel.size y3)
end Go.Proofs.Ytihalkpcddnikaa
