/-
  The reference's store: made, and a bank read.
-/
import Derived.Test.YtjkgodhoonkinaaBnkI
namespace Go.Proofs.Ytjkgodhoonkinaa
open Go.RowKit
set_option linter.unusedVariables false
set_option linter.unusedSimpArgs false

def RstV (v0 v1 : Value) (bg : Int) : Nat → Value
  | 0 => v0
  | 1 => v1
  | _ => .int .i64 bg
abbrev RstAt (w : World) (s : Nat) (v0 v1 : Value) (bg : Int) : Prop := Cells w s 3 (RstV v0 v1 bg)
theorem rStNew_any (w : World) : Calls Try.prog 54 #[] w (fun e w' => e = .returned (.pointer (some ⟨w.heap.size, 0, none⟩)) ∧ Below w.heap.size w w' ∧ RstAt w' w.heap.size (.slice none 0 0) (.slice none 0 0) (-1) ∧ w.heap.size < w'.heap.size) := by
  go_enter Try.func54, Try.ntmps54
  go_wp2
  go_ret
  refine ⟨rfl, by (repeat (first | (with_reducible exact Below.refl _ _) | (with_reducible assumption) | (with_reducible refine Below.alloc ?_ (by (repeat (first | (with_reducible exact Nat.le_refl _) | (with_reducible assumption) | (with_reducible refine le_up ?_) | (with_reducible refine le_alloc ?_) | (with_reducible refine le_setCell ?_) | (with_reducible refine le_drew ?_) | (with_reducible refine le_drewN ?_) | omega))) _) | (with_reducible refine Below.drew ?_) | (with_reducible refine Below.drewN ?_ _) | (with_reducible refine Below.setCell ?_ (by (repeat (first | (with_reducible exact Nat.le_refl _) | (with_reducible assumption) | (with_reducible refine le_up ?_) | (with_reducible refine le_alloc ?_) | (with_reducible refine le_setCell ?_) | (with_reducible refine le_drew ?_) | (with_reducible refine le_drewN ?_) | omega))) _) | (with_reducible refine Below.up ?_ (by (repeat (first | (with_reducible exact Nat.le_refl _) | (with_reducible assumption) | (with_reducible refine le_up ?_) | (with_reducible refine le_alloc ?_) | (with_reducible refine le_setCell ?_) | (with_reducible refine le_drew ?_) | (with_reducible refine le_drewN ?_) | omega)))))), ⟨by simp, fun i hi => ?_, fun i => World.frozen?_alloc_new _ _ _ _⟩, by simp⟩
  have : i = 0 ∨ i = 1 ∨ i = 2 := by omega
  rcases this with rfl | rfl | rfl <;> simp [RstV]
def rdR (x : List Nat) : List Nat := if goodX x then bnkR (x.drop 1) else zeroR
set_option maxRecDepth 100000 in
set_option maxHeartbeats 3200000 in
theorem rread_any (w : World) (s k : Nat) (v : Value) (x : List Nat) (hk : k ≤ 1) (hs : s < w.heap.size) (hc : w.cell? ⟨s, k, none⟩ = some v) (hx : Bts w v x) (hl : x.length ≤ 1000000) :
    Calls Try.prog 82 #[.pointer (some ⟨s, 0, none⟩), .int .i64 (k : Int)] w (Gives w (.tuple #[.agg (recL (rdR x)).toArray, .bool (goodX x)])) := by
  obtain ⟨va, vn, vc, rfl⟩ := hx.slice
  have hk2 : (k : Int) < 2 := by omega
  have hk3 : (0 : Int) ≤ (k : Int) := by omega
  have hxl := hx.len
  have HX := Lib.hid (And.intro hx hl)
  have HC := Lib.hid (And.intro hc hs)
  clear hx hc hl
  go_enter Try.func82, Try.ntmps82
  go_upto_region 1 with fail
  refine wp_gen (fun W => W.there w.heap.size 0 50 ∧ Below w.heap.size w W ∧ w.heap.size < W.heap.size) ⟨there_new w _ _ 50 (by rfl), by (repeat (first | (with_reducible exact Below.refl _ _) | (with_reducible assumption) | (with_reducible refine Below.alloc ?_ (by (repeat (first | (with_reducible exact Nat.le_refl _) | (with_reducible assumption) | (with_reducible refine le_up ?_) | (with_reducible refine le_alloc ?_) | (with_reducible refine le_setCell ?_) | (with_reducible refine le_drew ?_) | (with_reducible refine le_drewN ?_) | omega))) _) | (with_reducible refine Below.drew ?_) | (with_reducible refine Below.drewN ?_ _) | (with_reducible refine Below.setCell ?_ (by (repeat (first | (with_reducible exact Nat.le_refl _) | (with_reducible assumption) | (with_reducible refine le_up ?_) | (with_reducible refine le_alloc ?_) | (with_reducible refine le_setCell ?_) | (with_reducible refine le_drew ?_) | (with_reducible refine le_drewN ?_) | omega))) _) | (with_reducible refine Below.up ?_ (by (repeat (first | (with_reducible exact Nat.le_refl _) | (with_reducible assumption) | (with_reducible refine le_up ?_) | (with_reducible refine le_alloc ?_) | (with_reducible refine le_setCell ?_) | (with_reducible refine le_drew ?_) | (with_reducible refine le_drewN ?_) | omega)))))), by simp⟩ ?_
  rintro W0 ⟨hth0, hbw0, hlw0⟩
  have c0 : W0.cell? ⟨s, k, none⟩ = some (.slice va vn vc) := by rw [hbw0.cell (p := ⟨s, k, none⟩) HC.out.2]; exact HC.out.1
  haveI hls : LtSize s W0 := ⟨by omega⟩
  have H0 := Lib.hid (And.intro hth0 (And.intro hbw0 hlw0))
  clear hth0 hbw0 hlw0 HC
  by_cases hn : vn = 0
  · subst hn
    have HGX := Lib.hid (show rdR x = zeroR ∧ goodX x = false by
      have hg : goodX x = false := by unfold goodX; rw [← hxl]; rfl
      unfold rdR; rw [hg]; exact ⟨rfl, rfl⟩)
    clear hxl
    go_upto_region 3 with fail
    refine wp_gen (fun W => W.there w.heap.size 0 50 ∧ Below w.heap.size w W) ⟨H0.out.1, H0.out.2.1⟩ ?_
    clear H0 c0
    rintro WE ⟨hth, hbw⟩
    obtain ⟨Z, hZ⟩ : ∃ Z, Z = recL zeroR := ⟨_, rfl⟩
    have hzl : Z.length = 50 := by rw [hZ]; rfl
    have hz1 : Z.toArray.all (·.oneCell') = true := by rw [hZ]; exact recL_one rfl
    have hst := run_storeCells_mid WE w.heap.size 0 Z (by rw [hzl]; exact hth) hz1
    have hrs := World.rangeAt_setCells_same WE w.heap.size 0 Z (by rw [hzl]; exact hth)
    have HRES := Lib.hid (run_loadVar_mid (P := Try.prog) (WE.setCells w.heap.size 0 Z) w.heap.size 0 69 Z _ hrs Try.underlying69 (by rfl) (by rw [hzl]; kernel_rfl))
    have HBW := Lib.hid hbw
    have HZB := Lib.hid (fun W => (show (Instr.build 69 #[]).run Try.prog W = .ok (.agg Z.toArray) W by rw [hZ]; exact run_bld0r W))
    have HZE := Lib.hid hZ
    clear hth hbw hrs hz1 hZ
    go_wp2_with (refine wpList_bld0 rfl 69 rfl (.agg Z.toArray) HZB.out ?_)
    refine bodyPost_ret (v := .tuple #[.agg Z.toArray, .bool false]) ?_ rfl (Gives.mk (by rw [HZE.out]; rw [HGX.out.1, HGX.out.2]) (HBW.out.trans (below_setCells _ _ _ _ _ (Nat.le_refl _))))
    simp only [results, show Try.func82.results = #[ResultVar.cell 4 69, ResultVar.tmp 5] from rfl]
    simp [asAddr, HRES.out]
  · have hxp : 0 < x.length := by omega
    obtain ⟨g, off, cap, hsl, hlc, hc63, hgb, hcell⟩ := HX.out.1.some hxp
    obtain ⟨rfl, rfl, rfl⟩ : va = some ⟨g, off, none⟩ ∧ vn = x.length ∧ vc = cap := by simpa using hsl
    have z0 : W0.cell? ⟨g, off, none⟩ = some (.int .u8 ((x.getD 0 0 : Nat) : Int)) := by
      rw [H0.out.2.1.cell (p := ⟨g, off, none⟩) hgb]; exact hcell 0 hxp
    haveI hlg : LtSize g W0 := ⟨Nat.lt_of_lt_of_le hgb H0.out.2.1.size⟩
    have HXL := Lib.hid (And.intro hxp (And.intro hlc hcell))
    clear hxl hsl hcell hc63
    generalize hm : x.length = m at *
    have HM := Lib.hid hm
    clear hxp hlc hm
    have hn' : ¬ (m : Int) = 0 := by omega
    have hn0 : (0 : Int) < (m : Int) := by omega
    obtain ⟨y0, hy0⟩ : ∃ y, y = x.getD 0 0 := ⟨_, rfl⟩
    rw [← hy0] at z0
    have HY := Lib.hid hy0
    clear hy0
    by_cases h165 : y0 = 165
    · subst h165
      have hm1 : 1 ≤ m := by omega
      have hlc' : m ≤ vc := HXL.out.2.1
      have HBK := Lib.hid (bts_skip (show Bts W0 (.slice (some ⟨g, off, none⟩) m vc) x from HX.out.1.below H0.out.2.1) 1 hm1 hlc')
      have hok : RecOK (bnkR (x.drop 1)) := bnkR_ok (fun y hy => HX.out.1.1 y (List.mem_of_mem_drop hy))
      go_wp2_with (refine wpList_skip rfl _ _ rfl 1 g off m vc rfl rfl hm1 hlc' ?_)
      refine (rbRead_any _ (x.drop 1) W0 HBK.out (by rw [List.length_drop, HM.out]; have := HX.out.2; omega)).mono ?_
      rintro e2 w2 ⟨rfl, xx, rfl⟩
      have hgx : goodX x = bnkG (x.drop 1) := by
        have hp : 0 < x.length := by rw [HM.out]; exact HXL.out.1
        unfold goodX
        rw [← HY.out]
        simp [hp]
      have hFv : bnkF (x.drop 1) = if bnkG (x.drop 1) then 0 else 300 := rfl
      by_cases hg : bnkG (x.drop 1) = true
      · rw [hFv, if_pos hg]
        obtain ⟨gx, hgb⟩ : ∃ b : Bool, b = true := ⟨_, rfl⟩
        have HGB := Lib.hid hgb
        have HGX := Lib.hid (show rdR x = bnkR (x.drop 1) ∧ goodX x = gx by unfold rdR; rw [hgx, hg, hgb]; exact ⟨rfl, rfl⟩)
        clear hFv hg hgx hgb
        obtain ⟨M, hM⟩ : ∃ M, M = recL (bnkR (x.drop 1)) := ⟨_, rfl⟩
        rw [← hM]
        have hml : M.length = 50 := by rw [hM]; exact recL_length hok.1
        have hone : M.toArray.all (·.oneCell') = true := by rw [hM]; exact recL_one hok.1
        have hs8 := store_newR (up W0 xx) 69 M hml hone
        have hst := hs8.1
        have HS := Lib.hid (And.intro hs8.2.1 (And.intro hs8.2.2.1 hs8.2.2.2.2))
        have HME := Lib.hid (And.intro hM (And.intro hml hone))
        clear hs8 hM hone hok
        go_upto_region 5 with fail
        obtain ⟨q, hq⟩ : ∃ q, q = (up W0 xx).heap.size := ⟨_, rfl⟩
        rw [← hq]
        rw [← hq] at HS
        have hq0 : W0.heap.size ≤ q := hq ▸ up_size W0 xx
        have hb0 : Below W0.heap.size W0 _ := (up_below W0 xx).trans (HS.out.1.mono hq0)
        refine wp_gen (fun W => W.there w.heap.size 0 50 ∧ Below w.heap.size w W ∧ W.rangeAt q 0 M) ⟨there_below hb0 H0.out.2.2 H0.out.1, H0.out.2.1.trans (hb0.mono H0.out.2.1.size), HS.out.2.1⟩ ?_
        clear hst hq hq0 hb0 HS H0 c0 z0
        rintro W5 ⟨ht5, hb5, hr5⟩
        have hst := run_storeCells_mid W5 w.heap.size 0 M (by rw [hml]; exact ht5) HME.out.2.2
        have hrs := World.rangeAt_setCells_same W5 w.heap.size 0 M (by rw [hml]; exact ht5)
        have HRES := Lib.hid (run_loadVar_mid (P := Try.prog) (W5.setCells w.heap.size 0 M) w.heap.size 0 69 M _ hrs Try.underlying69 (by rfl) (by rw [hml]; kernel_rfl))
        have H5 := Lib.hid (And.intro hb5 hr5)
        clear ht5 hb5 hr5 hrs
        go_wp2_with (refine wpList_load_midG 69 (.tmp 7) (by with_reducible rfl) (by rfl) q 0 (by rfl) M _ H5.out.2 Try.underlying69 (by rfl) (by rw [HME.out.2.1]; kernel_rfl) ?_)
        refine bodyPost_ret (v := .tuple #[.agg M.toArray, .bool gx]) ?_ rfl (Gives.mk (by rw [HME.out.1]; rw [HGX.out.1, HGX.out.2]) (H5.out.1.trans (below_setCells _ _ _ _ _ (Nat.le_refl _))))
        simp only [results, show Try.func82.results = #[ResultVar.cell 4 69, ResultVar.tmp 5] from rfl]
        simp [asAddr, HRES.out, HGB.out]
      · rw [hFv, if_neg hg]
        obtain ⟨gx, hgb⟩ : ∃ b : Bool, b = false := ⟨_, rfl⟩
        have HGB := Lib.hid hgb
        have HGX := Lib.hid (show rdR x = bnkR (x.drop 1) ∧ goodX x = gx by
          have hg' : bnkG (x.drop 1) = false := by cases h : bnkG (x.drop 1) <;> simp_all
          unfold rdR; rw [hgx, hg', hgb]; unfold bnkR; rw [hg']; exact ⟨rfl, rfl⟩)
        clear hFv hg hgx hgb
        obtain ⟨M, hM⟩ : ∃ M, M = recL (bnkR (x.drop 1)) := ⟨_, rfl⟩
        rw [← hM]
        have hml : M.length = 50 := by rw [hM]; exact recL_length hok.1
        have hone : M.toArray.all (·.oneCell') = true := by rw [hM]; exact recL_one hok.1
        have hs8 := store_newR (up W0 xx) 69 M hml hone
        have hst := hs8.1
        have HS := Lib.hid (And.intro hs8.2.1 (And.intro hs8.2.2.1 hs8.2.2.2.2))
        have HME := Lib.hid (And.intro hM (And.intro hml hone))
        clear hs8 hM hone hok
        go_upto_region 5 with fail
        obtain ⟨q, hq⟩ : ∃ q, q = (up W0 xx).heap.size := ⟨_, rfl⟩
        rw [← hq]
        rw [← hq] at HS
        have hq0 : W0.heap.size ≤ q := hq ▸ up_size W0 xx
        have hb0 : Below W0.heap.size W0 _ := (up_below W0 xx).trans (HS.out.1.mono hq0)
        refine wp_gen (fun W => W.there w.heap.size 0 50 ∧ Below w.heap.size w W ∧ W.rangeAt q 0 M) ⟨there_below hb0 H0.out.2.2 H0.out.1, H0.out.2.1.trans (hb0.mono H0.out.2.1.size), HS.out.2.1⟩ ?_
        clear hst hq hq0 hb0 HS H0 c0 z0
        rintro W5 ⟨ht5, hb5, hr5⟩
        have hst := run_storeCells_mid W5 w.heap.size 0 M (by rw [hml]; exact ht5) HME.out.2.2
        have hrs := World.rangeAt_setCells_same W5 w.heap.size 0 M (by rw [hml]; exact ht5)
        have HRES := Lib.hid (run_loadVar_mid (P := Try.prog) (W5.setCells w.heap.size 0 M) w.heap.size 0 69 M _ hrs Try.underlying69 (by rfl) (by rw [hml]; kernel_rfl))
        have H5 := Lib.hid (And.intro hb5 hr5)
        clear ht5 hb5 hr5 hrs
        go_wp2_with (refine wpList_load_midG 69 (.tmp 7) (by with_reducible rfl) (by rfl) q 0 (by rfl) M _ H5.out.2 Try.underlying69 (by rfl) (by rw [HME.out.2.1]; kernel_rfl) ?_)
        refine bodyPost_ret (v := .tuple #[.agg M.toArray, .bool gx]) ?_ rfl (Gives.mk (by rw [HME.out.1]; rw [HGX.out.1, HGX.out.2]) (H5.out.1.trans (below_setCells _ _ _ _ _ (Nat.le_refl _))))
        simp only [results, show Try.func82.results = #[ResultVar.cell 4 69, ResultVar.tmp 5] from rfl]
        simp [asAddr, HRES.out, HGB.out]
    · have HGX := Lib.hid (show rdR x = zeroR ∧ goodX x = false by
        have hg : goodX x = false := by
          unfold goodX
          rw [← HY.out]
          simp [h165]
        unfold rdR; rw [hg]; exact ⟨rfl, rfl⟩)
      have h1 : ((y0 : Int) != 165) = true := by simp; omega
      go_upto_region 3 with fail
      refine wp_gen (fun W => W.there w.heap.size 0 50 ∧ Below w.heap.size w W) ⟨H0.out.1, H0.out.2.1⟩ ?_
      clear H0 c0
      rintro WE ⟨hth, hbw⟩
      obtain ⟨Z, hZ⟩ : ∃ Z, Z = recL zeroR := ⟨_, rfl⟩
      have hzl : Z.length = 50 := by rw [hZ]; rfl
      have hz1 : Z.toArray.all (·.oneCell') = true := by rw [hZ]; exact recL_one rfl
      have hst := run_storeCells_mid WE w.heap.size 0 Z (by rw [hzl]; exact hth) hz1
      have hrs := World.rangeAt_setCells_same WE w.heap.size 0 Z (by rw [hzl]; exact hth)
      have HRES := Lib.hid (run_loadVar_mid (P := Try.prog) (WE.setCells w.heap.size 0 Z) w.heap.size 0 69 Z _ hrs Try.underlying69 (by rfl) (by rw [hzl]; kernel_rfl))
      have HBW := Lib.hid hbw
      have HZB := Lib.hid (fun W => (show (Instr.build 69 #[]).run Try.prog W = .ok (.agg Z.toArray) W by rw [hZ]; exact run_bld0r W))
      have HZE := Lib.hid hZ
      clear hth hbw hrs hz1 hZ
      go_wp2_with (refine wpList_bld0 rfl 69 rfl (.agg Z.toArray) HZB.out ?_)
      refine bodyPost_ret (v := .tuple #[.agg Z.toArray, .bool false]) ?_ rfl (Gives.mk (by rw [HZE.out]; rw [HGX.out.1, HGX.out.2]) (HBW.out.trans (below_setCells _ _ _ _ _ (Nat.le_refl _))))
      simp only [results, show Try.func82.results = #[ResultVar.cell 4 69, ResultVar.tmp 5] from rfl]
      simp [asAddr, HRES.out]
end Go.Proofs.Ytjkgodhoonkinaa
