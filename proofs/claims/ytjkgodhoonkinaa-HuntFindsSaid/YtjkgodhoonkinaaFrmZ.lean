/-
  The walk over the reference's Read of frames.
-/
import Derived.Test.YtjkgodhoonkinaaFrmY
namespace Go.Proofs.Ytjkgodhoonkinaa
open Go.RowKit
set_option linter.unusedVariables false
set_option linter.unusedSimpArgs false

/-- What is known of the result's variable, before a whole frame is stored. -/
theorem res_zero (W : World) (g : Nat) (hth : W.there g 0 21) (L : List Value) (hL : L.length = 21) (h1 : L.toArray.all (·.oneCell') = true) :
    (storeCells ⟨g, 0, none⟩ L).run Try.prog W = .ok () (W.setCells g 0 L) ∧ (loadVar 28 ⟨g, 0, none⟩).run Try.prog (W.setCells g 0 L) = .ok (.agg L.toArray) (W.setCells g 0 L) :=
  ⟨run_storeCells_mid W g 0 L (by rw [hL]; exact hth) h1, run_loadVar_mid (P := Try.prog) (W.setCells g 0 L) g 0 28 L _ (World.rangeAt_setCells_same W g 0 L (by rw [hL]; exact hth)) Try.underlying28 (by rfl) (by rw [hL]; kernel_rfl)⟩
set_option maxRecDepth 100000 in
theorem rRead_w0 (v : Value) (bs : List Nat) (w : World) (hv : Bts w v bs) (hn6 : bs.length ≤ 1000000) (hl : 0 < bs.length) (h0 : bs.getD 0 0 ≠ 165) :
    Calls Try.prog 18 #[v] w (Gives w (.tuple #[.agg #[.int .i64 0, .int .i64 0, .int .u32 0, .int .u64 0, .slice none 0 0, .int .u8 0, .int .u8 0, .int .u8 0, .int .u8 0, .int .u8 0, .int .u8 0, .int .u8 0, .int .u8 0, .int .u8 0, .int .u8 0, .int .u8 0, .int .u8 0, .int .u8 0, .int .u8 0, .int .u8 0, .int .u8 0], .int .i64 0, .int .i64 130])) := by
  obtain ⟨va, vn, vc, rfl⟩ := hv.slice
  obtain rfl := hv.len
  obtain ⟨b, off, cap, hsl, hlc, hc, hb, hcell⟩ := hv.some (by omega)
  obtain ⟨rfl, rfl⟩ : va = some ⟨b, off, none⟩ ∧ vc = cap := by simpa using hsl
  haveI : LtSize b w := ⟨hb⟩
  have hL0 : (0 : Int) < (bs.length : Int) := by omega
  have hk0 : 0 < bs.length := by omega
  have c0 := hcell 0 (by omega)
  rw [Nat.add_zero] at c0
  have hlt2 := hv.lt 2
  clear hcell hsl hv
  generalize bs.getD 0 0 = y0 at *
  have n0 : ¬ ((y0 : Nat) : Int) = 165 := by omega

  go_enter Try.func18, Try.ntmps18
  go_upto_region 2 with fail
  refine wp_gen (fun W => W.there w.heap.size 0 21 ∧ Below w.heap.size w W) ⟨there_new w _ _ 21 rfl, by (repeat (first | (with_reducible exact Below.refl _ _) | (with_reducible assumption) | (with_reducible refine Below.alloc ?_ (by (repeat (first | (with_reducible exact Nat.le_refl _) | (with_reducible assumption) | (with_reducible refine le_up ?_) | (with_reducible refine le_alloc ?_) | (with_reducible refine le_setCell ?_) | (with_reducible refine le_drew ?_) | (with_reducible refine le_drewN ?_) | omega))) _) | (with_reducible refine Below.drew ?_) | (with_reducible refine Below.drewN ?_ _) | (with_reducible refine Below.setCell ?_ (by (repeat (first | (with_reducible exact Nat.le_refl _) | (with_reducible assumption) | (with_reducible refine le_up ?_) | (with_reducible refine le_alloc ?_) | (with_reducible refine le_setCell ?_) | (with_reducible refine le_drew ?_) | (with_reducible refine le_drewN ?_) | omega))) _) | (with_reducible refine Below.up ?_ (by (repeat (first | (with_reducible exact Nat.le_refl _) | (with_reducible assumption) | (with_reducible refine le_up ?_) | (with_reducible refine le_alloc ?_) | (with_reducible refine le_setCell ?_) | (with_reducible refine le_drew ?_) | (with_reducible refine le_drewN ?_) | omega))))))⟩ ?_
  rintro W ⟨hth, hbw⟩
  refine wp_region_lit ?_
  refine wpList_plain rfl fun K hK => ?_
  go_simp
  refine hK _ _ ?_
  clear hK K
  refine wpList_store_mid rfl _ _ _ rfl _ _ _ rfl rfl hth (by kernel_rfl) (by kernel_rfl) ?_
  have hrg := Lib.hid (World.rangeAt_setCells_same W w.heap.size 0 [.int .i64 0, .int .i64 0, .int .u32 0, .int .u64 0, .slice none 0 0, .int .u8 0, .int .u8 0, .int .u8 0, .int .u8 0, .int .u8 0, .int .u8 0, .int .u8 0, .int .u8 0, .int .u8 0, .int .u8 0, .int .u8 0, .int .u8 0, .int .u8 0, .int .u8 0, .int .u8 0, .int .u8 0] hth)
  have hbs := Lib.hid (Below.trans hbw (below_setCells w.heap.size [.int .i64 0, .int .i64 0, .int .u32 0, .int .u64 0, .slice none 0 0, .int .u8 0, .int .u8 0, .int .u8 0, .int .u8 0, .int .u8 0, .int .u8 0, .int .u8 0, .int .u8 0, .int .u8 0, .int .u8 0, .int .u8 0, .int .u8 0, .int .u8 0, .int .u8 0, .int .u8 0, .int .u8 0] W w.heap.size 0 (Nat.le_refl _)))
  clear hth hbw
  refine wpList_gen (fun W => W.rangeAt w.heap.size 0 [.int .i64 0, .int .i64 0, .int .u32 0, .int .u64 0, .slice none 0 0, .int .u8 0, .int .u8 0, .int .u8 0, .int .u8 0, .int .u8 0, .int .u8 0, .int .u8 0, .int .u8 0, .int .u8 0, .int .u8 0, .int .u8 0, .int .u8 0, .int .u8 0, .int .u8 0, .int .u8 0, .int .u8 0] ∧ Below w.heap.size w W) ⟨hrg.out, hbs.out⟩ ?_
  clear hrg hbs
  rintro W2 ⟨hr2, hb2⟩
  have hld := run_loadVar_mid (P := Try.prog) W2 w.heap.size 0 28 [.int .i64 0, .int .i64 0, .int .u32 0, .int .u64 0, .slice none 0 0, .int .u8 0, .int .u8 0, .int .u8 0, .int .u8 0, .int .u8 0, .int .u8 0, .int .u8 0, .int .u8 0, .int .u8 0, .int .u8 0, .int .u8 0, .int .u8 0, .int .u8 0, .int .u8 0, .int .u8 0, .int .u8 0] _ hr2 Try.underlying28 (by rfl) (by kernel_rfl)
  have HZ := Lib.hid hld
  have HB := Lib.hid hb2
  clear hld hr2 hb2
  go_wp2
  refine bodyPost_ret (v := .tuple #[.agg #[.int .i64 0, .int .i64 0, .int .u32 0, .int .u64 0, .slice none 0 0, .int .u8 0, .int .u8 0, .int .u8 0, .int .u8 0, .int .u8 0, .int .u8 0, .int .u8 0, .int .u8 0, .int .u8 0, .int .u8 0, .int .u8 0, .int .u8 0, .int .u8 0, .int .u8 0, .int .u8 0, .int .u8 0], .int .i64 0, .int .i64 130]) ?_ rfl (Gives.mk rfl HB.out)
  simp only [results, show Try.func18.results = #[ResultVar.cell 2 28, ResultVar.tmp 3, ResultVar.tmp 4] from rfl]
  simp [asAddr, HZ.out]
set_option maxRecDepth 100000 in
theorem rRead_w1 (v : Value) (bs : List Nat) (w : World) (hv : Bts w v bs) (hn6 : bs.length ≤ 1000000) (hl : 1 < bs.length) (h0 : bs.getD 0 0 = 165) (h1 : bs.getD 1 0 ≠ 90) :
    Calls Try.prog 18 #[v] w (Gives w (.tuple #[.agg #[.int .i64 0, .int .i64 0, .int .u32 0, .int .u64 0, .slice none 0 0, .int .u8 0, .int .u8 0, .int .u8 0, .int .u8 0, .int .u8 0, .int .u8 0, .int .u8 0, .int .u8 0, .int .u8 0, .int .u8 0, .int .u8 0, .int .u8 0, .int .u8 0, .int .u8 0, .int .u8 0, .int .u8 0], .int .i64 0, .int .i64 130])) := by
  obtain ⟨va, vn, vc, rfl⟩ := hv.slice
  obtain rfl := hv.len
  obtain ⟨b, off, cap, hsl, hlc, hc, hb, hcell⟩ := hv.some (by omega)
  obtain ⟨rfl, rfl⟩ : va = some ⟨b, off, none⟩ ∧ vc = cap := by simpa using hsl
  haveI : LtSize b w := ⟨hb⟩
  have hL0 : (0 : Int) < (bs.length : Int) := by omega
  have hk0 : 0 < bs.length := by omega
  have hL1 : (1 : Int) < (bs.length : Int) := by omega
  have hk1 : 1 < bs.length := by omega
  have c0 := hcell 0 (by omega)
  have c1 := hcell 1 (by omega)
  rw [Nat.add_zero] at c0
  have hlt2 := hv.lt 2
  clear hcell hsl hv
  generalize bs.getD 0 0 = y0 at *
  generalize bs.getD 1 0 = y1 at *
  obtain rfl : y0 = 165 := by omega
  have n1 : ¬ ((y1 : Nat) : Int) = 90 := by omega

  go_enter Try.func18, Try.ntmps18
  go_upto_region 2 with fail
  refine wp_gen (fun W => W.there w.heap.size 0 21 ∧ Below w.heap.size w W) ⟨there_new w _ _ 21 rfl, by (repeat (first | (with_reducible exact Below.refl _ _) | (with_reducible assumption) | (with_reducible refine Below.alloc ?_ (by (repeat (first | (with_reducible exact Nat.le_refl _) | (with_reducible assumption) | (with_reducible refine le_up ?_) | (with_reducible refine le_alloc ?_) | (with_reducible refine le_setCell ?_) | (with_reducible refine le_drew ?_) | (with_reducible refine le_drewN ?_) | omega))) _) | (with_reducible refine Below.drew ?_) | (with_reducible refine Below.drewN ?_ _) | (with_reducible refine Below.setCell ?_ (by (repeat (first | (with_reducible exact Nat.le_refl _) | (with_reducible assumption) | (with_reducible refine le_up ?_) | (with_reducible refine le_alloc ?_) | (with_reducible refine le_setCell ?_) | (with_reducible refine le_drew ?_) | (with_reducible refine le_drewN ?_) | omega))) _) | (with_reducible refine Below.up ?_ (by (repeat (first | (with_reducible exact Nat.le_refl _) | (with_reducible assumption) | (with_reducible refine le_up ?_) | (with_reducible refine le_alloc ?_) | (with_reducible refine le_setCell ?_) | (with_reducible refine le_drew ?_) | (with_reducible refine le_drewN ?_) | omega))))))⟩ ?_
  rintro W ⟨hth, hbw⟩
  refine wp_region_lit ?_
  refine wpList_plain rfl fun K hK => ?_
  go_simp
  refine hK _ _ ?_
  clear hK K
  refine wpList_store_mid rfl _ _ _ rfl _ _ _ rfl rfl hth (by kernel_rfl) (by kernel_rfl) ?_
  have hrg := Lib.hid (World.rangeAt_setCells_same W w.heap.size 0 [.int .i64 0, .int .i64 0, .int .u32 0, .int .u64 0, .slice none 0 0, .int .u8 0, .int .u8 0, .int .u8 0, .int .u8 0, .int .u8 0, .int .u8 0, .int .u8 0, .int .u8 0, .int .u8 0, .int .u8 0, .int .u8 0, .int .u8 0, .int .u8 0, .int .u8 0, .int .u8 0, .int .u8 0] hth)
  have hbs := Lib.hid (Below.trans hbw (below_setCells w.heap.size [.int .i64 0, .int .i64 0, .int .u32 0, .int .u64 0, .slice none 0 0, .int .u8 0, .int .u8 0, .int .u8 0, .int .u8 0, .int .u8 0, .int .u8 0, .int .u8 0, .int .u8 0, .int .u8 0, .int .u8 0, .int .u8 0, .int .u8 0, .int .u8 0, .int .u8 0, .int .u8 0, .int .u8 0] W w.heap.size 0 (Nat.le_refl _)))
  clear hth hbw
  refine wpList_gen (fun W => W.rangeAt w.heap.size 0 [.int .i64 0, .int .i64 0, .int .u32 0, .int .u64 0, .slice none 0 0, .int .u8 0, .int .u8 0, .int .u8 0, .int .u8 0, .int .u8 0, .int .u8 0, .int .u8 0, .int .u8 0, .int .u8 0, .int .u8 0, .int .u8 0, .int .u8 0, .int .u8 0, .int .u8 0, .int .u8 0, .int .u8 0] ∧ Below w.heap.size w W) ⟨hrg.out, hbs.out⟩ ?_
  clear hrg hbs
  rintro W2 ⟨hr2, hb2⟩
  have hld := run_loadVar_mid (P := Try.prog) W2 w.heap.size 0 28 [.int .i64 0, .int .i64 0, .int .u32 0, .int .u64 0, .slice none 0 0, .int .u8 0, .int .u8 0, .int .u8 0, .int .u8 0, .int .u8 0, .int .u8 0, .int .u8 0, .int .u8 0, .int .u8 0, .int .u8 0, .int .u8 0, .int .u8 0, .int .u8 0, .int .u8 0, .int .u8 0, .int .u8 0] _ hr2 Try.underlying28 (by rfl) (by kernel_rfl)
  have HZ := Lib.hid hld
  have HB := Lib.hid hb2
  clear hld hr2 hb2
  go_wp2
  refine bodyPost_ret (v := .tuple #[.agg #[.int .i64 0, .int .i64 0, .int .u32 0, .int .u64 0, .slice none 0 0, .int .u8 0, .int .u8 0, .int .u8 0, .int .u8 0, .int .u8 0, .int .u8 0, .int .u8 0, .int .u8 0, .int .u8 0, .int .u8 0, .int .u8 0, .int .u8 0, .int .u8 0, .int .u8 0, .int .u8 0, .int .u8 0], .int .i64 0, .int .i64 130]) ?_ rfl (Gives.mk rfl HB.out)
  simp only [results, show Try.func18.results = #[ResultVar.cell 2 28, ResultVar.tmp 3, ResultVar.tmp 4] from rfl]
  simp [asAddr, HZ.out]
set_option maxRecDepth 100000 in
theorem rRead_w2 (v : Value) (bs : List Nat) (w : World) (hv : Bts w v bs) (hn6 : bs.length ≤ 1000000) (hl : 2 < bs.length) (h0 : bs.getD 0 0 = 165) (h1 : bs.getD 1 0 = 90) (h2 : bs.getD 2 0 < 30) :
    Calls Try.prog 18 #[v] w (Gives w (.tuple #[.agg #[.int .i64 0, .int .i64 0, .int .u32 0, .int .u64 0, .slice none 0 0, .int .u8 0, .int .u8 0, .int .u8 0, .int .u8 0, .int .u8 0, .int .u8 0, .int .u8 0, .int .u8 0, .int .u8 0, .int .u8 0, .int .u8 0, .int .u8 0, .int .u8 0, .int .u8 0, .int .u8 0, .int .u8 0], .int .i64 0, .int .i64 130])) := by
  obtain ⟨va, vn, vc, rfl⟩ := hv.slice
  obtain rfl := hv.len
  obtain ⟨b, off, cap, hsl, hlc, hc, hb, hcell⟩ := hv.some (by omega)
  obtain ⟨rfl, rfl⟩ : va = some ⟨b, off, none⟩ ∧ vc = cap := by simpa using hsl
  haveI : LtSize b w := ⟨hb⟩
  have hL0 : (0 : Int) < (bs.length : Int) := by omega
  have hk0 : 0 < bs.length := by omega
  have hL1 : (1 : Int) < (bs.length : Int) := by omega
  have hk1 : 1 < bs.length := by omega
  have hL2 : (2 : Int) < (bs.length : Int) := by omega
  have hk2 : 2 < bs.length := by omega
  have c0 := hcell 0 (by omega)
  have c1 := hcell 1 (by omega)
  have c2 := hcell 2 (by omega)
  rw [Nat.add_zero] at c0
  have hlt2 := hv.lt 2
  clear hcell hsl hv
  generalize bs.getD 0 0 = y0 at *
  generalize bs.getD 1 0 = y1 at *
  generalize bs.getD 2 0 = y2 at *
  obtain rfl : y0 = 165 := by omega
  obtain rfl : y1 = 90 := by omega

  go_enter Try.func18, Try.ntmps18
  go_upto_region 2 with fail
  refine wp_gen (fun W => W.there w.heap.size 0 21 ∧ Below w.heap.size w W) ⟨there_new w _ _ 21 rfl, by (repeat (first | (with_reducible exact Below.refl _ _) | (with_reducible assumption) | (with_reducible refine Below.alloc ?_ (by (repeat (first | (with_reducible exact Nat.le_refl _) | (with_reducible assumption) | (with_reducible refine le_up ?_) | (with_reducible refine le_alloc ?_) | (with_reducible refine le_setCell ?_) | (with_reducible refine le_drew ?_) | (with_reducible refine le_drewN ?_) | omega))) _) | (with_reducible refine Below.drew ?_) | (with_reducible refine Below.drewN ?_ _) | (with_reducible refine Below.setCell ?_ (by (repeat (first | (with_reducible exact Nat.le_refl _) | (with_reducible assumption) | (with_reducible refine le_up ?_) | (with_reducible refine le_alloc ?_) | (with_reducible refine le_setCell ?_) | (with_reducible refine le_drew ?_) | (with_reducible refine le_drewN ?_) | omega))) _) | (with_reducible refine Below.up ?_ (by (repeat (first | (with_reducible exact Nat.le_refl _) | (with_reducible assumption) | (with_reducible refine le_up ?_) | (with_reducible refine le_alloc ?_) | (with_reducible refine le_setCell ?_) | (with_reducible refine le_drew ?_) | (with_reducible refine le_drewN ?_) | omega))))))⟩ ?_
  rintro W ⟨hth, hbw⟩
  refine wp_region_lit ?_
  refine wpList_plain rfl fun K hK => ?_
  go_simp
  refine hK _ _ ?_
  clear hK K
  refine wpList_store_mid rfl _ _ _ rfl _ _ _ rfl rfl hth (by kernel_rfl) (by kernel_rfl) ?_
  have hrg := Lib.hid (World.rangeAt_setCells_same W w.heap.size 0 [.int .i64 0, .int .i64 0, .int .u32 0, .int .u64 0, .slice none 0 0, .int .u8 0, .int .u8 0, .int .u8 0, .int .u8 0, .int .u8 0, .int .u8 0, .int .u8 0, .int .u8 0, .int .u8 0, .int .u8 0, .int .u8 0, .int .u8 0, .int .u8 0, .int .u8 0, .int .u8 0, .int .u8 0] hth)
  have hbs := Lib.hid (Below.trans hbw (below_setCells w.heap.size [.int .i64 0, .int .i64 0, .int .u32 0, .int .u64 0, .slice none 0 0, .int .u8 0, .int .u8 0, .int .u8 0, .int .u8 0, .int .u8 0, .int .u8 0, .int .u8 0, .int .u8 0, .int .u8 0, .int .u8 0, .int .u8 0, .int .u8 0, .int .u8 0, .int .u8 0, .int .u8 0, .int .u8 0] W w.heap.size 0 (Nat.le_refl _)))
  clear hth hbw
  refine wpList_gen (fun W => W.rangeAt w.heap.size 0 [.int .i64 0, .int .i64 0, .int .u32 0, .int .u64 0, .slice none 0 0, .int .u8 0, .int .u8 0, .int .u8 0, .int .u8 0, .int .u8 0, .int .u8 0, .int .u8 0, .int .u8 0, .int .u8 0, .int .u8 0, .int .u8 0, .int .u8 0, .int .u8 0, .int .u8 0, .int .u8 0, .int .u8 0] ∧ Below w.heap.size w W) ⟨hrg.out, hbs.out⟩ ?_
  clear hrg hbs
  rintro W2 ⟨hr2, hb2⟩
  have hld := run_loadVar_mid (P := Try.prog) W2 w.heap.size 0 28 [.int .i64 0, .int .i64 0, .int .u32 0, .int .u64 0, .slice none 0 0, .int .u8 0, .int .u8 0, .int .u8 0, .int .u8 0, .int .u8 0, .int .u8 0, .int .u8 0, .int .u8 0, .int .u8 0, .int .u8 0, .int .u8 0, .int .u8 0, .int .u8 0, .int .u8 0, .int .u8 0, .int .u8 0] _ hr2 Try.underlying28 (by rfl) (by kernel_rfl)
  have HZ := Lib.hid hld
  have HB := Lib.hid hb2
  clear hld hr2 hb2
  go_wp2
  refine bodyPost_ret (v := .tuple #[.agg #[.int .i64 0, .int .i64 0, .int .u32 0, .int .u64 0, .slice none 0 0, .int .u8 0, .int .u8 0, .int .u8 0, .int .u8 0, .int .u8 0, .int .u8 0, .int .u8 0, .int .u8 0, .int .u8 0, .int .u8 0, .int .u8 0, .int .u8 0, .int .u8 0, .int .u8 0, .int .u8 0, .int .u8 0], .int .i64 0, .int .i64 130]) ?_ rfl (Gives.mk rfl HB.out)
  simp only [results, show Try.func18.results = #[ResultVar.cell 2 28, ResultVar.tmp 3, ResultVar.tmp 4] from rfl]
  simp [asAddr, HZ.out]
set_option maxRecDepth 100000 in
theorem rRead_w3 (v : Value) (bs : List Nat) (w : World) (hv : Bts w v bs) (hn6 : bs.length ≤ 1000000) (hl : 2 < bs.length) (h0 : bs.getD 0 0 = 165) (h1 : bs.getD 1 0 = 90) (h2 : ¬ bs.getD 2 0 < 30) (h3 : 78 < bs.getD 2 0) :
    Calls Try.prog 18 #[v] w (Gives w (.tuple #[.agg #[.int .i64 0, .int .i64 0, .int .u32 0, .int .u64 0, .slice none 0 0, .int .u8 0, .int .u8 0, .int .u8 0, .int .u8 0, .int .u8 0, .int .u8 0, .int .u8 0, .int .u8 0, .int .u8 0, .int .u8 0, .int .u8 0, .int .u8 0, .int .u8 0, .int .u8 0, .int .u8 0, .int .u8 0], .int .i64 0, .int .i64 130])) := by
  obtain ⟨va, vn, vc, rfl⟩ := hv.slice
  obtain rfl := hv.len
  obtain ⟨b, off, cap, hsl, hlc, hc, hb, hcell⟩ := hv.some (by omega)
  obtain ⟨rfl, rfl⟩ : va = some ⟨b, off, none⟩ ∧ vc = cap := by simpa using hsl
  haveI : LtSize b w := ⟨hb⟩
  have hL0 : (0 : Int) < (bs.length : Int) := by omega
  have hk0 : 0 < bs.length := by omega
  have hL1 : (1 : Int) < (bs.length : Int) := by omega
  have hk1 : 1 < bs.length := by omega
  have hL2 : (2 : Int) < (bs.length : Int) := by omega
  have hk2 : 2 < bs.length := by omega
  have c0 := hcell 0 (by omega)
  have c1 := hcell 1 (by omega)
  have c2 := hcell 2 (by omega)
  rw [Nat.add_zero] at c0
  have hlt2 := hv.lt 2
  clear hcell hsl hv
  generalize bs.getD 0 0 = y0 at *
  generalize bs.getD 1 0 = y1 at *
  generalize bs.getD 2 0 = y2 at *
  obtain rfl : y0 = 165 := by omega
  obtain rfl : y1 = 90 := by omega

  go_enter Try.func18, Try.ntmps18
  go_upto_region 2 with fail
  refine wp_gen (fun W => W.there w.heap.size 0 21 ∧ Below w.heap.size w W) ⟨there_new w _ _ 21 rfl, by (repeat (first | (with_reducible exact Below.refl _ _) | (with_reducible assumption) | (with_reducible refine Below.alloc ?_ (by (repeat (first | (with_reducible exact Nat.le_refl _) | (with_reducible assumption) | (with_reducible refine le_up ?_) | (with_reducible refine le_alloc ?_) | (with_reducible refine le_setCell ?_) | (with_reducible refine le_drew ?_) | (with_reducible refine le_drewN ?_) | omega))) _) | (with_reducible refine Below.drew ?_) | (with_reducible refine Below.drewN ?_ _) | (with_reducible refine Below.setCell ?_ (by (repeat (first | (with_reducible exact Nat.le_refl _) | (with_reducible assumption) | (with_reducible refine le_up ?_) | (with_reducible refine le_alloc ?_) | (with_reducible refine le_setCell ?_) | (with_reducible refine le_drew ?_) | (with_reducible refine le_drewN ?_) | omega))) _) | (with_reducible refine Below.up ?_ (by (repeat (first | (with_reducible exact Nat.le_refl _) | (with_reducible assumption) | (with_reducible refine le_up ?_) | (with_reducible refine le_alloc ?_) | (with_reducible refine le_setCell ?_) | (with_reducible refine le_drew ?_) | (with_reducible refine le_drewN ?_) | omega))))))⟩ ?_
  rintro W ⟨hth, hbw⟩
  refine wp_region_lit ?_
  refine wpList_plain rfl fun K hK => ?_
  go_simp
  refine hK _ _ ?_
  clear hK K
  refine wpList_store_mid rfl _ _ _ rfl _ _ _ rfl rfl hth (by kernel_rfl) (by kernel_rfl) ?_
  have hrg := Lib.hid (World.rangeAt_setCells_same W w.heap.size 0 [.int .i64 0, .int .i64 0, .int .u32 0, .int .u64 0, .slice none 0 0, .int .u8 0, .int .u8 0, .int .u8 0, .int .u8 0, .int .u8 0, .int .u8 0, .int .u8 0, .int .u8 0, .int .u8 0, .int .u8 0, .int .u8 0, .int .u8 0, .int .u8 0, .int .u8 0, .int .u8 0, .int .u8 0] hth)
  have hbs := Lib.hid (Below.trans hbw (below_setCells w.heap.size [.int .i64 0, .int .i64 0, .int .u32 0, .int .u64 0, .slice none 0 0, .int .u8 0, .int .u8 0, .int .u8 0, .int .u8 0, .int .u8 0, .int .u8 0, .int .u8 0, .int .u8 0, .int .u8 0, .int .u8 0, .int .u8 0, .int .u8 0, .int .u8 0, .int .u8 0, .int .u8 0, .int .u8 0] W w.heap.size 0 (Nat.le_refl _)))
  clear hth hbw
  refine wpList_gen (fun W => W.rangeAt w.heap.size 0 [.int .i64 0, .int .i64 0, .int .u32 0, .int .u64 0, .slice none 0 0, .int .u8 0, .int .u8 0, .int .u8 0, .int .u8 0, .int .u8 0, .int .u8 0, .int .u8 0, .int .u8 0, .int .u8 0, .int .u8 0, .int .u8 0, .int .u8 0, .int .u8 0, .int .u8 0, .int .u8 0, .int .u8 0] ∧ Below w.heap.size w W) ⟨hrg.out, hbs.out⟩ ?_
  clear hrg hbs
  rintro W2 ⟨hr2, hb2⟩
  have hld := run_loadVar_mid (P := Try.prog) W2 w.heap.size 0 28 [.int .i64 0, .int .i64 0, .int .u32 0, .int .u64 0, .slice none 0 0, .int .u8 0, .int .u8 0, .int .u8 0, .int .u8 0, .int .u8 0, .int .u8 0, .int .u8 0, .int .u8 0, .int .u8 0, .int .u8 0, .int .u8 0, .int .u8 0, .int .u8 0, .int .u8 0, .int .u8 0, .int .u8 0] _ hr2 Try.underlying28 (by rfl) (by kernel_rfl)
  have HZ := Lib.hid hld
  have HB := Lib.hid hb2
  clear hld hr2 hb2
  go_wp2
  refine bodyPost_ret (v := .tuple #[.agg #[.int .i64 0, .int .i64 0, .int .u32 0, .int .u64 0, .slice none 0 0, .int .u8 0, .int .u8 0, .int .u8 0, .int .u8 0, .int .u8 0, .int .u8 0, .int .u8 0, .int .u8 0, .int .u8 0, .int .u8 0, .int .u8 0, .int .u8 0, .int .u8 0, .int .u8 0, .int .u8 0, .int .u8 0], .int .i64 0, .int .i64 130]) ?_ rfl (Gives.mk rfl HB.out)
  simp only [results, show Try.func18.results = #[ResultVar.cell 2 28, ResultVar.tmp 3, ResultVar.tmp 4] from rfl]
  simp [asAddr, HZ.out]
set_option maxRecDepth 100000 in
theorem rRead_s0 (v : Value) (bs : List Nat) (w : World) (hv : Bts w v bs) (hn6 : bs.length ≤ 1000000) (hl : bs.length = 0) :
    Calls Try.prog 18 #[v] w (Gives w (.tuple #[.agg #[.int .i64 0, .int .i64 0, .int .u32 0, .int .u64 0, .slice none 0 0, .int .u8 0, .int .u8 0, .int .u8 0, .int .u8 0, .int .u8 0, .int .u8 0, .int .u8 0, .int .u8 0, .int .u8 0, .int .u8 0, .int .u8 0, .int .u8 0, .int .u8 0, .int .u8 0, .int .u8 0, .int .u8 0], .int .i64 0, .int .i64 7])) := by
  obtain ⟨va, vn, vc, rfl⟩ := hv.slice
  obtain rfl := hv.len
  have hL0 : ¬ (0 : Int) < (bs.length : Int) := by omega
  have hL1 : ¬ (1 : Int) < (bs.length : Int) := by omega
  have hL2 : ¬ (2 : Int) < (bs.length : Int) := by omega
  have hI3 : (bs.length : Int) < 3 := by omega
  clear hv hl
  generalize bs.length = n at *

  go_enter Try.func18, Try.ntmps18
  go_upto_region 4 with fail
  refine wp_gen (fun W => W.there w.heap.size 0 21 ∧ Below w.heap.size w W) ⟨there_new w _ _ 21 rfl, by (repeat (first | (with_reducible exact Below.refl _ _) | (with_reducible assumption) | (with_reducible refine Below.alloc ?_ (by (repeat (first | (with_reducible exact Nat.le_refl _) | (with_reducible assumption) | (with_reducible refine le_up ?_) | (with_reducible refine le_alloc ?_) | (with_reducible refine le_setCell ?_) | (with_reducible refine le_drew ?_) | (with_reducible refine le_drewN ?_) | omega))) _) | (with_reducible refine Below.drew ?_) | (with_reducible refine Below.drewN ?_ _) | (with_reducible refine Below.setCell ?_ (by (repeat (first | (with_reducible exact Nat.le_refl _) | (with_reducible assumption) | (with_reducible refine le_up ?_) | (with_reducible refine le_alloc ?_) | (with_reducible refine le_setCell ?_) | (with_reducible refine le_drew ?_) | (with_reducible refine le_drewN ?_) | omega))) _) | (with_reducible refine Below.up ?_ (by (repeat (first | (with_reducible exact Nat.le_refl _) | (with_reducible assumption) | (with_reducible refine le_up ?_) | (with_reducible refine le_alloc ?_) | (with_reducible refine le_setCell ?_) | (with_reducible refine le_drew ?_) | (with_reducible refine le_drewN ?_) | omega))))))⟩ ?_
  rintro W ⟨hth, hbw⟩
  refine wp_region_lit ?_
  refine wpList_plain rfl fun K hK => ?_
  go_simp
  refine hK _ _ ?_
  clear hK K
  refine wpList_store_mid rfl _ _ _ rfl _ _ _ rfl rfl hth (by kernel_rfl) (by kernel_rfl) ?_
  have hrg := Lib.hid (World.rangeAt_setCells_same W w.heap.size 0 [.int .i64 0, .int .i64 0, .int .u32 0, .int .u64 0, .slice none 0 0, .int .u8 0, .int .u8 0, .int .u8 0, .int .u8 0, .int .u8 0, .int .u8 0, .int .u8 0, .int .u8 0, .int .u8 0, .int .u8 0, .int .u8 0, .int .u8 0, .int .u8 0, .int .u8 0, .int .u8 0, .int .u8 0] hth)
  have hbs := Lib.hid (Below.trans hbw (below_setCells w.heap.size [.int .i64 0, .int .i64 0, .int .u32 0, .int .u64 0, .slice none 0 0, .int .u8 0, .int .u8 0, .int .u8 0, .int .u8 0, .int .u8 0, .int .u8 0, .int .u8 0, .int .u8 0, .int .u8 0, .int .u8 0, .int .u8 0, .int .u8 0, .int .u8 0, .int .u8 0, .int .u8 0, .int .u8 0] W w.heap.size 0 (Nat.le_refl _)))
  clear hth hbw
  refine wpList_gen (fun W => W.rangeAt w.heap.size 0 [.int .i64 0, .int .i64 0, .int .u32 0, .int .u64 0, .slice none 0 0, .int .u8 0, .int .u8 0, .int .u8 0, .int .u8 0, .int .u8 0, .int .u8 0, .int .u8 0, .int .u8 0, .int .u8 0, .int .u8 0, .int .u8 0, .int .u8 0, .int .u8 0, .int .u8 0, .int .u8 0, .int .u8 0] ∧ Below w.heap.size w W) ⟨hrg.out, hbs.out⟩ ?_
  clear hrg hbs
  rintro W2 ⟨hr2, hb2⟩
  have hld := run_loadVar_mid (P := Try.prog) W2 w.heap.size 0 28 [.int .i64 0, .int .i64 0, .int .u32 0, .int .u64 0, .slice none 0 0, .int .u8 0, .int .u8 0, .int .u8 0, .int .u8 0, .int .u8 0, .int .u8 0, .int .u8 0, .int .u8 0, .int .u8 0, .int .u8 0, .int .u8 0, .int .u8 0, .int .u8 0, .int .u8 0, .int .u8 0, .int .u8 0] _ hr2 Try.underlying28 (by rfl) (by kernel_rfl)
  have HZ := Lib.hid hld
  have HB := Lib.hid hb2
  clear hld hr2 hb2
  go_wp2
  refine bodyPost_ret (v := .tuple #[.agg #[.int .i64 0, .int .i64 0, .int .u32 0, .int .u64 0, .slice none 0 0, .int .u8 0, .int .u8 0, .int .u8 0, .int .u8 0, .int .u8 0, .int .u8 0, .int .u8 0, .int .u8 0, .int .u8 0, .int .u8 0, .int .u8 0, .int .u8 0, .int .u8 0, .int .u8 0, .int .u8 0, .int .u8 0], .int .i64 0, .int .i64 7]) ?_ rfl (Gives.mk rfl HB.out)
  simp only [results, show Try.func18.results = #[ResultVar.cell 2 28, ResultVar.tmp 3, ResultVar.tmp 4] from rfl]
  simp [asAddr, HZ.out]
set_option maxRecDepth 100000 in
theorem rRead_s1 (v : Value) (bs : List Nat) (w : World) (hv : Bts w v bs) (hn6 : bs.length ≤ 1000000) (hl : bs.length = 1) (h0 : bs.getD 0 0 = 165) :
    Calls Try.prog 18 #[v] w (Gives w (.tuple #[.agg #[.int .i64 0, .int .i64 0, .int .u32 0, .int .u64 0, .slice none 0 0, .int .u8 0, .int .u8 0, .int .u8 0, .int .u8 0, .int .u8 0, .int .u8 0, .int .u8 0, .int .u8 0, .int .u8 0, .int .u8 0, .int .u8 0, .int .u8 0, .int .u8 0, .int .u8 0, .int .u8 0, .int .u8 0], .int .i64 0, .int .i64 7])) := by
  obtain ⟨va, vn, vc, rfl⟩ := hv.slice
  obtain rfl := hv.len
  obtain ⟨b, off, cap, hsl, hlc, hc, hb, hcell⟩ := hv.some (by omega)
  obtain ⟨rfl, rfl⟩ : va = some ⟨b, off, none⟩ ∧ vc = cap := by simpa using hsl
  haveI : LtSize b w := ⟨hb⟩
  have hL0 : (0 : Int) < (bs.length : Int) := by omega
  have hk0 : 0 < bs.length := by omega
  have hL1 : ¬ (1 : Int) < (bs.length : Int) := by omega
  have hL2 : ¬ (2 : Int) < (bs.length : Int) := by omega
  have hI3 : (bs.length : Int) < 3 := by omega
  have c0 := hcell 0 (by omega)
  rw [Nat.add_zero] at c0
  have hlt2 := hv.lt 2
  clear hcell hsl hv
  generalize bs.getD 0 0 = y0 at *
  obtain rfl : y0 = 165 := by omega
  clear hl

  go_enter Try.func18, Try.ntmps18
  go_upto_region 4 with fail
  refine wp_gen (fun W => W.there w.heap.size 0 21 ∧ Below w.heap.size w W) ⟨there_new w _ _ 21 rfl, by (repeat (first | (with_reducible exact Below.refl _ _) | (with_reducible assumption) | (with_reducible refine Below.alloc ?_ (by (repeat (first | (with_reducible exact Nat.le_refl _) | (with_reducible assumption) | (with_reducible refine le_up ?_) | (with_reducible refine le_alloc ?_) | (with_reducible refine le_setCell ?_) | (with_reducible refine le_drew ?_) | (with_reducible refine le_drewN ?_) | omega))) _) | (with_reducible refine Below.drew ?_) | (with_reducible refine Below.drewN ?_ _) | (with_reducible refine Below.setCell ?_ (by (repeat (first | (with_reducible exact Nat.le_refl _) | (with_reducible assumption) | (with_reducible refine le_up ?_) | (with_reducible refine le_alloc ?_) | (with_reducible refine le_setCell ?_) | (with_reducible refine le_drew ?_) | (with_reducible refine le_drewN ?_) | omega))) _) | (with_reducible refine Below.up ?_ (by (repeat (first | (with_reducible exact Nat.le_refl _) | (with_reducible assumption) | (with_reducible refine le_up ?_) | (with_reducible refine le_alloc ?_) | (with_reducible refine le_setCell ?_) | (with_reducible refine le_drew ?_) | (with_reducible refine le_drewN ?_) | omega))))))⟩ ?_
  rintro W ⟨hth, hbw⟩
  refine wp_region_lit ?_
  refine wpList_plain rfl fun K hK => ?_
  go_simp
  refine hK _ _ ?_
  clear hK K
  refine wpList_store_mid rfl _ _ _ rfl _ _ _ rfl rfl hth (by kernel_rfl) (by kernel_rfl) ?_
  have hrg := Lib.hid (World.rangeAt_setCells_same W w.heap.size 0 [.int .i64 0, .int .i64 0, .int .u32 0, .int .u64 0, .slice none 0 0, .int .u8 0, .int .u8 0, .int .u8 0, .int .u8 0, .int .u8 0, .int .u8 0, .int .u8 0, .int .u8 0, .int .u8 0, .int .u8 0, .int .u8 0, .int .u8 0, .int .u8 0, .int .u8 0, .int .u8 0, .int .u8 0] hth)
  have hbs := Lib.hid (Below.trans hbw (below_setCells w.heap.size [.int .i64 0, .int .i64 0, .int .u32 0, .int .u64 0, .slice none 0 0, .int .u8 0, .int .u8 0, .int .u8 0, .int .u8 0, .int .u8 0, .int .u8 0, .int .u8 0, .int .u8 0, .int .u8 0, .int .u8 0, .int .u8 0, .int .u8 0, .int .u8 0, .int .u8 0, .int .u8 0, .int .u8 0] W w.heap.size 0 (Nat.le_refl _)))
  clear hth hbw
  refine wpList_gen (fun W => W.rangeAt w.heap.size 0 [.int .i64 0, .int .i64 0, .int .u32 0, .int .u64 0, .slice none 0 0, .int .u8 0, .int .u8 0, .int .u8 0, .int .u8 0, .int .u8 0, .int .u8 0, .int .u8 0, .int .u8 0, .int .u8 0, .int .u8 0, .int .u8 0, .int .u8 0, .int .u8 0, .int .u8 0, .int .u8 0, .int .u8 0] ∧ Below w.heap.size w W) ⟨hrg.out, hbs.out⟩ ?_
  clear hrg hbs
  rintro W2 ⟨hr2, hb2⟩
  have hld := run_loadVar_mid (P := Try.prog) W2 w.heap.size 0 28 [.int .i64 0, .int .i64 0, .int .u32 0, .int .u64 0, .slice none 0 0, .int .u8 0, .int .u8 0, .int .u8 0, .int .u8 0, .int .u8 0, .int .u8 0, .int .u8 0, .int .u8 0, .int .u8 0, .int .u8 0, .int .u8 0, .int .u8 0, .int .u8 0, .int .u8 0, .int .u8 0, .int .u8 0] _ hr2 Try.underlying28 (by rfl) (by kernel_rfl)
  have HZ := Lib.hid hld
  have HB := Lib.hid hb2
  clear hld hr2 hb2
  go_wp2
  refine bodyPost_ret (v := .tuple #[.agg #[.int .i64 0, .int .i64 0, .int .u32 0, .int .u64 0, .slice none 0 0, .int .u8 0, .int .u8 0, .int .u8 0, .int .u8 0, .int .u8 0, .int .u8 0, .int .u8 0, .int .u8 0, .int .u8 0, .int .u8 0, .int .u8 0, .int .u8 0, .int .u8 0, .int .u8 0, .int .u8 0, .int .u8 0], .int .i64 0, .int .i64 7]) ?_ rfl (Gives.mk rfl HB.out)
  simp only [results, show Try.func18.results = #[ResultVar.cell 2 28, ResultVar.tmp 3, ResultVar.tmp 4] from rfl]
  simp [asAddr, HZ.out]
set_option maxRecDepth 100000 in
theorem rRead_s2 (v : Value) (bs : List Nat) (w : World) (hv : Bts w v bs) (hn6 : bs.length ≤ 1000000) (hl : bs.length = 2) (h0 : bs.getD 0 0 = 165) (h1 : bs.getD 1 0 = 90) :
    Calls Try.prog 18 #[v] w (Gives w (.tuple #[.agg #[.int .i64 0, .int .i64 0, .int .u32 0, .int .u64 0, .slice none 0 0, .int .u8 0, .int .u8 0, .int .u8 0, .int .u8 0, .int .u8 0, .int .u8 0, .int .u8 0, .int .u8 0, .int .u8 0, .int .u8 0, .int .u8 0, .int .u8 0, .int .u8 0, .int .u8 0, .int .u8 0, .int .u8 0], .int .i64 0, .int .i64 7])) := by
  obtain ⟨va, vn, vc, rfl⟩ := hv.slice
  obtain rfl := hv.len
  obtain ⟨b, off, cap, hsl, hlc, hc, hb, hcell⟩ := hv.some (by omega)
  obtain ⟨rfl, rfl⟩ : va = some ⟨b, off, none⟩ ∧ vc = cap := by simpa using hsl
  haveI : LtSize b w := ⟨hb⟩
  have hL0 : (0 : Int) < (bs.length : Int) := by omega
  have hk0 : 0 < bs.length := by omega
  have hL1 : (1 : Int) < (bs.length : Int) := by omega
  have hk1 : 1 < bs.length := by omega
  have hL2 : ¬ (2 : Int) < (bs.length : Int) := by omega
  have hI3 : (bs.length : Int) < 3 := by omega
  have c0 := hcell 0 (by omega)
  have c1 := hcell 1 (by omega)
  rw [Nat.add_zero] at c0
  have hlt2 := hv.lt 2
  clear hcell hsl hv
  generalize bs.getD 0 0 = y0 at *
  generalize bs.getD 1 0 = y1 at *
  obtain rfl : y0 = 165 := by omega
  obtain rfl : y1 = 90 := by omega
  clear hl

  go_enter Try.func18, Try.ntmps18
  go_upto_region 4 with fail
  refine wp_gen (fun W => W.there w.heap.size 0 21 ∧ Below w.heap.size w W) ⟨there_new w _ _ 21 rfl, by (repeat (first | (with_reducible exact Below.refl _ _) | (with_reducible assumption) | (with_reducible refine Below.alloc ?_ (by (repeat (first | (with_reducible exact Nat.le_refl _) | (with_reducible assumption) | (with_reducible refine le_up ?_) | (with_reducible refine le_alloc ?_) | (with_reducible refine le_setCell ?_) | (with_reducible refine le_drew ?_) | (with_reducible refine le_drewN ?_) | omega))) _) | (with_reducible refine Below.drew ?_) | (with_reducible refine Below.drewN ?_ _) | (with_reducible refine Below.setCell ?_ (by (repeat (first | (with_reducible exact Nat.le_refl _) | (with_reducible assumption) | (with_reducible refine le_up ?_) | (with_reducible refine le_alloc ?_) | (with_reducible refine le_setCell ?_) | (with_reducible refine le_drew ?_) | (with_reducible refine le_drewN ?_) | omega))) _) | (with_reducible refine Below.up ?_ (by (repeat (first | (with_reducible exact Nat.le_refl _) | (with_reducible assumption) | (with_reducible refine le_up ?_) | (with_reducible refine le_alloc ?_) | (with_reducible refine le_setCell ?_) | (with_reducible refine le_drew ?_) | (with_reducible refine le_drewN ?_) | omega))))))⟩ ?_
  rintro W ⟨hth, hbw⟩
  refine wp_region_lit ?_
  refine wpList_plain rfl fun K hK => ?_
  go_simp
  refine hK _ _ ?_
  clear hK K
  refine wpList_store_mid rfl _ _ _ rfl _ _ _ rfl rfl hth (by kernel_rfl) (by kernel_rfl) ?_
  have hrg := Lib.hid (World.rangeAt_setCells_same W w.heap.size 0 [.int .i64 0, .int .i64 0, .int .u32 0, .int .u64 0, .slice none 0 0, .int .u8 0, .int .u8 0, .int .u8 0, .int .u8 0, .int .u8 0, .int .u8 0, .int .u8 0, .int .u8 0, .int .u8 0, .int .u8 0, .int .u8 0, .int .u8 0, .int .u8 0, .int .u8 0, .int .u8 0, .int .u8 0] hth)
  have hbs := Lib.hid (Below.trans hbw (below_setCells w.heap.size [.int .i64 0, .int .i64 0, .int .u32 0, .int .u64 0, .slice none 0 0, .int .u8 0, .int .u8 0, .int .u8 0, .int .u8 0, .int .u8 0, .int .u8 0, .int .u8 0, .int .u8 0, .int .u8 0, .int .u8 0, .int .u8 0, .int .u8 0, .int .u8 0, .int .u8 0, .int .u8 0, .int .u8 0] W w.heap.size 0 (Nat.le_refl _)))
  clear hth hbw
  refine wpList_gen (fun W => W.rangeAt w.heap.size 0 [.int .i64 0, .int .i64 0, .int .u32 0, .int .u64 0, .slice none 0 0, .int .u8 0, .int .u8 0, .int .u8 0, .int .u8 0, .int .u8 0, .int .u8 0, .int .u8 0, .int .u8 0, .int .u8 0, .int .u8 0, .int .u8 0, .int .u8 0, .int .u8 0, .int .u8 0, .int .u8 0, .int .u8 0] ∧ Below w.heap.size w W) ⟨hrg.out, hbs.out⟩ ?_
  clear hrg hbs
  rintro W2 ⟨hr2, hb2⟩
  have hld := run_loadVar_mid (P := Try.prog) W2 w.heap.size 0 28 [.int .i64 0, .int .i64 0, .int .u32 0, .int .u64 0, .slice none 0 0, .int .u8 0, .int .u8 0, .int .u8 0, .int .u8 0, .int .u8 0, .int .u8 0, .int .u8 0, .int .u8 0, .int .u8 0, .int .u8 0, .int .u8 0, .int .u8 0, .int .u8 0, .int .u8 0, .int .u8 0, .int .u8 0] _ hr2 Try.underlying28 (by rfl) (by kernel_rfl)
  have HZ := Lib.hid hld
  have HB := Lib.hid hb2
  clear hld hr2 hb2
  go_wp2
  refine bodyPost_ret (v := .tuple #[.agg #[.int .i64 0, .int .i64 0, .int .u32 0, .int .u64 0, .slice none 0 0, .int .u8 0, .int .u8 0, .int .u8 0, .int .u8 0, .int .u8 0, .int .u8 0, .int .u8 0, .int .u8 0, .int .u8 0, .int .u8 0, .int .u8 0, .int .u8 0, .int .u8 0, .int .u8 0, .int .u8 0, .int .u8 0], .int .i64 0, .int .i64 7]) ?_ rfl (Gives.mk rfl HB.out)
  simp only [results, show Try.func18.results = #[ResultVar.cell 2 28, ResultVar.tmp 3, ResultVar.tmp 4] from rfl]
  simp [asAddr, HZ.out]
set_option maxRecDepth 100000 in
theorem rRead_s3 (v : Value) (bs : List Nat) (w : World) (hv : Bts w v bs) (hn6 : bs.length ≤ 1000000) (hl : 2 < bs.length) (h0 : bs.getD 0 0 = 165) (h1 : bs.getD 1 0 = 90) (h2 : ¬ bs.getD 2 0 < 30) (h3 : ¬ 78 < bs.getD 2 0) (hs : bs.length < 7 + bs.getD 2 0) :
    Calls Try.prog 18 #[v] w (Gives w (.tuple #[.agg #[.int .i64 0, .int .i64 0, .int .u32 0, .int .u64 0, .slice none 0 0, .int .u8 0, .int .u8 0, .int .u8 0, .int .u8 0, .int .u8 0, .int .u8 0, .int .u8 0, .int .u8 0, .int .u8 0, .int .u8 0, .int .u8 0, .int .u8 0, .int .u8 0, .int .u8 0, .int .u8 0, .int .u8 0], .int .i64 0, .int .i64 7])) := by
  obtain ⟨va, vn, vc, rfl⟩ := hv.slice
  obtain rfl := hv.len
  obtain ⟨b, off, cap, hsl, hlc, hc, hb, hcell⟩ := hv.some (by omega)
  obtain ⟨rfl, rfl⟩ : va = some ⟨b, off, none⟩ ∧ vc = cap := by simpa using hsl
  haveI : LtSize b w := ⟨hb⟩
  have hL0 : (0 : Int) < (bs.length : Int) := by omega
  have hk0 : 0 < bs.length := by omega
  have hL1 : (1 : Int) < (bs.length : Int) := by omega
  have hk1 : 1 < bs.length := by omega
  have hL2 : (2 : Int) < (bs.length : Int) := by omega
  have hk2 : 2 < bs.length := by omega
  have hI3 : ¬ (bs.length : Int) < 3 := by omega
  have c0 := hcell 0 (by omega)
  have c1 := hcell 1 (by omega)
  have c2 := hcell 2 (by omega)
  rw [Nat.add_zero] at c0
  have hlt2 := hv.lt 2
  clear hcell hsl hv
  generalize bs.getD 0 0 = y0 at *
  generalize bs.getD 1 0 = y1 at *
  generalize bs.getD 2 0 = y2 at *
  obtain rfl : y0 = 165 := by omega
  obtain rfl : y1 = 90 := by omega
  have hw7 : IntKind.i64.wrap (7 + (y2 : Int)) = 7 + (y2 : Int) := by rw [IntKind.wrap_i64]; omega
  have hs7 : (bs.length : Int) < 7 + (y2 : Int) := by omega

  go_enter Try.func18, Try.ntmps18
  go_upto_region 4 with fail
  refine wp_gen (fun W => W.there w.heap.size 0 21 ∧ Below w.heap.size w W) ⟨there_new w _ _ 21 rfl, by (repeat (first | (with_reducible exact Below.refl _ _) | (with_reducible assumption) | (with_reducible refine Below.alloc ?_ (by (repeat (first | (with_reducible exact Nat.le_refl _) | (with_reducible assumption) | (with_reducible refine le_up ?_) | (with_reducible refine le_alloc ?_) | (with_reducible refine le_setCell ?_) | (with_reducible refine le_drew ?_) | (with_reducible refine le_drewN ?_) | omega))) _) | (with_reducible refine Below.drew ?_) | (with_reducible refine Below.drewN ?_ _) | (with_reducible refine Below.setCell ?_ (by (repeat (first | (with_reducible exact Nat.le_refl _) | (with_reducible assumption) | (with_reducible refine le_up ?_) | (with_reducible refine le_alloc ?_) | (with_reducible refine le_setCell ?_) | (with_reducible refine le_drew ?_) | (with_reducible refine le_drewN ?_) | omega))) _) | (with_reducible refine Below.up ?_ (by (repeat (first | (with_reducible exact Nat.le_refl _) | (with_reducible assumption) | (with_reducible refine le_up ?_) | (with_reducible refine le_alloc ?_) | (with_reducible refine le_setCell ?_) | (with_reducible refine le_drew ?_) | (with_reducible refine le_drewN ?_) | omega))))))⟩ ?_
  rintro W ⟨hth, hbw⟩
  refine wp_region_lit ?_
  refine wpList_plain rfl fun K hK => ?_
  go_simp
  refine hK _ _ ?_
  clear hK K
  refine wpList_store_mid rfl _ _ _ rfl _ _ _ rfl rfl hth (by kernel_rfl) (by kernel_rfl) ?_
  have hrg := Lib.hid (World.rangeAt_setCells_same W w.heap.size 0 [.int .i64 0, .int .i64 0, .int .u32 0, .int .u64 0, .slice none 0 0, .int .u8 0, .int .u8 0, .int .u8 0, .int .u8 0, .int .u8 0, .int .u8 0, .int .u8 0, .int .u8 0, .int .u8 0, .int .u8 0, .int .u8 0, .int .u8 0, .int .u8 0, .int .u8 0, .int .u8 0, .int .u8 0] hth)
  have hbs := Lib.hid (Below.trans hbw (below_setCells w.heap.size [.int .i64 0, .int .i64 0, .int .u32 0, .int .u64 0, .slice none 0 0, .int .u8 0, .int .u8 0, .int .u8 0, .int .u8 0, .int .u8 0, .int .u8 0, .int .u8 0, .int .u8 0, .int .u8 0, .int .u8 0, .int .u8 0, .int .u8 0, .int .u8 0, .int .u8 0, .int .u8 0, .int .u8 0] W w.heap.size 0 (Nat.le_refl _)))
  clear hth hbw
  refine wpList_gen (fun W => W.rangeAt w.heap.size 0 [.int .i64 0, .int .i64 0, .int .u32 0, .int .u64 0, .slice none 0 0, .int .u8 0, .int .u8 0, .int .u8 0, .int .u8 0, .int .u8 0, .int .u8 0, .int .u8 0, .int .u8 0, .int .u8 0, .int .u8 0, .int .u8 0, .int .u8 0, .int .u8 0, .int .u8 0, .int .u8 0, .int .u8 0] ∧ Below w.heap.size w W) ⟨hrg.out, hbs.out⟩ ?_
  clear hrg hbs
  rintro W2 ⟨hr2, hb2⟩
  have hld := run_loadVar_mid (P := Try.prog) W2 w.heap.size 0 28 [.int .i64 0, .int .i64 0, .int .u32 0, .int .u64 0, .slice none 0 0, .int .u8 0, .int .u8 0, .int .u8 0, .int .u8 0, .int .u8 0, .int .u8 0, .int .u8 0, .int .u8 0, .int .u8 0, .int .u8 0, .int .u8 0, .int .u8 0, .int .u8 0, .int .u8 0, .int .u8 0, .int .u8 0] _ hr2 Try.underlying28 (by rfl) (by kernel_rfl)
  have HZ := Lib.hid hld
  have HB := Lib.hid hb2
  clear hld hr2 hb2
  go_wp2
  refine bodyPost_ret (v := .tuple #[.agg #[.int .i64 0, .int .i64 0, .int .u32 0, .int .u64 0, .slice none 0 0, .int .u8 0, .int .u8 0, .int .u8 0, .int .u8 0, .int .u8 0, .int .u8 0, .int .u8 0, .int .u8 0, .int .u8 0, .int .u8 0, .int .u8 0, .int .u8 0, .int .u8 0, .int .u8 0, .int .u8 0, .int .u8 0], .int .i64 0, .int .i64 7]) ?_ rfl (Gives.mk rfl HB.out)
  simp only [results, show Try.func18.results = #[ResultVar.cell 2 28, ResultVar.tmp 3, ResultVar.tmp 4] from rfl]
  simp [asAddr, HZ.out]
set_option maxRecDepth 100000 in
set_option maxHeartbeats 800000 in
theorem rRead_sum (v : Value) (bs : List Nat) (w : World) (hv : Bts w v bs) (hn6 : bs.length ≤ 1000000) (hl : 2 < bs.length) (h0 : bs.getD 0 0 = 165) (h1 : bs.getD 1 0 = 90) (h2 : ¬ bs.getD 2 0 < 30) (h3 : ¬ 78 < bs.getD 2 0) (hs : ¬ bs.length < 7 + bs.getD 2 0) (hr : rightB ((bs.drop 2).take (5 + bs.getD 2 0)) = false) :
    Calls Try.prog 18 #[v] w (Gives w (.tuple #[.agg #[.int .i64 0, .int .i64 0, .int .u32 0, .int .u64 0, .slice none 0 0, .int .u8 0, .int .u8 0, .int .u8 0, .int .u8 0, .int .u8 0, .int .u8 0, .int .u8 0, .int .u8 0, .int .u8 0, .int .u8 0, .int .u8 0, .int .u8 0, .int .u8 0, .int .u8 0, .int .u8 0, .int .u8 0], .int .i64 0, .int .i64 131])) := by
  obtain ⟨va, vn, vc, rfl⟩ := hv.slice
  obtain rfl := hv.len
  obtain ⟨b, off, cap, hsl, hlc, hc, hb, hcell⟩ := hv.some (by omega)
  obtain ⟨rfl, rfl⟩ : va = some ⟨b, off, none⟩ ∧ vc = cap := by simpa using hsl
  haveI : LtSize b w := ⟨hb⟩
  have hL0 : (0 : Int) < (bs.length : Int) := by omega
  have hk0 : 0 < bs.length := by omega
  have hL1 : (1 : Int) < (bs.length : Int) := by omega
  have hk1 : 1 < bs.length := by omega
  have hL2 : (2 : Int) < (bs.length : Int) := by omega
  have hk2 : 2 < bs.length := by omega
  have hI3 : ¬ (bs.length : Int) < 3 := by omega
  have HT := Lib.hid (btsSub hv hb hlc hc hcell 2 (5 + bs.getD 2 0) (vc - 2) (by omega) (by omega) (by omega))
  have HC := Lib.hid hcell
  have HV := Lib.hid hv
  have hR := Lib.hid (fun (W : World) (u : Value) (h : Bts W u ((bs.drop 2).take (5 + bs.getD 2 0))) => hr ▸ rRight_any u _ W h (by simp; omega))
  have c0 := hcell 0 (by omega)
  have c1 := hcell 1 (by omega)
  have c2 := hcell 2 (by omega)
  rw [Nat.add_zero] at c0
  have hlt2 := hv.lt 2
  clear hcell hsl hv hr
  generalize (bs.drop 2).take (5 + bs.getD 2 0) = T at *
  generalize hy0e : bs.getD 0 0 = y0 at *
  generalize hy1e : bs.getD 1 0 = y1 at *
  generalize hy2e : bs.getD 2 0 = y2 at *
  have HY2 := Lib.hid hy2e
  clear hy0e hy1e hy2e
  obtain rfl : y0 = 165 := by omega
  obtain rfl : y1 = 90 := by omega
  have hw7 : IntKind.i64.wrap (7 + (y2 : Int)) = 7 + (y2 : Int) := by rw [IntKind.wrap_i64]; omega
  have hs7 : ¬ (bs.length : Int) < 7 + (y2 : Int) := by omega
  have hw0 : IntKind.i64.wrap (y2 : Int) = (y2 : Int) := by rw [IntKind.wrap_i64]; omega
  have hsub : 7 + y2 - 2 = 5 + y2 := by omega
  have hvc : (7 : Int) + (y2 : Int) ≤ (vc : Int) := by omega
  have nvc : ¬ vc = 2 := by omega
  go_enter Try.func18, Try.ntmps18
  go_upto_region 7 with (go_at_call 62; (first | with_reducible refine Calls.fold (hR.out _ _ HT.out.alloc) ?_ | with_reducible refine Calls.fresh (hR.out _ _ HT.out.alloc) ?_); intro x1)
  refine wp_gen (fun W => W.there w.heap.size 0 21 ∧ Below w.heap.size w W) ⟨there_below (B := w.heap.size + 1) (Below.up (Below.refl _ _) (by simp)) (by omega) (there_new w _ _ 21 rfl), by (repeat (first | (with_reducible exact Below.refl _ _) | (with_reducible assumption) | (with_reducible refine Below.alloc ?_ (by (repeat (first | (with_reducible exact Nat.le_refl _) | (with_reducible assumption) | (with_reducible refine le_up ?_) | (with_reducible refine le_alloc ?_) | (with_reducible refine le_setCell ?_) | (with_reducible refine le_drew ?_) | (with_reducible refine le_drewN ?_) | omega))) _) | (with_reducible refine Below.drew ?_) | (with_reducible refine Below.drewN ?_ _) | (with_reducible refine Below.setCell ?_ (by (repeat (first | (with_reducible exact Nat.le_refl _) | (with_reducible assumption) | (with_reducible refine le_up ?_) | (with_reducible refine le_alloc ?_) | (with_reducible refine le_setCell ?_) | (with_reducible refine le_drew ?_) | (with_reducible refine le_drewN ?_) | omega))) _) | (with_reducible refine Below.up ?_ (by (repeat (first | (with_reducible exact Nat.le_refl _) | (with_reducible assumption) | (with_reducible refine le_up ?_) | (with_reducible refine le_alloc ?_) | (with_reducible refine le_setCell ?_) | (with_reducible refine le_drew ?_) | (with_reducible refine le_drewN ?_) | omega))))))⟩ ?_
  rintro W ⟨hth, hbw⟩
  refine wp_region_lit ?_
  refine wpList_plain rfl fun K hK => ?_
  go_simp
  refine hK _ _ ?_
  clear hK K
  refine wpList_store_mid rfl _ _ _ rfl _ _ _ rfl rfl hth (by kernel_rfl) (by kernel_rfl) ?_
  have hrg := Lib.hid (World.rangeAt_setCells_same W w.heap.size 0 [.int .i64 0, .int .i64 0, .int .u32 0, .int .u64 0, .slice none 0 0, .int .u8 0, .int .u8 0, .int .u8 0, .int .u8 0, .int .u8 0, .int .u8 0, .int .u8 0, .int .u8 0, .int .u8 0, .int .u8 0, .int .u8 0, .int .u8 0, .int .u8 0, .int .u8 0, .int .u8 0, .int .u8 0] hth)
  have hbs := Lib.hid (Below.trans hbw (below_setCells w.heap.size [.int .i64 0, .int .i64 0, .int .u32 0, .int .u64 0, .slice none 0 0, .int .u8 0, .int .u8 0, .int .u8 0, .int .u8 0, .int .u8 0, .int .u8 0, .int .u8 0, .int .u8 0, .int .u8 0, .int .u8 0, .int .u8 0, .int .u8 0, .int .u8 0, .int .u8 0, .int .u8 0, .int .u8 0] W w.heap.size 0 (Nat.le_refl _)))
  clear hth hbw
  refine wpList_gen (fun W => W.rangeAt w.heap.size 0 [.int .i64 0, .int .i64 0, .int .u32 0, .int .u64 0, .slice none 0 0, .int .u8 0, .int .u8 0, .int .u8 0, .int .u8 0, .int .u8 0, .int .u8 0, .int .u8 0, .int .u8 0, .int .u8 0, .int .u8 0, .int .u8 0, .int .u8 0, .int .u8 0, .int .u8 0, .int .u8 0, .int .u8 0] ∧ Below w.heap.size w W) ⟨hrg.out, hbs.out⟩ ?_
  clear hrg hbs
  rintro W2 ⟨hr2, hb2⟩
  have hld := run_loadVar_mid (P := Try.prog) W2 w.heap.size 0 28 [.int .i64 0, .int .i64 0, .int .u32 0, .int .u64 0, .slice none 0 0, .int .u8 0, .int .u8 0, .int .u8 0, .int .u8 0, .int .u8 0, .int .u8 0, .int .u8 0, .int .u8 0, .int .u8 0, .int .u8 0, .int .u8 0, .int .u8 0, .int .u8 0, .int .u8 0, .int .u8 0, .int .u8 0] _ hr2 Try.underlying28 (by rfl) (by kernel_rfl)
  have HZ := Lib.hid hld
  have HB := Lib.hid hb2
  clear hld hr2 hb2
  go_wp2
  refine bodyPost_ret (v := .tuple #[.agg #[.int .i64 0, .int .i64 0, .int .u32 0, .int .u64 0, .slice none 0 0, .int .u8 0, .int .u8 0, .int .u8 0, .int .u8 0, .int .u8 0, .int .u8 0, .int .u8 0, .int .u8 0, .int .u8 0, .int .u8 0, .int .u8 0, .int .u8 0, .int .u8 0, .int .u8 0, .int .u8 0, .int .u8 0], .int .i64 0, .int .i64 131]) ?_ rfl (Gives.mk rfl HB.out)
  simp only [results, show Try.func18.results = #[ResultVar.cell 2 28, ResultVar.tmp 3, ResultVar.tmp 4] from rfl]
  simp [asAddr, HZ.out]
end Go.Proofs.Ytjkgodhoonkinaa
