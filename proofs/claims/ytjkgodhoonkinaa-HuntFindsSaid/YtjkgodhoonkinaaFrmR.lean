/-
  The walk over frame.Read.
-/
import Derived.Test.YtjkgodhoonkinaaFrmT
import Derived.Test.YtjkgodhoonkinaaRightX
import Derived.ScopeJumps
import Derived.WalkMore
namespace Go.Proofs.Ytjkgodhoonkinaa
open Go.RowKit
set_option linter.unusedVariables false

theorem wp_scope_once {P : Program} {c rest : Code} {a : Act} {w : World} {Q : Exit → Act → World → Prop} (l : Nat) (hf : findLabel c l = some rest)
    (h : c.wp P (Exit.jump l (fun a' w' => rest.wp P (Exit.noGoto Q) a' w') Q) a w) : (Code.scope c).wp P Q a w := by
  refine wp_scope_jumps l _ (fun _ _ => 0) hf h (fun a' w' hJ => Code.wp_mono (fun e a'' w'' hq => ?_) hJ)
  cases e <;> first | exact hq | exact absurd hq (by simp [Exit.noGoto])
theorem wpList_gen {P : Program} {ops : Array Oper} {l : List Oper} {Q : Exit → Act → World → Prop} {a : Act} {w : World} (F : World → Prop) (hF : F w) (h : ∀ w', F w' → wpList P ops Q l a w') : wpList P ops Q l a w := h w hF
theorem there_new (w : World) (C : Array Value) (t : TypeId) (n : Nat) (hn : C.size = n) : (w.alloc (.cells C t)).there w.heap.size 0 n := fun j hj => by
  rw [Nat.zero_add]
  exact ⟨by rw [cell_new]; simp; omega, World.frozen?_alloc_new w C t j⟩
theorem there_below {B : Nat} {w w' : World} {g n : Nat} (hb : Below B w w') (hg : g < B) (h : w.there g 0 n) : w'.there g 0 n := fun j hj => by
  rw [hb.cell (p := ⟨g, 0 + j, none⟩) hg, hb.frozen (p := ⟨g, 0 + j, none⟩) hg]
  exact h j hj
theorem below_setCells (B : Nat) : ∀ (vs : List Value) (w : World) (b o : Nat), B ≤ b → Below B w (w.setCells b o vs)
  | [], w, b, o, _ => Below.refl _ _
  | v :: vs, w, b, o, h => by
    unfold World.setCells
    exact Below.trans (Below.setCell (p := ⟨b, o, none⟩) (Below.refl _ _) h v) (below_setCells B vs _ b _ h)
set_option maxRecDepth 100000 in
theorem fRead_frame (v : Value) (bs : List Nat) (w : World) (hv : Bts w v bs) (hn : bs.length ≤ 1000000) (he : begB bs = false) :
    Calls Try.prog 16 #[v] w (Gives w (.tuple #[.agg #[.int .i64 0, .int .i64 0, .int .u32 0, .int .u64 0, .slice none 0 0, .int .u8 0, .int .u8 0, .int .u8 0, .int .u8 0, .int .u8 0, .int .u8 0, .int .u8 0, .int .u8 0, .int .u8 0, .int .u8 0, .int .u8 0, .int .u8 0, .int .u8 0, .int .u8 0, .int .u8 0, .int .u8 0], .int .i64 0, .int .i64 130])) := by
  obtain ⟨va, vn, vc, rfl⟩ := hv.slice
  have HV := Lib.hid hv
  clear hv
  go_enter Try.func16, Try.ntmps16
  go_wp2
  refine wp_scope_once 0 rfl ?_
  have hB := Lib.hid (fun (W : World) (h : Bts W (.slice va vn vc) bs) => he ▸ begins_any _ bs W h (by omega))
  go_wp2_with (go_at_call 58; (first | with_reducible refine Calls.fold (hB.out _ HV.out.alloc.alloc) ?_ | with_reducible refine Calls.fresh (hB.out _ HV.out.alloc.alloc) ?_); intro x1)
  go_step3
  refine ⟨rfl, ?_⟩
  refine wp_gen (fun W => W.there w.heap.size 0 21 ∧ Below w.heap.size w W) ⟨there_below (B := w.heap.size + 1) (Below.up ((Below.refl _ _).alloc (by simp) _) (by simp)) (by omega) (there_new w _ _ 21 rfl), by (repeat (first | (with_reducible exact Below.refl _ _) | (with_reducible assumption) | (with_reducible refine Below.alloc ?_ (by (repeat (first | (with_reducible exact Nat.le_refl _) | (with_reducible assumption) | (with_reducible refine le_up ?_) | (with_reducible refine le_alloc ?_) | (with_reducible refine le_setCell ?_) | (with_reducible refine le_drew ?_) | (with_reducible refine le_drewN ?_) | omega))) _) | (with_reducible refine Below.drew ?_) | (with_reducible refine Below.drewN ?_ _) | (with_reducible refine Below.setCell ?_ (by (repeat (first | (with_reducible exact Nat.le_refl _) | (with_reducible assumption) | (with_reducible refine le_up ?_) | (with_reducible refine le_alloc ?_) | (with_reducible refine le_setCell ?_) | (with_reducible refine le_drew ?_) | (with_reducible refine le_drewN ?_) | omega))) _) | (with_reducible refine Below.up ?_ (by (repeat (first | (with_reducible exact Nat.le_refl _) | (with_reducible assumption) | (with_reducible refine le_up ?_) | (with_reducible refine le_alloc ?_) | (with_reducible refine le_setCell ?_) | (with_reducible refine le_drew ?_) | (with_reducible refine le_drewN ?_) | omega))))))⟩ ?_
  rintro W ⟨hth, hbw⟩
  go_upto_region 17 with fail
  refine wp_region_lit ?_
  refine wpList_plain rfl fun K hK => ?_
  go_simp
  refine hK _ _ ?_
  clear hK K
  refine wpList_plain rfl fun K hK => ?_
  go_simp
  refine hK _ _ ?_
  clear hK K
  refine wpList_store_mid rfl _ _ _ rfl _ _ _ rfl rfl hth (by kernel_rfl) (by kernel_rfl) ?_
  have hrg := Lib.hid (World.rangeAt_setCells_same W w.heap.size 0 [.int .i64 0, .int .i64 0, .int .u32 0, .int .u64 0, .slice none 0 0, .int .u8 0, .int .u8 0, .int .u8 0, .int .u8 0, .int .u8 0, .int .u8 0, .int .u8 0, .int .u8 0, .int .u8 0, .int .u8 0, .int .u8 0, .int .u8 0, .int .u8 0, .int .u8 0, .int .u8 0, .int .u8 0] hth)
  have hbs := Lib.hid (Below.trans hbw (below_setCells w.heap.size [.int .i64 0, .int .i64 0, .int .u32 0, .int .u64 0, .slice none 0 0, .int .u8 0, .int .u8 0, .int .u8 0, .int .u8 0, .int .u8 0, .int .u8 0, .int .u8 0, .int .u8 0, .int .u8 0, .int .u8 0, .int .u8 0, .int .u8 0, .int .u8 0, .int .u8 0, .int .u8 0, .int .u8 0] W w.heap.size 0 (Nat.le_refl _)))
  clear hth hbw
  refine wpList_gen (fun W => W.rangeAt w.heap.size 0 [.int .i64 0, .int .i64 0, .int .u32 0, .int .u64 0, .slice none 0 0, .int .u8 0, .int .u8 0, .int .u8 0, .int .u8 0, .int .u8 0, .int .u8 0, .int .u8 0, .int .u8 0, .int .u8 0, .int .u8 0, .int .u8 0, .int .u8 0, .int .u8 0, .int .u8 0, .int .u8 0, .int .u8 0] ∧ Below w.heap.size w W) ⟨hrg.out, hbs.out⟩ ?_
  clear hrg hbs
  rintro W2 ⟨hr2, hb2⟩
  have hld := run_loadVar_mid (P := Try.prog) W2 w.heap.size 0 28 [.int .i64 0, .int .i64 0, .int .u32 0, .int .u64 0, .slice none 0 0, .int .u8 0, .int .u8 0, .int .u8 0, .int .u8 0, .int .u8 0, .int .u8 0, .int .u8 0, .int .u8 0, .int .u8 0, .int .u8 0, .int .u8 0, .int .u8 0, .int .u8 0, .int .u8 0, .int .u8 0, .int .u8 0] _ hr2 Try.underlying28 (by rfl) (by kernel_rfl)
  have HL := Lib.hid hld
  clear hld hr2
  go_wp2
  (try go_step3)
  go_wp2
  (try rw [Exit.noGoto_ret])
  refine bodyPost_ret (v := .tuple #[.agg #[.int .i64 0, .int .i64 0, .int .u32 0, .int .u64 0, .slice none 0 0, .int .u8 0, .int .u8 0, .int .u8 0, .int .u8 0, .int .u8 0, .int .u8 0, .int .u8 0, .int .u8 0, .int .u8 0, .int .u8 0, .int .u8 0, .int .u8 0, .int .u8 0, .int .u8 0, .int .u8 0, .int .u8 0], .int .i64 0, .int .i64 130]) ?_ rfl (Gives.mk rfl hb2)
  simp only [results, show Try.func16.results = #[ResultVar.cell 2 28, ResultVar.tmp 3, ResultVar.tmp 4] from rfl]
  simp [asAddr, HL.out]
theorem btsSub {w : World} {b off n cap : Nat} {bs : List Nat} (h : Bts w (.slice (some ⟨b, off, none⟩) n cap) bs) (hb : b < w.heap.size) (hcap : n ≤ cap) (hc9 : cap ≤ 9223372036854775807) (hcell : ∀ i : Nat, i < bs.length → w.cell? ⟨b, off + i, none⟩ = some (.int .u8 ((bs.getD i 0 : Nat) : Int))) (i m c' : Nat) (him : i + m ≤ bs.length) (hm : m ≤ c') (hc' : c' ≤ 9223372036854775807) :
    Bts w (.slice (some ⟨b, off + i, none⟩) m c') ((bs.drop i).take m) := by
  have hl : ((bs.drop i).take m).length = m := by simp; omega
  refine ⟨fun x hx => h.1 x (List.mem_of_mem_drop (List.mem_of_mem_take hx)), .inr (.inr ⟨b, off + i, c', by rw [hl], by rw [hl]; exact hm, hc', hb, fun k hk => ?_⟩)⟩
  rw [hl] at hk
  have := hcell (i + k) (by omega)
  rw [Nat.add_assoc, this]
  congr 3
  simp [List.getD_eq_getElem?_getD, hk, List.getElem?_drop]
set_option maxRecDepth 100000 in
theorem fRead_short (v : Value) (bs : List Nat) (w : World) (hv : Bts w v bs) (hn : bs.length < 3) (he : begB bs = true) :
    Calls Try.prog 16 #[v] w (Gives w (.tuple #[.agg #[.int .i64 0, .int .i64 0, .int .u32 0, .int .u64 0, .slice none 0 0, .int .u8 0, .int .u8 0, .int .u8 0, .int .u8 0, .int .u8 0, .int .u8 0, .int .u8 0, .int .u8 0, .int .u8 0, .int .u8 0, .int .u8 0, .int .u8 0, .int .u8 0, .int .u8 0, .int .u8 0, .int .u8 0], .int .i64 0, .int .i64 7])) := by
  obtain ⟨va, vn, vc, rfl⟩ := hv.slice
  obtain rfl := hv.len
  have hI : (bs.length : Int) < 3 := by omega
  have HV := Lib.hid hv
  clear hv
  go_enter Try.func16, Try.ntmps16
  go_wp2
  refine wp_scope_once 0 rfl ?_
  have hB := Lib.hid (fun (W : World) (h : Bts W (.slice va bs.length vc) bs) => he ▸ begins_any _ bs W h (by omega))
  go_wp2_with (go_at_call 58; (first | with_reducible refine Calls.fold (hB.out _ HV.out.alloc.alloc) ?_ | with_reducible refine Calls.fresh (hB.out _ HV.out.alloc.alloc) ?_); intro x1)
  go_step3
  refine ⟨rfl, ?_⟩
  refine wp_gen (fun W => W.there w.heap.size 0 21 ∧ Below w.heap.size w W) ⟨there_below (B := w.heap.size + 1) (Below.up ((Below.refl _ _).alloc (by simp) _) (by simp)) (by omega) (there_new w _ _ 21 rfl), by (repeat (first | (with_reducible exact Below.refl _ _) | (with_reducible assumption) | (with_reducible refine Below.alloc ?_ (by (repeat (first | (with_reducible exact Nat.le_refl _) | (with_reducible assumption) | (with_reducible refine le_up ?_) | (with_reducible refine le_alloc ?_) | (with_reducible refine le_setCell ?_) | (with_reducible refine le_drew ?_) | (with_reducible refine le_drewN ?_) | omega))) _) | (with_reducible refine Below.drew ?_) | (with_reducible refine Below.drewN ?_ _) | (with_reducible refine Below.setCell ?_ (by (repeat (first | (with_reducible exact Nat.le_refl _) | (with_reducible assumption) | (with_reducible refine le_up ?_) | (with_reducible refine le_alloc ?_) | (with_reducible refine le_setCell ?_) | (with_reducible refine le_drew ?_) | (with_reducible refine le_drewN ?_) | omega))) _) | (with_reducible refine Below.up ?_ (by (repeat (first | (with_reducible exact Nat.le_refl _) | (with_reducible assumption) | (with_reducible refine le_up ?_) | (with_reducible refine le_alloc ?_) | (with_reducible refine le_setCell ?_) | (with_reducible refine le_drew ?_) | (with_reducible refine le_drewN ?_) | omega))))))⟩ ?_
  rintro W ⟨hth, hbw⟩
  go_upto_region 17 with fail
  refine wp_region_lit ?_
  refine wpList_plain rfl fun K hK => ?_
  go_simp
  refine hK _ _ ?_
  clear hK K
  refine wpList_plain rfl fun K hK => ?_
  go_simp
  refine hK _ _ ?_
  clear hK K
  refine wpList_store_mid rfl _ _ _ rfl _ _ _ rfl rfl hth (by kernel_rfl) (by kernel_rfl) ?_
  have hrg := Lib.hid (World.rangeAt_setCells_same W w.heap.size 0 [.int .i64 0, .int .i64 0, .int .u32 0, .int .u64 0, .slice none 0 0, .int .u8 0, .int .u8 0, .int .u8 0, .int .u8 0, .int .u8 0, .int .u8 0, .int .u8 0, .int .u8 0, .int .u8 0, .int .u8 0, .int .u8 0, .int .u8 0, .int .u8 0, .int .u8 0, .int .u8 0, .int .u8 0] hth)
  have hbs := Lib.hid (Below.trans hbw (below_setCells w.heap.size [.int .i64 0, .int .i64 0, .int .u32 0, .int .u64 0, .slice none 0 0, .int .u8 0, .int .u8 0, .int .u8 0, .int .u8 0, .int .u8 0, .int .u8 0, .int .u8 0, .int .u8 0, .int .u8 0, .int .u8 0, .int .u8 0, .int .u8 0, .int .u8 0, .int .u8 0, .int .u8 0, .int .u8 0] W w.heap.size 0 (Nat.le_refl _)))
  clear hth hbw
  refine wpList_gen (fun W => W.rangeAt w.heap.size 0 [.int .i64 0, .int .i64 0, .int .u32 0, .int .u64 0, .slice none 0 0, .int .u8 0, .int .u8 0, .int .u8 0, .int .u8 0, .int .u8 0, .int .u8 0, .int .u8 0, .int .u8 0, .int .u8 0, .int .u8 0, .int .u8 0, .int .u8 0, .int .u8 0, .int .u8 0, .int .u8 0, .int .u8 0] ∧ Below w.heap.size w W) ⟨hrg.out, hbs.out⟩ ?_
  clear hrg hbs
  rintro W2 ⟨hr2, hb2⟩
  have hld := run_loadVar_mid (P := Try.prog) W2 w.heap.size 0 28 [.int .i64 0, .int .i64 0, .int .u32 0, .int .u64 0, .slice none 0 0, .int .u8 0, .int .u8 0, .int .u8 0, .int .u8 0, .int .u8 0, .int .u8 0, .int .u8 0, .int .u8 0, .int .u8 0, .int .u8 0, .int .u8 0, .int .u8 0, .int .u8 0, .int .u8 0, .int .u8 0, .int .u8 0] _ hr2 Try.underlying28 (by rfl) (by kernel_rfl)
  have HL := Lib.hid hld
  clear hld hr2
  go_wp2
  (try go_step3)
  go_wp2
  (try rw [Exit.noGoto_ret])
  refine bodyPost_ret (v := .tuple #[.agg #[.int .i64 0, .int .i64 0, .int .u32 0, .int .u64 0, .slice none 0 0, .int .u8 0, .int .u8 0, .int .u8 0, .int .u8 0, .int .u8 0, .int .u8 0, .int .u8 0, .int .u8 0, .int .u8 0, .int .u8 0, .int .u8 0, .int .u8 0, .int .u8 0, .int .u8 0, .int .u8 0, .int .u8 0], .int .i64 0, .int .i64 7]) ?_ rfl (Gives.mk rfl hb2)
  simp only [results, show Try.func16.results = #[ResultVar.cell 2 28, ResultVar.tmp 3, ResultVar.tmp 4] from rfl]
  simp [asAddr, HL.out]

set_option maxRecDepth 100000 in
theorem fRead_less (v : Value) (bs : List Nat) (w : World) (hv : Bts w v bs) (hn : ¬ bs.length < 3) (hn6 : bs.length ≤ 1000000) (hs : bs.length < 7 + bs.getD 2 0) (he : begB bs = true) :
    Calls Try.prog 16 #[v] w (Gives w (.tuple #[.agg #[.int .i64 0, .int .i64 0, .int .u32 0, .int .u64 0, .slice none 0 0, .int .u8 0, .int .u8 0, .int .u8 0, .int .u8 0, .int .u8 0, .int .u8 0, .int .u8 0, .int .u8 0, .int .u8 0, .int .u8 0, .int .u8 0, .int .u8 0, .int .u8 0, .int .u8 0, .int .u8 0, .int .u8 0], .int .i64 0, .int .i64 7])) := by
  obtain ⟨va, vn, vc, rfl⟩ := hv.slice
  obtain rfl := hv.len
  obtain ⟨b, off, cap, hsl, hlc, hc, hb, hcell⟩ := hv.some (by omega)
  obtain ⟨rfl, rfl⟩ : va = some ⟨b, off, none⟩ ∧ vc = cap := by simpa using hsl
  have c2 := hcell 2 (by omega)
  have hlt := hv.lt 2
  have hI : ¬ (bs.length : Int) < 3 := by omega
  have hI2 : 2 < bs.length := by omega
  have HV := Lib.hid hv
  haveI : LtSize b w := ⟨hb⟩
  have hB := Lib.hid (fun (W : World) (h : Bts W (.slice (some ⟨b, off, none⟩) bs.length vc) bs) => he ▸ begins_any _ bs W h (by omega))
  generalize bs.getD 2 0 = y2 at *
  have hw1 : IntKind.i64.wrap (3 + (y2 : Int)) = 3 + (y2 : Int) := by rw [IntKind.wrap_i64]; omega
  have hw2 : IntKind.i64.wrap (3 + (y2 : Int) + 4) = 3 + (y2 : Int) + 4 := by rw [IntKind.wrap_i64]; omega
  have hw0 : IntKind.i64.wrap (y2 : Int) = (y2 : Int) := by rw [IntKind.wrap_i64]; omega
  have hI3 : (bs.length : Int) < 3 + (y2 : Int) + 4 := by omega
  clear hv hcell hsl he
  go_enter Try.func16, Try.ntmps16
  go_wp2
  refine wp_scope_once 0 rfl ?_
  go_wp2_with (go_at_call 58; (first | with_reducible refine Calls.fold (hB.out _ HV.out.alloc.alloc) ?_ | with_reducible refine Calls.fresh (hB.out _ HV.out.alloc.alloc) ?_); intro x1)
  go_step3
  refine ⟨rfl, ?_⟩
  refine wp_gen (fun W => W.there w.heap.size 0 21 ∧ Below w.heap.size w W) ⟨there_below (B := w.heap.size + 1) (Below.up ((Below.refl _ _).alloc (by simp) _) (by simp)) (by omega) (there_new w _ _ 21 rfl), by (repeat (first | (with_reducible exact Below.refl _ _) | (with_reducible assumption) | (with_reducible refine Below.alloc ?_ (by (repeat (first | (with_reducible exact Nat.le_refl _) | (with_reducible assumption) | (with_reducible refine le_up ?_) | (with_reducible refine le_alloc ?_) | (with_reducible refine le_setCell ?_) | (with_reducible refine le_drew ?_) | (with_reducible refine le_drewN ?_) | omega))) _) | (with_reducible refine Below.drew ?_) | (with_reducible refine Below.drewN ?_ _) | (with_reducible refine Below.setCell ?_ (by (repeat (first | (with_reducible exact Nat.le_refl _) | (with_reducible assumption) | (with_reducible refine le_up ?_) | (with_reducible refine le_alloc ?_) | (with_reducible refine le_setCell ?_) | (with_reducible refine le_drew ?_) | (with_reducible refine le_drewN ?_) | omega))) _) | (with_reducible refine Below.up ?_ (by (repeat (first | (with_reducible exact Nat.le_refl _) | (with_reducible assumption) | (with_reducible refine le_up ?_) | (with_reducible refine le_alloc ?_) | (with_reducible refine le_setCell ?_) | (with_reducible refine le_drew ?_) | (with_reducible refine le_drewN ?_) | omega))))))⟩ ?_
  rintro W ⟨hth, hbw⟩
  go_upto_region 17 with fail
  refine wp_region_lit ?_
  refine wpList_plain rfl fun K hK => ?_
  go_simp
  refine hK _ _ ?_
  clear hK K
  refine wpList_plain rfl fun K hK => ?_
  go_simp
  refine hK _ _ ?_
  clear hK K
  refine wpList_store_mid rfl _ _ _ rfl _ _ _ rfl rfl hth (by kernel_rfl) (by kernel_rfl) ?_
  have hrg := Lib.hid (World.rangeAt_setCells_same W w.heap.size 0 [.int .i64 0, .int .i64 0, .int .u32 0, .int .u64 0, .slice none 0 0, .int .u8 0, .int .u8 0, .int .u8 0, .int .u8 0, .int .u8 0, .int .u8 0, .int .u8 0, .int .u8 0, .int .u8 0, .int .u8 0, .int .u8 0, .int .u8 0, .int .u8 0, .int .u8 0, .int .u8 0, .int .u8 0] hth)
  have hbs := Lib.hid (Below.trans hbw (below_setCells w.heap.size [.int .i64 0, .int .i64 0, .int .u32 0, .int .u64 0, .slice none 0 0, .int .u8 0, .int .u8 0, .int .u8 0, .int .u8 0, .int .u8 0, .int .u8 0, .int .u8 0, .int .u8 0, .int .u8 0, .int .u8 0, .int .u8 0, .int .u8 0, .int .u8 0, .int .u8 0, .int .u8 0, .int .u8 0] W w.heap.size 0 (Nat.le_refl _)))
  clear hth hbw
  refine wpList_gen (fun W => W.rangeAt w.heap.size 0 [.int .i64 0, .int .i64 0, .int .u32 0, .int .u64 0, .slice none 0 0, .int .u8 0, .int .u8 0, .int .u8 0, .int .u8 0, .int .u8 0, .int .u8 0, .int .u8 0, .int .u8 0, .int .u8 0, .int .u8 0, .int .u8 0, .int .u8 0, .int .u8 0, .int .u8 0, .int .u8 0, .int .u8 0] ∧ Below w.heap.size w W) ⟨hrg.out, hbs.out⟩ ?_
  clear hrg hbs
  rintro W2 ⟨hr2, hb2⟩
  have hld := run_loadVar_mid (P := Try.prog) W2 w.heap.size 0 28 [.int .i64 0, .int .i64 0, .int .u32 0, .int .u64 0, .slice none 0 0, .int .u8 0, .int .u8 0, .int .u8 0, .int .u8 0, .int .u8 0, .int .u8 0, .int .u8 0, .int .u8 0, .int .u8 0, .int .u8 0, .int .u8 0, .int .u8 0, .int .u8 0, .int .u8 0, .int .u8 0, .int .u8 0] _ hr2 Try.underlying28 (by rfl) (by kernel_rfl)
  have HL := Lib.hid hld
  clear hld hr2
  go_wp2
  (try go_step3)
  go_wp2
  (try rw [Exit.noGoto_ret])
  refine bodyPost_ret (v := .tuple #[.agg #[.int .i64 0, .int .i64 0, .int .u32 0, .int .u64 0, .slice none 0 0, .int .u8 0, .int .u8 0, .int .u8 0, .int .u8 0, .int .u8 0, .int .u8 0, .int .u8 0, .int .u8 0, .int .u8 0, .int .u8 0, .int .u8 0, .int .u8 0, .int .u8 0, .int .u8 0, .int .u8 0, .int .u8 0], .int .i64 0, .int .i64 7]) ?_ rfl (Gives.mk rfl hb2)
  simp only [results, show Try.func16.results = #[ResultVar.cell 2 28, ResultVar.tmp 3, ResultVar.tmp 4] from rfl]
  simp [asAddr, HL.out]

set_option maxRecDepth 100000 in
theorem fRead_sum (v : Value) (bs : List Nat) (w : World) (hv : Bts w v bs) (hn : ¬ bs.length < 3) (hn6 : bs.length ≤ 1000000) (hs : 7 + bs.getD 2 0 ≤ bs.length) (he : begB bs = true) (hr : rightB ((bs.drop 2).take (5 + bs.getD 2 0)) = false) :
    Calls Try.prog 16 #[v] w (Gives w (.tuple #[.agg #[.int .i64 0, .int .i64 0, .int .u32 0, .int .u64 0, .slice none 0 0, .int .u8 0, .int .u8 0, .int .u8 0, .int .u8 0, .int .u8 0, .int .u8 0, .int .u8 0, .int .u8 0, .int .u8 0, .int .u8 0, .int .u8 0, .int .u8 0, .int .u8 0, .int .u8 0, .int .u8 0, .int .u8 0], .int .i64 0, .int .i64 131])) := by
  obtain ⟨va, vn, vc, rfl⟩ := hv.slice
  obtain rfl := hv.len
  obtain ⟨b, off, cap, hsl, hlc, hc, hb, hcell⟩ := hv.some (by omega)
  obtain ⟨rfl, rfl⟩ : va = some ⟨b, off, none⟩ ∧ vc = cap := by simpa using hsl
  have c2 := hcell 2 (by omega)
  have hlt := hv.lt 2
  have h35 : 5 + bs.getD 2 0 = 3 + bs.getD 2 0 + 2 := by omega
  rw [h35] at hr
  clear h35
  have HT := Lib.hid (btsSub hv hb hlc hc hcell 2 (3 + bs.getD 2 0 + 2) (vc - 2) (by omega) (by omega) (by omega))
  have hI : ¬ (bs.length : Int) < 3 := by omega
  have hI2 : 2 < bs.length := by omega
  have HV := Lib.hid hv
  haveI : LtSize b w := ⟨hb⟩
  have hB := Lib.hid (fun (W : World) (h : Bts W (.slice (some ⟨b, off, none⟩) bs.length vc) bs) => he ▸ begins_any _ bs W h (by omega))
  have hR := Lib.hid (fun (W : World) (u : Value) (h : Bts W u ((bs.drop 2).take (3 + bs.getD 2 0 + 2))) => hr ▸ Right_any u _ W h (by simp; omega))
  generalize (bs.drop 2).take (3 + bs.getD 2 0 + 2) = T at *
  generalize bs.getD 2 0 = y2 at *
  have hw1 : IntKind.i64.wrap (3 + (y2 : Int)) = 3 + (y2 : Int) := by rw [IntKind.wrap_i64]; omega
  have hw2 : IntKind.i64.wrap (3 + (y2 : Int) + 4) = 3 + (y2 : Int) + 4 := by rw [IntKind.wrap_i64]; omega
  have hw0 : IntKind.i64.wrap (y2 : Int) = (y2 : Int) := by rw [IntKind.wrap_i64]; omega
  have hI3 : ¬ (bs.length : Int) < 3 + (y2 : Int) + 4 := by omega
  clear hv hcell hsl he hr
  go_enter Try.func16, Try.ntmps16
  go_wp2
  refine wp_scope_once 0 rfl ?_
  go_wp2_with (first | (go_at_call 58; (first | with_reducible refine Calls.fold (hB.out _ HV.out.alloc.alloc) ?_ | with_reducible refine Calls.fresh (hB.out _ HV.out.alloc.alloc) ?_); intro x1) | (go_at_call 59; (first | with_reducible refine Calls.fold (hR.out _ _ HT.out.alloc.alloc.up) ?_ | with_reducible refine Calls.fresh (hR.out _ _ HT.out.alloc.alloc.up) ?_); intro x1))
  go_step3
  refine ⟨rfl, ?_⟩
  refine wp_gen (fun W => W.there w.heap.size 0 21 ∧ Below w.heap.size w W) ⟨there_below (B := w.heap.size + 1) (Below.up ((Below.refl _ _).alloc (by simp) _) (by simp)) (by omega) (there_new w _ _ 21 rfl), by (repeat (first | (with_reducible exact Below.refl _ _) | (with_reducible assumption) | (with_reducible refine Below.alloc ?_ (by (repeat (first | (with_reducible exact Nat.le_refl _) | (with_reducible assumption) | (with_reducible refine le_up ?_) | (with_reducible refine le_alloc ?_) | (with_reducible refine le_setCell ?_) | (with_reducible refine le_drew ?_) | (with_reducible refine le_drewN ?_) | omega))) _) | (with_reducible refine Below.drew ?_) | (with_reducible refine Below.drewN ?_ _) | (with_reducible refine Below.setCell ?_ (by (repeat (first | (with_reducible exact Nat.le_refl _) | (with_reducible assumption) | (with_reducible refine le_up ?_) | (with_reducible refine le_alloc ?_) | (with_reducible refine le_setCell ?_) | (with_reducible refine le_drew ?_) | (with_reducible refine le_drewN ?_) | omega))) _) | (with_reducible refine Below.up ?_ (by (repeat (first | (with_reducible exact Nat.le_refl _) | (with_reducible assumption) | (with_reducible refine le_up ?_) | (with_reducible refine le_alloc ?_) | (with_reducible refine le_setCell ?_) | (with_reducible refine le_drew ?_) | (with_reducible refine le_drewN ?_) | omega))))))⟩ ?_
  rintro W ⟨hth, hbw⟩
  go_upto_region 17 with fail
  refine wp_region_lit ?_
  refine wpList_plain rfl fun K hK => ?_
  go_simp
  refine hK _ _ ?_
  clear hK K
  refine wpList_plain rfl fun K hK => ?_
  go_simp
  refine hK _ _ ?_
  clear hK K
  refine wpList_store_mid rfl _ _ _ rfl _ _ _ rfl rfl hth (by kernel_rfl) (by kernel_rfl) ?_
  have hrg := Lib.hid (World.rangeAt_setCells_same W w.heap.size 0 [.int .i64 0, .int .i64 0, .int .u32 0, .int .u64 0, .slice none 0 0, .int .u8 0, .int .u8 0, .int .u8 0, .int .u8 0, .int .u8 0, .int .u8 0, .int .u8 0, .int .u8 0, .int .u8 0, .int .u8 0, .int .u8 0, .int .u8 0, .int .u8 0, .int .u8 0, .int .u8 0, .int .u8 0] hth)
  have hbs := Lib.hid (Below.trans hbw (below_setCells w.heap.size [.int .i64 0, .int .i64 0, .int .u32 0, .int .u64 0, .slice none 0 0, .int .u8 0, .int .u8 0, .int .u8 0, .int .u8 0, .int .u8 0, .int .u8 0, .int .u8 0, .int .u8 0, .int .u8 0, .int .u8 0, .int .u8 0, .int .u8 0, .int .u8 0, .int .u8 0, .int .u8 0, .int .u8 0] W w.heap.size 0 (Nat.le_refl _)))
  clear hth hbw
  refine wpList_gen (fun W => W.rangeAt w.heap.size 0 [.int .i64 0, .int .i64 0, .int .u32 0, .int .u64 0, .slice none 0 0, .int .u8 0, .int .u8 0, .int .u8 0, .int .u8 0, .int .u8 0, .int .u8 0, .int .u8 0, .int .u8 0, .int .u8 0, .int .u8 0, .int .u8 0, .int .u8 0, .int .u8 0, .int .u8 0, .int .u8 0, .int .u8 0] ∧ Below w.heap.size w W) ⟨hrg.out, hbs.out⟩ ?_
  clear hrg hbs
  rintro W2 ⟨hr2, hb2⟩
  have hld := run_loadVar_mid (P := Try.prog) W2 w.heap.size 0 28 [.int .i64 0, .int .i64 0, .int .u32 0, .int .u64 0, .slice none 0 0, .int .u8 0, .int .u8 0, .int .u8 0, .int .u8 0, .int .u8 0, .int .u8 0, .int .u8 0, .int .u8 0, .int .u8 0, .int .u8 0, .int .u8 0, .int .u8 0, .int .u8 0, .int .u8 0, .int .u8 0, .int .u8 0] _ hr2 Try.underlying28 (by rfl) (by kernel_rfl)
  have HL := Lib.hid hld
  clear hld hr2
  go_wp2
  (try go_step3)
  go_wp2
  (try rw [Exit.noGoto_ret])
  refine bodyPost_ret (v := .tuple #[.agg #[.int .i64 0, .int .i64 0, .int .u32 0, .int .u64 0, .slice none 0 0, .int .u8 0, .int .u8 0, .int .u8 0, .int .u8 0, .int .u8 0, .int .u8 0, .int .u8 0, .int .u8 0, .int .u8 0, .int .u8 0, .int .u8 0, .int .u8 0, .int .u8 0, .int .u8 0, .int .u8 0, .int .u8 0], .int .i64 0, .int .i64 131]) ?_ rfl (Gives.mk rfl hb2)
  simp only [results, show Try.func16.results = #[ResultVar.cell 2 28, ResultVar.tmp 3, ResultVar.tmp 4] from rfl]
  simp [asAddr, HL.out]

end Go.Proofs.Ytjkgodhoonkinaa
