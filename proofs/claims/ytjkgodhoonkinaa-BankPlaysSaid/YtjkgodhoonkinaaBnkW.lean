/-
  A record read of good bytes, by the program.
-/
import Derived.Test.YtjkgodhoonkinaaBnkV
namespace Go.Proofs.Ytjkgodhoonkinaa
open Go.RowKit
set_option linter.unusedVariables false
set_option linter.unusedSimpArgs false

theorem run_arr32 (W : World) (a : Addr) (c : Nat) : (Instr.arrayAt 48 (.slice (some a) 32 c)).run Try.prog W = .ok (.pointer (some a)) W := by kernel_rfl
theorem rangeAt_zero (w : World) (T : TypeId) : (w.alloc (.cells #[.int .u32 0, .int .u32 0, .int .u64 0, .int .u32 0, .int .u64 0, .int .u32 0, .int .u64 0, .int .u32 0, .int .u64 0, .int .u32 0, .int .u64 0, .int .u32 0, .int .u64 0, .int .u32 0, .int .u64 0, .int .u32 0, .int .u64 0, .int .u32 0, .int .u8 0, .int .u8 0, .int .u8 0, .int .u8 0, .int .u8 0, .int .u8 0, .int .u8 0, .int .u8 0, .int .u8 0, .int .u8 0, .int .u8 0, .int .u8 0, .int .u8 0, .int .u8 0, .int .u8 0, .int .u8 0, .int .u8 0, .int .u8 0, .int .u8 0, .int .u8 0, .int .u8 0, .int .u8 0, .int .u8 0, .int .u8 0, .int .u8 0, .int .u8 0, .int .u8 0, .int .u8 0, .int .u8 0, .int .u8 0, .int .u8 0, .int .u8 0] T)).rangeAt w.heap.size 0 (recL zeroR) := by
  have h := rangeAt_boxed (w := w) (g := w.heap.size) (recL zeroR) T
  exact h
theorem recP_key (bs : List Nat) (hl : 136 ≤ bs.length) : (recP bs).drop 18 = (bs.drop 104).take 32 := by
  have hw : widths = widths.take 18 ++ List.replicate 32 1 := rfl
  have hc : ∀ (ws vs cs : List Nat), cutAll (ws ++ vs) cs = cutAll ws cs ++ cutAll vs (cs.drop ws.sum) := by
    intro ws
    induction ws with
    | nil => intro vs cs; simp [cutAll]
    | cons w ws ih =>
      intro vs cs
      show cs.take w :: cutAll (ws ++ vs) (cs.drop w) = cs.take w :: (cutAll ws (cs.drop w) ++ cutAll vs (cs.drop (w :: ws).sum))
      rw [ih, List.drop_drop, List.sum_cons]
  have ho : ∀ (n : Nat) (cs : List Nat), n ≤ cs.length → (cutAll (List.replicate n 1) cs).map beN = cs.take n := by
    intro n
    induction n with
    | zero => intro cs _; rfl
    | succ n ih =>
      intro cs hcs
      match cs, hcs with
      | c :: cs, hcs =>
        show ((c :: cs).take 1 :: cutAll (List.replicate n 1) ((c :: cs).drop 1)).map beN = _
        simp only [List.take_succ_cons, List.take_zero, List.drop_succ_cons, List.drop_zero, List.map_cons]
        rw [ih cs (by simpa using hcs)]
        simp [beN]
  unfold recP
  conv => lhs; rw [hw, hc, List.map_append]
  rw [List.drop_append_of_le_length (by rw [List.length_map, cutAll_length]; decide), ho 32 _ (by rw [List.length_drop]; have : (widths.take 18).sum = 104 := rfl; omega)]
  rw [List.drop_of_length_le (by rw [List.length_map, cutAll_length]; decide), List.nil_append]
  rfl
theorem ReadAt.rdArgs {w : World} {bs : List Nat} {q d : Nat} {own : Option Nat} {wr : World} {i : Nat} (H : ReadAt w bs q d own wr i) (hown : ∀ b, own = some b → b < w.heap.size) : ∃ v, wr.cell? ⟨d, 0, none⟩ = some v ∧ Bts wr v (bs.drop (widths.take i).sum) ∧ v.ownBlock = own ∧ ∀ b, v.ownBlock = some b → b ≠ d := by
  obtain ⟨v, h1, h2, h3⟩ := H.rd
  obtain ⟨o1, o2, o3⟩ := H.ord
  exact ⟨v, h1, h2, h3, fun b hb => by have := hown b (by rw [← h3]; exact hb); omega⟩
theorem ReadAt.cellQ {w : World} {bs : List Nat} {q d : Nat} {own : Option Nat} {wr : World} {i : Nat} (H : ReadAt w bs q d own wr i) (v2 : Value) (j : Nat) (hj : j < 50) : (∃ u, (wr.setCell ⟨d, 0, none⟩ v2).cell? ⟨q, j, none⟩ = some u) ∧ (wr.setCell ⟨d, 0, none⟩ v2).frozen? ⟨q, j, none⟩ = false := by
  obtain ⟨h1, h2⟩ := there_set (b := d) (o := 0) H.oth v2 j hj
  rw [Nat.zero_add] at h1 h2
  exact ⟨Option.isSome_iff_exists.1 h1, h2⟩
theorem offs18 : (widths.take 17).sum = 100 ∧ (widths.take 18).sum = 104 ∧ (widths.take 0).sum = 0 := ⟨rfl, rfl, rfl⟩
theorem offs_le (i : Nat) (hi : i < 18) : (widths.take i).sum + 8 ≤ 139 := by
  have : i = 0 ∨ i = 1 ∨ i = 2 ∨ i = 3 ∨ i = 4 ∨ i = 5 ∨ i = 6 ∨ i = 7 ∨ i = 8 ∨ i = 9 ∨ i = 10 ∨ i = 11 ∨ i = 12 ∨ i = 13 ∨ i = 14 ∨ i = 15 ∨ i = 16 ∨ i = 17 := by omega
  rcases this with rfl | rfl | rfl | rfl | rfl | rfl | rfl | rfl | rfl | rfl | rfl | rfl | rfl | rfl | rfl | rfl | rfl | rfl <;> decide
theorem ReadAt.step' {w : World} {bs : List Nat} {q d : Nat} {own : Option Nat} {wr : World} {i n : Nat} (H : ReadAt w bs q d own wr i) (hown : ∀ b, own = some b → b < w.heap.size) (hi : i < 50) (hn : widths.getD i 0 = n) {k : IntKind} (hk : kinds.getD i .u8 = k) {v1 v2 : Value} (h2 : Bts wr v2 ((bs.drop (widths.take i).sum).drop n)) (ho : v2.ownBlock = v1.ownBlock) (ho1 : v1.ownBlock = own) :
    ReadAt w bs q d own ((wr.setCell ⟨d, 0, none⟩ v2).setCell ⟨q, i, none⟩ (.int k (((recP bs).getD i 0 : Nat) : Int))) (i + 1) := by
  subst hn; subst hk
  exact H.step hown hi h2 (ho.trans ho1)
set_option maxRecDepth 100000 in
set_option maxHeartbeats 4000000 in
theorem bRead_good (v : Value) (bs : List Nat) (w : World) (hv : Bts w v bs) (hl : bs.length = 140) (hr : rightB bs = true) :
    Calls Try.prog 31 #[v] w (Gives w (.tuple #[.agg (recL (bnkR bs)).toArray, .int .i64 (bnkF bs)])) := by
  obtain ⟨vb, vo, vc, rfl, hlc, hc63, hvb, _⟩ := hv.some (by omega)
  have HL := Lib.hid hl
  rw [hl]
  rw [hl] at hv hlc
  have HV := Lib.hid hv
  have HOWN := Lib.hid (show ∀ b, some vb = some b → b < w.heap.size from fun b hb => by cases hb; exact hvb)
  have HOK := Lib.hid (recP_ok hv.1)
  have HGF := Lib.hid (show bnkG bs = decide ((recP bs).getD 0 0 ≠ 0) by unfold bnkG; rw [hl, hr]; simp)
  clear hv
  go_enter Try.func31, Try.ntmps31
  go_upto_region 1 with fail
  refine wp_gen (fun W => W.there w.heap.size 0 50 ∧ Below w.heap.size w W ∧ w.heap.size < W.heap.size) ⟨there_new w _ _ 50 (by rfl), by (repeat (first | (with_reducible exact Below.refl _ _) | (with_reducible assumption) | (with_reducible refine Below.alloc ?_ (by (repeat (first | (with_reducible exact Nat.le_refl _) | (with_reducible assumption) | (with_reducible refine le_up ?_) | (with_reducible refine le_alloc ?_) | (with_reducible refine le_setCell ?_) | (with_reducible refine le_drew ?_) | (with_reducible refine le_drewN ?_) | omega))) _) | (with_reducible refine Below.drew ?_) | (with_reducible refine Below.drewN ?_ _) | (with_reducible refine Below.setCell ?_ (by (repeat (first | (with_reducible exact Nat.le_refl _) | (with_reducible assumption) | (with_reducible refine le_up ?_) | (with_reducible refine le_alloc ?_) | (with_reducible refine le_setCell ?_) | (with_reducible refine le_drew ?_) | (with_reducible refine le_drewN ?_) | omega))) _) | (with_reducible refine Below.up ?_ (by (repeat (first | (with_reducible exact Nat.le_refl _) | (with_reducible assumption) | (with_reducible refine le_up ?_) | (with_reducible refine le_alloc ?_) | (with_reducible refine le_setCell ?_) | (with_reducible refine le_drew ?_) | (with_reducible refine le_drewN ?_) | omega)))))), by simp⟩ ?_
  rintro W0 ⟨hth0, hbw0, hz0⟩
  have HT := Lib.hid (And.intro hth0 (And.intro hbw0 hz0))
  have HR0 := Lib.hid (Right_any _ bs W0 (HV.out.below hbw0) (by omega))
  rw [hr] at HR0
  clear hth0 hbw0 hz0 hl hr
  go_wp2_with fail
  refine HR0.out.mono ?_
  rintro e1 w1 ⟨rfl, x1, rfl⟩
  go_upto_region 3 with fail
  refine wp_gen (fun W => W.there w.heap.size 0 50 ∧ Below w.heap.size w W ∧ w.heap.size < W.heap.size) ⟨there_up0 HT.out.1 x1, below_up HT.out.2.1 HT.out.2.1.size _, Nat.lt_of_lt_of_le HT.out.2.2 (up_size _ _)⟩ ?_
  rintro W1 ⟨hth1, hbw1, hz1⟩
  have HT1 := Lib.hid (And.intro hth1 (And.intro hbw1 hz1))
  clear HT HR0 hth1 hbw1 hz1
  go_upto_region 5 with fail
  refine wp_gen (fun W => ReadAt w bs W1.heap.size (W1.heap.size + 1) (some vb) W 0) ?_ ?_
  · obtain ⟨t1, b1, z1⟩ := HT1.out
    refine ⟨by (repeat (first | (with_reducible exact Below.refl _ _) | (with_reducible assumption) | (with_reducible refine Below.alloc ?_ (by (repeat (first | (with_reducible exact Nat.le_refl _) | (with_reducible assumption) | (with_reducible refine le_up ?_) | (with_reducible refine le_alloc ?_) | (with_reducible refine le_setCell ?_) | (with_reducible refine le_drew ?_) | (with_reducible refine le_drewN ?_) | omega))) _) | (with_reducible refine Below.drew ?_) | (with_reducible refine Below.drewN ?_ _) | (with_reducible refine Below.setCell ?_ (by (repeat (first | (with_reducible exact Nat.le_refl _) | (with_reducible assumption) | (with_reducible refine le_up ?_) | (with_reducible refine le_alloc ?_) | (with_reducible refine le_setCell ?_) | (with_reducible refine le_drew ?_) | (with_reducible refine le_drewN ?_) | omega))) _) | (with_reducible refine Below.up ?_ (by (repeat (first | (with_reducible exact Nat.le_refl _) | (with_reducible assumption) | (with_reducible refine le_up ?_) | (with_reducible refine le_alloc ?_) | (with_reducible refine le_setCell ?_) | (with_reducible refine le_drew ?_) | (with_reducible refine le_drewN ?_) | omega)))))), ?_, ?_, ?_, ⟨.slice (some ⟨vb, vo, none⟩) 140 vc, by simp, ?_, rfl⟩, by simp, z1, by omega, by simp⟩
    · exact World.there_alloc (World.there_alloc t1 _) _
    · refine World.rangeAt_alloc ?_ _
      rw [fillL_none (recP bs) (p := fun j => decide (j < 0)) (fun j hj => by simp)]
      exact rangeAt_zero W1 _
    · exact World.there_alloc (there_new W1 _ _ 50 (by rfl)) _
    · rw [offs18.2.2, List.drop_zero]
      exact HV.out.below (by (repeat (first | (with_reducible exact Below.refl _ _) | (with_reducible assumption) | (with_reducible refine Below.alloc ?_ (by (repeat (first | (with_reducible exact Nat.le_refl _) | (with_reducible assumption) | (with_reducible refine le_up ?_) | (with_reducible refine le_alloc ?_) | (with_reducible refine le_setCell ?_) | (with_reducible refine le_drew ?_) | (with_reducible refine le_drewN ?_) | omega))) _) | (with_reducible refine Below.drew ?_) | (with_reducible refine Below.drewN ?_ _) | (with_reducible refine Below.setCell ?_ (by (repeat (first | (with_reducible exact Nat.le_refl _) | (with_reducible assumption) | (with_reducible refine le_up ?_) | (with_reducible refine le_alloc ?_) | (with_reducible refine le_setCell ?_) | (with_reducible refine le_drew ?_) | (with_reducible refine le_drewN ?_) | omega))) _) | (with_reducible refine Below.up ?_ (by (repeat (first | (with_reducible exact Nat.le_refl _) | (with_reducible assumption) | (with_reducible refine le_up ?_) | (with_reducible refine le_alloc ?_) | (with_reducible refine le_setCell ?_) | (with_reducible refine le_drew ?_) | (with_reducible refine le_drewN ?_) | omega)))))))
  rintro W2 hR0
  have HR2 := Lib.hid hR0
  clear hR0 HT1
  obtain ⟨rv, hrv, hrb, hro, hrn⟩ := HR2.out.rdArgs HOWN.out
  have hdl : 4 < (bs.drop (widths.take (0)).sum).length := by rw [List.length_drop, HL.out]; have := offs_le (0) (by omega); omega
  go_wp2_with fail
  refine (rdnum_any (W1.heap.size + 1) 4 rv (bs.drop (widths.take (0)).sum) _ HR2.out.ord.2.2 hrv HR2.out.fr hrb hrn (by omega) hdl).mono ?_
  rintro e w9 ⟨rfl, v2, rfl, hb2, ho2⟩
  have HS := Lib.hid (HR2.out.step' (n := 4) (k := .u32) HOWN.out (by omega) (by rfl) (by rfl) hb2 ho2 hro)
  obtain ⟨⟨u9, hu9⟩, hf9⟩ := HR2.out.cellQ v2 (0) (by omega)
  have hx := recP_get bs (0) (by omega)
  rw [show widths.getD (0) 0 = 4 from rfl] at hx
  rw [← hx]
  have hbx := HOK.out.2 (0) (by omega)
  rw [show widths.getD (0) 0 = 4 from rfl] at hbx
  obtain ⟨x, hxe⟩ : ∃ x, x = (recP bs).getD (0) 0 := ⟨_, rfl⟩
  rw [← hxe] at HS hbx ⊢
  have HXE := Lib.hid hxe
  have hwx : IntKind.u32.wrap (x : Int) = (x : Int) := by simp [IntKind.wrap, IntKind.bits, IntKind.signed]; omega
  haveI hlq : LtSize W1.heap.size W2 := ⟨by have := HR2.out.ord; omega⟩
  clear hx hxe hb2 ho2 hrv hrb hro hrn hdl
  go_upto_region 6 with fail
  refine wp_gen (fun W => ReadAt w bs W1.heap.size (W1.heap.size + 1) (some vb) W 1) HS.out ?_
  rintro W3 hR3
  have HR3 := Lib.hid hR3
  clear hR3 HR2 HS hu9 hf9 hlq hbx hwx
  generalize hq : W1.heap.size = q at *
  go_wp2_with fail
  go_loopw [23] (fun v23 wr => ∃ k : Nat, k ≤ 8 ∧ v23 = .int .i64 (k : Int) ∧ ReadAt w bs q (q + 1) (some vb) wr (1 + 2 * k)) (fun v23 _ => 8 - (intOf v23).toNat)
  case atStart => exact ⟨0, by omega, rfl, HR3.out⟩
  case round =>
    obtain ⟨k, hk, rfl, hR⟩ := hrel
    have HQ := Lib.hid hR
    clear hR HR3
    by_cases hk8 : k < 8
    · have i1 : (k : Int) < 8 := by omega
      have i2 : IntKind.i64.wrap ((k : Int) + 1) = ((k + 1 : Nat) : Int) := by rw [IntKind.wrap_i64]; omega
      have i3 : (0 : Int) ≤ (k : Int) := by omega
      have HIE := Lib.hid (show 1 + k * 2 = 1 + 2 * k ∧ 1 + 2 * k + 1 = 2 + 2 * k from ⟨by omega, by omega⟩)
      obtain ⟨rv, hrv, hrb, hro, hrn⟩ := HQ.out.rdArgs HOWN.out
      have hdl : 4 < (bs.drop (widths.take (1 + 2 * k)).sum).length := by rw [List.length_drop, HL.out]; have := offs_le (1 + 2 * k) (by omega); omega
      go_wp2_with fail
      refine (rdnum_any (q + 1) 4 rv (bs.drop (widths.take (1 + 2 * k)).sum) _ HQ.out.ord.2.2 hrv HQ.out.fr hrb hrn (by omega) hdl).mono ?_
      rintro e w9 ⟨rfl, v2, rfl, hb2, ho2⟩
      have HS := Lib.hid (HQ.out.step' (n := 4) (k := .u32) HOWN.out (by omega) (widths_mark hk8).1 (kinds_mark hk8).1 hb2 ho2 hro)
      obtain ⟨⟨u9, hu9⟩, hf9⟩ := HQ.out.cellQ v2 (1 + 2 * k) (by omega)
      have hx := recP_get bs (1 + 2 * k) (by omega)
      rw [(widths_mark hk8).1] at hx
      rw [← hx]
      have hbx := HOK.out.2 (1 + 2 * k) (by omega)
      rw [(widths_mark hk8).1] at hbx
      obtain ⟨x, hxe⟩ : ∃ x, x = (recP bs).getD (1 + 2 * k) 0 := ⟨_, rfl⟩
      rw [← hxe] at HS hbx ⊢
      have hwx : IntKind.u32.wrap (x : Int) = (x : Int) := by simp [IntKind.wrap, IntKind.bits, IntKind.signed]; omega
      haveI hlq : LtSize q wr := ⟨by have := HQ.out.ord; omega⟩
      clear hx hxe hb2 ho2 hrv hrb hro hrn hdl
      rw [← HIE.out.1] at hu9 hf9
      go_upto_region 10 with fail
      rw [HIE.out.1]
      refine wp_gen (fun W => ReadAt w bs q (q + 1) (some vb) W (2 + 2 * k)) (by rw [← HIE.out.2]; exact HS.out) ?_
      rintro W6 hR6
      have HR6 := Lib.hid hR6
      clear hR6 HS hu9 hf9 hlq hbx hwx HQ
      obtain ⟨rv, hrv, hrb, hro, hrn⟩ := HR6.out.rdArgs HOWN.out
      have hdl : 8 < (bs.drop (widths.take (2 + 2 * k)).sum).length := by rw [List.length_drop, HL.out]; have := offs_le (2 + 2 * k) (by omega); omega
      go_wp2_with fail
      refine (rdnum_any (q + 1) 8 rv (bs.drop (widths.take (2 + 2 * k)).sum) _ HR6.out.ord.2.2 hrv HR6.out.fr hrb hrn (by omega) hdl).mono ?_
      rintro e w9 ⟨rfl, v2, rfl, hb2, ho2⟩
      have HS := Lib.hid (HR6.out.step' (n := 8) (k := .u64) HOWN.out (by omega) (widths_mark hk8).2 (kinds_mark hk8).2 hb2 ho2 hro)
      obtain ⟨⟨u9, hu9⟩, hf9⟩ := HR6.out.cellQ v2 (2 + 2 * k) (by omega)
      have hx := recP_get bs (2 + 2 * k) (by omega)
      rw [(widths_mark hk8).2] at hx
      rw [← hx]
      have hbx := HOK.out.2 (2 + 2 * k) (by omega)
      rw [(widths_mark hk8).2] at hbx
      obtain ⟨x, hxe⟩ : ∃ x, x = (recP bs).getD (2 + 2 * k) 0 := ⟨_, rfl⟩
      rw [← hxe] at HS hbx ⊢
      skip
      haveI hlq : LtSize q W6 := ⟨by have := HR6.out.ord; omega⟩
      clear hx hxe hb2 ho2 hrv hrb hro hrn hdl
      rw [← HIE.out.2, ← HIE.out.1] at hu9 hf9
      have HS2 := Lib.hid (show ReadAt w bs q (q + 1) (some vb) ((W6.setCell ⟨q + 1, 0, none⟩ v2).setCell ⟨q, 1 + k * 2 + 1, none⟩ (.int .u64 (x : Int))) (1 + 2 * (k + 1)) from by
        rw [HIE.out.1, HIE.out.2, show 1 + 2 * (k + 1) = 2 + 2 * k + 1 by omega]; exact HS.out)
      go_wp2_with fail
      exact ⟨⟨k + 1, by omega, (by first | rfl | go_num), HS2.out⟩, by simp [intOf]; omega⟩
    · obtain rfl : k = 8 := by omega
      have HQ17 := Lib.hid (show ReadAt w bs q (q + 1) (some vb) wr 17 from HQ.out)
      clear HQ
      obtain ⟨rv, hrv, hrb, hro, hrn⟩ := HQ17.out.rdArgs HOWN.out
      have hdl : 4 < (bs.drop (widths.take (17)).sum).length := by rw [List.length_drop, HL.out]; have := offs_le (17) (by omega); omega
      go_wp2_with fail
      refine (rdnum_any (q + 1) 4 rv (bs.drop (widths.take (17)).sum) _ HQ17.out.ord.2.2 hrv HQ17.out.fr hrb hrn (by omega) hdl).mono ?_
      rintro e w9 ⟨rfl, v2, rfl, hb2, ho2⟩
      have HS := Lib.hid (HQ17.out.step' (n := 4) (k := .u32) HOWN.out (by omega) (by rfl) (by rfl) hb2 ho2 hro)
      obtain ⟨⟨u9, hu9⟩, hf9⟩ := HQ17.out.cellQ v2 (17) (by omega)
      have hx := recP_get bs (17) (by omega)
      rw [show widths.getD (17) 0 = 4 from rfl] at hx
      rw [← hx]
      have hbx := HOK.out.2 (17) (by omega)
      rw [show widths.getD (17) 0 = 4 from rfl] at hbx
      obtain ⟨x, hxe⟩ : ∃ x, x = (recP bs).getD (17) 0 := ⟨_, rfl⟩
      rw [← hxe] at HS hbx ⊢
      have hwx : IntKind.u32.wrap (x : Int) = (x : Int) := by simp [IntKind.wrap, IntKind.bits, IntKind.signed]; omega
      haveI hlq : LtSize q wr := ⟨by have := HQ17.out.ord; omega⟩
      clear hx hxe hb2 ho2 hrv hrb hro hrn hdl
      go_upto_region 13 with fail
      refine wp_gen (fun W => ReadAt w bs q (q + 1) (some vb) W 18) HS.out ?_
      rintro W6 hR6
      have HR6 := Lib.hid hR6
      clear hR6 HS hu9 hf9 hlq hbx hwx HQ17
      obtain ⟨rv, hrv, hrb, hro, hrn⟩ := HR6.out.rdArgs HOWN.out
      rw [offs18.2.1] at hrb
      obtain ⟨kb, ko, kc, rfl, hkc, hkc2, hkb, hkcell⟩ := hrb.some (by rw [List.length_drop, HL.out]; omega)
      have hd36 : (bs.drop 104).length = 36 := by rw [List.length_drop, HL.out]
      rw [hd36] at hrv hkc hkcell
      obtain ⟨K, hK⟩ : ∃ K, K = byteVs ((bs.drop 104).take 32) := ⟨_, rfl⟩
      have hkl : K.length = 32 := by rw [hK, byteVs_length, List.length_take, hd36]; rfl
      have hk1 : K.toArray.all (·.oneCell') = true := by rw [hK]; exact all_oneCell_toArray (fun v hv => by obtain ⟨n, _, rfl⟩ := List.mem_map.1 hv; rfl)
      have HKR := Lib.hid (show W6.rangeAt kb ko K from fun j v hj => by
        have hj32 : j < 32 := by
          rcases Nat.lt_or_ge j K.length with h | h
          · omega
          · rw [List.getElem?_eq_none h] at hj; cases hj
        rw [hK, byteVs_get _ _ (by rw [List.length_take, hd36]; omega)] at hj
        rw [hkcell j (by omega), ← hj, List.getD_eq_getElem?_getD, List.getD_eq_getElem?_getD, List.getElem?_take, if_pos hj32])
      have hth := there_sub HR6.out.oth 18 32 (by omega)
      have hst := run_storeCells_mid W6 q 18 K (by rw [hkl]; exact hth) hk1
      have hfin : (W6.setCells q 18 K).rangeAt q 0 (recL (recP bs)) := by
        have h1 := fill_setCells (recP bs) (recP_length bs) q 32 18 _ W6 (by omega) HR6.out.out
        rw [show ((recL (recP bs)).drop 18).take 32 = K by rw [key_list (recP_length bs), hK]; congr 1; exact recP_key bs (by rw [HL.out]; omega)] at h1
        rw [fillL_all (recP_length bs) (fun j hj => by simp; omega)] at h1
        exact h1
      have HF := Lib.hid (show Below w.heap.size w (W6.setCells q 18 K) ∧ (W6.setCells q 18 K).there w.heap.size 0 50 ∧ (W6.setCells q 18 K).rangeAt q 0 (recL (recP bs)) ∧ q < (W6.setCells q 18 K).heap.size from ⟨HR6.out.bel.trans (below_setCells _ _ _ _ _ (by have := HR6.out.ord; omega)), World.there_setCells HR6.out.res _ _ _, hfin, by rw [size_setCells]; have := HR6.out.ord; omega⟩)
      have HKL := Lib.hid hkl
      have hkc' : (32 : Int) ≤ (kc : Int) := by omega
      have harr := run_arr32 W6 ⟨kb, ko, none⟩ kc
      haveI hlq6 : LtSize (q + 1) W6 := ⟨HR6.out.ord.2.2⟩
      clear hrb hro hrn hkcell hd36 hK hk1 hth hfin hkc
      go_upto_region 14 with (refine wpList_load_mid rfl 48 (.tmp 49) (by rfl) kb ko (by rfl) K _ HKR.out Try.underlying48 (by rfl) (by rw [HKL.out]; kernel_rfl) ?_)
      refine wp_gen (fun W => Below w.heap.size w W ∧ W.there w.heap.size 0 50 ∧ W.rangeAt q 0 (recL (recP bs)) ∧ q < W.heap.size) HF.out ?_
      rintro W7 ⟨hb7, ht7, hr7, hl7⟩
      have z0 : W7.cell? ⟨q, 0, none⟩ = some (.int .u32 (((recP bs).getD 0 0 : Nat) : Int)) := by
        have := hr7 0 _ (recL_get (recP_length bs) 0 (by omega))
        rwa [Nat.zero_add] at this
      have H7 := Lib.hid (And.intro hb7 (And.intro ht7 hr7))
      haveI hlq7 : LtSize q W7 := ⟨hl7⟩
      obtain ⟨x0, hx0⟩ : ∃ x0, x0 = (recP bs).getD 0 0 := ⟨_, rfl⟩
      rw [← hx0] at z0 HGF
      clear hb7 ht7 hr7 hst hkl harr hrv hkc' hlq6 HF HR6 HKR HKL
      by_cases h0 : x0 = 0
      · subst h0
        have HTB := Lib.hid (And.intro H7.out.2.1 H7.out.1)
        have hg : bnkG bs = false := by rw [HGF.out]; rfl
        have HE := Lib.hid (show recL zeroR = recL (bnkR bs) ∧ (300 : Int) = bnkF bs by unfold bnkR bnkF; rw [hg]; exact ⟨rfl, rfl⟩)
        clear hg hx0
        go_upto_region 15 with fail
        refine wp_gen (fun W => W.there w.heap.size 0 50 ∧ Below w.heap.size w W) ⟨HTB.out.1, HTB.out.2⟩ ?_
        rintro WE ⟨hth, hbw⟩
        obtain ⟨Z, hZ⟩ : ∃ Z, Z = recL zeroR := ⟨_, rfl⟩
        have hzl : Z.length = 50 := by rw [hZ]; rfl
        have hz1 : Z.toArray.all (·.oneCell') = true := by rw [hZ]; exact recL_one rfl
        have hst := run_storeCells_mid WE w.heap.size 0 Z (by rw [hzl]; exact hth) hz1
        have hrs := World.rangeAt_setCells_same WE w.heap.size 0 Z (by rw [hzl]; exact hth)
        have HRES := Lib.hid (run_loadVar_mid (P := Try.prog) (WE.setCells w.heap.size 0 Z) w.heap.size 0 50 Z _ hrs Try.underlying50 (by rfl) (by rw [hzl]; kernel_rfl))
        have HBW := Lib.hid hbw
        have HZB := Lib.hid (fun W => (show (Instr.build 50 #[]).run Try.prog W = .ok (.agg Z.toArray) W by rw [hZ]; exact run_bld0 W))
        have HZE := Lib.hid hZ
        clear hth hbw hrs hz1 hZ
        go_wp2_with (refine wpList_bld0 rfl 50 rfl (.agg Z.toArray) HZB.out ?_)
        refine bodyPost_ret (v := .tuple #[.agg Z.toArray, .int .i64 300]) ?_ rfl (Gives.mk (by rw [HZE.out, HE.out.1, HE.out.2]) (HBW.out.trans (below_setCells _ _ _ _ _ (Nat.le_refl _))))
        simp only [results, show Try.func31.results = #[ResultVar.cell 2 50, ResultVar.tmp 3] from rfl]
        simp [asAddr, HRES.out]
      · have h0' : ¬ (x0 : Int) = 0 := by omega
        have hg : bnkG bs = true := by rw [HGF.out]; simp [h0]
        have HE := Lib.hid (show recL (recP bs) = recL (bnkR bs) ∧ (0 : Int) = bnkF bs by unfold bnkR bnkF; rw [hg]; exact ⟨rfl, rfl⟩)
        obtain ⟨L, hL⟩ : ∃ L, L = recL (recP bs) := ⟨_, rfl⟩
        have hll : L.length = 50 := by rw [hL]; exact recL_length (recP_length bs)
        have hone : L.toArray.all (·.oneCell') = true := by rw [hL]; exact recL_one (recP_length bs)
        have hst2 := run_storeCells_mid W7 w.heap.size 0 L (by rw [hll]; exact H7.out.2.1) hone
        have hrs := World.rangeAt_setCells_same W7 w.heap.size 0 L (by rw [hll]; exact H7.out.2.1)
        have HRES := Lib.hid (run_loadVar_mid (P := Try.prog) (W7.setCells w.heap.size 0 L) w.heap.size 0 50 L _ hrs Try.underlying50 (by rfl) (by rw [hll]; kernel_rfl))
        have HLL := Lib.hid hll
        have HLR := Lib.hid (show W7.rangeAt q 0 L by rw [hL]; exact H7.out.2.2)
        have HLE := Lib.hid hL
        clear hg hx0 hone hrs hL
        go_wp2_with (refine wpList_load_mid rfl 50 (.tmp 4) (by rfl) q 0 (by rfl) L _ HLR.out Try.underlying50 (by rfl) (by rw [HLL.out]; kernel_rfl) ?_)
        refine bodyPost_ret (v := .tuple #[.agg L.toArray, .int .i64 0]) ?_ rfl (Gives.mk (by rw [HLE.out, HE.out.1, HE.out.2]) (H7.out.1.trans (below_setCells _ _ _ _ _ (Nat.le_refl _))))
        simp only [results, show Try.func31.results = #[ResultVar.cell 2 50, ResultVar.tmp 3] from rfl]
        simp [asAddr, HRES.out]
theorem bRead_any (v : Value) (bs : List Nat) (w : World) (hv : Bts w v bs) (hl : bs.length ≤ 1000000) :
    Calls Try.prog 31 #[v] w (Gives w (.tuple #[.agg (recL (bnkR bs)).toArray, .int .i64 (bnkF bs)])) := by
  by_cases h : bs.length = 140 ∧ rightB bs = true
  · exact bRead_good v bs w hv h.1 h.2
  · have hg : bnkG bs = false := by
      unfold bnkG
      by_cases h1 : bs.length = 140
      · have : rightB bs = false := by
          cases h2 : rightB bs
          · rfl
          · exact absurd ⟨h1, h2⟩ h
        rw [this]; simp
      · simp [h1]
    have h2 := bRead_bad v bs w hv hl h
    unfold bnkR bnkF
    rw [hg]
    exact h2
end Go.Proofs.Ytjkgodhoonkinaa
