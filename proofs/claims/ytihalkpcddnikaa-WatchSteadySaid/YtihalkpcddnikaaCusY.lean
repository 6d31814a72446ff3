/-
  The monitor of drifts: Clear, the walk.
-/
import Derived.Test.YtihalkpcddnikaaCusV
namespace Go.Proofs.Ytihalkpcddnikaa
open Go.RowKit Go.Maps
set_option linter.unusedVariables false
set_option linter.unusedSimpArgs false

def mkP (x : Int × Int) : Value := placeV x.1 x.2
noncomputable def clrG (g : Int → Int → Pr) (src : Int) (left : Lit → Bool) : Int → Int → Pr := fun i j => if i = src ∧ left (plK i j) = false then Pr.zero else g i j
/-- The round of Clear. -/
structure ClrAt (w0 : World) (c b r n : Nat) (src : Int) (g : Int → Int → Pr) (D : DataW Unit) (left : Lit → Bool) (cnt : Nat) (w : World) : Prop where
  rg : w.ranges Try.prog 112 prR b r n D left cnt
  ag : ∀ i j, I64 i → I64 j → D.atKey (plK i j) (prD Pr.zero) = prD (clrG g src left i j)
  rn : w0.heap.size ≤ r
  gr : w0.grownBy w (some b)
theorem clr_keep {g : Int → Int → Pr} {src s k : Int} (hs : I64 s) (hk : I64 k) (hne : s ≠ src) {left : Lit → Bool} {i j : Int} (hi : I64 i) (hj : I64 j) :
    clrG g src (fun z => left z && !z.sameKey (plK s k)) i j = clrG g src left i j := by
  unfold clrG
  by_cases h : i = src
  · have hd : plK i j ≠ plK s k := fun e => hne ((plK_inj hi hj hs hk e).1.symm.trans h)
    simp [h, sameKey_ne (h ▸ hd)]
  · simp [h]
theorem clr_drop {g : Int → Int → Pr} {src k : Int} (hs : I64 src) (hk : I64 k) {left : Lit → Bool} {i j : Int} (hi : I64 i) (hj : I64 j) :
    clrG g src (fun z => left z && !z.sameKey (plK src k)) i j = updC (clrG g src left) src k Pr.zero i j := by
  have hself : (plK src k).sameKey (plK src k) = true := WideAt.sameKey_self (keyC.key (plK_key hs hk))
  unfold clrG updC
  by_cases h : i = src ∧ j = k
  · obtain ⟨rfl, rfl⟩ := h
    simp [hself]
  · have hd : plK i j ≠ plK src k := fun e => h (plK_inj hi hj hs hk e)
    simp [h, sameKey_ne hd]
theorem cClear_nil (src : Int) (w : World) :
    Calls Try.prog 63 #[.pointer none, .int .i64 src] w (Tells w (.int .i64 1)) := by
  have HC := Lib.hid (fun W => cis_nil W)
  go_enter Try.func63, Try.ntmps63
  go_wp2_with (go_at_call 68; refine (HC.out _).mono ?_; rintro e w1 ⟨rfl, rfl⟩)
  go_ret
  exact Tells.mk rfl
theorem cClear_bad {src : Int} (hb : srcB src = false) {w : World} {c b n : Nat} {slack most : Int} {g : Int → Int → Pr} (h : CuAt w c b n slack most g) :
    Calls Try.prog 63 #[.pointer (some ⟨c, 0, none⟩), .int .i64 src] w (Tells w (.int .i64 2)) := by
  have HC := Lib.hid (fun W (hW : CuAt W c b n slack most g) => cis_t hW)
  have HA := Lib.hid h
  have HS := Lib.hid (fun W => hb ▸ csrc_any src W)
  clear h hb
  go_enter Try.func63, Try.ntmps63
  go_wp2_with first | (go_at_call 68; refine (HC.out _ HA.out).mono ?_; rintro e w1 ⟨rfl, rfl⟩) | (go_at_call 74; refine (HS.out _).mono ?_; rintro e w1 ⟨rfl, rfl⟩)
  go_ret
  exact Tells.mk rfl
theorem gr_new {a b c : World} {row : Option Nat} {r : Nat} (h : a.grownBy b row) (k : b.grownBy c (some r)) (hr : a.heap.size ≤ r) : a.grownBy c row :=
  ⟨k.os.trans h.os, k.tape.trans h.tape, k.output.trans h.output, Nat.le_trans h.size k.size, fun i hi hne => (k.block i (Nat.lt_of_lt_of_le hi h.size) (by intro e; injection e; omega)).trans (h.block i hi hne)⟩
def ClearR (w : World) (c b n : Nat) (slack most : Int) (g : Int → Int → Pr) (src : Int) (e : Ending) (w' : World) : Prop :=
  e = .returned (.int .i64 0) ∧ CuAt w' c b n slack most (fun i j => if i = src then Pr.zero else g i j) ∧ w.grownBy w' (some b)
set_option maxRecDepth 100000 in
theorem cClear_good {src : Int} (hb : srcB src = true) (hsrc : I64 src) {w : World} {c b n : Nat} {slack most : Int} {g : Int → Int → Pr} (h : CuAt w c b n slack most g) :
    Calls Try.prog 63 #[.pointer (some ⟨c, 0, none⟩), .int .i64 src] w (ClearR w c b n slack most g src) := by
  have HC := Lib.hid (fun W (hW : CuAt W c b n slack most g) => cis_t hW)
  have HA := Lib.hid h
  have HS := Lib.hid (fun W => hb ▸ csrc_any src W)
  have hc2 := h.c2
  have hlt := h.lt
  have hne := h.ne
  have hblt := h.tab.lt
  obtain ⟨D, hown, hat⟩ := h.tab
  clear h hb
  go_enter Try.func63, Try.ntmps63
  go_wp2_with (first
    | (go_at_call 68; refine (HC.out _ HA.out).mono ?_; rintro e w1 ⟨rfl, rfl⟩)
    | (go_at_call 74; refine (HS.out _).mono ?_; rintro e w1 ⟨rfl, rfl⟩)
    | (at_range; refine wpList_range_own _ rfl _ 120 rfl 112 135 keyC Try.underlying120 prR b n D rfl hown ?_))
  intro w0 hrg0 hg0 hs0
  have hst : ClrAt w c b w.heap.size n src g D (has D) (size D) w0 := ⟨hrg0, fun i j hi hj => by
    unfold clrG
    by_cases hh : i = src ∧ has D (plK i j) = false
    · rw [if_pos hh, atKey_of_not_has hh.2]
    · rw [if_neg hh]; exact hat i j hi hj, Nat.le_refl _, hg0.but _⟩
  go_wp2_with fail
  go_loopw [5] (fun _ wr => ∃ D left cnt, ClrAt w c b w.heap.size n src g D left cnt wr) (fun _ wr => wr.rangeLeft b w.heap.size)
  case atStart => exact ⟨_, _, _, hst⟩
  case round =>
    clear hst hrg0 hg0 hs0 hown hc2 hat
    clear D
    obtain ⟨D, left, cnt, ha⟩ := hrel
    have HL := Lib.hid ha
    clear ha
    go_wp2_with (first
      | (at_next; refine wpList_next_ranges _ rfl _ rfl 112 keyC prR mkP prV (fun key kl hkey => by obtain ⟨s, k, rfl, _, _⟩ := place_inv hkey; exact ⟨(s, k), rfl⟩) (fun v y hv => by obtain ⟨m, rfl, _⟩ := prR_inv hv; exact ⟨m, rfl⟩) b w.heap.size n D _ _ rfl HL.out.rg ?_ ?_)
      | go_in)
    · intro _ hl0
      go_wp2
      go_ret
      refine ⟨rfl, ?_, HL.out.gr⟩
      obtain ⟨n', hown'⟩ : ∃ n', n' = n := ⟨n, rfl⟩
      refine HA.out.turned HL.out.gr ⟨D, HL.out.rg.owns, fun i j hi hj => ?_⟩
      rw [HL.out.ag i j hi hj]
      unfold clrG
      simp [hl0]
    · intro s k m kl y yp w1 cnt1 hkey hlx hR hatk hrg1 hlt1 hg1 hs1 hen
      have hw := place_inv hkey
      simp only [mkP] at hw hen hkey ⊢
      obtain ⟨s', k', he, hs, hk⟩ := hw
      have he' : s = s' ∧ k = k' := by simpa [placeV] using he
      obtain ⟨rfl, rfl⟩ := he'
      clear he
      have hkl : kl = plK s k := by rw [plK_key hs hk] at hkey; simpa using hkey.symm
      subst hkl
      clear hR hatk hkey hlx
      have hgw := gr_new HL.out.gr hg1 (Nat.le_refl _)
      have hleft := HL.out.rg.left_eq
      have hlt2 : cnt1 < wr.rangeLeft b w.heap.size := by rw [hleft]; exact hlt1
      have hrlt := hrg1.lt
      have hcb : some b ≠ some c := by simp; omega
      have hc2 := kept_cellR HA.out.c2 hgw hcb
      have hclt : c < w1.heap.size := Nat.lt_of_lt_of_le hlt hgw.size
      have HK := Lib.hid (And.intro hrg1 (And.intro hgw (And.intro hlt2 hc2)))
      clear hrg1 hg1 hgw hleft hlt2 hlt1 hcb hs1
      unfold placeV at hen ⊢
      by_cases hsx : s = src
      · subst hsx
        go_upto_region 9 with fail
        obtain ⟨w3, cnt3, hr3, hrg3, hle3, hmt3⟩ := ((HK.out.1.alloc (Obj.cells #[Value.int .i64 s, Value.int .i64 k] 112)).kept (gr_below none ((Below.refl _ _).drew)) (by simp) (by simp)).drop keyC Try.underlying120 (plK_key hs hk) 0
        rw [strike_twice] at hrg3
        have H3 := Lib.hid (And.intro hrg3 (And.intro hle3 hmt3.grown))
        clear hrg3 hle3 hmt3
        refine wp_region_slim [5] [(0, 3), (1, 3), (2, 3), (3, 0), (4, 0), (5, 2)] (fun X => X.cell? ⟨c, 2, none⟩ = some (.map (some b)) ∧ X.rangeAt w1.heap.size 0 [.int .i64 s, .int .i64 k]) (by kernel_rfl) (by kernel_rfl) (fun d v c a w h => by cases d <;> exact h) ⟨cell_belowI (((Below.refl _ _).alloc (Nat.le_refl _) _).drew) hclt hc2, range2 (by simp) (by simp)⟩ ?_
        simp only [List.map_cons, List.map_nil, slim]
        refine wpSched_pure ?sv1 rfl (by rfl) (fun W => ?sh1) ?sr1; (case sh1 => (go_simp; try (with_reducible rfl))); simp only [Act.put, List.getElem_toArray, List.getElem_cons_zero, List.getElem_cons_succ, List.setIfInBounds_toArray, List.set_cons_zero, List.set_cons_succ]
        refine wpSched_pure ?sv2 rfl (by rfl) (fun W => ?sh2) ?sr2; (case sh2 => (go_simp; try (with_reducible rfl))); simp only [Act.put, List.getElem_toArray, List.getElem_cons_zero, List.getElem_cons_succ, List.setIfInBounds_toArray, List.set_cons_zero, List.set_cons_succ]
        refine wpSched_pure ?sv3 rfl (by rfl) (fun W => ?sh3) ?sr3; (case sh3 => (go_simp; try (with_reducible rfl))); simp only [Act.put, List.getElem_toArray, List.getElem_cons_zero, List.getElem_cons_succ, List.setIfInBounds_toArray, List.set_cons_zero, List.set_cons_succ]
        refine wpSched_still ?sv4 rfl (by rfl) (fun W hW => ?sh4) ?sr4; (case sh4 => (obtain ⟨h1, h2⟩ := hW; go_simp; try (with_reducible rfl))); simp only [Act.put, List.getElem_toArray, List.getElem_cons_zero, List.getElem_cons_succ, List.setIfInBounds_toArray, List.set_cons_zero, List.set_cons_succ]
        refine wpSched_load 112 (.tmp 5) w1.heap.size 0 [.int .i64 s, .int .i64 k] _ rfl rfl (by rfl) (by rfl) (fun W hW => hW.2) Try.underlying112 (by rfl) (by kernel_rfl) ?_
        simp only [Act.put, List.getElem_toArray, List.getElem_cons_zero, List.getElem_cons_succ, List.setIfInBounds_toArray, List.set_cons_zero, List.set_cons_succ]
        refine wpSched_runT (.tuple #[]) rfl (by rfl) (exec_delC (.tmp 30) (.tmp 31) rfl (by rfl) (by rfl) hr3) ?_
        simp only [Act.put, List.getElem_toArray, List.getElem_cons_zero, List.getElem_cons_succ, List.setIfInBounds_toArray, List.set_cons_zero, List.set_cons_succ]
        refine wpSched_nil ?_
        clear hr3
        go_wp2_with fail
        refine ⟨⟨_, _, cnt3, H3.out.1, fun i j hi hj => ?_, Nat.le_refl _, gr_trans (gr_new HK.out.2.1 (gr_below (some w.heap.size) (((Below.refl _ _).alloc (Nat.le_refl _) _).drew)) (Nat.le_refl _)) H3.out.2.2⟩, ?_⟩
        · rw [clr_drop hs hk hi hj]
          unfold updC
          by_cases hij : i = s ∧ j = k
          · obtain ⟨rfl, rfl⟩ := hij
            rw [if_pos ⟨rfl, rfl⟩, atKey_of_not_has has_del_same]
          · rw [if_neg hij, atKey_del_other (by intro e; exact hij (plK_inj hi hj hs hk (by first | exact e | exact e.symm)))]
            exact HL.out.ag i j hi hj
        · rw [H3.out.1.left_eq]
          exact Nat.lt_of_le_of_lt (Nat.le_trans H3.out.2.1 (Nat.le_refl _)) (by have := HK.out.2.2.1; have := HK.out.1.left_eq; omega)
      · go_wp2_with go_in
        refine ⟨⟨D, _, cnt1, HK.out.1.alloc _, fun i j hi hj => ?_, Nat.le_refl _, gr_new HK.out.2.1 (gr_below (some w.heap.size) ((Below.refl _ _).alloc (Nat.le_refl _) _)) (Nat.le_refl _)⟩, ?_⟩
        · rw [clr_keep hs hk hsx hi hj]
          exact HL.out.ag i j hi hj
        · rw [(HK.out.1.alloc _).left_eq]
          exact HK.out.2.2.1
end Go.Proofs.Ytihalkpcddnikaa
