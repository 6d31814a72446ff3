/-
  The law WatchSteady, walked.
-/
import Derived.Test.YtihalkpcddnikaaWatL
import Derived.Test.YtihalkpcddnikaaBaseB
namespace Go.Proofs.Ytihalkpcddnikaa
open Go.RowKit Go.Maps
set_option linter.unusedVariables false
set_option linter.unusedSimpArgs false

theorem gr_to_set {a b : World} {c i : Nat} {v : Value} (h : a.grownBy b (some c)) : a.grownBy (b.setCell ⟨c, i, none⟩ v) (some c) := gr_trans h (gr_set b c i v)
/-- The steps: uint16. -/
theorem st_of {w : World} {a : Option Addr} {len : Nat} (h : Elems w [some .u16] a len) {k : Nat} (hk : k < len) :
    ∃ (b off : Nat) (v : Int), a = some ⟨b, off, none⟩ ∧ b < w.heap.size ∧ 0 ≤ v ∧ v ≤ 65535 ∧ w.cell? ⟨b, off + k, none⟩ = some (.int .u16 v) := by
  obtain ⟨_, h0 | ⟨b, off, rfl, hb, hc⟩⟩ := h
  · omega
  obtain ⟨cs, hic, hcs⟩ := hc k hk
  obtain ⟨v, cs', rfl, w0, hic'⟩ := hic.cons
  obtain rfl := hic'.nil
  have hw : 0 ≤ v ∧ v ≤ 65535 := by simp [Lit.wf, IntKind.min, IntKind.max, IntKind.bits, IntKind.signed] at w0; omega
  refine ⟨b, off, v, rfl, hb, hw.1, hw.2, ?_⟩
  have := hcs 0 (by simp)
  simpa using this
/-- The offsets: vectors. -/
theorem of_of {w : World} {a : Option Addr} {len : Nat} (h : Elems w [some .i64, some .i64, some .i64] a len) {k : Nat} (hk : k < len) :
    ∃ (b off : Nat) (x y z : Int), a = some ⟨b, off, none⟩ ∧ b < w.heap.size ∧ I64 x ∧ I64 y ∧ I64 z ∧ w.cell? ⟨b, off + k * 3, none⟩ = some (.int .i64 x) ∧ w.cell? ⟨b, off + k * 3 + 1, none⟩ = some (.int .i64 y) ∧ w.cell? ⟨b, off + k * 3 + 2, none⟩ = some (.int .i64 z) := by
  obtain ⟨_, h0 | ⟨b, off, rfl, hb, hc⟩⟩ := h
  · omega
  obtain ⟨cs, hic, hcs⟩ := hc k hk
  obtain ⟨x, cs', rfl, w0, hic1⟩ := hic.cons
  obtain ⟨y, cs'', rfl, w1, hic2⟩ := hic1.cons
  obtain ⟨z, cs4, rfl, w2, hic3⟩ := hic2.cons
  obtain rfl := hic3.nil
  have h0 := hcs 0 (by simp)
  have h1 := hcs 1 (by simp)
  have h2 := hcs 2 (by simp)
  exact ⟨b, off, x, y, z, rfl, hb, bounds_i64 w0, bounds_i64 w1, bounds_i64 w2, by simpa using h0, by simpa using h1, by simpa using h2⟩
def v3 (a b c : Int) (i : Nat) : Value := .int .i64 (if i = 0 then a else if i = 1 then b else c)
theorem Cells.three {w : World} {c : Nat} {x y z : Int} (h : Cells w c 3 (v3 x y z)) : w.cell? ⟨c, 0, none⟩ = some (.int .i64 x) ∧ w.cell? ⟨c, 1, none⟩ = some (.int .i64 y) ∧ w.cell? ⟨c, 2, none⟩ = some (.int .i64 z) :=
  ⟨h.at_ 0 (by omega), h.at_ 1 (by omega), h.at_ 2 (by omega)⟩
theorem Cells.mk3 {w : World} {c : Nat} {x y z : Int} (hl : c < w.heap.size) (h0 : w.cell? ⟨c, 0, none⟩ = some (.int .i64 x)) (h1 : w.cell? ⟨c, 1, none⟩ = some (.int .i64 y)) (h2 : w.cell? ⟨c, 2, none⟩ = some (.int .i64 z)) (hf : ∀ i, w.frozen? ⟨c, i, none⟩ = false) : Cells w c 3 (v3 x y z) :=
  ⟨hl, fun i hi => by
    obtain rfl | rfl | rfl : i = 0 ∨ i = 1 ∨ i = 2 := by omega
    · exact h0
    · exact h1
    · exact h2, hf⟩
theorem Cells.put0 {w : World} {c : Nat} {x y z : Int} (h : Cells w c 3 (v3 x y z)) (v : Int) : Cells (w.setCell ⟨c, 0, none⟩ (.int .i64 v)) c 3 (v3 v y z) :=
  (Cells.set h 0 (by omega) (.int .i64 v)).same (fun i hi => by
    obtain rfl | rfl | rfl : i = 0 ∨ i = 1 ∨ i = 2 := by omega
    all_goals simp [v3])
theorem Cells.put1 {w : World} {c : Nat} {x y z : Int} (h : Cells w c 3 (v3 x y z)) (v : Int) : Cells (w.setCell ⟨c, 1, none⟩ (.int .i64 v)) c 3 (v3 x v z) :=
  (Cells.set h 1 (by omega) (.int .i64 v)).same (fun i hi => by
    obtain rfl | rfl | rfl : i = 0 ∨ i = 1 ∨ i = 2 := by omega
    all_goals simp [v3])
theorem Cells.put2 {w : World} {c : Nat} {x y z : Int} (h : Cells w c 3 (v3 x y z)) (v : Int) : Cells (w.setCell ⟨c, 2, none⟩ (.int .i64 v)) c 3 (v3 x y v) :=
  (Cells.set h 2 (by omega) (.int .i64 v)).same (fun i hi => by
    obtain rfl | rfl | rfl : i = 0 ∨ i = 1 ∨ i = 2 := by omega
    all_goals simp [v3])
/-- The judge, the vector 'at' in block ab, the rate in the setup's block. -/
structure SdC (w : World) (p : JB) (ab : Nat) (rt : Int) (X : JS) (n : Nat) (z : Int) (W : World) : Prop where
  jx : JAt W p X n
  ac : Cells W ab 3 (v3 z 0 0)
  sl : w.heap.size < ab
  bel : Below w.heap.size w W
  hp : ∀ r ∈ p.all, w.heap.size < r ∧ r < ab
  rc : W.cell? ⟨w.heap.size, 6, none⟩ = some (.int .i64 rt)
theorem SdC.sz {w W : World} {p : JB} {ab : Nat} {rt z : Int} {X : JS} {n : Nat} (h : SdC w p ab rt X n z W) : w.heap.size < W.heap.size := Nat.lt_trans h.sl h.ac.lt
theorem SdC.put {w W : World} {p : JB} {ab : Nat} {rt z : Int} {X : JS} {n : Nat} (h : SdC w p ab rt X n z W) (v : Int) : SdC w p ab rt X n v (W.setCell ⟨ab, 0, none⟩ (.int .i64 v)) :=
  ⟨h.jx.kept (gr_set _ _ _ _) (fun r hr e => by injection e with e; have := (h.hp r hr).2; omega), h.ac.put0 v, h.sl, h.bel.setCell (Nat.le_of_lt h.sl) _, h.hp, kept_cell h.rc (gr_set _ _ _ _) (by have := h.sl; omega)⟩
theorem SdC.kept {w W W' : World} {p : JB} {ab : Nat} {rt z : Int} {X : JS} {n : Nat} (h : SdC w p ab rt X n z W) {r : Nat} (hr : ab < r) (hg : W.grownBy W' (some r)) : SdC w p ab rt X n z W' :=
  ⟨h.jx.kept hg (fun x hx e => by injection e with e; have := (h.hp x hx).2; omega), h.ac.kept hg (by simp; omega), h.sl, below_gr h.bel hg h.bel.size (by have := h.sl; omega), h.hp, kept_cell h.rc hg (by have := h.sl; omega)⟩
theorem SdC.below {w W W' : World} {p : JB} {ab : Nat} {rt z : Int} {X : JS} {n : Nat} (h : SdC w p ab rt X n z W) (hb : Below W.heap.size W W') : SdC w p ab rt X n z W' := h.kept (r := ab + 1) (by omega) (gr_below _ hb)
theorem SdC.look {w W W' : World} {p : JB} {ab : Nat} {rt z : Int} {X X' : JS} {n n' : Nat} (h : SdC w p ab rt X n z W) (hj : JAt W' p X' n') (hf : FrJ W W' p) : SdC w p ab rt X' n' z W' := by
  have h1 : W'.heap[ab]? = W.heap[ab]? := hf.block _ h.ac.lt (fun hm => by have := (h.hp _ hm).2; omega)
  have h2 : W'.heap[w.heap.size]? = W.heap[w.heap.size]? := hf.block _ h.sz (fun hm => by have := (h.hp _ hm).1; omega)
  exact ⟨hj, h.ac.blk hf.size h1, h.sl, h.bel.trans (hf.toBelow (fun r hr => Nat.le_of_lt (h.hp r hr).1) h.bel.size), h.hp, cell_blk h.rc h2⟩
structure SdAt (w : World) (p : JB) (ab : Nat) (x : Sp) (X : JS) (n : Nat) (z : Int) (k : Nat) (wr : World) : Prop where
  c : SdC w p ab x.rate X n z wr
  inv : SInv x X k z
  z0 : 0 ≤ z
  z1 : z ≤ 65536 * k
set_option maxRecDepth 100000 in
set_option maxHeartbeats 6400000 in
theorem WatchSteady_any (o g m slack most same rate bad hold prove : Int) (hm : I64 m) (hsl : I64 slack) (hmo : I64 most) (hra : I64 rate) (axes : Int) (a2 : Option Addr) (len2 cap2 : Nat) (a3 : Option Addr) (len3 cap3 : Nat) (w : World) (hr2 : Elems w [some .u16] a2 len2) (hr3 : Elems w [some .i64, some .i64, some .i64] a3 len3) :
    Calls Try.prog 6 #[.agg #[.int .i64 o, .int .i64 g, .int .i64 m, .int .i64 slack, .int .i64 most, .int .i64 same, .int .i64 rate, .int .i64 bad, .int .i64 hold, .int .i64 prove], .int .i64 axes, .slice a2 len2 cap2, .slice a3 len3 cap3] w (Gives w (.bool true)) := by
  have HR2 := Lib.hid hr2
  have HR3 := Lib.hid hr3
  have hlen2 := hr2.1
  have hlen3 := hr3.1
  clear hr2 hr3
  go_enter Try.func6, Try.ntmps6
  go_upto_region 4 with (go_at_call 20; (first | with_reducible refine Calls.fold (works26 _) ?_ | with_reducible refine Calls.fresh (works26 _) ?_); intro x1)
  refine wp_gen (fun W => Below w.heap.size w W ∧ w.heap.size < W.heap.size ∧ W.cell? ⟨w.heap.size, 0, none⟩ = some (.int .i64 o) ∧ W.cell? ⟨w.heap.size, 1, none⟩ = some (.int .i64 g) ∧ W.cell? ⟨w.heap.size, 2, none⟩ = some (.int .i64 m) ∧ W.cell? ⟨w.heap.size, 3, none⟩ = some (.int .i64 (max slack 0)) ∧ W.cell? ⟨w.heap.size, 4, none⟩ = some (.int .i64 most) ∧ W.cell? ⟨w.heap.size, 5, none⟩ = some (.int .i64 same) ∧ W.cell? ⟨w.heap.size, 6, none⟩ = some (.int .i64 (max rate 1)) ∧ W.cell? ⟨w.heap.size, 7, none⟩ = some (.int .i64 bad) ∧ W.cell? ⟨w.heap.size, 8, none⟩ = some (.int .i64 hold) ∧ W.cell? ⟨w.heap.size, 9, none⟩ = some (.int .i64 prove)) ⟨by (repeat (first | (with_reducible exact Below.refl _ _) | (with_reducible assumption) | (with_reducible refine Below.alloc ?_ (by (repeat (first | (with_reducible exact Nat.le_refl _) | (with_reducible assumption) | (with_reducible refine le_up ?_) | (with_reducible refine le_alloc ?_) | (with_reducible refine le_setCell ?_) | (with_reducible refine le_drew ?_) | (with_reducible refine le_drewN ?_) | omega))) _) | (with_reducible refine Below.drew ?_) | (with_reducible refine Below.drewN ?_ _) | (with_reducible refine Below.setCell ?_ (by (repeat (first | (with_reducible exact Nat.le_refl _) | (with_reducible assumption) | (with_reducible refine le_up ?_) | (with_reducible refine le_alloc ?_) | (with_reducible refine le_setCell ?_) | (with_reducible refine le_drew ?_) | (with_reducible refine le_drewN ?_) | omega))) _) | (with_reducible refine Below.up ?_ (by (repeat (first | (with_reducible exact Nat.le_refl _) | (with_reducible assumption) | (with_reducible refine le_up ?_) | (with_reducible refine le_alloc ?_) | (with_reducible refine le_setCell ?_) | (with_reducible refine le_drew ?_) | (with_reducible refine le_drewN ?_) | omega)))))), LtSize.lt, by go_simp, by go_simp, by go_simp, by go_simp, by go_simp, by go_simp, by go_simp, by go_simp, by go_simp, by go_simp⟩ ?_
  rintro W1 ⟨hb1, hl1, s0, s1, s2, s3, s4, s5, s6, s7, s8, s9⟩
  have hx : (Sp.mk o g m (max slack 0) most same (max rate 1) bad hold prove).OK := ⟨hm, ⟨by have := hsl.1; have := hsl.2; dsimp only; omega, by have := hsl.1; have := hsl.2; dsimp only; omega⟩, hmo, ⟨by have := hra.1; have := hra.2; dsimp only; omega, by have := hra.1; have := hra.2; dsimp only; omega⟩⟩
  have hb0 : 0 ≤ max slack 0 ∧ 1 ≤ max rate 1 := by omega
  clear hsl hra hm hmo x1
  generalize max slack 0 = sl at *
  generalize max rate 1 = rt at *
  have HX := Lib.hid (And.intro hx hb0)
  have HB1 := Lib.hid (And.intro hb1 hl1)
  have HC1 := Lib.hid (show ∀ W, Below W1.heap.size W1 W → W.cell? ⟨w.heap.size, 0, none⟩ = some (.int .i64 o) ∧ W.cell? ⟨w.heap.size, 1, none⟩ = some (.int .i64 g) ∧ W.cell? ⟨w.heap.size, 2, none⟩ = some (.int .i64 m) ∧ W.cell? ⟨w.heap.size, 3, none⟩ = some (.int .i64 sl) ∧ W.cell? ⟨w.heap.size, 4, none⟩ = some (.int .i64 most) ∧ W.cell? ⟨w.heap.size, 5, none⟩ = some (.int .i64 same) ∧ W.cell? ⟨w.heap.size, 6, none⟩ = some (.int .i64 rt) ∧ W.cell? ⟨w.heap.size, 7, none⟩ = some (.int .i64 bad) ∧ W.cell? ⟨w.heap.size, 8, none⟩ = some (.int .i64 hold) ∧ W.cell? ⟨w.heap.size, 9, none⟩ = some (.int .i64 prove) from fun W hb => ⟨cell_belowI hb hl1 s0, cell_belowI hb hl1 s1, cell_belowI hb hl1 s2, cell_belowI hb hl1 s3, cell_belowI hb hl1 s4, cell_belowI hb hl1 s5, cell_belowI hb hl1 s6, cell_belowI hb hl1 s7, cell_belowI hb hl1 s8, cell_belowI hb hl1 s9⟩)
  cases hgd : (Sp.mk o g m sl most same rt bad hold prove).good
  · have HN := Lib.hid (fun W => jNew_bad hgd W)
    unfold Sp.v at HN
    dsimp only at HN
    clear hgd hx hb0 hb1 hl1
    go_wp2_with (go_at_call 21; (first | with_reducible refine Calls.fold (HN.out _) ?_ | with_reducible refine Calls.fresh (HN.out _) ?_); intro x1)
    go_ret
    exact Gives.mk rfl (below_up HB1.out.1 HB1.out.1.size _)
  · have HN := Lib.hid (fun W => jNew_good hx hgd W)
    have HG := Lib.hid hgd
    unfold Sp.v at HN
    dsimp only at HN
    clear hgd hx hb0 hb1 hl1
    go_upto_region 5 with (go_at_call 21; refine (HN.out _).mono ?_; rintro e2 w2 ⟨p, rfl, hp, hj, hb⟩)
    clear s0 s1 s2 s3 s4 s5 s6 s7 s8 s9
    have HJ := Lib.hid (And.intro hp (And.intro hj (And.intro hb (HB1.out.1.trans (hb.mono HB1.out.1.size)))))
    obtain ⟨s0, s1, s2, s3, s4, s5, s6, s7, s8, s9⟩ := HC1.out _ hb
    have hl2 : w.heap.size < w2.heap.size := Nat.lt_of_lt_of_le HB1.out.2 hb.size
    clear hp hj hb
    haveI hLT : LtSize w.heap.size w2 := ⟨hl2⟩
    have hA := amongV_bd axes 3 (by omega)
    have hmost : 0 ≤ min sl o ∧ min sl o ≤ sl ∧ min sl o ≤ o := by
      have h1 := HG.out
      unfold Sp.good at h1
      simp only [Bool.and_eq_true] at h1
      have := (G.gate_of h1.1).1
      have := HX.out.2.1
      omega
    go_upto_region 9 with (go_at_call 11; with_reducible refine Calls.tells (Among_any _ _ _ (by omega) (by omega)) ?_)
    obtain ⟨mo, hmo⟩ : ∃ mo, min sl o = mo := ⟨_, rfl⟩
    rw [hmo] at hmost ⊢
    obtain ⟨ax, hax⟩ : ∃ ax, 1 + amongV axes 3 = ax := ⟨_, rfl⟩
    rw [hax]
    have HM := Lib.hid (And.intro hmost (show 1 ≤ ax ∧ ax ≤ 3 by omega))
    have hmo0 := hmost.1
    have hmo1 : mo ≤ 9223372036854775807 := by have := HX.out.1.slack.2; dsimp only at this; omega
    clear hmo hax hmost hA
    go_upto_region 10 with fail
    refine wp_gen (fun W => SdC w p w2.heap.size rt (JS.new (Sp.mk o g m sl most same rt bad hold prove)) 0 0 W) ?_ ?_
    · exact (show SdC w p w2.heap.size rt (JS.new (Sp.mk o g m sl most same rt bad hold prove)) 0 0 _ from
        ⟨HJ.out.2.1.kept (gr_new (gr_refl _ none) ((by (repeat (first | (with_reducible exact gr_refl _ _) | (with_reducible refine gr_to_set ?_) | (with_reducible refine gr_to_alloc ?_))))) (Nat.le_refl _)) (fun _ _ => by simp), Cells.mk3 (by simp) (by go_simp) (by go_simp) (by go_simp) (fun i => World.frozen?_alloc_new _ _ _ _), hl2, HJ.out.2.2.2.trans (by (repeat (first | (with_reducible exact Below.refl _ _) | (with_reducible assumption) | (with_reducible refine Below.alloc ?_ (by (repeat (first | (with_reducible exact Nat.le_refl _) | (with_reducible assumption) | (with_reducible refine le_up ?_) | (with_reducible refine le_alloc ?_) | (with_reducible refine le_setCell ?_) | (with_reducible refine le_drew ?_) | (with_reducible refine le_drewN ?_) | omega))) _) | (with_reducible refine Below.drew ?_) | (with_reducible refine Below.drewN ?_ _) | (with_reducible refine Below.setCell ?_ (by (repeat (first | (with_reducible exact Nat.le_refl _) | (with_reducible assumption) | (with_reducible refine le_up ?_) | (with_reducible refine le_alloc ?_) | (with_reducible refine le_setCell ?_) | (with_reducible refine le_drew ?_) | (with_reducible refine le_drewN ?_) | omega))) _) | (with_reducible refine Below.up ?_ (by (repeat (first | (with_reducible exact Nat.le_refl _) | (with_reducible assumption) | (with_reducible refine le_up ?_) | (with_reducible refine le_alloc ?_) | (with_reducible refine le_setCell ?_) | (with_reducible refine le_drew ?_) | (with_reducible refine le_drewN ?_) | omega))))))), fun r hr => ⟨Nat.lt_of_lt_of_le HB1.out.2 (HJ.out.1 r hr), HJ.out.2.1.lts r hr⟩, by go_simp⟩)
    have HST0 := Lib.hid (SInv.new (Sp.mk o g m sl most same rt bad hold prove))
    clear s0 s1 s2 s3 s4 s5 s6 s7 s8 s9 hl2
    have hp0 := fun r hr => HJ.out.2.1.lts r hr
    generalize w2.heap.size = ab at *
    rintro W3 h3
    have HST : Hid (SdAt w p ab (Sp.mk o g m sl most same rt bad hold prove) (JS.new (Sp.mk o g m sl most same rt bad hold prove)) 0 0 0 W3) := Lib.hid ⟨h3, HST0.out, by omega, by omega⟩
    clear h3 HST0 HJ hp0
    clear hLT
    clear w2
    clear HB1 HC1
    clear W1
    go_wp2_with fail
    go_loopw [13] (fun v13 wr => ∃ (k : Nat) (X : JS) (z : Int), k ≤ 40 ∧ v13 = .int .i64 k ∧ SdAt w p ab (Sp.mk o g m sl most same rt bad hold prove) X (7 * k) z k wr) (fun v13 _ => 40 - (intOf v13).toNat)
    case atStart => exact ⟨0, _, 0, by omega, rfl, HST.out⟩
    case round =>
      clear HST
      obtain ⟨k, X, z, hk, rfl, ha⟩ := hrel
      have HA := Lib.hid ha
      clear ha
      by_cases hkl : k < len2
      · by_cases hk40 : k < 40
        · obtain ⟨B, off, v, rfl, hB, hv0, hv1, hc⟩ := st_of HR2.out hkl
          have hI1 : (k : Int) < (len2 : Int) := by omega
          have hI2 : (k : Int) < 40 := by omega
          have HI := Lib.hid (And.intro hk (And.intro hkl hk40))
          have hrt : 1 ≤ rt := HX.out.2.2
          have hrt2 : rt ≤ 9223372036854775807 := HX.out.1.rate.2
          obtain ⟨i0, hi0⟩ : ∃ i0, v.tmod rt = i0 := ⟨_, rfl⟩
          have hib : 0 ≤ i0 ∧ i0 < rt ∧ i0 ≤ 65535 := by
            rw [← hi0, Int.tmod_eq_emod_of_nonneg hv0]
            have h2 := Int.emod_lt_of_pos v (show 0 < rt by omega)
            refine ⟨Int.emod_nonneg _ (by omega), h2, ?_⟩
            by_cases hvr : v < rt
            · rw [Int.emod_eq_of_lt hv0 hvr]; exact hv1
            · omega
          have hrt0 : ¬ rt = 0 := by omega
          have hwv : IntKind.i64.wrap v = v := by rw [IntKind.wrap_i64]; omega
          have hw1 : IntKind.i64.wrap (1 + i0) = 1 + i0 := by rw [IntKind.wrap_i64]; omega
          have hw2 : IntKind.i64.wrap (z + (1 + i0)) = z + (1 + i0) := by have := HA.out.z0; have := HA.out.z1; rw [IntKind.wrap_i64]; omega
          have hib0 := hib.1
          have hib1 := hib.2.2
          have hz0 := HA.out.z0
          have hz1 : z ≤ 65536 * 40 := by have := HA.out.z1; omega
          have hcW : wr.drew.cell? ⟨B, off + k, none⟩ = some (.int .u16 v) := cell_belowI (Below.drew HA.out.c.bel) hB hc
          have hdc : SdC w p ab rt X (7 * k) z wr.drew := HA.out.c.below (Below.drew (Below.refl _ _))
          have HDC := Lib.hid hdc
          have a0 := hdc.ac.three.1
          have af := hdc.ac.free 0
          clear hk hkl hk40 hc hdc
          go_upto_region 13 with fail
          refine wp_region_slim [13] [(0, 3), (1, 0), (2, 3), (3, 3), (4, 3), (5, 0), (6, 3), (7, 3), (8, 0), (9, 3), (10, 3), (11, 3), (12, 3), (13, 2)] (fun W => W.cell? ⟨ab, 0, none⟩ = some (.int .i64 z) ∧ W.cell? ⟨B, off + k, none⟩ = some (.int .u16 v) ∧ W.cell? ⟨w.heap.size, 6, none⟩ = some (.int .i64 rt)) (by kernel_rfl) (by kernel_rfl) (fun d v c a w h => by cases d <;> exact h) ⟨a0, hcW, HDC.out.rc⟩ ?_
          clear hcW
          simp only [List.map_cons, List.map_nil, slim]
          refine wpSched_pure ?sv1 rfl (by rfl) (fun W => ?sh1) ?sr1; (case sh1 => (go_simp; try (with_reducible rfl))); simp only [Act.put, List.getElem_toArray, List.getElem_cons_zero, List.getElem_cons_succ, List.setIfInBounds_toArray, List.set_cons_zero, List.set_cons_succ]
          refine wpSched_still ?sv2 rfl (by rfl) (fun W hW => ?sh2) ?sr2; (case sh2 => (obtain ⟨h1, h2, h3⟩ := hW; go_simp; try (with_reducible rfl))); simp only [Act.put, List.getElem_toArray, List.getElem_cons_zero, List.getElem_cons_succ, List.setIfInBounds_toArray, List.set_cons_zero, List.set_cons_succ]
          refine wpSched_pure ?sv3 rfl (by rfl) (fun W => ?sh3) ?sr3; (case sh3 => (go_simp; try (with_reducible rfl))); simp only [Act.put, List.getElem_toArray, List.getElem_cons_zero, List.getElem_cons_succ, List.setIfInBounds_toArray, List.set_cons_zero, List.set_cons_succ]
          refine wpSched_pure ?sv4 rfl (by rfl) (fun W => ?sh4) ?sr4; (case sh4 => (go_simp; try (with_reducible rfl))); simp only [Act.put, List.getElem_toArray, List.getElem_cons_zero, List.getElem_cons_succ, List.setIfInBounds_toArray, List.set_cons_zero, List.set_cons_succ]
          refine wpSched_pure ?sv5 rfl (by rfl) (fun W => ?sh5) ?sr5; (case sh5 => (go_simp; try (with_reducible rfl))); simp only [Act.put, List.getElem_toArray, List.getElem_cons_zero, List.getElem_cons_succ, List.setIfInBounds_toArray, List.set_cons_zero, List.set_cons_succ]
          refine wpSched_still ?sv6 rfl (by rfl) (fun W hW => ?sh6) ?sr6; (case sh6 => (obtain ⟨h1, h2, h3⟩ := hW; go_simp; try (with_reducible rfl))); simp only [Act.put, List.getElem_toArray, List.getElem_cons_zero, List.getElem_cons_succ, List.setIfInBounds_toArray, List.set_cons_zero, List.set_cons_succ]
          refine wpSched_pure ?sv7 rfl (by rfl) (fun W => ?sh7) ?sr7; (case sh7 => (go_simp; try (with_reducible rfl))); simp only [Act.put, List.getElem_toArray, List.getElem_cons_zero, List.getElem_cons_succ, List.setIfInBounds_toArray, List.set_cons_zero, List.set_cons_succ]
          refine wpSched_pure ?sv8 rfl (by rfl) (fun W => ?sh8) ?sr8; (case sh8 => (go_simp; try (with_reducible rfl))); simp only [Act.put, List.getElem_toArray, List.getElem_cons_zero, List.getElem_cons_succ, List.setIfInBounds_toArray, List.set_cons_zero, List.set_cons_succ]
          refine wpSched_still ?sv9 rfl (by rfl) (fun W hW => ?sh9) ?sr9; (case sh9 => (obtain ⟨h1, h2, h3⟩ := hW; go_simp; try (with_reducible rfl))); simp only [Act.put, List.getElem_toArray, List.getElem_cons_zero, List.getElem_cons_succ, List.setIfInBounds_toArray, List.set_cons_zero, List.set_cons_succ]
          refine wpSched_pure ?sv10 rfl (by rfl) (fun W => ?sh10) ?sr10; (case sh10 => (go_simp; try (with_reducible rfl))); simp only [Act.put, List.getElem_toArray, List.getElem_cons_zero, List.getElem_cons_succ, List.setIfInBounds_toArray, List.set_cons_zero, List.set_cons_succ]
          refine wpSched_pure ?sv11 rfl (by rfl) (fun W => ?sh11) ?sr11; (case sh11 => (go_simp; try (with_reducible rfl))); simp only [Act.put, List.getElem_toArray, List.getElem_cons_zero, List.getElem_cons_succ, List.setIfInBounds_toArray, List.set_cons_zero, List.set_cons_succ]
          refine wpSched_pure ?sv12 rfl (by rfl) (fun W => ?sh12) ?sr12; (case sh12 => (go_simp; try (with_reducible rfl))); simp only [Act.put, List.getElem_toArray, List.getElem_cons_zero, List.getElem_cons_succ, List.setIfInBounds_toArray, List.set_cons_zero, List.set_cons_succ]
          refine wpSched_pure ?sv13 rfl (by rfl) (fun W => ?sh13) ?sr13; (case sh13 => (go_simp; try (with_reducible rfl))); simp only [Act.put, List.getElem_toArray, List.getElem_cons_zero, List.getElem_cons_succ, List.setIfInBounds_toArray, List.set_cons_zero, List.set_cons_succ]
          refine wpSched_tail rfl (by rfl) (fun K hK => ?_); go_simp
          refine hK _ _ ?_
          clear hK K
          refine wpSched_nil ?_
          go_upto_region 14 with fail
          have h4 := (HA.out.c.put (z + (1 + i0))).below (Below.drew (Below.refl _ _))
          refine wp_gen (fun W => SdC w p ab rt X (7 * k) (z + (1 + i0)) W) h4 ?_
          have HZ := Lib.hid (And.intro hz0 (And.intro HA.out.z1 (And.intro HA.out.inv hib)))
          clear h4 a0 af hi0 hwv hw1 hw2 hib0 hib1 HDC HA
          clear wr
          obtain ⟨z2, hz2⟩ : ∃ z2, z + (1 + i0) = z2 := ⟨_, rfl⟩
          rw [hz2]
          have HZ2 := Lib.hid (And.intro hz2 (show 1 ≤ z2 ∧ z2 ≤ 10000000 by omega))
          clear hz0 hz1 hz2 hrt hrt2 hrt0
          intro W4 h4
          have H4 := Lib.hid h4
          clear h4
          go_upto_region 15 with fail
          have hab := H4.out.ac.lt
          refine wp_gen (fun W => SdC w p ab rt X (7 * k) z2 W ∧ Cells W W4.heap.size 3 (v3 0 0 0)) ⟨H4.out.below (by (repeat (first | (with_reducible exact Below.refl _ _) | (with_reducible assumption) | (with_reducible refine Below.alloc ?_ (by (repeat (first | (with_reducible exact Nat.le_refl _) | (with_reducible assumption) | (with_reducible refine le_up ?_) | (with_reducible refine le_alloc ?_) | (with_reducible refine le_setCell ?_) | (with_reducible refine le_drew ?_) | (with_reducible refine le_drewN ?_) | omega))) _) | (with_reducible refine Below.drew ?_) | (with_reducible refine Below.drewN ?_ _) | (with_reducible refine Below.setCell ?_ (by (repeat (first | (with_reducible exact Nat.le_refl _) | (with_reducible assumption) | (with_reducible refine le_up ?_) | (with_reducible refine le_alloc ?_) | (with_reducible refine le_setCell ?_) | (with_reducible refine le_drew ?_) | (with_reducible refine le_drewN ?_) | omega))) _) | (with_reducible refine Below.up ?_ (by (repeat (first | (with_reducible exact Nat.le_refl _) | (with_reducible assumption) | (with_reducible refine le_up ?_) | (with_reducible refine le_alloc ?_) | (with_reducible refine le_setCell ?_) | (with_reducible refine le_drew ?_) | (with_reducible refine le_drewN ?_) | omega))))))), Cells.mk3 (by simp) (by go_simp) (by go_simp) (by go_simp) (fun i => World.frozen?_alloc_new _ _ _ _)⟩ ?_
          clear H4
          generalize W4.heap.size = rb at *
          clear W4
          rintro W5 ⟨h5, hr5⟩
          have H5 := Lib.hid (And.intro h5 hr5)
          clear h5 hr5
          by_cases hk3 : k < len3
          · obtain ⟨B3, off3, f0, f1, f2, rfl, hB3, hf0, hf1, hf2, hc0, hc1, hc2⟩ := of_of HR3.out hk3
            have hk3I : (k : Int) < (len3 : Int) := by omega
            have HF := Lib.hid (show ∀ W, Below w.heap.size w W → W.cell? ⟨B3, off3 + k * 3, none⟩ = some (.int .i64 f0) ∧ W.cell? ⟨B3, off3 + k * 3 + 1, none⟩ = some (.int .i64 f1) ∧ W.cell? ⟨B3, off3 + k * 3 + 2, none⟩ = some (.int .i64 f2) from fun W hb => ⟨cell_belowI hb hB3 hc0, cell_belowI hb hB3 hc1, cell_belowI hb hB3 hc2⟩)
            have HK3 := Lib.hid hk3
            clear hc0 hc1 hc2 hk3
            have hmn : IntKind.i64.wrap (-mo) = -mo := by rw [IntKind.wrap_i64]; omega
            go_wp2_with fail
            go_loopw [15] (fun v15 wr => ∃ (j : Nat) (r0 r1 r2 : Int), j ≤ 3 ∧ v15 = .int .i64 j ∧ ((-mo ≤ r0 ∧ r0 ≤ mo) ∧ (-mo ≤ r1 ∧ r1 ≤ mo) ∧ -mo ≤ r2 ∧ r2 ≤ mo) ∧ SdC w p ab rt X (7 * k) z2 wr ∧ Cells wr rb 3 (v3 r0 r1 r2)) (fun v15 _ => 3 - (intOf v15).toNat)
            case atStart => exact ⟨0, 0, 0, 0, by omega, rfl, by omega, H5.out.1, H5.out.2⟩
            case round =>
              clear H5
              clear W5
              obtain ⟨j, r0, r1, r2, hj, rfl, hrr, h5, hr5⟩ := hrel
              have H5 := Lib.hid (And.intro h5 hr5)
              have HRR := Lib.hid hrr
              clear h5 hr5 hrr
              obtain rfl | rfl | rfl | rfl : j = 0 ∨ j = 1 ∨ j = 2 ∨ j = 3 := by omega
              · obtain ⟨x0, x1, x2⟩ := HF.out _ H5.out.1.bel
                have b0 := H5.out.2.three.1
                have b0f := H5.out.2.free 0
                go_wp2_with fail
                exact ⟨⟨1, _, r1, r2, by omega, rfl, by have := HRR.out; omega, H5.out.1.kept hab (gr_set _ _ _ _), H5.out.2.put0 _⟩, by simp [intOf]⟩
              · obtain ⟨x0, x1, x2⟩ := HF.out _ H5.out.1.bel
                have b0 := H5.out.2.three.2.1
                have b0f := H5.out.2.free 1
                go_wp2_with fail
                exact ⟨⟨2, r0, _, r2, by omega, rfl, by have := HRR.out; omega, H5.out.1.kept hab (gr_set _ _ _ _), H5.out.2.put1 _⟩, by simp [intOf]⟩
              · obtain ⟨x0, x1, x2⟩ := HF.out _ H5.out.1.bel
                have b0 := H5.out.2.three.2.2
                have b0f := H5.out.2.free 2
                go_wp2_with fail
                exact ⟨⟨3, r0, r1, _, by omega, rfl, by have := HRR.out; omega, H5.out.1.kept hab (gr_set _ _ _ _), H5.out.2.put2 _⟩, by simp [intOf]⟩
              · clear hj hmn
                go_upto_region 20 with fail
                have hst := steady HG.out HX.out.1 HZ.out.2.2.1 (by have := HI.out; omega) HZ.out.1 (by have := HZ.out.2.1; omega) (show 1 ≤ 1 + i0 by have := HZ.out.2.2.2; omega) (show 1 + i0 ≤ rt by have := HZ.out.2.2.2; omega) (show 1 + i0 ≤ 65536 by have := HZ.out.2.2.2; omega) (ax := ax) (r0 := r0) (r1 := r1) (r2 := r2) HM.out.2.1 HM.out.2.2
                  (by have := HRR.out.1; have := HM.out.1; dsimp only; omega) (by have := HRR.out.2.1; have := HM.out.1; dsimp only; omega) (by have := HRR.out.2.2; have := HM.out.1; dsimp only; omega)
                rw [HZ2.out.1] at hst
                have hI64 : ∀ r : Int, -mo ≤ r ∧ r ≤ mo → I64 r := fun r hr => ⟨by omega, by omega⟩
                have hok : (Rd.mk ax k 0 z2 0 0 r0 r1 r2).OK := ⟨(show I64 ax from ⟨by have := HM.out.2; omega, by have := HM.out.2; omega⟩), (show I64 (k : Int) from ⟨by omega, by omega⟩), (show I64 0 from ⟨by omega, by omega⟩), (show I64 z2 from ⟨by have := HZ2.out.2; omega, by have := HZ2.out.2; omega⟩), (show I64 0 from ⟨by omega, by omega⟩), (show I64 0 from ⟨by omega, by omega⟩), hI64 _ HRR.out.1, hI64 _ HRR.out.2.1, hI64 _ HRR.out.2.2⟩
                have hl := jLook_any H5.out.1.jx (by have := HI.out; omega) (show I64 5 from ⟨by omega, by omega⟩) hok
                unfold JActR at hl
                generalize lookT X 5 ⟨ax, k, 0, z2, 0, 0, r0, r1, r2⟩ = L at hst hl
                obtain ⟨e, X2⟩ := L
                dsimp only at hst hl
                obtain ⟨rfl, hs2⟩ := hst
                have HL := Lib.hid hl
                have HS2 := Lib.hid hs2
                obtain ⟨a0, a1, a2⟩ := H5.out.1.ac.three
                obtain ⟨b0, b1, b2⟩ := H5.out.2.three
                clear hl hs2 hI64 hok
                go_wp2_with (go_at_call 22; refine (HL.out).mono ?_; rintro e6 w6 ⟨rfl, hj6, hf6⟩)
                exact ⟨⟨k + 1, X2, z2, by have := HI.out; omega, by go_num, (H5.out.1.look hj6 hf6), HS2.out, by have := HZ2.out.2; omega, by have := HZ.out.2.1; have := HZ.out.2.2.2; have := HZ2.out.1; omega⟩, by have := HI.out; simp [intOf]; omega⟩
          · obtain ⟨r0, r1, r2, hrr, hr5⟩ : ∃ r0 r1 r2 : Int, ((-mo ≤ r0 ∧ r0 ≤ mo) ∧ (-mo ≤ r1 ∧ r1 ≤ mo) ∧ -mo ≤ r2 ∧ r2 ≤ mo) ∧ Cells W5 rb 3 (v3 r0 r1 r2) := ⟨0, 0, 0, by omega, H5.out.2⟩
            have H5' := Lib.hid (And.intro H5.out.1 hr5)
            clear H5
            have H5 := H5'
            have HRR := Lib.hid hrr
            have hk3I : ¬ (k : Int) < (len3 : Int) := by omega
            clear hrr hr5 H5' hk3
            go_upto_region 20 with fail
            have hst := steady HG.out HX.out.1 HZ.out.2.2.1 (by have := HI.out; omega) HZ.out.1 (by have := HZ.out.2.1; omega) (show 1 ≤ 1 + i0 by have := HZ.out.2.2.2; omega) (show 1 + i0 ≤ rt by have := HZ.out.2.2.2; omega) (show 1 + i0 ≤ 65536 by have := HZ.out.2.2.2; omega) (ax := ax) (r0 := r0) (r1 := r1) (r2 := r2) HM.out.2.1 HM.out.2.2
              (by have := HRR.out.1; have := HM.out.1; dsimp only; omega) (by have := HRR.out.2.1; have := HM.out.1; dsimp only; omega) (by have := HRR.out.2.2; have := HM.out.1; dsimp only; omega)
            rw [HZ2.out.1] at hst
            have hI64 : ∀ r : Int, -mo ≤ r ∧ r ≤ mo → I64 r := fun r hr => ⟨by omega, by omega⟩
            have hok : (Rd.mk ax k 0 z2 0 0 r0 r1 r2).OK := ⟨(show I64 ax from ⟨by have := HM.out.2; omega, by have := HM.out.2; omega⟩), (show I64 (k : Int) from ⟨by omega, by omega⟩), (show I64 0 from ⟨by omega, by omega⟩), (show I64 z2 from ⟨by have := HZ2.out.2; omega, by have := HZ2.out.2; omega⟩), (show I64 0 from ⟨by omega, by omega⟩), (show I64 0 from ⟨by omega, by omega⟩), hI64 _ HRR.out.1, hI64 _ HRR.out.2.1, hI64 _ HRR.out.2.2⟩
            have hl := jLook_any H5.out.1.jx (by have := HI.out; omega) (show I64 5 from ⟨by omega, by omega⟩) hok
            unfold JActR at hl
            generalize lookT X 5 ⟨ax, k, 0, z2, 0, 0, r0, r1, r2⟩ = L at hst hl
            obtain ⟨e, X2⟩ := L
            dsimp only at hst hl
            obtain ⟨rfl, hs2⟩ := hst
            have HL := Lib.hid hl
            have HS2 := Lib.hid hs2
            obtain ⟨a0, a1, a2⟩ := H5.out.1.ac.three
            obtain ⟨b0, b1, b2⟩ := H5.out.2.three
            clear hl hs2 hI64 hok
            go_wp2_with (go_at_call 22; refine (HL.out).mono ?_; rintro e6 w6 ⟨rfl, hj6, hf6⟩)
            exact ⟨⟨k + 1, X2, z2, by have := HI.out; omega, by go_num, (H5.out.1.look hj6 hf6), HS2.out, by have := HZ2.out.2; omega, by have := HZ.out.2.1; have := HZ.out.2.2.2; have := HZ2.out.1; omega⟩, by have := HI.out; simp [intOf]; omega⟩
        · have hs := HA.out.inv.st
          have ht := HA.out.inv.ti
          have HST := Lib.hid (jState_any HA.out.c.jx 5)
          have HTI := Lib.hid (jTimes_any HA.out.c.jx 5)
          rw [show Q.qlookO X.Q 5 = X.Q.l 5 from rfl, hs] at HST
          rw [show Q.qlookO X.Q 5 = X.Q.l 5 from rfl, ht] at HTI
          clear hs ht
          go_wp2_with (first | (go_at_call 23; with_reducible refine Calls.tells (HST.out) ?_) | (go_at_call 24; with_reducible refine Calls.tells (HTI.out) ?_))
          go_ret
          exact Gives.mk rfl HA.out.c.bel
      · have hs := HA.out.inv.st
        have ht := HA.out.inv.ti
        have HST := Lib.hid (jState_any HA.out.c.jx 5)
        have HTI := Lib.hid (jTimes_any HA.out.c.jx 5)
        rw [show Q.qlookO X.Q 5 = X.Q.l 5 from rfl, hs] at HST
        rw [show Q.qlookO X.Q 5 = X.Q.l 5 from rfl, ht] at HTI
        clear hs ht
        go_wp2_with (first | (go_at_call 23; with_reducible refine Calls.tells (HST.out) ?_) | (go_at_call 24; with_reducible refine Calls.tells (HTI.out) ?_))
        go_ret
        exact Gives.mk rfl HA.out.c.bel
end Go.Proofs.Ytihalkpcddnikaa
