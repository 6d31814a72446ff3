/-
  The walk over hunt.Feed.
-/
import Derived.Test.YtjkgodhoonkinaaHunX
import Derived.Test.YtjkgodhoonkinaaFrmN
namespace Go.Proofs.Ytjkgodhoonkinaa
open Go.RowKit
set_option linter.unusedVariables false
set_option linter.unusedSimpArgs false

theorem wp_scope_loop {P : Program} {c rest : Code} {a : Act} {w : World} {Q : Exit → Act → World → Prop} (l : Nat) (J : Act → World → Prop) (μ : Act → World → Nat) (hf : findLabel c l = some (Code.skip.seq rest))
    (pass : ∀ a w, J a w → rest.wp P (Exit.jump l (fun a' w' => J a' w' ∧ μ a' w' < μ a w) Q) a w)
    (first : (∀ a w, J a w → rest.wp P (Exit.jump l J Q) a w) → c.wp P (Exit.jump l J Q) a w) : (Code.scope c).wp P Q a w :=
  wp_scope_jumps l J μ hf (first fun a w h => Code.wp_mono (fun e a' w' hq => by
    cases e <;> first | exact hq | exact ⟨hq.1, hq.2.1⟩) (pass a w h)) (fun a w h => wp_seq (wp_skip (pass a w h)))
def U8 (w : World) (g : Nat) : Prop := ∃ A fz, w.heap[g]? = some (.cells A 5 fz)
theorem U8.kept {w w' : World} {g : Nat} {row : Option Nat} (h : U8 w g) (hg : w.grownBy w' row) (hne : some g ≠ row) : U8 w' g := by
  obtain ⟨A, fz, h⟩ := h
  exact ⟨A, fz, by rw [hg.block g (heap_lt h) hne]; exact h⟩
theorem U8.below {w w' : World} {g : Nat} (h : U8 w g) (hb : Below w.heap.size w w') : U8 w' g := by
  obtain ⟨A, fz, h⟩ := h
  exact ⟨A, fz, by rw [hb.block g (heap_lt h)]; exact h⟩
theorem U8.apart {w : World} {g base : Nat} {v : Value} {fs : List FrmS} (h : U8 w g) (hf : FrsO w base v fs) : v.ownBlock ≠ some g := by
  obtain ⟨A, fz, h⟩ := h
  obtain ⟨bvs, _, h2, _⟩ := hf
  intro e
  rcases h2.2 with ⟨rfl, _⟩ | ⟨g', cap, cur, rfl, _, hg, _⟩
  · cases e
  · cases e
    have := hg.symm.trans h
    simp only [Option.some.injEq, Obj.cells.injEq] at this
    exact absurd this.2.1 (by decide)
/-- What holds at the label: the frames so far, what waits, the counts. -/
structure FeedAt (w0 : World) (h : Nat) (S : Said) (n0 m0 : Nat) (w : World) (v cv : Value) (fs : List FrmS) (cur : List Nat) (N M : Nat) : Prop where
  frs : FrsO w w0.heap.size v fs
  hun : HunAt w h cv (N : Int) (M : Int) true
  bts : Bts w cv cur
  own : ∀ b, cv.ownBlock = some b → w0.heap.size ≤ b
  gr : w0.grownBy w (some h)
  sf : fs ++ (says cur).frames = S.frames
  sn : N + (says cur).noise = n0 + S.noise
  sm : M + (says cur).sums = m0 + S.sums
  sh : (says cur).held = S.held
  room : fs.length + cur.length ≤ 1000000
  typ : ∀ b, cv.ownBlock = some b → U8 w b
def FeedR (w : World) (h : Nat) (S : Said) (n0 m0 : Nat) (e : Ending) (w' : World) : Prop :=
  ∃ v hv, e = .returned (.tuple #[v, .int .i64 0]) ∧ FrsO w' w.heap.size v S.frames ∧ HunAt w' h hv ((n0 + S.noise : Nat) : Int) ((m0 + S.sums : Nat) : Int) true ∧ Bts w' hv S.held ∧ (∀ b, hv.ownBlock = some b → w.heap.size ≤ b) ∧ w.grownBy w' (some h) ∧ ∀ b, hv.ownBlock = some b → U8 w' b
theorem FeedAt.done {w0 w : World} {h n0 m0 N M : Nat} {S : Said} {v cv : Value} {fs : List FrmS} {cur : List Nat} (H : FeedAt w0 h S n0 m0 w v cv fs cur N M) (hs : says cur = ⟨[], 0, 0, cur⟩) : FeedR w0 h S n0 m0 (.returned (.tuple #[v, .int .i64 0])) w := by
  obtain ⟨h1, h2, h3, h4, h5, h6, h7, h8, h9, _, h11⟩ := H
  rw [hs] at h6 h7 h8 h9
  dsimp only at h6 h7 h8 h9
  rw [List.append_nil] at h6
  rw [Nat.add_zero] at h7 h8
  rw [h6] at h1; rw [h7, h8] at h2; rw [h9] at h3
  exact ⟨v, cv, rfl, h1, h2, h3, h4, h5, h11⟩
theorem FeedAt.below {w0 w w' : World} {h n0 m0 N M : Nat} {S : Said} {v cv : Value} {fs : List FrmS} {cur : List Nat} (H : FeedAt w0 h S n0 m0 w v cv fs cur N M) (hb : Below w.heap.size w w') : FeedAt w0 h S n0 m0 w' v cv fs cur N M :=
  ⟨H.frs.below hb, H.hun.below hb H.hun.lt, H.bts.below hb, H.own, gr_trans H.gr (gr_below _ hb), H.sf, H.sn, H.sm, H.sh, H.room, fun b hb' => (H.typ b hb').below hb⟩
def heldN (w : World) (h : Nat) : Nat := match w.cell? ⟨h, 0, none⟩ with | some (.slice _ n _) => n | _ => 0
theorem heldN_at {w : World} {h : Nat} {a : Option Addr} {n c : Nat} {x y : Int} (H : HunAt w h (.slice a n c) x y true) : heldN w h = n := by
  have : w.cell? ⟨h, 0, none⟩ = some (.slice a n c) := H.at_ 0 (by omega)
  unfold heldN; rw [this]
theorem bts_some {w : World} {a : Option Addr} {n c : Nat} {bs : List Nat} (h : Bts w (.slice a n c) bs) (hne : bs ≠ []) : ∃ g off, a = some ⟨g, off, none⟩ ∧ n ≤ c := by
  have hr := bts_room h
  obtain ⟨_, ⟨_, h2⟩ | ⟨_, _, _, h2⟩ | ⟨g, off, _, h1, _⟩⟩ := h
  · exact absurd h2 hne
  · exact absurd h2 hne
  · cases h1; exact ⟨g, off, rfl, hr⟩
theorem bts_kept {w w' : World} {v : Value} {bs : List Nat} {row : Option Nat} (h : Bts w v bs) (hg : w.grownBy w' row) (hne : v.ownBlock = none ∨ v.ownBlock ≠ row) : Bts w' v bs := by
  obtain ⟨h1, h2⟩ := h
  refine ⟨h1, h2.imp id (Or.imp id ?_)⟩
  rintro ⟨b, off, cap, rfl, hl, hc, hs, hcell⟩
  have hb : some b ≠ row := by
    rcases hne with hne | hne
    · cases hne
    · exact hne
  exact ⟨b, off, cap, rfl, hl, hc, Nat.lt_of_lt_of_le hs hg.size, fun i hi => by rw [World.cell?_of_block (a := ⟨b, off + i, none⟩) (hg.block b hs hb)]; exact hcell i hi⟩
theorem readN_good {bs : List Nat} (h : readE bs = 0) : readN bs = 7 + bs.getD 2 0 ∧ readS bs = goodS bs := by
  unfold readN readS; rw [h]; exact ⟨rfl, rfl⟩
/-- What waits is cut at its beginning. -/
theorem feed_cut {w0 w : World} {h n0 m0 N M g off cn cc : Nat} {S : Said} {v : Value} {fs : List FrmS} {cur : List Nat} (h1 : FrsO w w0.heap.size v fs) (h2 : HunAt w h (.slice (some ⟨g, off, none⟩) cn cc) (N : Int) (M : Int) true) (h3 : Bts w (.slice (some ⟨g, off, none⟩) cn cc) cur)
    (h4 : w0.heap.size ≤ g) (h5 : w0.grownBy w (some h)) (h6 : U8 w g) (hlt : h < w0.heap.size) (k : Nat) (hk : k ≤ cn) (hcc : cn ≤ cc)
    (sf : fs ++ (says (cur.drop k)).frames = S.frames) (sn : N + (says (cur.drop k)).noise = n0 + S.noise) (sm : M + (says (cur.drop k)).sums = m0 + S.sums) (sh : (says (cur.drop k)).held = S.held) (room : fs.length + (cur.drop k).length ≤ 1000000) :
    FeedAt w0 h S n0 m0 (w.setCell ⟨h, 0, none⟩ (skipV k g off cn cc)) v (skipV k g off cn cc) fs (cur.drop k) N M ∧ heldN (w.setCell ⟨h, 0, none⟩ (skipV k g off cn cc)) h = cn - k := by
  have hu : HunAt (w.setCell ⟨h, 0, none⟩ (skipV k g off cn cc)) h (skipV k g off cn cc) (N : Int) (M : Int) true := (h2.set 0 (by omega) _).same (fun i hi => by
    have : i = 0 ∨ i = 1 ∨ i = 2 ∨ i = 3 := by omega
    rcases this with rfl | rfl | rfl | rfl <;> rfl)
  refine ⟨⟨h1.kept (gr_set _ _ _ _) hlt, hu, bts_kept (bts_skip h3 k hk hcc) (gr_set _ _ _ _) (.inr (by rw [skipV_own]; intro e; injection e; omega)), fun b hb => by rw [skipV_own] at hb; cases hb; exact h4, gr_trans h5 (gr_set _ _ _ _), sf, sn, sm, sh, room, fun b hb => ?_⟩, heldN_at hu⟩
  rw [skipV_own] at hb
  cases hb
  exact h6.kept (gr_set _ _ _ _) (by intro e; injection e; omega)
theorem feed_noise {w0 w : World} {h n0 m0 N M g off cn cc : Nat} {S : Said} {v : Value} {fs : List FrmS} {cur : List Nat} (H : FeedAt w0 h S n0 m0 w v (.slice (some ⟨g, off, none⟩) cn cc) fs cur N M) (hlt : h < w0.heap.size) (hne : cur ≠ []) (hcc : cn ≤ cc) (hE : readE cur = 130) :
    FeedAt w0 h S n0 m0 ((w.setCell ⟨h, 1, none⟩ (.int .i64 ((N : Int) + 1))).setCell ⟨h, 0, none⟩ (skipV 1 g off cn cc)) v (skipV 1 g off cn cc) fs (cur.drop 1) (N + 1) M ∧ heldN ((w.setCell ⟨h, 1, none⟩ (.int .i64 ((N : Int) + 1))).setCell ⟨h, 0, none⟩ (skipV 1 g off cn cc)) h = cn - 1 := by
  have hpos : 0 < cur.length := List.length_pos_iff.2 hne
  have hcn := H.bts.len
  have hs := says_bad hne (by rw [hE]; decide) (by rw [hE]; decide)
  rw [hE, if_neg (by decide)] at hs
  have k1 := H.sf; have k2 := H.sn; have k3 := H.sm; have k4 := H.sh; have k5 := H.room; have k6 := H.own g rfl
  rw [hs] at k1 k2 k3 k4
  dsimp only at k1 k2 k3 k4
  refine feed_cut (H.frs.kept (gr_set _ _ _ _) hlt) ((H.hun.set 1 (by omega) _).same (fun i hi => ?_)) (bts_kept H.bts (gr_set _ _ _ _) (.inr (by simp only [Value.ownBlock]; intro e; injection e; omega))) k6 (gr_trans H.gr (gr_set _ _ _ _)) ((H.typ g rfl).kept (gr_set _ _ _ _) (by intro e; injection e; omega)) hlt 1 (by omega) hcc k1 (by omega) (by omega) k4 (by rw [List.length_drop]; omega)
  have : i = 0 ∨ i = 1 ∨ i = 2 ∨ i = 3 := by omega
  rcases this with rfl | rfl | rfl | rfl <;> rfl
theorem feed_sum {w0 w : World} {h n0 m0 N M g off cn cc : Nat} {S : Said} {v : Value} {fs : List FrmS} {cur : List Nat} (H : FeedAt w0 h S n0 m0 w v (.slice (some ⟨g, off, none⟩) cn cc) fs cur N M) (hlt : h < w0.heap.size) (hne : cur ≠ []) (hcc : cn ≤ cc) (hE : readE cur = 131) :
    FeedAt w0 h S n0 m0 (((w.setCell ⟨h, 2, none⟩ (.int .i64 ((M : Int) + 1))).setCell ⟨h, 1, none⟩ (.int .i64 ((N : Int) + 1))).setCell ⟨h, 0, none⟩ (skipV 1 g off cn cc)) v (skipV 1 g off cn cc) fs (cur.drop 1) (N + 1) (M + 1) ∧ heldN (((w.setCell ⟨h, 2, none⟩ (.int .i64 ((M : Int) + 1))).setCell ⟨h, 1, none⟩ (.int .i64 ((N : Int) + 1))).setCell ⟨h, 0, none⟩ (skipV 1 g off cn cc)) h = cn - 1 := by
  have hpos : 0 < cur.length := List.length_pos_iff.2 hne
  have hcn := H.bts.len
  have hs := says_bad hne (by rw [hE]; decide) (by rw [hE]; decide)
  rw [hE, if_pos rfl] at hs
  have k1 := H.sf; have k2 := H.sn; have k3 := H.sm; have k4 := H.sh; have k5 := H.room; have k6 := H.own g rfl
  rw [hs] at k1 k2 k3 k4
  dsimp only at k1 k2 k3 k4
  have hg2 : w.grownBy ((w.setCell ⟨h, 2, none⟩ (.int .i64 ((M : Int) + 1))).setCell ⟨h, 1, none⟩ (.int .i64 ((N : Int) + 1))) (some h) := gr_trans (gr_set _ _ _ _) (gr_set _ _ _ _)
  refine feed_cut (H.frs.kept hg2 hlt) (((H.hun.set 2 (by omega) _).set 1 (by omega) _).same (fun i hi => ?_)) (bts_kept H.bts hg2 (.inr (by simp only [Value.ownBlock]; intro e; injection e; omega))) k6 (gr_trans H.gr hg2) ((H.typ g rfl).kept hg2 (by intro e; injection e; omega)) hlt 1 (by omega) hcc k1 (by omega) (by omega) k4 (by rw [List.length_drop]; omega)
  have : i = 0 ∨ i = 1 ∨ i = 2 ∨ i = 3 := by omega
  rcases this with rfl | rfl | rfl | rfl <;> rfl
theorem feed_good {w0 w w2 : World} {h n0 m0 N M g off cn cc : Nat} {S : Said} {v v2 : Value} {fs : List FrmS} {cur : List Nat} (H : FeedAt w0 h S n0 m0 w v (.slice (some ⟨g, off, none⟩) cn cc) fs cur N M) (hlt : h < w0.heap.size) (hcc : cn ≤ cc) (hE : readE cur = 0)
    (hf : FrsO w2 w0.heap.size v2 (fs ++ [readS cur])) (hg : w.grownBy w2 v.ownBlock) :
    FeedAt w0 h S n0 m0 (w2.setCell ⟨h, 0, none⟩ (skipV (readN cur) g off cn cc)) v2 (skipV (readN cur) g off cn cc) (fs ++ [readS cur]) (cur.drop (readN cur)) N M ∧ heldN (w2.setCell ⟨h, 0, none⟩ (skipV (readN cur) g off cn cc)) h = cn - readN cur := by
  have hcn := H.bts.len
  have hw := (readE_whole (.inl hE)).2.1
  have hs := says_good hE
  obtain ⟨hN, hSg⟩ := readN_good hE
  have k1 := H.sf; have k2 := H.sn; have k3 := H.sm; have k4 := H.sh; have k5 := H.room; have k6 := H.own g rfl
  rw [hs, ← hN] at k1 k2 k3 k4
  dsimp only at k1 k2 k3 k4
  have hvh : some h ≠ v.ownBlock := fun e => by have := (H.frs.own h e.symm).1; omega
  have hgw : w0.grownBy w2 (some h) := ⟨hg.os.trans H.gr.os, hg.tape.trans H.gr.tape, hg.output.trans H.gr.output, Nat.le_trans H.gr.size hg.size, fun k hk hne => by
    rw [hg.block k (Nat.lt_of_lt_of_le hk H.gr.size) (fun e => by have := (H.frs.own k e.symm).1; omega)]; exact H.gr.block k hk hne⟩
  have hap := (H.typ g rfl).apart H.frs
  refine feed_cut hf (H.hun.kept hg hvh) (bts_kept H.bts hg (.inr (fun e => hap e.symm))) k6 hgw ((H.typ g rfl).kept hg (fun e => hap e.symm)) hlt (readN cur) (by omega) hcc (by rw [hSg, List.append_assoc]; exact k1) k2 k3 k4 (by rw [List.length_append, List.length_drop, List.length_singleton]; omega)
set_option maxRecDepth 200000 in
set_option maxHeartbeats 8000000 in
theorem Feed_made (w : World) (h : Nat) (hb bv0 : Value) (hbs bs : List Nat) (n0 m0 : Nat) (H : HunAt w h hb (n0 : Int) (m0 : Int) true) (Hb : Bts w hb hbs) (Bv : Bts w bv0 bs) (hl : hbs.length + bs.length ≤ 900000) (hn0 : n0 ≤ 1000000000) (hm0 : m0 ≤ 1000000000) :
    Calls Try.prog 34 #[.pointer (some ⟨h, 0, none⟩), bv0] w (FeedR w h (says (hbs ++ bs)) n0 m0) := by
  have HH := Lib.hid H
  have HBB := Lib.hid Hb
  have HBV := Lib.hid Bv
  have HLN := Lib.hid (And.intro hl (And.intro hn0 hm0))
  have hlth := H.lt
  have hS := says_frames_len _ (hbs ++ bs) (Nat.le_refl _)
  rw [List.length_append] at hS
  obtain ⟨S, hSe⟩ : ∃ S, S = says (hbs ++ bs) := ⟨_, rfl⟩
  rw [← hSe] at hS ⊢
  have HS := Lib.hid (And.intro hS hSe)
  obtain ⟨hba, hbn, hbc, rfl⟩ := Hb.slice
  obtain ⟨bva, bvn, bvc, rfl⟩ := Bv.slice
  clear H Hb Bv hl hn0 hm0 hS hSe
  go_enter Try.func34, Try.ntmps34
  go_wp2
  refine wp_scope_loop 0 (fun a' w' => ∃ (g1 g2 g3 g4 g5 g7 g8 g9 g10 g11 g12 g13 g14 g15 g16 g17 g18 g19 g20 g21 g22 g23 g24 g25 g26 g27 g28 g29 g30 g31 g32 g33 g34 g35 g36 g37 g38 g39 g40 g41 g42 g43 g44 g45 g46 g47 g48 g49 g50 g51 g52 g53 g54 g55 g56 g57 g58 g59 g60 g61 g62 g63 g64 g65 g66 g67 g68 g69 g70 g71 g72 g73 g74 g75 g76 g77 g78 g79 g80 g81 : Value) (v cv : Value) (fs : List FrmS) (cur : List Nat) (N M : Nat), a' = { tmps := #[.pointer (some ⟨h, 0, none⟩), g1, g2, g3, g4, g5, v, g7, g8, g9, g10, g11, g12, g13, g14, g15, g16, g17, g18, g19, g20, g21, g22, g23, g24, g25, g26, g27, g28, g29, g30, g31, g32, g33, g34, g35, g36, g37, g38, g39, g40, g41, g42, g43, g44, g45, g46, g47, g48, g49, g50, g51, g52, g53, g54, g55, g56, g57, g58, g59, g60, g61, g62, g63, g64, g65, g66, g67, g68, g69, g70, g71, g72, g73, g74, g75, g76, g77, g78, g79, g80, g81], defers := [] } ∧ FeedAt w h S n0 m0 w' v cv fs cur N M) (fun _ w' => heldN w' h) rfl ?_ ?_
  · rintro a1 w1 ⟨g1, g2, g3, g4, g5, g7, g8, g9, g10, g11, g12, g13, g14, g15, g16, g17, g18, g19, g20, g21, g22, g23, g24, g25, g26, g27, g28, g29, g30, g31, g32, g33, g34, g35, g36, g37, g38, g39, g40, g41, g42, g43, g44, g45, g46, g47, g48, g49, g50, g51, g52, g53, g54, g55, g56, g57, g58, g59, g60, g61, g62, g63, g64, g65, g66, g67, g68, g69, g70, g71, g72, g73, g74, g75, g76, g77, g78, g79, g80, g81, v, cv, fs, cur, N, M, rfl, hA⟩
    have HA := Lib.hid hA
    obtain ⟨ca, cn, cc, rfl⟩ := hA.bts.slice
    have hcn := hA.bts.len
    have c0 : w1.cell? ⟨h, 0, none⟩ = some (.slice ca cn cc) := hA.hun.at_ 0 (by omega)
    have hlt1 := hA.hun.lt
    haveI : LtSize h w1 := ⟨hlt1⟩
    clear hA
    by_cases hz : cur = []
    · subst hz
      simp only [List.length_nil] at hcn
      subst hcn
      go_wp2_with fail
      simp only [Exit.jump]
      refine bodyPost_ret (v := .tuple #[v, .int .i64 0]) ?_ rfl (HA.out.done says_nil)
      simp only [results, show Try.func34.results = #[ResultVar.tmp 4, ResultVar.tmp 5] from rfl]
      simp
    · obtain ⟨g, off, rfl, hcc⟩ := bts_some HA.out.bts hz
      have hpos : 0 < cur.length := List.length_pos_iff.2 hz
      have hd0 : ¬ cn = 0 := by omega
      have HCC := Lib.hid (And.intro hcn (And.intro hcc hpos))
      have HLD := Lib.hid (heldN_at HA.out.hun)
      clear hcc hpos hcn
      go_wp2_with fail
      refine (fRead_any _ cur _ HA.out.bts (by have := HA.out.room; omega)).mono ?_
      rintro e2 w2 ⟨bv, rfl, ho2, hb2⟩
      have hlim : FrLim (readS cur) := readS_ok HA.out.bts.1
      obtain ⟨L, hL⟩ : ∃ L, L = frL (readS cur) bv := ⟨_, rfl⟩
      have hL21 : L.length = 21 := by rw [hL]; exact frL_length _ _ hlim.2.2.1
      have hL1 : L.toArray.all (·.oneCell') = true := by rw [hL]; exact frL_one _ (one_slice ho2.bts)
      rw [← hL]
      have hs2 := store_new w2 L hL21 hL1
      have hst2 := hs2.1
      have HS2 := Lib.hid hs2.2
      have HL := Lib.hid hL21
      have HLE := Lib.hid hL
      have HLM := Lib.hid hlim
      have HO2 := Lib.hid ho2
      have HB2 := Lib.hid hb2
      clear hs2 hL1 hL21 hL hlim ho2 hb2 c0
      go_upto_region 8 with fail
      refine wp_gen (fun W => Below w1.heap.size w1 W ∧ W.rangeAt w2.heap.size 0 L ∧ w2.heap.size < W.heap.size ∧ OwnB W w1.heap.size bv (readS cur).body) ⟨HB2.out.trans (HS2.out.1.mono HB2.out.size), HS2.out.2.1, HS2.out.2.2, HO2.out.below HS2.out.1 (Nat.le_refl _)⟩ ?_
      rintro W ⟨hbw, hr3, hl3, ho3⟩
      have hA3 := HA.out.below hbw
      have h03 := HA.out.gr.size
      have ho3' := ho3.mono h03
      generalize w2.heap.size = q at *
      have HA3 := Lib.hid hA3
      have HR3 := Lib.hid hr3
      have HO3 := Lib.hid ho3'
      haveI : LtSize q W := ⟨hl3⟩
      haveI : LtSize h W := ⟨hA3.hun.lt⟩
      have c0 : W.cell? ⟨h, 0, none⟩ = some (.slice (some ⟨g, off, none⟩) cn cc) := hA3.hun.at_ 0 (by omega)
      have c1 : W.cell? ⟨h, 1, none⟩ = some (.int .i64 (N : Int)) := hA3.hun.at_ 1 (by omega)
      have c2 : W.cell? ⟨h, 2, none⟩ = some (.int .i64 (M : Int)) := hA3.hun.at_ 2 (by omega)
      have z0 := hA3.hun.free 0
      have z1 := hA3.hun.free 1
      have z2 := hA3.hun.free 2
      have hNM : N ≤ 2000000000 ∧ M ≤ 2000000000 := by have := hA3.sn; have := hA3.sm; have := HS.out.1; have := HLN.out; omega
      have hwN : IntKind.i64.wrap ((N : Int) + 1) = ((N + 1 : Nat) : Int) := by rw [IntKind.wrap_i64]; omega
      have hwM : IntKind.i64.wrap ((M : Int) + 1) = ((M + 1 : Nat) : Int) := by rw [IntKind.wrap_i64]; omega
      clear HA HS2 HB2 HO2 hst2 hbw hr3 hl3 ho3 ho3' hA3 h03
      rcases readE_cases cur with hE | hE | hE | hE
      · rw [hE]
        have HE := Lib.hid hE
        clear hE
        go_wp2_with (refine wpList_skip rfl _ _ rfl 1 g off cn cc rfl rfl (by have := HCC.out; omega) HCC.out.2.1 ?_)
        go_step3
        have hx := feed_noise HA3.out hlth hz HCC.out.2.1 HE.out
        refine ⟨rfl, ⟨⟨_, _, _, _, _, _, _, _, _, _, _, _, _, _, _, _, _, _, _, _, _, _, _, _, _, _, _, _, _, _, _, _, _, _, _, _, _, _, _, _, _, _, _, _, _, _, _, _, _, _, _, _, _, _, _, _, _, _, _, _, _, _, _, _, _, _, _, _, _, _, _, _, _, _, _, _, _, _, _, _, _, _, _, _, _, _, rfl, hx.1⟩, ?_⟩⟩
        show heldN _ h < heldN w1 h
        rw [hx.2, HLD.out]
        have := HCC.out
        omega
      · rw [hE]
        have HE := Lib.hid hE
        clear hE
        go_wp2_with fail
        simp only [Exit.jump]
        refine bodyPost_ret (v := .tuple #[v, .int .i64 0]) ?_ rfl (HA3.out.done (says_short HE.out))
        simp only [results, show Try.func34.results = #[ResultVar.tmp 4, ResultVar.tmp 5] from rfl]
        simp
      · rw [hE]
        have HE := Lib.hid hE
        clear hE
        go_wp2_with (refine wpList_skip rfl _ _ rfl 1 g off cn cc rfl rfl (by have := HCC.out; omega) HCC.out.2.1 ?_)
        go_step3
        have hx := feed_sum HA3.out hlth hz HCC.out.2.1 HE.out
        refine ⟨rfl, ⟨⟨_, _, _, _, _, _, _, _, _, _, _, _, _, _, _, _, _, _, _, _, _, _, _, _, _, _, _, _, _, _, _, _, _, _, _, _, _, _, _, _, _, _, _, _, _, _, _, _, _, _, _, _, _, _, _, _, _, _, _, _, _, _, _, _, _, _, _, _, _, _, _, _, _, _, _, _, _, _, _, _, _, _, _, _, _, _, rfl, hx.1⟩, ?_⟩⟩
        show heldN _ h < heldN w1 h
        rw [hx.2, HLD.out]
        have := HCC.out
        omega
      · rw [hE]
        have HE := Lib.hid hE
        clear hE
        have hbA : Below W.heap.size W (W.alloc (.cells L.toArray 28)) := (Below.refl _ _).alloc (Nat.le_refl _) _
        have hA4 := HA3.out.below hbA
        have HRA := Lib.hid (show (W.alloc (.cells L.toArray 28)).rangeAt W.heap.size 0 (frL (readS cur) bv) by rw [← HLE.out]; exact rangeAt_at (g := W.heap.size) W L _)
        have HOA := Lib.hid (HO3.out.below hbA (Nat.le_refl _))
        have HBA := Lib.hid (show w.heap.size ≤ (W.alloc (.cells L.toArray 28)).heap.size from hA4.gr.size)
        have HFL := Lib.hid (show fs.length ≤ 1000000 by have := hA4.room; omega)
        have HNC := Lib.hid (show readN cur ≤ cn by have := (readE_whole (.inl HE.out)).2.1; have := (readN_good HE.out).1; have := HCC.out.1; omega)
        have HA4 := Lib.hid hA4
        have HK := Lib.hid (fun (W2 : World) (hg : (W.alloc (.cells L.toArray 28)).grownBy W2 v.ownBlock) => (show W2.cell? ⟨h, 0, none⟩ = some (.slice (some ⟨g, off, none⟩) cn cc) ∧ W2.frozen? ⟨h, 0, none⟩ = false by
          have hk := HA4.out.hun.kept hg (fun e => by have := (HA4.out.frs.own h e.symm).1; omega)
          exact ⟨hk.at_ 0 (by omega), hk.free 0⟩))
        clear hbA hA4
        go_wp2_with (first | (refine wpList_load_mid rfl 28 (.tmp 7) (by rfl) q 0 (by rfl) L _ HR3.out Try.underlying28 (by rfl) (by rw [HL.out]; kernel_rfl) ?_) | (refine wpList_one rfl _ rfl L HL.out rfl ?_) | (at_builtin; refine wpList_append_fr rfl _ _ rfl w.heap.size v fs rfl HA4.out.frs W.heap.size rfl (readS cur) bv HRA.out HOA.out HLM.out HFL.out HBA.out (fun v2 W2 hf2 hg2 => ?_); obtain ⟨c02, z02⟩ := HK.out W2 hg2; have HF2 := Lib.hid hf2; have HG2 := Lib.hid hg2; clear hf2 hg2) | (refine wpList_skip rfl _ _ rfl (readN cur) g off cn cc rfl rfl HNC.out HCC.out.2.1 ?_))
        go_step3
        have hx := feed_good HA4.out hlth HCC.out.2.1 HE.out HF2.out HG2.out
        refine ⟨rfl, ⟨⟨_, _, _, _, _, _, _, _, _, _, _, _, _, _, _, _, _, _, _, _, _, _, _, _, _, _, _, _, _, _, _, _, _, _, _, _, _, _, _, _, _, _, _, _, _, _, _, _, _, _, _, _, _, _, _, _, _, _, _, _, _, _, _, _, _, _, _, _, _, _, _, _, _, _, _, _, _, _, _, _, _, _, _, _, _, _, rfl, hx.1⟩, ?_⟩⟩
        show heldN _ h < heldN w1 h
        rw [hx.2, HLD.out]
        have := HCC.out
        have := (readN_good HE.out).1
        have := HNC.out
        omega
  · intro hp
    have hP := Lib.hid hp
    clear hp
    have c0 : w.cell? ⟨h, 0, none⟩ = some (.slice hba hbn hbc) := HH.out.at_ 0 (by omega)
    have z0 := HH.out.free 0
    haveI : LtSize h w := ⟨hlth⟩
    go_wp2_with (go_at_call 73; with_reducible refine Calls.tells (is_made _ _ _ _ _ _ HH.out) ?_)
    refine (Concat_pair HBB.out HBV.out (by have := HLN.out.1; omega)).mono ?_
    rintro e2 w2 ⟨u, rfl, ho2, hb2, _⟩
    obtain ⟨ua, un, uc, rfl⟩ := ho2.bts.slice
    have hbw : Below w.heap.size w w2 := Below.trans ((Below.refl _ _).alloc (Nat.le_refl _) _) (hb2.mono (by simp))
    have hh2 := HH.out.below hbw hlth
    have c02 : w2.cell? ⟨h, 0, none⟩ = some (.slice hba hbn hbc) := hh2.at_ 0 (by omega)
    have z02 := hh2.free 0
    have hsz : w.heap.size < (w.alloc (.cells #[Value.slice hba hbn hbc, Value.slice bva bvn bvc] 22)).heap.size := by simp
    have HX := Lib.hid (And.intro hbw (And.intro hh2 (And.intro ho2 hsz)))
    clear hbw hh2 ho2 hb2 hsz
    go_wp2_with fail
    go_step3
    have hou : ∀ b, (Value.slice ua un uc).ownBlock = some b → w.heap.size < b := fun b hb => Nat.lt_of_lt_of_le HX.out.2.2.2 (HX.out.2.2.1.own b hb)
    rename_i hkx
    refine hkx _ _ (hP.out _ _ ⟨_, _, _, _, _, _, _, _, _, _, _, _, _, _, _, _, _, _, _, _, _, _, _, _, _, _, _, _, _, _, _, _, _, _, _, _, _, _, _, _, _, _, _, _, _, _, _, _, _, _, _, _, _, _, _, _, _, _, _, _, _, _, _, _, _, _, _, _, _, _, _, _, _, _, _, _, _, _, _, _, _, _, [], hbs ++ bs, n0, m0, rfl, FrsO.nil _ _, (HX.out.2.1.set 0 (by omega) _).same (fun i hi => ?_), bts_kept HX.out.2.2.1.bts (gr_set _ _ _ _) (.inr (fun e => by have := hou h e; omega)), fun b hb => Nat.le_of_lt (hou b hb), gr_trans (gr_below _ HX.out.1) (gr_set _ _ _ _), ?_, ?_, ?_, ?_, ?_, fun b hb => ?_⟩)
    · have : i = 0 ∨ i = 1 ∨ i = 2 ∨ i = 3 := by omega
      rcases this with rfl | rfl | rfl | rfl <;> rfl
    · rw [HS.out.2]; rfl
    · rw [HS.out.2]
    · rw [HS.out.2]
    · rw [HS.out.2]
    · rw [List.length_append]; have := HLN.out.1; simp; omega
    · refine U8.kept ?_ (gr_set _ _ _ _) (by intro e; injection e with e; have := hou b hb; omega)
      rcases HX.out.2.2.1.2.2 with ⟨e1, _⟩ | ⟨g', cap, cur, e1, _, hg, _⟩
      · rw [e1] at hb; cases hb
      · rw [e1] at hb; cases hb; exact ⟨_, _, hg⟩
end Go.Proofs.Ytjkgodhoonkinaa
