/-
  The walk over ref.Says: what a stream says, told by the reference.
-/
import Derived.Test.YtjkgodhoonkinaaHunF
namespace Go.Proofs.Ytjkgodhoonkinaa
open Go.RowKit
set_option linter.unusedVariables false
set_option linter.unusedSimpArgs false

structure SaysAt (w0 : World) (bs : List Nat) (S : Said) (w : World) (v : Value) (fs : List FrmS) (k N M : Nat) : Prop where
  frs : FrsO w w0.heap.size v fs
  bel : Below w0.heap.size w0 w
  sf : fs ++ (says (bs.drop k)).frames = S.frames
  sn : N + (says (bs.drop k)).noise = S.noise
  sm : M + (says (bs.drop k)).sums = S.sums
  sh : (says (bs.drop k)).held = S.held
  hk : k ≤ bs.length
  room : fs.length ≤ k
def SaysR (w : World) (S : Said) (e : Ending) (w' : World) : Prop :=
  ∃ v, e = .returned (.tuple #[v, .int .i64 ((S.noise : Nat) : Int), .int .i64 ((S.sums : Nat) : Int), .int .i64 ((S.held.length : Nat) : Int)]) ∧ FrsO w' w.heap.size v S.frames ∧ Below w.heap.size w w'
theorem SaysAt.done {w0 w : World} {bs : List Nat} {S : Said} {v : Value} {fs : List FrmS} {k N M : Nat} (H : SaysAt w0 bs S w v fs k N M) (hs : says (bs.drop k) = ⟨[], 0, 0, bs.drop k⟩) : FrsO w w0.heap.size v S.frames ∧ N = S.noise ∧ M = S.sums ∧ bs.length - k = S.held.length := by
  obtain ⟨h1, h2, h3, h4, h5, h6, h7, h8⟩ := H
  rw [hs] at h3 h4 h5 h6
  dsimp only at h3 h4 h5 h6
  rw [List.append_nil] at h3
  rw [h3] at h1
  exact ⟨h1, h4, h5, by rw [← h6, List.length_drop]⟩
theorem SaysAt.noise {w0 w : World} {bs : List Nat} {S : Said} {v : Value} {fs : List FrmS} {k N M : Nat} (H : SaysAt w0 bs S w v fs k N M) (hk : k < bs.length) (hE : readE (bs.drop k) = 130) : SaysAt w0 bs S w v fs (k + 1) (N + 1) M := by
  have hne : bs.drop k ≠ [] := fun e => by have := congrArg List.length e; rw [List.length_drop, List.length_nil] at this; omega
  have hs := says_bad hne (by rw [hE]; decide) (by rw [hE]; decide)
  rw [hE, if_neg (by decide), List.drop_drop] at hs
  obtain ⟨h1, h2, h3, h4, h5, h6, h7, h8⟩ := H
  rw [hs] at h3 h4 h5 h6
  exact ⟨h1, h2, h3, by dsimp only at h4; omega, by dsimp only at h5; omega, h6, by omega, by omega⟩
theorem SaysAt.sum {w0 w : World} {bs : List Nat} {S : Said} {v : Value} {fs : List FrmS} {k N M : Nat} (H : SaysAt w0 bs S w v fs k N M) (hk : k < bs.length) (hE : readE (bs.drop k) = 131) : SaysAt w0 bs S w v fs (k + 1) (N + 1) (M + 1) := by
  have hne : bs.drop k ≠ [] := fun e => by have := congrArg List.length e; rw [List.length_drop, List.length_nil] at this; omega
  have hs := says_bad hne (by rw [hE]; decide) (by rw [hE]; decide)
  rw [hE, if_pos rfl, List.drop_drop] at hs
  obtain ⟨h1, h2, h3, h4, h5, h6, h7, h8⟩ := H
  rw [hs] at h3 h4 h5 h6
  exact ⟨h1, h2, h3, by dsimp only at h4; omega, by dsimp only at h5; omega, h6, by omega, by omega⟩
theorem SaysAt.good {w0 w w2 : World} {bs : List Nat} {S : Said} {v v2 : Value} {fs : List FrmS} {k N M : Nat} (H : SaysAt w0 bs S w v fs k N M) (hE : readE (bs.drop k) = 0) (hf : FrsO w2 w0.heap.size v2 (fs ++ [readS (bs.drop k)])) (hg : w.grownBy w2 v.ownBlock) : SaysAt w0 bs S w2 v2 (fs ++ [readS (bs.drop k)]) (k + readN (bs.drop k)) N M := by
  have hw := (readE_whole (.inl hE)).2.1
  have hs := says_good hE
  obtain ⟨hN, hSg⟩ := readN_good hE
  rw [List.length_drop] at hw
  rw [← hN, List.drop_drop] at hs
  obtain ⟨h1, h2, h3, h4, h5, h6, h7, h8⟩ := H
  rw [hs] at h3 h4 h5 h6
  exact ⟨hf, h2.grown hg h2.size (fun b hb => (h1.own b hb).1), by rw [hSg, List.append_assoc]; exact h3, h4, h5, h6, by omega, by rw [List.length_append, List.length_singleton]; omega⟩
theorem FrsO.empty (w : World) : FrsO (w.alloc (.cells #[] 28)) w.heap.size (.slice (some ⟨w.heap.size, 0, none⟩) 0 0) [] :=
  ⟨[], rfl, World.ownsRow_lit (base := w.heap.size) (e := 28) (size := 21) w #[] 0 (Nat.le_refl _) (by decide) rfl, fun i f bv h => by simp at h⟩
set_option maxRecDepth 200000 in
set_option maxHeartbeats 8000000 in
theorem Says_any (v0 : Value) (bs : List Nat) (w : World) (hv : Bts w v0 bs) (hn : bs.length ≤ 900000) :
    Calls Try.prog 44 #[v0] w (SaysR w (says bs)) := by
  obtain ⟨S, hSe⟩ : ∃ S, S = says bs := ⟨_, rfl⟩
  rw [← hSe]
  have HV := Lib.hid hv
  have HN := Lib.hid hn
  obtain ⟨va, vn, vc, rfl⟩ := hv.slice
  have hl := hv.len
  subst hl
  clear hv hn
  have HE := Lib.hid (FrsO.empty w)
  go_enter Try.func44, Try.ntmps44
  go_wp2_with fail
  go_loopw [6, 7, 8, 9] (fun v6 v7 v8 v9 wr => ∃ (fs : List FrmS) (k N M : Nat), v7 = .int .i64 (N : Int) ∧ v8 = .int .i64 (M : Int) ∧ v9 = .int .i64 (k : Int) ∧ SaysAt w bs S wr v6 fs k N M) (fun _ _ _ v9 _ => bs.length + 1 - (intOf v9).toNat)
  case atStart => exact ⟨[], 0, 0, 0, rfl, rfl, rfl, HE.out, (Below.refl _ _).alloc (Nat.le_refl _) _, by rw [hSe]; rfl, by rw [hSe]; simp, by rw [hSe]; simp, by rw [hSe]; rfl, by omega, by simp⟩
  case round =>
    obtain ⟨fs, k, N, M, rfl, rfl, rfl, hA⟩ := hrel
    have HA := Lib.hid hA
    have hkl := hA.hk
    clear hA
    have HSE := Lib.hid hSe
    clear hSe
    by_cases hkn : k < bs.length
    · have hbe : bs ≠ [] := fun e => by rw [e] at hkn; simp at hkn
      obtain ⟨g, off, rfl, hcc⟩ := bts_some HV.out hbe
      have HBW := Lib.hid (bts_skip (HV.out.below HA.out.bel) k hkl hcc)
      have HKL := Lib.hid hkl
      have HCC := Lib.hid hcc
      have hwL : IntKind.i64.wrap ((bs.length : Int) - (k : Int)) = ((bs.length - k : Nat) : Int) := by rw [IntKind.wrap_i64]; have := HN.out; omega
      have hNM : N ≤ 2000000000 ∧ M ≤ 2000000000 := by have := HA.out.sn; have := HA.out.sm; have := says_frames_len _ bs (Nat.le_refl _); have := HN.out; rw [← HSE.out] at *; omega
      have hwN : IntKind.i64.wrap ((N : Int) + 1) = ((N + 1 : Nat) : Int) := by rw [IntKind.wrap_i64]; omega
      have hwM : IntKind.i64.wrap ((M : Int) + 1) = ((M + 1 : Nat) : Int) := by rw [IntKind.wrap_i64]; omega
      have hwK : IntKind.i64.wrap ((k : Int) + 1) = ((k + 1 : Nat) : Int) := by rw [IntKind.wrap_i64]; have := HN.out; omega
      clear hcc
      go_wp2_with (refine wpList_skip rfl _ _ rfl k g off bs.length vc rfl rfl HKL.out HCC.out ?_)
      refine (rRead_any _ (bs.drop k) _ HBW.out (by rw [List.length_drop]; have := HN.out; omega)).mono ?_
      rintro e2 w2 ⟨bv, rfl, ho2, hb2⟩
      obtain ⟨cur, hcur⟩ : ∃ cur, cur = bs.drop k := ⟨_, rfl⟩
      have hlen : cur.length = bs.length - k := by rw [hcur, List.length_drop]
      have hne : cur ≠ [] := fun e => by rw [e] at hlen; simp at hlen; omega
      rw [← hcur] at ho2 ⊢
      have hlim : FrLim (readS cur) := readS_ok (by rw [hcur]; exact HBW.out.1)
      obtain ⟨L, hL⟩ : ∃ L, L = frL (readS cur) bv := ⟨_, rfl⟩
      have hL21 : L.length = 21 := by rw [hL]; exact frL_length _ _ hlim.2.2.1
      have hL1 : L.toArray.all (·.oneCell') = true := by rw [hL]; exact frL_one _ (one_slice ho2.bts)
      rw [← hL]
      have hs2 := store_new w2 L hL21 hL1
      have hst2 := hs2.1
      have HS2 := Lib.hid hs2.2
      have HL := Lib.hid hL21
      have HLE := Lib.hid hL
      have HLM := Lib.hid hlim
      have HO2 := Lib.hid ho2
      have HB2 := Lib.hid hb2
      have HCU := Lib.hid (And.intro hcur (And.intro hlen hne))
      clear hs2 hL1 hL21 hL hlim ho2 hb2 hcur hlen hne
      go_upto_region 6 with fail
      refine wp_gen (fun W => Below wr.heap.size wr W ∧ W.rangeAt w2.heap.size 0 L ∧ w2.heap.size < W.heap.size ∧ OwnB W wr.heap.size bv (readS cur).body) ⟨HB2.out.trans (HS2.out.1.mono HB2.out.size), HS2.out.2.1, HS2.out.2.2, HO2.out.below HS2.out.1 (Nat.le_refl _)⟩ ?_
      rintro W ⟨hbw, hr3, hl3, ho3⟩
      have h03 := HA.out.bel.size
      have HA3 := Lib.hid (show SaysAt w bs S W u6 fs k N M from ⟨HA.out.frs.below hbw, HA.out.bel.trans (hbw.mono h03), HA.out.sf, HA.out.sn, HA.out.sm, HA.out.sh, HA.out.hk, HA.out.room⟩)
      have HO3 := Lib.hid (ho3.mono h03)
      generalize w2.heap.size = q at *
      have HR3 := Lib.hid hr3
      haveI : LtSize q W := ⟨hl3⟩
      clear HA HS2 HB2 HO2 hst2 hbw hr3 hl3 ho3 h03
      rcases readE_cases cur with hE | hE | hE | hE
      · rw [hE]
        have HE2 := Lib.hid hE
        clear hE
        go_wp2_with fail
        exact ⟨⟨fs, k + 1, N + 1, M, (by first | rfl | go_num), (by first | rfl | go_num), (by first | rfl | go_num), HA3.out.noise hkn (by rw [← HCU.out.1]; exact HE2.out)⟩, by simp [intOf]; omega⟩
      · rw [hE]
        have HE2 := Lib.hid hE
        clear hE
        go_wp2_with fail
        have hD := HA3.out.done (by rw [← HCU.out.1]; exact says_short HE2.out)
        refine bodyPost_ret (v := .tuple #[u6, .int .i64 (N : Int), .int .i64 (M : Int), .int .i64 ((bs.length - k : Nat) : Int)]) ?_ rfl ⟨u6, by rw [hD.2.1, hD.2.2.1, hD.2.2.2], hD.1, HA3.out.bel⟩
        simp only [results, show Try.func44.results = #[ResultVar.tmp 2, ResultVar.tmp 3, ResultVar.tmp 4, ResultVar.tmp 5] from rfl]
        simp
      · rw [hE]
        have HE2 := Lib.hid hE
        clear hE
        go_wp2_with fail
        exact ⟨⟨fs, k + 1, N + 1, M + 1, (by first | rfl | go_num), (by first | rfl | go_num), (by first | rfl | go_num), HA3.out.sum hkn (by rw [← HCU.out.1]; exact HE2.out)⟩, by simp [intOf]; omega⟩
      · rw [hE]
        have HE2 := Lib.hid hE
        clear hE
        have hbA : Below W.heap.size W (W.alloc (.cells L.toArray 28)) := (Below.refl _ _).alloc (Nat.le_refl _) _
        have hsA := HA3.out.bel.size
        have HRA := Lib.hid (show (W.alloc (.cells L.toArray 28)).rangeAt W.heap.size 0 (frL (readS cur) bv) by rw [← HLE.out]; exact rangeAt_at (g := W.heap.size) W L _)
        have HOA := Lib.hid (HO3.out.below hbA (Nat.le_refl _))
        have HBA := Lib.hid (show w.heap.size ≤ (W.alloc (.cells L.toArray 28)).heap.size from Nat.le_trans hsA hbA.size)
        have HFL := Lib.hid (show fs.length ≤ 1000000 by have := HA3.out.room; have := HN.out; omega)
        have hNC : readN cur ≤ bs.length - k := by have := (readE_whole (.inl HE2.out)).2.1; have := (readN_good HE2.out).1; have := HCU.out.2.1; omega
        have hN7 : 7 ≤ readN cur := by have := (readN_good HE2.out).1; omega
        have hwR : IntKind.i64.wrap ((k : Int) + (readN cur : Int)) = ((k + readN cur : Nat) : Int) := by rw [IntKind.wrap_i64]; have := HN.out; omega
        have HA4 := Lib.hid (show SaysAt w bs S (W.alloc (.cells L.toArray 28)) u6 fs k N M from ⟨HA3.out.frs.below hbA, HA3.out.bel.trans (hbA.mono hsA), HA3.out.sf, HA3.out.sn, HA3.out.sm, HA3.out.sh, HA3.out.hk, HA3.out.room⟩)
        clear hbA hsA
        go_wp2_with (first | (refine wpList_load_mid rfl 28 (.tmp 10) (by rfl) q 0 (by rfl) L _ HR3.out Try.underlying28 (by rfl) (by rw [HL.out]; kernel_rfl) ?_) | (refine wpList_one rfl _ rfl L HL.out rfl ?_) | (at_builtin; refine wpList_append_fr rfl _ _ rfl w.heap.size u6 fs rfl HA4.out.frs W.heap.size rfl (readS cur) bv HRA.out HOA.out HLM.out HFL.out HBA.out (fun v2 W2 hf2 hg2 => ?_); have HF2 := Lib.hid hf2; have HG2 := Lib.hid hg2; clear hf2 hg2))
        have hx := HA4.out.good (by rw [← HCU.out.1]; exact HE2.out) (by rw [← HCU.out.1]; exact HF2.out) HG2.out
        rw [← HCU.out.1] at hx
        exact ⟨⟨fs ++ [readS cur], k + readN cur, N, M, (by first | rfl | go_num), (by first | rfl | go_num), (by first | rfl | go_num), hx⟩, by simp [intOf]; omega⟩
    · obtain rfl : k = bs.length := by omega
      go_wp2_with fail
      have hD := HA.out.done (by rw [List.drop_length]; exact says_nil)
      refine bodyPost_ret (v := .tuple #[u6, .int .i64 (N : Int), .int .i64 (M : Int), .int .i64 ((bs.length - bs.length : Nat) : Int)]) ?_ rfl ⟨u6, by rw [hD.2.1, hD.2.2.1, hD.2.2.2], hD.1, HA.out.bel⟩
      simp only [results, show Try.func44.results = #[ResultVar.tmp 2, ResultVar.tmp 3, ResultVar.tmp 4, ResultVar.tmp 5] from rfl]
      simp
end Go.Proofs.Ytjkgodhoonkinaa
