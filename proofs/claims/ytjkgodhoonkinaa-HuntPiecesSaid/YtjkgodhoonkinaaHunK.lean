/-
  The walk over the law HuntPieces.
-/
import Derived.Test.YtjkgodhoonkinaaHunA
import Derived.Test.YtjkgodhoonkinaaInts
namespace Go.Proofs.Ytjkgodhoonkinaa
open Go.RowKit
set_option linter.unusedVariables false
set_option linter.unusedSimpArgs false

/-- Two hunters: x took all of cs; y took the first k bytes, in pieces. -/
structure PieceAt (w : World) (cs : List Nat) (hx hy B : Nat) (lv xv : Value) (wr : World) (mv : Value) (k : Nat) : Prop where
  bel : Below w.heap.size w wr
  hunx : HunAt wr hx xv ((says cs).noise : Int) ((says cs).sums : Int) true
  l : FrsP wr lv (says cs).frames (fun b => hy < b)
  lb : ∀ b, lv.ownBlock = some b → hy < b ∧ b < B
  m : FrsP wr mv (says (cs.take k)).frames (fun b => hy < b)
  mb : ∀ b, mv.ownBlock = some b → B ≤ b
  huny : ∃ yv, HunAt wr hy yv ((says (cs.take k)).noise : Int) ((says (cs.take k)).sums : Int) true ∧ Bts wr yv (says (cs.take k)).held ∧ ∀ b, yv.ownBlock = some b → U8 wr b
  hk : k ≤ cs.length
  ord : w.heap.size ≤ hx ∧ hx < hy ∧ hy < B ∧ B ≤ wr.heap.size
/-- What y finds in the next piece. -/
abbrev nextS (cs : List Nat) (k n : Nat) : Said := says ((says (cs.take k)).held ++ (cs.drop k).take n)
theorem nextS_eq (cs : List Nat) (k n : Nat) : says (cs.take (k + n)) = ⟨(says (cs.take k)).frames ++ (nextS cs k n).frames, (says (cs.take k)).noise + (nextS cs k n).noise, (says (cs.take k)).sums + (nextS cs k n).sums, (nextS cs k n).held⟩ := by
  rw [List.take_add, says_two]
theorem PieceAt.step {w : World} {cs : List Nat} {hx hy B : Nat} {lv xv : Value} {wr : World} {mv : Value} {k n : Nat} (H : PieceAt w cs hx hy B lv xv wr mv k) (hn : k + n ≤ cs.length)
    {w2 : World} {fv hv : Value} (hf : FrsO w2 wr.heap.size fv (nextS cs k n).frames) (hh : HunAt w2 hy hv (((says (cs.take k)).noise + (nextS cs k n).noise : Nat) : Int) (((says (cs.take k)).sums + (nextS cs k n).sums : Nat) : Int) true) (hb : Bts w2 hv (nextS cs k n).held) (hg : wr.grownBy w2 (some hy)) (h8 : ∀ b, hv.ownBlock = some b → U8 w2 b) :
    FrsP w2 mv (says (cs.take k)).frames (fun b => hy < b) ∧ FrsP w2 fv (nextS cs k n).frames (fun b => hy < b) ∧ (says (cs.take k)).frames.length + (nextS cs k n).frames.length ≤ 1000000 + cs.length * 2 ∧
    ∀ v' w3, FrsP w3 v' ((says (cs.take k)).frames ++ (nextS cs k n).frames) (fun b => hy < b ∨ hy < b) → w2.grownBy w3 mv.ownBlock → (v'.ownBlock = mv.ownBlock ∨ v'.ownBlock = some w2.heap.size) → PieceAt w cs hx hy B lv xv w3 v' (k + n) := by
  obtain ⟨o1, o2, o3, o4⟩ := H.ord
  have hm2 : FrsP w2 mv (says (cs.take k)).frames (fun b => hy < b) := H.m.kept hg (.inr (fun e => by have := H.mb _ e; omega)) (fun b hb e => by simp only [Option.some.injEq] at e; omega)
  have hl2 : FrsP w2 lv (says cs).frames (fun b => hy < b) := H.l.kept hg (.inr (fun e => by have := H.lb _ e; omega)) (fun b hb e => by simp only [Option.some.injEq] at e; omega)
  have hf2 : FrsP w2 fv (nextS cs k n).frames (fun b => hy < b) := hf.frsP.imp (fun b hb => by omega)
  refine ⟨hm2, hf2, ?_, fun v' w3 h1 h2 h3 => ?_⟩
  · have k1 := (says_frames_len _ (cs.take (k + n)) (Nat.le_refl _)).1
    rw [nextS_eq, List.length_append, List.length_take] at k1
    omega
  have hx2 := H.hunx.kept hg (by intro e; simp only [Option.some.injEq] at e; omega)
  have hne : ∀ c, c < B → some c ≠ mv.ownBlock := fun c hc e => by have := H.mb _ e.symm; omega
  have hs23 : w2.heap.size ≤ w3.heap.size := h2.size
  have hs2 : wr.heap.size ≤ w2.heap.size := hg.size
  refine ⟨?_, hx2.kept h2 (hne _ (by omega)), hl2.byFr hm2 h2 ?_, H.lb, ?_, ?_, ⟨hv, ?_, ?_, ?_⟩, hn, o1, o2, o3, by omega⟩
  · refine (H.bel.grown hg H.bel.size (fun b hb => by simp only [Option.some.injEq] at hb; omega)).grown h2 ?_ (fun b hb => by have := H.mb b hb; omega)
    have := H.bel.size; omega
  · match hlo : lv.ownBlock with
    | none => exact .inl rfl
    | some b => exact .inr (fun e => by have h1 := H.lb b hlo; have h2 := H.mb b e.symm; omega)
  · rw [nextS_eq]
    exact h1.imp (fun b hb => hb.elim id id)
  · intro b hb
    rcases h3 with h3 | h3
    · exact H.mb b (by rw [← h3]; exact hb)
    · rw [h3] at hb
      simp only [Option.some.injEq] at hb
      omega
  · rw [nextS_eq]
    exact hh.kept h2 (hne _ (by omega))
  · rw [nextS_eq]
    exact bts_byFr hb h8 hm2 h2
  · intro b hb
    exact (h8 b hb).kept h2 (fun e => hm2.apart (h8 b hb) e.symm)
theorem PieceAt.ends {w : World} {cs : List Nat} {hx hy B : Nat} {lv : Value} {xa : Option Addr} {xc : Nat} {wr : World} {mv : Value} {k : Nat} (H : PieceAt w cs hx hy B lv (.slice xa (says cs).held.length xc) wr mv k) (e : cs.take k = cs) (hl : cs.length ≤ 1000000) :
    Below w.heap.size w wr ∧ Calls Try.prog 35 #[lv, mv] wr (Gives wr (.bool true)) ∧ ∀ x,
    (Calls Try.prog 36 #[.pointer (some ⟨hx, 0, none⟩)] (up wr x) (Tells (up wr x) (.int .i64 ((says cs).noise : Int))) ∧ Calls Try.prog 36 #[.pointer (some ⟨hy, 0, none⟩)] (up wr x) (Tells (up wr x) (.int .i64 ((says cs).noise : Int)))) ∧
    (Calls Try.prog 37 #[.pointer (some ⟨hx, 0, none⟩)] (up wr x) (Tells (up wr x) (.int .i64 ((says cs).sums : Int))) ∧ Calls Try.prog 37 #[.pointer (some ⟨hy, 0, none⟩)] (up wr x) (Tells (up wr x) (.int .i64 ((says cs).sums : Int)))) ∧
    (Calls Try.prog 38 #[.pointer (some ⟨hx, 0, none⟩)] (up wr x) (Tells (up wr x) (.int .i64 ((says cs).held.length : Int))) ∧ Calls Try.prog 38 #[.pointer (some ⟨hy, 0, none⟩)] (up wr x) (Tells (up wr x) (.int .i64 ((says cs).held.length : Int)))) := by
  obtain ⟨yv, hyh, hyb, _⟩ := H.huny
  have hm := H.m
  rw [e] at hyh hyb hm
  obtain ⟨ya, yn, yc, rfl⟩ := hyb.slice
  obtain rfl := hyb.len
  have h1 := list_any lv mv _ _ 0 0 wr H.l.frs hm.frs (by have := (says_frames_len _ cs (Nat.le_refl _)).1; omega)
  rw [sameL_yes] at h1
  exact ⟨H.bel, h1, fun x => ⟨⟨Noise_made _ _ _ _ _ H.hunx.up, Noise_made _ _ _ _ _ hyh.up⟩, ⟨Sums_made _ _ _ _ _ H.hunx.up, Sums_made _ _ _ _ _ hyh.up⟩, ⟨Held_made _ _ _ _ _ _ _ H.hunx.up, Held_made _ _ _ _ _ _ _ hyh.up⟩⟩⟩
set_option maxRecDepth 200000 in
set_option maxHeartbeats 4000000 in
theorem HuntPieces_any (v av : Value) (bs : List Nat) (xs : List Int) (w : World) (hv : Bts w v bs) (ha : Ints w av xs) :
    Calls Try.prog 8 #[v, av] w (Gives w (.bool true)) := by
  have HC := Lib.hid (hv.cutV 600)
  obtain ⟨va, vn, vc, rfl⟩ := hv.slice
  obtain rfl := hv.len
  have hroom := bts_room hv
  clear hv
  have HTK := Lib.hid (show (bs.take 600).length = min bs.length 600 by rw [List.length_take]; omega)
  generalize hn : bs.length = n at *
  obtain ⟨cs, hcs⟩ : ∃ cs, cs = bs.take 600 := ⟨_, rfl⟩
  rw [← hcs] at HC HTK
  clear hcs hn
  obtain ⟨m, hm⟩ : ∃ m, m = min n 600 := ⟨_, rfl⟩
  have i0 : (if (600 : Int) < (n : Int) then (600 : Int) else (n : Int)) = (m : Int) := by split <;> omega
  have i3 : (0 : Int) ≤ (m : Int) := by omega
  have i4 : (m : Int) ≤ (vc : Int) := by omega
  rw [show cutV 600 (.slice va n vc) = .slice va m vc from by simp [cutV]; omega] at HC
  have HM := Lib.hid (show cs.length = m ∧ m ≤ 600 from ⟨by have := HTK.out; omega, by omega⟩)
  have HX := Lib.hid ha
  obtain ⟨hxb, aa, ac, rfl, hxl, hcell⟩ := ha
  clear hm hroom HTK hcell hxb
  go_enter Try.func8, Try.ntmps8
  go_wp2_with (go_at_call 32; (first | with_reducible refine Calls.fold (works14 _) ?_ | with_reducible refine Calls.fresh (works14 _) ?_); intro x1)
  refine (HNew_any _).mono ?_
  rintro e1 w1 ⟨rfl, hb1, hh1, hl1⟩
  obtain ⟨hx, hxe⟩ : ∃ hx, hx = (up w x1).heap.size := ⟨_, rfl⟩
  have hz1 : w.heap.size ≤ hx := hxe ▸ up_size w x1
  have hbw1 : Below w.heap.size w w1 := (up_below w x1).trans (hb1.mono (up_size w x1))
  rw [← hxe] at hh1 hl1 ⊢
  clear hb1 hxe
  go_wp2_with fail
  refine (HNew_any _).mono ?_
  rintro e2 w2 ⟨rfl, hb2, hh2, hl2⟩
  obtain ⟨hy, hye⟩ : ∃ hy, hy = w1.heap.size := ⟨_, rfl⟩
  have hxy : hx < hy := by omega
  have hh1' := hh1.below hb2 hl1
  have hbw2 : Below w.heap.size w w2 := hbw1.trans (hb2.mono hbw1.size)
  rw [← hye] at hh2 hl2 ⊢
  clear hb2 hye hh1 hl1 hbw1
  have H2 := Lib.hid (And.intro hbw2 (And.intro hh1' (And.intro hh2 hl2)))
  clear hbw2 hh1' hh2 hl2
  go_wp2_with fail
  refine (Feed_made w2 hx (.slice none 0 0) _ [] cs 0 0 H2.out.2.1 (nil_bts _) (HC.out.below H2.out.1) (by have := HM.out; simp; omega) (by omega) (by omega)).mono ?_
  rw [List.nil_append]
  rintro e3 w3 ⟨lv, xv, rfl, hf3, hh3, hbx3, _, hg3, _⟩
  rw [Nat.zero_add, Nat.zero_add] at hh3
  obtain ⟨xa, xn, xc, rfl⟩ := hbx3.slice
  obtain rfl := hbx3.len
  have hA : Below w3.heap.size w3 (w3.alloc (.cells #[] 28)) := (Below.refl _ _).alloc (Nat.le_refl _) _
  have hz3 : w2.heap.size ≤ w3.heap.size := hg3.size
  have H3 := Lib.hid (show PieceAt w cs hx hy w3.heap.size lv (.slice xa (says cs).held.length xc) (w3.alloc (.cells #[] 28)) (.slice (some ⟨w3.heap.size, 0, none⟩) 0 0) 0 from by
    have hl2 := H2.out.2.2.2
    have hp := (hf3.frsP.imp (Q := fun b => hy < b) (fun b hb => by omega)).below hA
    refine ⟨(H2.out.1.grown hg3 H2.out.1.size (fun b hb => by simp only [Option.some.injEq] at hb; omega)).trans (hA.mono (by have := H2.out.1.size; omega)), hh3.below hA hh3.lt, hp, fun b hb => by have := hf3.own b hb; omega, (FrsO.empty w3).frsP.imp (fun b hb => by omega), fun b hb => by cases hb; exact Nat.le_refl _, ⟨.slice none 0 0, ?_, ?_, fun b hb => by cases hb⟩, Nat.zero_le _, hz1, hxy, by omega, by simp⟩
    · rw [List.take_zero, says_nil]
      exact (H2.out.2.2.1.kept hg3 (by intro e; simp only [Option.some.injEq] at e; omega)).below hA (by omega)
    · rw [List.take_zero, says_nil]; exact nil_bts _)
  clear hf3 hh3 hbx3 hg3 hA hz3 H2
  generalize hB : w3.heap.size = B at *
  go_wp2_with fail
  go_loopw [9, 10, 11] (fun v9 v10 v11 wr => ∃ (k i : Nat), v10 = .int .i64 (k : Int) ∧ v11 = .int .i64 (i : Int) ∧ i ≤ 30 ∧ PieceAt w cs hx hy B lv (.slice xa (says cs).held.length xc) wr v9 k) (fun _ _ v11 _ => 31 - (intOf v11).toNat)
  case atStart => exact ⟨0, 0, rfl, rfl, by omega, H3.out⟩
  case round =>
    obtain ⟨k, i, rfl, rfl, hi, hA⟩ := hrel
    have HA := Lib.hid hA
    have hkl : k ≤ m := by have := hA.hk; have := HM.out; omega
    clear hA H3
    by_cases hin : i < xs.length ∧ i < 30
    · obtain ⟨hix, hi30⟩ := hin
      obtain ⟨yv, hyh, hyb, _⟩ := HA.out.huny
      have HY := Lib.hid (And.intro hyh hyb)
      clear hyh hyb
      obtain ⟨_, a', c', hae, _, hcell⟩ := HX.out.below HA.out.bel
      cases hae
      obtain ⟨ab, ao, rfl, hab, hac⟩ := hcell.resolve_left (fun e => by rw [e] at hix; simp at hix)
      have c0 := hac i hix
      have i5 : (0 : Int) ≤ (i : Int) := by omega
      have i6 : (i : Int) < (xs.length : Int) := by omega
      have i7 : IntKind.i64.wrap ((m : Int) - (k : Int)) = ((m - k : Nat) : Int) := by rw [IntKind.wrap_i64]; have := HM.out; omega
      have i8 : IntKind.i64.wrap (((m - k : Nat) : Int) + 1) = ((m - k : Nat) : Int) + 1 := by rw [IntKind.wrap_i64]; have := HM.out; omega
      have hbd := amongV_bd (xs.getD i 0) (((m - k : Nat) : Int) + 1) (by omega)
      obtain ⟨n, hn⟩ : ∃ n : Nat, amongV (xs.getD i 0) (((m - k : Nat) : Int) + 1) = (n : Int) := ⟨_, (Int.toNat_of_nonneg hbd.1).symm⟩
      have HAM := Lib.hid (Among_any (xs.getD i 0) (((m - k : Nat) : Int) + 1) wr (by omega) (by have := HM.out; omega))
      rw [hn] at hbd
      rw [hn] at HAM
      have hnm : k + n ≤ m := by omega
      have i9 : IntKind.i64.wrap ((k : Int) + (n : Int)) = ((k + n : Nat) : Int) := by rw [IntKind.wrap_i64]; have := HM.out; omega
      have i10 : IntKind.i64.wrap ((i : Int) + 1) = ((i + 1 : Nat) : Int) := by rw [IntKind.wrap_i64]; omega
      have HCB := Lib.hid (HC.out.below HA.out.bel)
      generalize xs.getD i 0 = x at *
      clear hn hbd hac hcell
      go_wp2_with (first | (go_at_call 23; with_reducible refine Calls.tells (HAM.out) ?_) | (refine wpList_piece rfl _ _ _ rfl (.slice va m vc) cs k (k + n) rfl HCB.out rfl rfl (by omega) (by omega) (by have := HM.out; omega) (fun pv hpv => ?_); have HPV := Lib.hid hpv; clear hpv; obtain ⟨pa, pn, pc, rfl⟩ := HPV.out.slice))
      refine (Feed_made wr hy yv _ (says (cs.take k)).held ((cs.drop k).take (k + n - k)) (says (cs.take k)).noise (says (cs.take k)).sums HY.out.1 HY.out.2 HPV.out ?_ ?_ ?_).mono ?_
      · have := says_held_lt (cs.take k); have := HM.out; rw [List.length_take, List.length_drop]; omega
      · have h1 := (says_frames_len _ (cs.take k) (Nat.le_refl _)).2.1; have := HM.out; rw [List.length_take] at h1; omega
      · have h1 := (says_frames_len _ (cs.take k) (Nat.le_refl _)).2.2; have := HM.out; rw [List.length_take] at h1; omega
      rw [Nat.add_sub_cancel_left]
      rintro e4 w4 ⟨fv, hv, rfl, hf, hh, hb, _, hg, h8⟩
      obtain ⟨q1, q2, q3, q4⟩ := HA.out.step (by have := HM.out; omega) hf hh hb hg h8
      have HQ := Lib.hid (And.intro q1 (And.intro q2 (And.intro (show (says (cs.take k)).frames.length + (nextS cs k n).frames.length ≤ 1000000 by have := (says_frames_len _ (cs.take (k + n)) (Nat.le_refl _)).1; rw [nextS_eq, List.length_append, List.length_take] at this; have := HM.out; omega) q4)))
      clear q1 q2 q3 q4 hf hh hb hg h8 HY
      go_wp2_with (at_builtin; refine wpList_append_frs rfl _ _ rfl u9 fv _ _ _ _ rfl HQ.out.1 rfl HQ.out.2.1 HQ.out.2.2.1 (fun v5 w5 h1 h2 h3 => ?_); have HA5 := Lib.hid (HQ.out.2.2.2 v5 w5 h1 h2 h3); clear h1 h2 h3)
      exact ⟨⟨k + n, i + 1, (by first | rfl | go_num), (by first | rfl | go_num), by omega, HA5.out⟩, by simp [intOf]; omega⟩
    · have HS := HA.out.huny
      obtain ⟨yv, hyh, hyb, _⟩ := HS
      have HY := Lib.hid (And.intro hyh hyb)
      have HCB := Lib.hid (HC.out.below HA.out.bel)
      clear hyh hyb
      have h30 : ¬ i < xs.length ∨ (i < xs.length ∧ ¬ i < 30) := by omega
      rcases h30 with h30 | ⟨h30, h31⟩
      · by_cases h32 : i < 30
        · skip
          go_wp2_with (refine wpList_from rfl _ _ rfl (.slice va m vc) cs k rfl HCB.out rfl (by have := HM.out; omega) (fun pv hpv => ?_); have HPV := Lib.hid hpv; clear hpv; obtain ⟨pa, pn, pc, rfl⟩ := HPV.out.slice)
          have hdt : (cs.drop k).take (m - k) = cs.drop k := List.take_of_length_le (by rw [List.length_drop]; have := HM.out; omega)
          have hkm : cs.take (k + (m - k)) = cs := List.take_of_length_le (by have := HM.out; omega)
          rw [← hdt] at HPV
          have HKM := Lib.hid hkm
          clear hdt hkm
          refine (Feed_made wr hy yv _ (says (cs.take k)).held ((cs.drop k).take (m - k)) (says (cs.take k)).noise (says (cs.take k)).sums HY.out.1 HY.out.2 HPV.out ?_ ?_ ?_).mono ?_
          · have := says_held_lt (cs.take k); have := HM.out; rw [List.length_take, List.length_drop]; omega
          · have h1 := (says_frames_len _ (cs.take k) (Nat.le_refl _)).2.1; have := HM.out; rw [List.length_take] at h1; omega
          · have h1 := (says_frames_len _ (cs.take k) (Nat.le_refl _)).2.2; have := HM.out; rw [List.length_take] at h1; omega
          rintro e4 w4 ⟨fv, hv, rfl, hf, hh, hb, _, hg, h8⟩
          obtain ⟨q1, q2, q3, q4⟩ := HA.out.step (n := m - k) (by have := HM.out; omega) hf hh hb hg h8
          have HQ := Lib.hid (And.intro q1 (And.intro q2 (And.intro (show (says (cs.take k)).frames.length + (nextS cs k (m - k)).frames.length ≤ 1000000 by have h1 := (says_frames_len _ (cs.take (k + (m - k))) (Nat.le_refl _)).1; rw [nextS_eq, List.length_append, List.length_take] at h1; have := HM.out; omega) q4)))
          clear q1 q2 q3 q4 hf hh hb hg h8 HY
          go_wp2_with (first | (at_builtin; refine wpList_append_frs rfl _ _ rfl u9 fv _ _ _ _ rfl HQ.out.1 rfl HQ.out.2.1 HQ.out.2.2.1 (fun v5 w5 h1 h2 h3 => ?_); have HE := Lib.hid ((HQ.out.2.2.2 v5 w5 h1 h2 h3).ends HKM.out (by have := HM.out; omega)); clear h1 h2 h3) | (go_at_call 35; (first | with_reducible refine Calls.fold HE.out.2.1 ?_ | with_reducible refine Calls.fresh HE.out.2.1 ?_); intro x6) | (go_at_call 36; with_reducible refine Calls.tells ((HE.out.2.2 _).1.1) ?_) | (go_at_call 36; with_reducible refine Calls.tells ((HE.out.2.2 _).1.2) ?_) | (go_at_call 37; with_reducible refine Calls.tells ((HE.out.2.2 _).2.1.1) ?_) | (go_at_call 37; with_reducible refine Calls.tells ((HE.out.2.2 _).2.1.2) ?_) | (go_at_call 38; with_reducible refine Calls.tells ((HE.out.2.2 _).2.2.1) ?_) | (go_at_call 38; with_reducible refine Calls.tells ((HE.out.2.2 _).2.2.2) ?_))
          go_ret
          exact Gives.mk rfl (below_up HE.out.1 HE.out.1.size _)
        · obtain rfl : i = 30 := by omega
          go_wp2_with (refine wpList_from rfl _ _ rfl (.slice va m vc) cs k rfl HCB.out rfl (by have := HM.out; omega) (fun pv hpv => ?_); have HPV := Lib.hid hpv; clear hpv; obtain ⟨pa, pn, pc, rfl⟩ := HPV.out.slice)
          have hdt : (cs.drop k).take (m - k) = cs.drop k := List.take_of_length_le (by rw [List.length_drop]; have := HM.out; omega)
          have hkm : cs.take (k + (m - k)) = cs := List.take_of_length_le (by have := HM.out; omega)
          rw [← hdt] at HPV
          have HKM := Lib.hid hkm
          clear hdt hkm
          refine (Feed_made wr hy yv _ (says (cs.take k)).held ((cs.drop k).take (m - k)) (says (cs.take k)).noise (says (cs.take k)).sums HY.out.1 HY.out.2 HPV.out ?_ ?_ ?_).mono ?_
          · have := says_held_lt (cs.take k); have := HM.out; rw [List.length_take, List.length_drop]; omega
          · have h1 := (says_frames_len _ (cs.take k) (Nat.le_refl _)).2.1; have := HM.out; rw [List.length_take] at h1; omega
          · have h1 := (says_frames_len _ (cs.take k) (Nat.le_refl _)).2.2; have := HM.out; rw [List.length_take] at h1; omega
          rintro e4 w4 ⟨fv, hv, rfl, hf, hh, hb, _, hg, h8⟩
          obtain ⟨q1, q2, q3, q4⟩ := HA.out.step (n := m - k) (by have := HM.out; omega) hf hh hb hg h8
          have HQ := Lib.hid (And.intro q1 (And.intro q2 (And.intro (show (says (cs.take k)).frames.length + (nextS cs k (m - k)).frames.length ≤ 1000000 by have h1 := (says_frames_len _ (cs.take (k + (m - k))) (Nat.le_refl _)).1; rw [nextS_eq, List.length_append, List.length_take] at h1; have := HM.out; omega) q4)))
          clear q1 q2 q3 q4 hf hh hb hg h8 HY
          go_wp2_with (first | (at_builtin; refine wpList_append_frs rfl _ _ rfl u9 fv _ _ _ _ rfl HQ.out.1 rfl HQ.out.2.1 HQ.out.2.2.1 (fun v5 w5 h1 h2 h3 => ?_); have HE := Lib.hid ((HQ.out.2.2.2 v5 w5 h1 h2 h3).ends HKM.out (by have := HM.out; omega)); clear h1 h2 h3) | (go_at_call 35; (first | with_reducible refine Calls.fold HE.out.2.1 ?_ | with_reducible refine Calls.fresh HE.out.2.1 ?_); intro x6) | (go_at_call 36; with_reducible refine Calls.tells ((HE.out.2.2 _).1.1) ?_) | (go_at_call 36; with_reducible refine Calls.tells ((HE.out.2.2 _).1.2) ?_) | (go_at_call 37; with_reducible refine Calls.tells ((HE.out.2.2 _).2.1.1) ?_) | (go_at_call 37; with_reducible refine Calls.tells ((HE.out.2.2 _).2.1.2) ?_) | (go_at_call 38; with_reducible refine Calls.tells ((HE.out.2.2 _).2.2.1) ?_) | (go_at_call 38; with_reducible refine Calls.tells ((HE.out.2.2 _).2.2.2) ?_))
          go_ret
          exact Gives.mk rfl (below_up HE.out.1 HE.out.1.size _)
      · obtain rfl : i = 30 := by omega
        have h33 : (30 : Int) < (xs.length : Int) := by omega
        go_wp2_with (refine wpList_from rfl _ _ rfl (.slice va m vc) cs k rfl HCB.out rfl (by have := HM.out; omega) (fun pv hpv => ?_); have HPV := Lib.hid hpv; clear hpv; obtain ⟨pa, pn, pc, rfl⟩ := HPV.out.slice)
        have hdt : (cs.drop k).take (m - k) = cs.drop k := List.take_of_length_le (by rw [List.length_drop]; have := HM.out; omega)
        have hkm : cs.take (k + (m - k)) = cs := List.take_of_length_le (by have := HM.out; omega)
        rw [← hdt] at HPV
        have HKM := Lib.hid hkm
        clear hdt hkm
        refine (Feed_made wr hy yv _ (says (cs.take k)).held ((cs.drop k).take (m - k)) (says (cs.take k)).noise (says (cs.take k)).sums HY.out.1 HY.out.2 HPV.out ?_ ?_ ?_).mono ?_
        · have := says_held_lt (cs.take k); have := HM.out; rw [List.length_take, List.length_drop]; omega
        · have h1 := (says_frames_len _ (cs.take k) (Nat.le_refl _)).2.1; have := HM.out; rw [List.length_take] at h1; omega
        · have h1 := (says_frames_len _ (cs.take k) (Nat.le_refl _)).2.2; have := HM.out; rw [List.length_take] at h1; omega
        rintro e4 w4 ⟨fv, hv, rfl, hf, hh, hb, _, hg, h8⟩
        obtain ⟨q1, q2, q3, q4⟩ := HA.out.step (n := m - k) (by have := HM.out; omega) hf hh hb hg h8
        have HQ := Lib.hid (And.intro q1 (And.intro q2 (And.intro (show (says (cs.take k)).frames.length + (nextS cs k (m - k)).frames.length ≤ 1000000 by have h1 := (says_frames_len _ (cs.take (k + (m - k))) (Nat.le_refl _)).1; rw [nextS_eq, List.length_append, List.length_take] at h1; have := HM.out; omega) q4)))
        clear q1 q2 q3 q4 hf hh hb hg h8 HY
        go_wp2_with (first | (at_builtin; refine wpList_append_frs rfl _ _ rfl u9 fv _ _ _ _ rfl HQ.out.1 rfl HQ.out.2.1 HQ.out.2.2.1 (fun v5 w5 h1 h2 h3 => ?_); have HE := Lib.hid ((HQ.out.2.2.2 v5 w5 h1 h2 h3).ends HKM.out (by have := HM.out; omega)); clear h1 h2 h3) | (go_at_call 35; (first | with_reducible refine Calls.fold HE.out.2.1 ?_ | with_reducible refine Calls.fresh HE.out.2.1 ?_); intro x6) | (go_at_call 36; with_reducible refine Calls.tells ((HE.out.2.2 _).1.1) ?_) | (go_at_call 36; with_reducible refine Calls.tells ((HE.out.2.2 _).1.2) ?_) | (go_at_call 37; with_reducible refine Calls.tells ((HE.out.2.2 _).2.1.1) ?_) | (go_at_call 37; with_reducible refine Calls.tells ((HE.out.2.2 _).2.1.2) ?_) | (go_at_call 38; with_reducible refine Calls.tells ((HE.out.2.2 _).2.2.1) ?_) | (go_at_call 38; with_reducible refine Calls.tells ((HE.out.2.2 _).2.2.2) ?_))
        go_ret
        exact Gives.mk rfl (below_up HE.out.1 HE.out.1.size _)
end Go.Proofs.Ytjkgodhoonkinaa
