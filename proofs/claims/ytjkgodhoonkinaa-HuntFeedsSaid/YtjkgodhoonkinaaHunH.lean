/-
  The walk over the law HuntFeeds.
-/
import Derived.Test.YtjkgodhoonkinaaHunG
namespace Go.Proofs.Ytjkgodhoonkinaa
open Go.RowKit
set_option linter.unusedVariables false
set_option linter.unusedSimpArgs false

/-- want and what the reference says, laid into a slice of one's own. -/
theorem below_two {w5 w7 w8 : World} {v7 : Value} (h1 : (w5.alloc (.cells #[] 28)).grownBy w7 (some w5.heap.size)) (h2 : w7.grownBy w8 v7.ownBlock) (h3 : v7.ownBlock = some w5.heap.size ∨ v7.ownBlock = some (w5.alloc (.cells #[] 28)).heap.size) : Below w5.heap.size w5 w8 := by
  have k1 : Below w5.heap.size w5 w7 := ((Below.refl _ _).alloc (Nat.le_refl _) _).grown h1 (by simp) (fun b hb => by simp only [Option.some.injEq] at hb; omega)
  exact k1.grown h2 k1.size (fun b hb => by rcases h3 with h3 | h3 <;> (rw [h3] at hb; simp at hb; omega))
theorem list_same {w : World} {gv v8 : Value} {G T : List FrmS} {S : Said} {A : List Nat} {P Q : Nat → Prop} (hg : FrsP w gv G P) (h8 : FrsP w v8 ([] ++ T ++ S.frames) Q) (he : G = T ++ (says A).frames) (hS : says A = S) (hl : T.length + S.frames.length ≤ 1000000) : Calls Try.prog 35 #[gv, v8] w (Gives w (.bool true)) := by
  rw [hS] at he
  subst he
  have h := list_any gv v8 _ _ 0 0 w hg.frs h8.frs (by rw [List.length_append]; exact hl)
  rw [List.nil_append, sameL_yes] at h
  exact h
theorem hun_eq {w : World} {h N M : Nat} {hv : Value} {A : List Nat} {S : Said} (H : HunAt w h hv ((N + (says A).noise : Nat) : Int) ((M + (says A).sums : Nat) : Int) true) (hS : says A = S) : HunAt w h hv ((N + S.noise : Nat) : Int) ((M + S.sums : Nat) : Int) true := by rw [hS] at H; exact H
set_option maxRecDepth 200000 in
set_option maxHeartbeats 4000000 in
theorem HuntFeeds_any (a : Option Addr) (n cap : Nat) (av : Value) (ls : List (List Nat)) (xs : List Int) (w : World) (hv : BtsL w (.slice a n cap) ls) (ha : Ints w av xs) :
    Calls Try.prog 11 #[.slice a n cap, av] w (Gives w (.bool true)) := by
  have HE := Lib.hid hv.elem
  have hn := hv.elem.2.1
  clear hv
  have HX := Lib.hid ha
  clear ha
  go_enter Try.func11, Try.ntmps11
  go_wp2_with fail
  refine (HNew_any _).mono ?_
  rintro e1 w1 ⟨rfl, hb1, hh1, hl1⟩
  have H1 := Lib.hid (And.intro hb1 (And.intro hh1 hl1))
  clear hb1 hh1 hl1
  generalize hh : w.heap.size = h at *
  go_wp2_with fail
  have H0 := Lib.hid (show FeedsAt w h (((w1.alloc (.cells #[] 5)).alloc (.cells #[] 28)).alloc (.cells #[] 28)) (.slice (some ⟨w1.heap.size, 0, none⟩) 0 0) (.slice (some ⟨w1.heap.size + 1, 0, none⟩) 0 0) (.slice (some ⟨w1.heap.size + 1 + 1, 0, none⟩) 0 0) (.slice none 0 0) [] [] [] 0 0 0 0 from by
    have k1 := OwnB.empty w1
    have k2 := (FrsO.empty (w1.alloc (.cells #[] 5))).frsP
    have k3 := (FrsO.empty ((w1.alloc (.cells #[] 5)).alloc (.cells #[] 28))).frsP
    rw [World.size_alloc] at k2
    rw [World.size_alloc, World.size_alloc] at k3
    have b1 : Below w1.heap.size w1 (w1.alloc (.cells #[] 5)) := (Below.refl _ _).alloc (Nat.le_refl _) _
    have b2 : Below (w1.heap.size + 1) (w1.alloc (.cells #[] 5)) ((w1.alloc (.cells #[] 5)).alloc (.cells #[] 28)) := (Below.refl _ _).alloc (by simp) _
    have b3 : Below (w1.heap.size + 1 + 1) ((w1.alloc (.cells #[] 5)).alloc (.cells #[] 28)) (((w1.alloc (.cells #[] 5)).alloc (.cells #[] 28)).alloc (.cells #[] 28)) := (Below.refl _ _).alloc (by simp) _
    have hz := H1.out.2.2
    have b4 := b1.trans ((b2.trans (b3.mono (by omega))).mono (by omega))
    refine ⟨by rw [hh]; exact H1.out.1.trans (b4.mono (by omega)), ⟨by omega, by simp; omega⟩, ((k1.mono (Nat.zero_le _)).below b2 (by simp)).below b3 (by simp), fun b hb => (by simp only [Value.ownBlock, Option.some.injEq] at hb; omega), (k2.imp (fun b hb => ⟨by omega, fun e => by simp only [Value.ownBlock, Option.some.injEq] at e; omega⟩)).below (b3.mono (by simp)), fun b hb => (by simp only [Value.ownBlock, Option.some.injEq] at hb; omega), k3.imp (fun b hb => ⟨by omega, fun e => by simp only [Value.ownBlock, Option.some.injEq] at e; omega⟩), fun b hb => (by simp only [Value.ownBlock, Option.some.injEq] at hb; omega), .inr (fun e => by simp [Value.ownBlock] at e), ?_, ?_, fun b hb => (by cases hb), by rw [says_nil]; rfl, by simp, by simp, by simp, by simp⟩
    · rw [says_nil]
      exact H1.out.2.1.below b4 hz
    · rw [says_nil]; exact nil_bts _)
  go_loopw [6, 7, 8, 9, 10, 11] (fun v6 v7 v8 v9 v10 v11 wr => ∃ (A : List Nat) (G T : List FrmS) (N M c : Nat) (hv : Value), v9 = .int .i64 (N : Int) ∧ v10 = .int .i64 (M : Int) ∧ v11 = .int .i64 (c : Int) ∧ c ≤ 30 ∧ FeedsAt w h wr v6 v7 v8 hv A G T N M c c) (fun _ _ _ _ _ v11 _ => 31 - (intOf v11).toNat)
  case atStart => exact ⟨[], [], [], 0, 0, 0, .slice none 0 0, rfl, rfl, rfl, by omega, H0.out⟩
  case round =>
    obtain ⟨A, G, T, N, M, c, hv, rfl, rfl, rfl, hc, hA⟩ := hrel
    have HA := Lib.hid hA
    clear hA H0 H1
    by_cases hkn : c < n
    · by_cases hk30 : c < 30
      · obtain ⟨hnl, _, h0 | ⟨b, off, rfl, hb, hcell⟩⟩ := HE.out
        · omega
        have hb' : b < w.heap.size := by rw [hh]; exact hb
        obtain ⟨u, hu, hbu⟩ := hcell c hkn
        obtain ⟨ua, un, uc, rfl⟩ := hbu.slice
        have hroom := bts_room hbu
        have hu' : wr.cell? ⟨b, off + c, none⟩ = some (.slice ua un uc) := by rw [HA.out.bel.cell (p := ⟨b, off + c, none⟩) hb']; exact hu
        have HP := Lib.hid (hbu.cutV 300)
        haveI hlt : LtSize b wr := ⟨Nat.lt_of_lt_of_le hb' HA.out.bel.size⟩
        have HPL := Lib.hid (show ((ls.getD c []).take 300).length ≤ 300 by rw [List.length_take]; omega)
        clear hu hbu hcell HE hnl
        generalize (ls.getD c []).take 300 = p at *
        obtain ⟨m, hm⟩ : ∃ m, m = min un 300 := ⟨_, rfl⟩
        have i0 : (if (300 : Int) < (un : Int) then (300 : Int) else (un : Int)) = (m : Int) := by split <;> omega
        have i3 : (0 : Int) ≤ (m : Int) := by omega
        have i4 : (m : Int) ≤ (uc : Int) := by omega
        have i5 : (0 : Int) ≤ (c : Int) := by omega
        have i6 : (c : Int) < (n : Int) := by omega
        rw [show cutV 300 (.slice ua un uc) = .slice ua m uc from by simp [cutV]; omega] at HP
        clear hm hroom
        go_wp2_with fail
        (refine wp_region_tail 11 (by kernel_rfl) (by kernel_rfl) ?_; simp only [List.take_succ_cons, List.take_zero, List.drop_succ_cons, List.drop_zero]; still_step; still_step; still_step; still_step; still_step; still_step; still_step; still_step; still_step; still_step; still_step; (with_reducible refine wpStill_nil ?_))
        go_wp2_with fail
        refine (Bytes_any _ p _ (HP.out.below ((HA.out.bel).drew)) (by have := HPL.out; omega)).mono ?_
        rintro e2 w2 ⟨g2, c2, rfl, _, _, ho2, hb2⟩
        have HB := Lib.hid (HA.out.below (((Below.refl _ wr).drew).trans hb2))
        have HO := Lib.hid ho2.bts
        clear ho2 hb2 HA
        go_wp2_with fail
        refine (Feed_made w2 h hv _ (says A).held p (N + (says A).noise) (M + (says A).sums) HB.out.hun HB.out.hb HO.out ?_ ?_ ?_).mono ?_
        · have := says_held_lt A; have := HPL.out; omega
        · have h1 := (says_frames_len _ A (Nat.le_refl _)).2.1; have h2 := HB.out.la; have h3 := HB.out.ln; omega
        · have h1 := (says_frames_len _ A (Nat.le_refl _)).2.2; have h2 := HB.out.la; have h3 := HB.out.lm; omega
        rintro e3 w3 ⟨lv, hv3, rfl, hf3, hh3, hb3, ho3, hg3, h83⟩
        obtain ⟨ha3, hn3, hc3, rfl⟩ := hb3.slice
        obtain rfl := hb3.len
        obtain ⟨q1, q2, q3, q4⟩ := HB.out.feed HPL.out HP.out.1 hc hf3 hh3 hb3 ho3 hg3 h83
        have hGL : G.length + (newS A p).frames.length ≤ 1000000 := by
          have h1 := HB.out.eq
          have h2 := (says_frames_len _ (A ++ p) (Nat.le_refl _)).1
          have h3 := HB.out.la
          have h4 := HB.out.lt
          have h5 := HPL.out
          rw [newS_eq, List.length_append, List.length_append] at h2
          rw [h1, List.length_append]
          omega
        have HQ := Lib.hid (And.intro q1 (And.intro q2 (And.intro hGL q4)))
        have hAP : A.length + p.length ≤ 140737488355328 := by have h3 := HB.out.la; have h5 := HPL.out; omega
        have HAP := Lib.hid hAP
        clear q1 q2 q3 q4 hf3 hh3 hb3 ho3 hg3 h83 hGL hAP HO
        go_upto_region 14 with (first | (at_builtin; refine wpList_append_frs rfl _ _ rfl u7 lv G _ _ _ rfl HQ.out.1 rfl HQ.out.2.1 HQ.out.2.2.1 (fun v4 w4 h1 h2 h3 => ?_); have HQ4 := Lib.hid (HQ.out.2.2.2 v4 w4 h1 h2 h3); clear h1 h2 h3) | (at_builtin; refine wpList_append_bts_at rfl _ _ rfl u6 (.slice ua m uc) A p rfl HQ4.out.1 rfl (HP.out.below HQ4.out.2.1) HAP.out (fun v5 w5 h1 h2 h3 => ?_); have HA5 := Lib.hid (HQ4.out.2.2 v5 w5 h1 h2 h3); clear h1 h2 h3))
        go_wp2_with fail
        refine (Says_any v5 (A ++ p) w5 HA5.out.all.bts (by rw [List.length_append]; have := HA5.out.la; rw [List.length_append] at this; omega)).mono ?_
        rintro e6 w6 ⟨fv, rfl, hf6, hb6⟩
        have hA6 := HA5.out.below hb6
        have hSH : (newS A p).held.length = (says (A ++ p)).held.length := by rw [newS_eq]
        rw [hSH] at hA6
        clear hSH
        have hlen := says_frames_len _ (A ++ p) (Nat.le_refl _)
        have hheld := says_held_lt (A ++ p)
        generalize hS : says (A ++ p) = S at *
        have HS := Lib.hid hS
        have HLA := Lib.hid (show (A ++ p).length ≤ 9300 by have := hA6.la; omega)
        have HT := Lib.hid (show T.length ≤ 300000 ∧ N ≤ 300000 ∧ M ≤ 300000 by have h1 := hA6.lt; have h2 := hA6.ln; have h3 := hA6.lm; omega)
        have HSL := Lib.hid (show S.frames.length ≤ 9300 ∧ S.noise ≤ 9300 ∧ S.sums ≤ 9300 by have := HLA.out; omega)
        have hF6 : FrsP w6 fv S.frames (fun b => h < b) := hf6.frsP.imp (fun b hb => by have := HA5.out.ord.2; omega)
        have hF6b : ∀ b, fv.ownBlock = some b → h < b := fun b hb => by have := hf6.own b hb; have := HA5.out.ord.2; omega
        have hAl : Below w6.heap.size w6 (w6.alloc (.cells #[] 28)) := (Below.refl _ _).alloc (Nat.le_refl _) _
        have HE6 := Lib.hid (And.intro (FrsO.empty w6).frsP (hA6.want.below hAl))
        have HF6 := Lib.hid (And.intro hF6 hF6b)
        have HA6 := Lib.hid hA6
        have HL7 := Lib.hid (show ([] : List FrmS).length + T.length ≤ 1000000 by have := HT.out; simp; omega)
        have HL8 := Lib.hid (show ([] ++ T : List FrmS).length + S.frames.length ≤ 1000000 by have := HT.out; have := HSL.out; simp; omega)
        have hn1 : IntKind.i64.wrap ((N : Int) + (S.noise : Int)) = ((N + S.noise : Nat) : Int) := by rw [IntKind.wrap_i64]; have := HT.out; have := HSL.out; omega
        have hm1 : IntKind.i64.wrap ((M : Int) + (S.sums : Int)) = ((M + S.sums : Nat) : Int) := by rw [IntKind.wrap_i64]; have := HT.out; have := HSL.out; omega
        have hd85 : (S.held.length : Int) < 85 := by omega
        clear hf6 hb6 hA6 hlen hheld hS hF6 hF6b hAl HQ4 HA5 HQ HB HAP
        go_upto_region 15 with fail
        go_upto_region 17 with (first | (at_builtin; refine wpList_append_frs rfl (.tmp 67) (.tmp 68) rfl (.slice (some ⟨w6.heap.size, 0, none⟩) 0 0) u8 [] T _ _ rfl HE6.out.1 rfl HE6.out.2 HL7.out (fun v7 w7 h1 h2 h3 => ?_); have H7 := Lib.hid (And.intro h1 (And.intro h2 h3)); clear h1 h2 h3; have HF7 := Lib.hid (HF6.out.1.below (((Below.refl _ _).alloc (Nat.le_refl _) _).grown H7.out.2.1 (by simp) (fun b hb => by simp only [Value.ownBlock, Option.some.injEq] at hb; omega)))) | (at_builtin; refine wpList_append_frs rfl (.tmp 69) (.tmp 70) rfl v7 fv ([] ++ T) S.frames _ _ rfl H7.out.1 rfl HF7.out HL8.out (fun v8 w8 h1 h2 h3 => ?_); have HB8 := Lib.hid (below_two H7.out.2.1 h2 H7.out.2.2); have H8 := Lib.hid (HA6.out.below HB8.out); have HU8 := Lib.hid (hun_eq H8.out.hun HS.out); have HLS := Lib.hid (list_same H8.out.got h1 H8.out.eq HS.out (by have := HT.out; have := HSL.out; omega)); clear h1 h2 h3) | (go_at_call 35; (first | with_reducible refine Calls.fresh HLS.out ?_); intro x6) | (go_at_call 36; with_reducible refine Calls.tells (Noise_made _ _ _ _ _ HU8.out.up) ?_) | (go_at_call 37; with_reducible refine Calls.tells (Sums_made _ _ _ _ _ HU8.out.up) ?_) | (go_at_call 38; with_reducible refine Calls.tells (Held_made _ _ _ _ _ _ _ HU8.out.up) ?_))
        have HA9 := Lib.hid (H8.out.below (up_below w8 x6))
        have HU9 := Lib.hid (hun_eq HA9.out.hun HS.out)
        have HF9 := Lib.hid (And.intro ((HF6.out.1.below HB8.out).below (up_below w8 x6)) HF6.out.2)
        have HX9 := Lib.hid (HX.out.below HA9.out.bel)
        have i10 : IntKind.i64.wrap ((c : Int) + 1) = ((c + 1 : Nat) : Int) := by rw [IntKind.wrap_i64]; omega
        clear HB8 H8 HU8 H7 HF7 HLS HE6 HA6
        generalize up w8 x6 = w9 at *
        by_cases hdr : xs.contains (c : Int) = true
        · have HHI := Lib.hid (HasInt_any av xs (c : Int) w9 HX9.out)
          rw [hdr] at HHI
          go_wp2_with (go_at_call 45; with_reducible refine Calls.tells (HHI.out) ?_)
          refine (Drop_made w9 h _ _ _ (N + S.noise) _ HU9.out (by have := HT.out; have := HSL.out; omega)).mono ?_
          rintro e10 w10 ⟨⟨_, rfl⟩, hh10, hg10⟩
          have hD := HA9.out.drop (by omega) (by rw [HS.out]; exact HF9.out.1) HF9.out.2 (by rw [HS.out]; exact hh10) hg10
          rw [HS.out] at hD
          have HD := Lib.hid hD
          have hn2 : IntKind.i64.wrap ((N : Int) + (S.noise : Int) + (S.held.length : Int)) = ((N + S.noise + S.held.length : Nat) : Int) := by rw [IntKind.wrap_i64]; have := HT.out; have := HSL.out; omega
          have HL11 := Lib.hid (show T.length + S.frames.length ≤ 1000000 by have := HT.out; have := HSL.out; omega)
          clear hD hh10 hg10 HA9 HU9 HF9 HHI
          go_wp2_with (first | (at_builtin; refine wpList_append_frs rfl (.tmp 106) (.tmp 107) rfl u8 fv T S.frames _ _ rfl HD.out.1 rfl HD.out.2.1 HL11.out (fun v11 w11 h1 h2 h3 => ?_); have H11 := Lib.hid (HD.out.2.2.2 v11 w11 h1 h2 h3); have HU11 := Lib.hid (hun_eq H11.out.hun says_nil); clear h1 h2 h3) | (go_at_call 36; with_reducible refine Calls.tells (Noise_made _ _ _ _ _ HU11.out) ?_) | (go_at_call 38; with_reducible refine Calls.tells (Held_made _ _ _ _ _ _ _ HU11.out) ?_))
          exact ⟨⟨[], _, _, _, _, c + 1, _, (by first | rfl | go_num), (by first | rfl | go_num), (by first | rfl | go_num), by omega, H11.out⟩, by simp [intOf]; omega⟩
        · have HHI := Lib.hid (HasInt_any av xs (c : Int) w9 HX9.out)
          rw [Bool.eq_false_iff.2 hdr] at HHI
          go_wp2_with (go_at_call 45; with_reducible refine Calls.tells (HHI.out) ?_)
          exact ⟨⟨_, _, _, _, _, c + 1, _, (by first | rfl | go_num), (by first | rfl | go_num), (by first | rfl | go_num), by omega, HA9.out.later⟩, by simp [intOf]; omega⟩
      · obtain rfl : c = 30 := by omega
        have h33 : (30 : Int) < (n : Int) := by omega
        go_wp2_with (go_at_call 32; (first | with_reducible refine Calls.fold (works14 _) ?_ | with_reducible refine Calls.fresh (works14 _) ?_); intro x1)
        go_ret
        exact Gives.mk rfl (below_up HA.out.bel HA.out.bel.size _)
    · by_cases h32 : c < 30
      · skip
        go_wp2_with (go_at_call 32; (first | with_reducible refine Calls.fold (works14 _) ?_ | with_reducible refine Calls.fresh (works14 _) ?_); intro x1)
        go_ret
        exact Gives.mk rfl (below_up HA.out.bel HA.out.bel.size _)
      · obtain rfl : c = 30 := by omega
        go_wp2_with (go_at_call 32; (first | with_reducible refine Calls.fold (works14 _) ?_ | with_reducible refine Calls.fresh (works14 _) ?_); intro x1)
        go_ret
        exact Gives.mk rfl (below_up HA.out.bel HA.out.bel.size _)
end Go.Proofs.Ytjkgodhoonkinaa
