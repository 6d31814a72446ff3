/-
  The reference's store: counts, the walk.
-/
import Derived.Test.YtjkgodhoonkinaaBnkK
namespace Go.Proofs.Ytjkgodhoonkinaa
open Go.RowKit
set_option linter.unusedVariables false
set_option linter.unusedSimpArgs false

theorem rdR_ok {x : List Nat} (h : ∀ y ∈ x, y < 256) : RecOK (rdR x) := by
  unfold rdR
  split
  · exact bnkR_ok (fun y hy => h y (List.mem_of_mem_drop hy))
  · exact zeroR_ok
set_option maxRecDepth 100000 in
set_option maxHeartbeats 3200000 in
theorem rcounts_any (w : World) (s : Nat) (v0 v1 : Value) (bg : Int) (x0 x1 : List Nat) (H : RstAt w s v0 v1 bg) (h0 : Bts w v0 x0) (h1 : Bts w v1 x1) (l0 : x0.length ≤ 1000000) (l1 : x1.length ≤ 1000000) :
    Calls Try.prog 81 #[.pointer (some ⟨s, 0, none⟩)] w (Gives w (.int .i64 (rcnt x0 x1))) := by
  have HH := Lib.hid H
  have HR0 := Lib.hid (rread_any w s 0 v0 x0 (by omega) H.lt (H.at_ 0 (by omega)) h0 l0)
  have HR1 := Lib.hid (fun (W : World) (hb : Below w.heap.size w W) => rread_any W s 1 v1 x1 (by omega) (H.below hb H.lt).lt ((H.below hb H.lt).at_ 1 (by omega)) (h1.below hb) l1)
  have hok0 := rdR_ok h0.1
  have hok1 := rdR_ok h1.1
  obtain ⟨e0, he0⟩ : ∃ e, e = (rdR x0).getD 0 0 := ⟨_, rfl⟩
  obtain ⟨e1, he1⟩ : ∃ e, e = (rdR x1).getD 0 0 := ⟨_, rfl⟩
  have HRC := Lib.hid (show rcnt x0 x1 = if goodX x0 = true ∧ (goodX x1 = false ∨ e1 ≤ e0) then 0 else if goodX x1 = true then 1 else -1 by rw [he0, he1]; rfl)
  have HZ0 := Lib.hid (show (recL (rdR x0))[0]? = some (.int .u32 (e0 : Int)) by rw [he0]; exact recL_get hok0.1 0 (by omega))
  have HZ1 := Lib.hid (show (recL (rdR x1))[0]? = some (.int .u32 (e1 : Int)) by rw [he1]; exact recL_get hok1.1 0 (by omega))
  have HL0 := Lib.hid (And.intro (recL_length hok0.1) (recL_one hok0.1))
  have HL1 := Lib.hid (And.intro (recL_length hok1.1) (recL_one hok1.1))
  obtain ⟨L0, hL0⟩ : ∃ L, L = recL (rdR x0) := ⟨_, rfl⟩
  obtain ⟨L1, hL1⟩ : ∃ L, L = recL (rdR x1) := ⟨_, rfl⟩
  rw [← hL0] at HR0 HZ0 HL0
  rw [← hL1] at HR1 HZ1 HL1
  obtain ⟨rc, hrc⟩ : ∃ r, r = rcnt x0 x1 := ⟨_, rfl⟩
  rw [← hrc] at HRC ⊢
  clear hrc
  generalize goodX x0 = g0 at *
  generalize goodX x1 = g1 at *
  clear H h0 h1 l0 l1 hok0 hok1 he0 he1 hL0 hL1
  go_enter Try.func81, Try.ntmps81
  go_wp2_with fail
  refine HR0.out.mono ?_
  rintro a1 w1 ⟨rfl, y1, rfl⟩
  have hs := store_newR (up w y1) 69 L0 HL0.out.1 HL0.out.2
  have hst := hs.1
  have hml := HL0.out.1
  have HS := Lib.hid (And.intro hs.2.1 (And.intro hs.2.2.1 hs.2.2.2.2))
  clear hs
  go_upto_region 2 with fail
  obtain ⟨q, hq⟩ : ∃ q, q = (up w y1).heap.size := ⟨_, rfl⟩
  rw [← hq]
  rw [← hq] at HS
  refine wp_gen (fun W => Below w.heap.size w W ∧ W.cell? ⟨q, 0, none⟩ = some (.int .u32 (e0 : Int)) ∧ q < W.heap.size) ⟨(up_below w y1).trans (HS.out.1.mono (hq ▸ up_size w y1)), by have := HS.out.2.1 0 _ HZ0.out; exact this, HS.out.2.2⟩ ?_
  clear hst hml HS hq
  rintro W1 ⟨hb1, hc1, hl1⟩
  have H1 := Lib.hid (And.intro hb1 (And.intro hc1 hl1))
  have HRR := Lib.hid (HR1.out W1 hb1)
  clear hb1 hc1 hl1
  go_wp2_with fail
  refine HRR.out.mono ?_
  rintro a2 w2 ⟨rfl, y2, rfl⟩
  have hs := store_newR (up W1 y2) 69 L1 HL1.out.1 HL1.out.2
  have hst := hs.1
  have hml := HL1.out.1
  have HS := Lib.hid (And.intro hs.2.1 (And.intro hs.2.2.1 hs.2.2.2.2))
  clear hs
  go_upto_region 3 with fail
  obtain ⟨r, hr⟩ : ∃ r, r = (up W1 y2).heap.size := ⟨_, rfl⟩
  rw [← hr]
  rw [← hr] at HS
  have hb : Below W1.heap.size W1 _ := (up_below W1 y2).trans (HS.out.1.mono (hr ▸ up_size W1 y2))
  refine wp_gen (fun W => Below w.heap.size w W ∧ W.cell? ⟨q, 0, none⟩ = some (.int .u32 (e0 : Int)) ∧ W.cell? ⟨r, 0, none⟩ = some (.int .u32 (e1 : Int))) ⟨H1.out.1.trans (hb.mono H1.out.1.size), by rw [hb.cell (p := ⟨q, 0, none⟩) H1.out.2.2]; exact H1.out.2.1, by have := HS.out.2.1 0 _ HZ1.out; exact this⟩ ?_
  clear hst hml HS hr hb H1 HRR HR0 HR1 HH
  rintro W2 ⟨hb2, hc2, hd2⟩
  have H2 := Lib.hid hb2
  clear hb2
  cases g0
  · cases g1
    · go_wp2_with fail
      go_ret
      exact Gives.mk (by rw [HRC.out]; simp) H2.out
    · go_wp2_with fail
      go_ret
      exact Gives.mk (by rw [HRC.out]; simp) H2.out
  · cases g1
    · go_wp2_with fail
      go_ret
      exact Gives.mk (by rw [HRC.out]; simp) H2.out
    · by_cases hle : e1 ≤ e0
      · have hd : (e1 : Int) ≤ (e0 : Int) := by omega
        go_wp2_with fail
        go_ret
        exact Gives.mk (by rw [HRC.out]; simp [hle]) H2.out
      · have hd : ¬ (e1 : Int) ≤ (e0 : Int) := by omega
        go_wp2_with fail
        go_ret
        exact Gives.mk (by rw [HRC.out]; simp [hle]) H2.out
end Go.Proofs.Ytjkgodhoonkinaa
