/-
  The judge: the axes come to the monitor.
-/
import Derived.Test.YtihalkpcddnikaaWatB
namespace Go.Proofs.Ytihalkpcddnikaa
open Go.RowKit Go.Maps
set_option linter.unusedVariables false
set_option linter.unusedSimpArgs false

def DriftR (w : World) (p : JB) (S : JS) (n : Nat) (s : Int) (x : Rd) (e : Ending) (w' : World) : Prop :=
  e = .returned (.bool (drB S.slack S.most S.G s x x.ax.toNat)) ∧ JAt w' p { S with G := drG S.slack S.G s x x.ax.toNat } (n + 3) ∧ FrJ w w' p
/-- A round of drifts. -/
structure DrAt (w : World) (p : JB) (S : JS) (n : Nat) (s : Int) (x : Rd) (k : Nat) (wr : World) : Prop where
  j : JAt wr p { S with G := drG S.slack S.G s x k } (n + k)
  f : FrJ w wr p
  lt : w.heap.size < wr.heap.size
  c : ∀ i, i < 3 → wr.cell? ⟨w.heap.size, 6 + i, none⟩ = some (.int .i64 (x.of i))
theorem goodPl_of {s : Int} (hs : srcB s = true) {k : Nat} (hk : k < 3) : goodPl s k = true := by
  unfold goodPl
  rw [hs]
  simp
  omega
set_option maxRecDepth 100000 in
theorem drifts_any {w : World} {p : JB} {S : JS} {n : Nat} (h : JAt w p S n) (hn : n < 999990) {s : Int} (hs : srcB s = true) (hs2 : I64 s) {x : Rd} (hx : x.OK) (h1 : 1 ≤ x.ax) (h3 : x.ax ≤ 3) :
    Calls Try.prog 61 #[.pointer (some ⟨p.j, 0, none⟩), .int .i64 s, .agg #[.int .i64 x.ax, .int .i64 x.tk, .int .i64 x.ag, .int .i64 x.s0, .int .i64 x.s1, .int .i64 x.s2, .int .i64 x.o0, .int .i64 x.o1, .int .i64 x.o2]] w (DriftR w p S n s x) := by
  have HJ := Lib.hid h
  have HX := Lib.hid hx
  obtain ⟨N, hN⟩ : ∃ N : Nat, x.ax = (N : Int) := ⟨x.ax.toNat, by omega⟩
  unfold DriftR
  rw [hN]
  have hN1 : 1 ≤ N := by omega
  have hN3 : N ≤ 3 := by omega
  have hN3i : (N : Int) ≤ 3 := by omega
  rw [show ((N : Int)).toNat = N by omega]
  have H0 := Lib.hid (show ∀ i, i < 3 → (w.alloc (Obj.cells #[.int .i64 (N : Int), .int .i64 x.tk, .int .i64 x.ag, .int .i64 x.s0, .int .i64 x.s1, .int .i64 x.s2, .int .i64 x.o0, .int .i64 x.o1, .int .i64 x.o2] 71)).cell? ⟨w.heap.size, 6 + i, none⟩ = some (.int .i64 (x.of i)) from fun i hi => by
    obtain rfl | rfl | rfl : i = 0 ∨ i = 1 ∨ i = 2 := by omega
    · simp [Rd.of]
    · simp [Rd.of]
    · simp [Rd.of])
  have HN := Lib.hid hN
  clear h hx hN h1 h3
  go_enter Try.func61, Try.ntmps61
  go_wp2_with fail
  go_loopw [7, 17] (fun v7 v17 wr => ∃ k : Nat, k ≤ N ∧ v17 = .int .i64 (k : Int) ∧ v7 = .bool (drB S.slack S.most S.G s x k) ∧ DrAt w p S n s x k wr) (fun _ v17 _ => N - (intOf v17).toNat)
  case atStart =>
    exact ⟨0, by omega, rfl, rfl, HJ.out.below ((Below.refl _ _).alloc (Nat.le_refl _) _), FrJ.below ((Below.refl _ _).alloc (Nat.le_refl _) _), by simp, H0.out⟩
  case round =>
    obtain ⟨k, hk, rfl, rfl, hd⟩ := hrel
    have HD := Lib.hid hd
    clear hd
    by_cases hkN : k < N
    · have hkI : (k : Int) < (N : Int) := by omega
      have c0 := HD.out.c k (by omega)
      have c4 := HD.out.j.c4
      have hgd := goodPl_of hs (show k < 3 by omega)
      have HS := Lib.hid (cStep_good hgd hs2 (show I64 (k : Int) from ⟨by omega, by omega⟩) (HX.out.of k) (HD.out.j.cu) (by omega) HD.out.j.ok.gb HD.out.j.ok.s1 HD.out.j.ok.s2 HD.out.j.ok.s3)
      clear hgd
      dsimp only at HS
      have HE := Lib.hid (show drB S.slack S.most S.G s x (k + 1) = (drB S.slack S.most S.G s x k || decide (S.most < (stepP S.slack (drG S.slack S.G s x k s k) (x.of k)).up ∨ S.most < (stepP S.slack (drG S.slack S.G s x k s k) (x.of k)).dn)) from rfl)
      have HI := Lib.hid (And.intro hk (And.intro hkN (And.intro hkI (And.intro hN1 hN3))))
      unfold StepR at HS
      generalize hB : decide (S.most < (stepP S.slack (drG S.slack S.G s x k s k) (x.of k)).up ∨ S.most < (stepP S.slack (drG S.slack S.G s x k s k) (x.of k)).dn) = B at HS HE
      clear hB
      generalize drB S.slack S.most S.G s x k = A at *
      clear hN1 hN3 hk hs hs2
      go_upto_region 5 with fail
      go_upto_region 6 with (go_at_call 72; refine (HS.out).mono ?_; rintro e1 w1 ⟨rfl, hj1, hg1⟩)
      have HJ1 := Lib.hid (show DrAt w p S n s x (k + 1) w1 from ⟨HD.out.j.cus hj1 hg1 (Nat.le_succ _) (GB.dr HJ.out.ok.gb _ _ _ (k + 1)), HD.out.f.trans (FrJ.gr hg1 (fun r hr => by injection hr with hr; subst hr; exact .inl (by simp [JB.all]))), Nat.lt_of_lt_of_le HD.out.lt hg1.size, fun i hi => kept_cellR (HD.out.c i hi) hg1 (by have := HJ.out.lts p.b (by simp [JB.all]); simp; omega)⟩)
      clear hj1 hg1 c0 c4
      cases A
      all_goals
        go_wp2_with fail
        exact ⟨⟨k + 1, by have := HI.out; omega, by go_num, by rw [HE.out]; simp, HJ1.out⟩, by have := HI.out; simp [intOf]; omega⟩
    · have hkN2 : k = N := by omega
      subst hkN2
      clear hkN
      go_wp2_with fail
      go_ret
      exact ⟨rfl, HD.out.j.mono (by omega), HD.out.f⟩
end Go.Proofs.Ytihalkpcddnikaa
