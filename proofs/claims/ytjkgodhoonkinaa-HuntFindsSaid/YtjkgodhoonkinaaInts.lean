/-
  A slice of ints that came in, as a list; HasInt.
-/
import Derived.Test.YtjkgodhoonkinaaOpenL
import Derived.Test.YtjkgodhoonkinaaElemB
import Derived.Test.YtjkgodhoonkinaaBaseB
import Derived.BigGuardPart
namespace Go.Proofs.Ytjkgodhoonkinaa
open Go.RowKit Go.ChangeShapes
set_option linter.unusedVariables false

/-- v is a slice of these ints. -/
def Ints (w : World) (v : Value) (xs : List Int) : Prop :=
  (∀ x ∈ xs, -9223372036854775808 ≤ x ∧ x ≤ 9223372036854775807) ∧ ∃ a cap, v = .slice a xs.length cap ∧ xs.length ≤ 9223372036854775807 ∧
    (xs = [] ∨ ∃ b off : Nat, a = some ⟨b, off, none⟩ ∧ b < w.heap.size ∧ ∀ i, i < xs.length → w.cell? ⟨b, off + i, none⟩ = some (.int .i64 (xs.getD i 0)))
theorem Ints.below {w w' : World} {v : Value} {xs : List Int} (h : Ints w v xs) (hb : Below w.heap.size w w') : Ints w' v xs := by
  obtain ⟨h1, a, cap, h2, h3, h4⟩ := h
  refine ⟨h1, a, cap, h2, h3, h4.imp id ?_⟩
  rintro ⟨b, off, ha, hlt, hc⟩
  exact ⟨b, off, ha, Nat.lt_of_lt_of_le hlt hb.size, fun i hi => by rw [hb.cell (p := ⟨b, _, none⟩) hlt]; exact hc i hi⟩
theorem ints_of {w : World} {a : Option Addr} {len cap : Nat} (h : Elems w [some .i64] a len) : ∃ xs, Ints w (.slice a len cap) xs := by
  obtain ⟨hm, rfl | ⟨b, off, rfl, hb, hc⟩⟩ := h
  · exact ⟨[], (fun _ h => by cases h), a, cap, rfl, by simp, .inl rfl⟩
  · have each : ∀ i, i < len → ∃ x : Int, (-9223372036854775808 ≤ x ∧ x ≤ 9223372036854775807) ∧ w.cell? ⟨b, off + i, none⟩ = some (.int .i64 x) := fun i hi => by
      obtain ⟨cs, h1, h2⟩ := hc i hi
      obtain ⟨x, m, rfl, hw, h3⟩ := IntCells.cons h1
      have h4 := h2 0 (by decide)
      exact ⟨x, bounds_i64 hw, by simpa using h4⟩
    obtain ⟨l, h1, h2⟩ := list_of (0 : Int) (fun i x => (-9223372036854775808 ≤ x ∧ x ≤ 9223372036854775807) ∧ w.cell? ⟨b, off + i, none⟩ = some (.int .i64 x)) len each
    refine ⟨l, fun x hx => ?_, some ⟨b, off, none⟩, cap, by rw [h1], by omega, .inr ⟨b, off, rfl, hb, fun i hi => (h2 i (by omega)).2⟩⟩
    obtain ⟨i, hi⟩ := List.getElem?_of_mem hx
    have hil : i < l.length := by
      rcases Nat.lt_or_ge i l.length with h | h
      · exact h
      · rw [List.getElem?_eq_none h] at hi; cases hi
    have := (h2 i (by omega)).1
    rw [List.getD_eq_getElem?_getD, hi] at this
    exact this
theorem take_contains_succ (xs : List Int) (n : Int) (k : Nat) (hk : k < xs.length) : (xs.take (k + 1)).contains n = ((xs.take k).contains n || (xs.getD k 0 == n)) := by
  have h : xs.take (k + 1) = xs.take k ++ [xs[k]] := by rw [List.take_add_one, List.getElem?_eq_getElem hk]; rfl
  rw [h, List.getD_eq_getElem?_getD, List.getElem?_eq_getElem hk, Bool.eq_iff_iff]
  simp only [List.contains_iff_mem, List.mem_append, List.mem_singleton, Bool.or_eq_true, beq_iff_eq, Option.getD_some]
  exact or_congr Iff.rfl eq_comm
theorem HasInt_any (v : Value) (xs : List Int) (n : Int) (w : World) (hv : Ints w v xs) :
    Calls Try.prog 45 #[v, .int .i64 n] w (Tells w (.bool (xs.contains n))) := by
  obtain ⟨hbd, a, cap, rfl, hm, hcell⟩ := hv
  go_enter Try.func45, Try.ntmps45
  go_wp2_with fail
  go_loopw [5] (fun v5 wr => ∃ k, v5 = .int .i64 ((k : Nat) : Int) ∧ k ≤ xs.length ∧ wr = w ∧ (xs.take k).contains n = false) (fun v5 _ => xs.length + 1 - (intOf v5).toNat)
  case atStart => exact ⟨0, rfl, Nat.zero_le _, rfl, by simp⟩
  case round =>
    obtain ⟨k, rfl, hk, rfl, hall⟩ := hrel
    by_cases hkl : k < xs.length
    · obtain ⟨b, off, rfl, hb, hc⟩ := hcell.resolve_left (fun e => by rw [e] at hkl; simp at hkl)
      have c0 := hc k hkl
      have i0 : IntKind.i64.wrap ((k : Int) + 1) = ((k + 1 : Nat) : Int) := by rw [IntKind.wrap_i64]; omega
      have i1 : (0 : Int) ≤ (k : Int) := by omega
      have i2 : (k : Int) < (xs.length : Int) := by omega
      have HT := Lib.hid (take_contains_succ xs n k hkl)
      have HA := Lib.hid hall
      clear hall hc hbd
      generalize hx : xs.getD k 0 = x at *
      by_cases hxn : x = n
      · subst hxn
        go_wp2_with fail
        go_ret
        refine Tells.mk (ret_bool ?_)
        have h1 : (xs.take (k + 1)).contains x = true := by rw [HT.out]; simp
        rw [List.contains_iff_mem] at h1
        exact (List.contains_iff_mem.2 (List.mem_of_mem_take h1)).symm
      · have i3 : decide (x = n) = false := by simp [hxn]
        go_wp2_with fail
        refine ⟨⟨k + 1, (by first | rfl | go_num), by omega, (by first | rfl | trivial), ?_⟩, by simp [intOf]; omega⟩
        rw [HT.out, HA.out]
        simp [hxn]
    · obtain rfl : k = xs.length := by omega
      rw [List.take_length] at hall
      have HA := Lib.hid hall
      clear hall
      go_wp2_with fail
      go_ret
      exact Tells.mk (ret_bool HA.out.symm)
/-! ### pieces of a slice of bytes -/
/-- v[i:j] -/
theorem run_piece (w : World) (v : Value) (bs : List Nat) (hv : Bts w v bs) (i j : Nat) (hij : i ≤ j) (hj : j ≤ bs.length) :
    ∃ v2, (Instr.sliceAt 22 v (some (.int .i64 (i : Int))) (some (.int .i64 (j : Int))) none).run Try.prog w = .ok v2 w ∧ Bts w v2 ((bs.drop i).take (j - i)) := by
  have h1 : (0 : Int) ≤ (i : Int) := by omega
  have h2 : (i : Int) ≤ (j : Int) := by omega
  have h3 : (0 : Int) ≤ (j : Int) := by omega
  have hu : Try.prog.underlying 22 = some (.slice 5) := Try.underlying22
  obtain ⟨hb, ⟨rfl, rfl⟩ | ⟨ad, cap, rfl, rfl⟩ | ⟨b, off, cap, rfl, hl, hc, hbs, hcell⟩⟩ := hv
  · obtain rfl : j = 0 := by simpa using hj
    obtain rfl : i = 0 := by omega
    refine ⟨.slice none 0 0, ?_, (fun _ h => by simp at h), .inl ⟨rfl, by simp⟩⟩
    simp only [Instr.sliceAt, Instr.slice, Instr.sliceBounds, Instr.sliceBound]
    go_simp
  · obtain rfl : j = 0 := by simpa using hj
    obtain rfl : i = 0 := by omega
    refine ⟨.slice (some ad) 0 cap, ?_, (fun _ h => by simp at h), .inr (.inl ⟨ad, cap, rfl, by simp⟩)⟩
    have h4 : (0 : Int) ≤ (cap : Int) := by omega
    simp only [Instr.sliceAt, Instr.slice, Instr.sliceBounds, Instr.sliceBound]
    go_simp
  · have h4 : (j : Int) ≤ (cap : Int) := by omega
    refine ⟨.slice (if cap = i then some ⟨b, off, none⟩ else some ⟨b, off + i, none⟩) (j - i) (cap - i), ?_, (fun x hx => hb x (List.mem_of_mem_drop (List.mem_of_mem_take hx))), ?_⟩
    · simp only [Instr.sliceAt, Instr.slice, Instr.sliceBounds, Instr.sliceBound]
      go_simp
      intro h
      exact absurd h (by omega)
    · have hlen : ((bs.drop i).take (j - i)).length = j - i := by rw [List.length_take, List.length_drop]; omega
      by_cases hz : cap = i
      · refine .inr (.inl ⟨⟨b, off, none⟩, cap - i, ?_, ?_⟩)
        · rw [if_pos hz, show j - i = 0 by omega]
        · exact List.eq_nil_of_length_eq_zero (by omega)
      · refine .inr (.inr ⟨b, off + i, cap - i, ?_, by omega, by omega, hbs, fun k hk => ?_⟩)
        · rw [if_neg hz, hlen]
        · rw [hlen] at hk
          rw [Nat.add_assoc, hcell (i + k) (by omega), List.getD_eq_getElem?_getD, List.getD_eq_getElem?_getD, List.getElem?_take, if_pos hk, List.getElem?_drop]
/-- v[i:] -/
theorem run_from (w : World) (v : Value) (bs : List Nat) (hv : Bts w v bs) (i : Nat) (hi : i ≤ bs.length) :
    ∃ v2, (Instr.sliceAt 22 v (some (.int .i64 (i : Int))) none none).run Try.prog w = .ok v2 w ∧ Bts w v2 (bs.drop i) := by
  have h1 : (0 : Int) ≤ (i : Int) := by omega
  have hu : Try.prog.underlying 22 = some (.slice 5) := Try.underlying22
  obtain ⟨hb, ⟨rfl, rfl⟩ | ⟨ad, cap, rfl, rfl⟩ | ⟨b, off, cap, rfl, hl, hc, hbs, hcell⟩⟩ := hv
  · obtain rfl : i = 0 := by simpa using hi
    refine ⟨.slice none 0 0, ?_, (fun _ h => by simp at h), .inl ⟨rfl, by simp⟩⟩
    simp only [Instr.sliceAt, Instr.slice, Instr.sliceBounds, Instr.sliceBound]
    go_simp
  · obtain rfl : i = 0 := by simpa using hi
    refine ⟨.slice (some ad) 0 cap, ?_, (fun _ h => by simp at h), .inr (.inl ⟨ad, cap, rfl, by simp⟩)⟩
    have h4 : (0 : Int) ≤ (cap : Int) := by omega
    simp only [Instr.sliceAt, Instr.slice, Instr.sliceBounds, Instr.sliceBound]
    go_simp
  · have h4 : (i : Int) ≤ (bs.length : Int) := by omega
    refine ⟨.slice (if cap = i then some ⟨b, off, none⟩ else some ⟨b, off + i, none⟩) (bs.length - i) (cap - i), ?_, (fun x hx => hb x (List.mem_of_mem_drop hx)), ?_⟩
    · simp only [Instr.sliceAt, Instr.slice, Instr.sliceBounds, Instr.sliceBound]
      go_simp
    · by_cases hz : cap = i
      · refine .inr (.inl ⟨⟨b, off, none⟩, cap - i, ?_, ?_⟩)
        · rw [if_pos hz, show bs.length - i = 0 by omega]
        · exact List.eq_nil_of_length_eq_zero (by rw [List.length_drop]; omega)
      · refine .inr (.inr ⟨b, off + i, cap - i, ?_, by rw [List.length_drop]; omega, by omega, hbs, fun k hk => ?_⟩)
        · rw [if_neg hz, List.length_drop]
        · rw [List.length_drop] at hk
          rw [Nat.add_assoc, hcell (i + k) (by omega), List.getD_eq_getElem?_getD, List.getD_eq_getElem?_getD, List.getElem?_drop]
theorem wpList_piece {ops : Array Oper} {rest : List Oper} {o : Oper} {a : Act} {Q : Exit → Act → World → Prop} {w : World} (hgd : o.guard = none) (x y z : Operand) (ho : o.op = .slice 22 x (some y) (some z) none) (v : Value) (bs : List Nat) (i j : Nat)
    (hx : a.eval x = v) (hv : Bts w v bs) (hy : a.eval y = .int .i64 (i : Int)) {z0 : Int} (hz : a.eval z = .int .i64 z0) (hz0 : z0 = (j : Int)) (hij : i ≤ j) (hj : j ≤ bs.length) (h : ∀ v2, Bts w v2 ((bs.drop i).take (j - i)) → wpList Try.prog ops Q rest (a.put o.dst v2) w) : wpList Try.prog ops Q (o :: rest) a w :=
  wpList_plain hgd fun K hK => by
    obtain ⟨v2, hr, hb⟩ := run_piece w v bs hv i j hij hj
    subst hz0
    unfold Oper.wp execOp
    simp only [ho, Sem.run_bind, Sem.run_pure, Result.andThen_ok, Option.map_some, Option.map_none, hx, hy, hz, hr]
    exact hK _ _ (h v2 hb)
theorem wpList_from {ops : Array Oper} {rest : List Oper} {o : Oper} {a : Act} {Q : Exit → Act → World → Prop} {w : World} (hgd : o.guard = none) (x y : Operand) (ho : o.op = .slice 22 x (some y) none none) (v : Value) (bs : List Nat) (i : Nat)
    (hx : a.eval x = v) (hv : Bts w v bs) (hy : a.eval y = .int .i64 (i : Int)) (hi : i ≤ bs.length) (h : ∀ v2, Bts w v2 (bs.drop i) → wpList Try.prog ops Q rest (a.put o.dst v2) w) : wpList Try.prog ops Q (o :: rest) a w :=
  wpList_plain hgd fun K hK => by
    obtain ⟨v2, hr, hb⟩ := run_from w v bs hv i hi
    unfold Oper.wp execOp
    simp only [ho, Sem.run_bind, Sem.run_pure, Result.andThen_ok, Option.map_some, Option.map_none, hx, hy, hr]
    exact hK _ _ (h v2 hb)
end Go.Proofs.Ytjkgodhoonkinaa
