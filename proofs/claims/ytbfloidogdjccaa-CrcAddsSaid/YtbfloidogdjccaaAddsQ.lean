/-
  The law CrcAdds: append to one's own bytes, where the row lies then; what holds at a round's head, and how a round turns it.
-/
import Derived.Test.YtbfloidogdjccaaAddsP
import Derived.Maps.AppendAt
namespace Go.Proofs.Ytbfloidogdjccaa
open Go.RowKit

/-- append(dst, src...), as wpList_append_bts, and where the row lies then. -/
theorem wpList_append_bts_at {ops : Array Oper} {rest : List Oper} {o : Oper} {a : Act} {Q : Exit → Act → World → Prop} {w : World} (hgd : o.guard = none) (s x : Operand)
    (ho : o.op = .call { callee := .builtin .append, args := #[s, x], argTypes := #[22, 22] })
    (base : Nat) (v : Value) (xs : List Nat) (hs : a.eval s = v) (hown : OwnB w base v xs) (u : Value) (ys : List Nat) (hx : a.eval x = u) (hu : Bts w u ys)
    (hlen : xs.length + ys.length ≤ 140737488355328) (hbase : base ≤ w.heap.size)
    (h : ∀ v' w', OwnB w' base v' (xs ++ ys) → w.grownBy w' v.ownBlock → (v ≠ .slice none 0 0 → v' ≠ .slice none 0 0) → (v'.ownBlock = v.ownBlock ∨ v'.ownBlock = some w.heap.size) → wpList Try.prog ops Q rest (a.put o.dst v') w') : wpList Try.prog ops Q (o :: rest) a w := by
  obtain ⟨i0, hi, hz0, hz1, hz2⟩ := info_parts info_u8
  obtain ⟨hb, ⟨rfl, rfl⟩ | ⟨ad, cap, rfl, rfl⟩ | ⟨b, off, cap, rfl, hl, hc, hbs, hcell⟩⟩ := hu
  · refine wpList_append_own_none hgd s x 22 ho base 5 i0 1 Try.underlying22 hi v xs.length (byteVs xs) hs hown.2 hx ?_
    refine h v w ?_ ⟨rfl, rfl, rfl, Nat.le_refl _, fun _ _ _ => rfl⟩ id (.inl rfl)
    rw [List.append_nil]; exact hown
  · refine wpList_append_own_at w hgd s x 22 ho base 5 i0 (.int .u8 0) 1 1 Try.underlying22 hi hz0 hz1 hz2 rfl (by decide) v xs.length (byteVs xs) hs hown.2 ad 0 cap [] hx
      rfl (fun j u hj => by simp at hj) (fun u hu => by cases hu) (by unfold maxLen; simp at hlen; omega) (by simp at hlen; omega) hbase (fun v' w' h2 h3 h4 h5 => ?_)
    refine h v' w' ?_ h3 (fun hne he => hne (h4.1 he).1) h5
    simp only [List.append_nil, Nat.add_zero] at h2 ⊢
    exact ⟨hown.1, h2⟩
  · refine wpList_append_own_at w hgd s x 22 ho base 5 i0 (.int .u8 0) 1 1 Try.underlying22 hi hz0 hz1 hz2 rfl (by decide) v xs.length (byteVs xs) hs hown.2 ⟨b, off, none⟩ ys.length cap (byteVs ys) hx
      (by rw [byteVs_length]; omega) (fun j u hj => ?_) (fun u hu => ?_) (by unfold maxLen; omega) (by omega) hbase (fun v' w' h2 h3 h4 h5 => ?_)
    · rcases Nat.lt_or_ge j ys.length with hjl | hjl
      · rw [byteVs_get ys j hjl] at hj; rw [Addr.add_lit]
        rw [← hj]; exact hcell j hjl
      · rw [List.getElem?_eq_none (by rw [byteVs_length]; exact hjl)] at hj; cases hj
    · obtain ⟨n, _, rfl⟩ := List.mem_map.1 hu; rfl
    · refine h v' w' ⟨fun z hz => ?_, ?_⟩ h3 (fun hne he => hne (h4.1 he).1) h5
      · rcases List.mem_append.1 hz with hz | hz
        · exact hown.1 z hz
        · exact hb z hz
      · rw [byteVs_append, List.length_append]; exact h2

/-- What holds at a round's head: the parts' copies us (of the bytes ps), the list v5 of them, and v6, all of them in a row. -/
structure AddsAt (wr : World) (B : Nat) (v5 v6 : Value) (us : List Value) (ps : List (List Nat)) : Prop where
  own5 : wr.ownsRow B 22 1 v5 us.length us
  own6 : OwnB wr B v6 ps.flatten
  nn6 : v6 ≠ .slice none 0 0
  len : us.length = ps.length
  each : ∀ i, i < us.length → OwnB wr B (us.getD i undef) (ps.getD i []) ∧ (us.getD i undef).ownBlock ≠ none ∧ (us.getD i undef).ownBlock ≠ v6.ownBlock
  short : ps.flatten.length ≤ 300 * ps.length
theorem AddsAt.btsL {wr : World} {B : Nat} {v5 v6 : Value} {us : List Value} {ps : List (List Nat)} (h : AddsAt wr B v5 v6 us ps) : BtsL wr v5 ps := by
  have h5 := h.own5
  rcases h5.2 with ⟨rfl, h0⟩ | ⟨g, cap, cur, rfl, hb, hg, hl, hm, hs, ht⟩
  · exact .inl ⟨rfl, List.eq_nil_of_length_eq_zero (by rw [← h.len]; exact h0)⟩
  · refine .inr (.inr ⟨g, 0, cap, by rw [h.len], by rw [← h.len]; exact hl, by simpa [maxLen] using hm, heap_lt hg, fun i hi => ⟨us.getD i undef, ?_, (h.each i (by rw [h.len]; exact hi)).1.bts⟩⟩)
    have hi' : i < us.length := by rw [h.len]; exact hi
    rw [Nat.zero_add, World.ownsRow.cellAt h5 i (by omega), List.getD_eq_getElem?_getD, List.getElem?_eq_getElem hi']; rfl
theorem grown_of_below {w x : World} (row : Option Nat) (h : Below w.heap.size w x) : w.grownBy x row := ⟨h.os, h.tape, h.output, h.size, fun k hk _ => h.block k hk⟩
/-- A round: a new part p lies at up in w1; then it is laid into both. -/
theorem AddsAt.step {wr w1 w3 w4 : World} {B : Nat} {v5 v6 v5' v6' up : Value} {us : List Value} {ps : List (List Nat)} {p : List Nat} {o : Obj} (h : AddsAt wr B v5 v6 us ps) (hB : B ≤ wr.heap.size) (hp : p.length ≤ 300)
    (h1 : OwnB w1 wr.heap.size up p) (hup : up.ownBlock ≠ none) (hb1 : Below wr.heap.size wr w1)
    (h3 : w3.ownsRow B 22 1 v5' (us ++ [up]).length (us ++ [up])) (g3 : (w1.alloc o).grownBy w3 v5.ownBlock)
    (h4 : OwnB w4 B v6' (ps.flatten ++ p)) (g4 : w3.grownBy w4 v6.ownBlock) (hn : v6' ≠ .slice none 0 0) (hw : v6'.ownBlock = v6.ownBlock ∨ v6'.ownBlock = some w3.heap.size) : AddsAt w4 B v5' v6' (us ++ [up]) (ps ++ [p]) := by
  have own6a : OwnB (w1.alloc o) B v6 ps.flatten := (h.own6.below hb1 (Nat.le_refl _)).alloc o
  have own5a : (w1.alloc o).ownsRow B 22 1 v5 us.length us := (h.own5.kept (grown_of_below none hb1) (by cases hx : v5.ownBlock <;> simp)).alloc o
  have ne : 5 ≠ 22 := by decide
  have own6b : OwnB w3 B v6 ps.flatten := own6a.kept g3 (rows_apart own6a.2 own5a ne)
  have hsz : wr.heap.size ≤ w3.heap.size := Nat.le_trans hb1.size (Nat.le_trans (by simp) g3.size)
  have apart : ∀ u bs, OwnB w3 B u bs → u.ownBlock ≠ none → u.ownBlock ≠ v6.ownBlock → OwnB w4 B u bs ∧ u.ownBlock ≠ none ∧ u.ownBlock ≠ v6'.ownBlock := fun u bs hu hnn hne => by
    refine ⟨hu.kept g4 (.inr hne), hnn, ?_⟩
    rcases hw with hw | hw
    · rw [hw]; exact hne
    · rw [hw]; intro e
      have := (hu.2.lt _ e).2
      omega
  refine ⟨h3.kept g4 (rows_apart h3 own6b.2 ne.symm), by rw [List.flatten_append]; simpa using h4, hn, by simp [h.len], fun i hi => ?_, ?_⟩
  · rcases Nat.lt_or_ge i us.length with hj | hj
    · have e1 : (us ++ [up]).getD i undef = us.getD i undef := by rw [List.getD_eq_getElem?_getD, List.getElem?_append_left hj, ← List.getD_eq_getElem?_getD]
      have e2 : (ps ++ [p]).getD i [] = ps.getD i [] := by rw [List.getD_eq_getElem?_getD, List.getElem?_append_left (by rw [← h.len]; exact hj), ← List.getD_eq_getElem?_getD]
      obtain ⟨k1, k2, k3⟩ := h.each i hj
      rw [e1, e2]
      have k4 := (k1.below hb1 (Nat.le_refl _)).alloc o
      exact apart _ _ (k4.kept g3 (rows_apart k4.2 own5a ne)) k2 k3
    · have hi' : i = us.length := by simp at hi; omega
      have e1 : (us ++ [up]).getD i undef = up := by rw [hi', List.getD_eq_getElem?_getD, List.getElem?_append_right (Nat.le_refl _), Nat.sub_self]; rfl
      have e2 : (ps ++ [p]).getD i [] = p := by rw [hi', h.len, List.getD_eq_getElem?_getD, List.getElem?_append_right (Nat.le_refl _), Nat.sub_self]; rfl
      rw [e1, e2]
      have k4 : OwnB (w1.alloc o) B up p := (h1.mono hB).alloc o
      refine apart _ _ (k4.kept g3 (rows_apart k4.2 own5a ne)) hup (fun e => ?_)
      cases hx : up.ownBlock with
      | none => exact hup hx
      | some g =>
        have a1 := h1.own g hx
        have a2 := (h.own6.2.lt g (by rw [← e]; exact hx)).2
        omega
  · rw [List.flatten_append, List.length_append, List.length_append]
    have := h.short
    have e : [p].flatten.length = p.length := by simp
    have e' : [p].length = 1 := rfl
    rw [e, e']
    omega
end Go.Proofs.Ytbfloidogdjccaa
