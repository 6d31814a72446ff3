/-
  Slices of bytes in memory, as lists of numbers.
-/
import Derived.Test.YtjkgodhoonkinaaLib
import Derived.Test.YtjkgodhoonkinaaProg
import Derived.Laws.AppendOwnNone
namespace Go.Proofs.Ytjkgodhoonkinaa
open Go.RowKit

/-- v is a slice of bytes that reads as bs in w. -/
def Bts (w : World) (v : Value) (bs : List Nat) : Prop :=
  (∀ x ∈ bs, x < 256) ∧ ((v = .slice none 0 0 ∧ bs = []) ∨ (∃ (a : Addr) (cap : Nat), v = .slice (some a) 0 cap ∧ bs = []) ∨
    ∃ b off cap : Nat, v = .slice (some ⟨b, off, none⟩) bs.length cap ∧ bs.length ≤ cap ∧ cap ≤ 9223372036854775807 ∧ b < w.heap.size ∧
      ∀ i, i < bs.length → w.cell? ⟨b, off + i, none⟩ = some (.int .u8 ((bs.getD i 0 : Nat) : Int)))
theorem Bts.below {w w' : World} {v : Value} {bs : List Nat} (h : Bts w v bs) (hb : Below w.heap.size w w') : Bts w' v bs := by
  obtain ⟨h1, h2⟩ := h
  refine ⟨h1, h2.imp id (Or.imp id ?_)⟩
  rintro ⟨b, off, cap, hv, hl, hc, hs, hcell⟩
  exact ⟨b, off, cap, hv, hl, hc, Nat.lt_of_lt_of_le hs hb.size, fun i hi => by rw [hb.cell (p := ⟨b, off + i, none⟩) hs]; exact hcell i hi⟩
theorem Bts.up {w x : World} {v : Value} {bs : List Nat} (h : Bts w v bs) : Bts (up w x) v bs := h.below (up_below w x)
theorem Bts.alloc {w : World} {o : Obj} {v : Value} {bs : List Nat} (h : Bts w v bs) : Bts (w.alloc o) v bs := h.below ((Below.refl _ _).alloc (Nat.le_refl _) _)
theorem Bts.lt {w : World} {v : Value} {bs : List Nat} (h : Bts w v bs) (i : Nat) : bs.getD i 0 < 256 := by
  rcases Nat.lt_or_ge i bs.length with hi | hi
  · have := h.1 (bs.getD i 0) (by rw [List.getD_eq_getElem?_getD, List.getElem?_eq_getElem hi]; simp)
    exact this
  · rw [List.getD_eq_getElem?_getD, List.getElem?_eq_none hi]; decide
theorem Bts.len {w : World} {a : Option Addr} {n cap : Nat} {bs : List Nat} (h : Bts w (.slice a n cap) bs) : n = bs.length := by
  obtain ⟨_, ⟨hv, rfl⟩ | ⟨_, _, hv, rfl⟩ | ⟨_, _, _, hv, _⟩⟩ := h
  · cases hv; rfl
  · cases hv; rfl
  · cases hv; rfl

theorem take_succ_getD (bs : List Nat) (k : Nat) (h : k < bs.length) : bs.take (k + 1) = bs.take k ++ [bs.getD k 0] := by
  rw [List.take_succ_eq_append_getElem h, List.getD_eq_getElem?_getD, List.getElem?_eq_getElem h]; rfl

/-! ### a slice of the call's own -/
theorem info_u8 : (Try.prog.info? 5).map (fun i => (i.zero, i.size, i.bytes)) = some (some (.int .u8 0), 1, 1) := by kernel_rfl
def byteVs (bs : List Nat) : List Value := bs.map fun x => .int .u8 ((x : Nat) : Int)
theorem byteVs_length (bs : List Nat) : (byteVs bs).length = bs.length := by simp [byteVs]
theorem byteVs_append (a b : List Nat) : byteVs (a ++ b) = byteVs a ++ byteVs b := by simp [byteVs]
theorem byteVs_get (bs : List Nat) (i : Nat) (h : i < bs.length) : (byteVs bs)[i]? = some (.int .u8 ((bs.getD i 0 : Nat) : Int)) := by
  simp [byteVs, List.getD_eq_getElem?_getD, List.getElem?_eq_getElem h]
/-- v is a slice of bytes that the call made: it lies in a block from base on, or is nil. -/
def OwnB (w : World) (base : Nat) (v : Value) (bs : List Nat) : Prop := (∀ x ∈ bs, x < 256) ∧ w.ownsRow base 5 1 v bs.length (byteVs bs)
theorem heap_lt {w : World} {g : Nat} {o : Obj} (h : w.heap[g]? = some o) : g < w.heap.size := by
  rcases Nat.lt_or_ge g w.heap.size with h1 | h1
  · exact h1
  · rw [Array.getElem?_eq_none h1] at h; cases h
theorem OwnB.bts {w : World} {base : Nat} {v : Value} {bs : List Nat} (h : OwnB w base v bs) : Bts w v bs := by
  obtain ⟨h1, h2⟩ := h
  refine ⟨h1, ?_⟩
  have h2' := h2
  obtain ⟨_, ⟨hv, hn⟩ | ⟨g, cap, cur, hv, hg, hh, hc1, hc2, _⟩⟩ := h2'
  · exact .inl ⟨hv, List.eq_nil_of_length_eq_zero hn⟩
  · subst hv
    exact .inr (.inr ⟨g, 0, cap, rfl, hc1, by simpa [maxLen] using hc2, heap_lt hh, fun i hi => by
      rw [Nat.zero_add, h2.cellAt i (by omega)]; exact byteVs_get bs i hi⟩)
theorem OwnB.alloc {w : World} {base : Nat} {v : Value} {bs : List Nat} (h : OwnB w base v bs) (o : Obj) : OwnB (w.alloc o) base v bs := ⟨h.1, h.2.alloc o⟩
theorem Below.grownBy {w w' : World} {row : Option Nat} (hg : w.grownBy w' row) {B : Nat} (hB : B ≤ w.heap.size) (hr : ∀ k, row = some k → B ≤ k) : Below B w w' := (Below.refl B w).grown hg hB hr
theorem OwnB.below {w w' : World} {base B : Nat} {v : Value} {bs : List Nat} (h : OwnB w base v bs) (hb : Below B w w') (hB : w.heap.size ≤ B) : OwnB w' base v bs := by
  obtain ⟨h1, h2, h3⟩ := h
  refine ⟨h1, h2, h3.imp id ?_⟩
  rintro ⟨g, cap, cur, hv, hg, hh, r⟩
  exact ⟨g, cap, cur, hv, hg, by rw [hb.block g (by have := heap_lt hh; omega)]; exact hh, r⟩
theorem OwnB.up {w x : World} {base : Nat} {v : Value} {bs : List Nat} (h : OwnB w base v bs) : OwnB (up w x) base v bs := h.below (up_below w x) (Nat.le_refl _)
theorem OwnB.own {w : World} {base : Nat} {v : Value} {bs : List Nat} (h : OwnB w base v bs) : ∀ k, v.ownBlock = some k → base ≤ k := fun k hk => (h.2.lt k hk).1

/-- append(dst, src...): dst of the call's own, src any bytes. -/
theorem wpList_append_bts {ops : Array Oper} {rest : List Oper} {o : Oper} {a : Act} {Q : Exit → Act → World → Prop} {w : World} (hgd : o.guard = none) (s x : Operand)
    (ho : o.op = .call { callee := .builtin .append, args := #[s, x], argTypes := #[22, 22] })
    (base : Nat) (v : Value) (xs : List Nat) (hs : a.eval s = v) (hown : OwnB w base v xs) (u : Value) (ys : List Nat) (hx : a.eval x = u) (hu : Bts w u ys)
    (hlen : xs.length + ys.length ≤ 140737488355328) (hbase : base ≤ w.heap.size)
    (h : ∀ v' w', OwnB w' base v' (xs ++ ys) → w.grownBy w' v.ownBlock → (v ≠ .slice none 0 0 → v' ≠ .slice none 0 0) → wpList Try.prog ops Q rest (a.put o.dst v') w') : wpList Try.prog ops Q (o :: rest) a w := by
  obtain ⟨i0, hi, hz0, hz1, hz2⟩ := info_parts info_u8
  obtain ⟨hb, ⟨rfl, rfl⟩ | ⟨ad, cap, rfl, rfl⟩ | ⟨b, off, cap, rfl, hl, hc, hbs, hcell⟩⟩ := hu
  · refine wpList_append_own_none hgd s x 22 ho base 5 i0 1 Try.underlying22 hi v xs.length (byteVs xs) hs hown.2 hx ?_
    refine h v w ?_ ⟨rfl, rfl, rfl, Nat.le_refl _, fun _ _ _ => rfl⟩ id
    rw [List.append_nil]; exact hown
  · refine wpList_append_own w hgd s x 22 ho base 5 i0 (.int .u8 0) 1 1 Try.underlying22 hi hz0 hz1 hz2 rfl (by decide) v xs.length (byteVs xs) hs hown.2 ad 0 cap [] hx
      rfl (fun j u hj => by simp at hj) (fun u hu => by cases hu) (by unfold maxLen; simp at hlen; omega) (by simp at hlen; omega) hbase (fun v' w' h2 h3 h4 => ?_)
    refine h v' w' ?_ h3 (fun hne he => hne (h4.1 he).1)
    simp only [List.append_nil, Nat.add_zero] at h2 ⊢
    exact ⟨hown.1, h2⟩
  · refine wpList_append_own w hgd s x 22 ho base 5 i0 (.int .u8 0) 1 1 Try.underlying22 hi hz0 hz1 hz2 rfl (by decide) v xs.length (byteVs xs) hs hown.2 ⟨b, off, none⟩ ys.length cap (byteVs ys) hx
      (by rw [byteVs_length]; omega) (fun j u hj => ?_) (fun u hu => ?_) (by unfold maxLen; omega) (by omega) hbase (fun v' w' h2 h3 h4 => ?_)
    · rcases Nat.lt_or_ge j ys.length with hjl | hjl
      · rw [byteVs_get ys j hjl] at hj; rw [Addr.add_lit]
        rw [← hj]; exact hcell j hjl
      · rw [List.getElem?_eq_none (by rw [byteVs_length]; exact hjl)] at hj; cases hj
    · obtain ⟨n, _, rfl⟩ := List.mem_map.1 hu; rfl
    · refine h v' w' ⟨fun z hz => ?_, ?_⟩ h3 (fun hne he => hne (h4.1 he).1)
      · rcases List.mem_append.1 hz with hz | hz
        · exact hown.1 z hz
        · exact hb z hz
      · rw [byteVs_append, List.length_append]; exact h2

theorem OwnB.empty (w : World) : OwnB (w.alloc (.cells #[] 5)) w.heap.size (.slice (some ⟨w.heap.size, 0, none⟩) 0 0) [] :=
  ⟨(fun _ h => by cases h), World.ownsRow_lit (base := w.heap.size) (e := 5) (size := 1) w #[] 0 (Nat.le_refl _) (by decide) rfl⟩

theorem OwnB.shape {w : World} {base : Nat} {v : Value} {bs : List Nat} (h : OwnB w base v bs) (hv : v ≠ .slice none 0 0) : ∃ g cap, v = .slice (some ⟨g, 0, none⟩) bs.length cap ∧ base ≤ g ∧ g < w.heap.size := by
  obtain ⟨_, _, ⟨h1, _⟩ | ⟨g, cap, cur, h1, h2, h3, _⟩⟩ := h
  · exact absurd h1 hv
  · exact ⟨g, cap, h1, h2, heap_lt h3⟩
theorem OwnB.cell {w : World} {base g cap n : Nat} {bs : List Nat} (h : OwnB w base (.slice (some ⟨g, 0, none⟩) n cap) bs) (k : Nat) (hk : k < bs.length) : w.cell? ⟨g, k, none⟩ = some (.int .u8 ((bs.getD k 0 : Nat) : Int)) := by
  have hn := Bts.len h.bts
  have h2 := h.2
  rw [hn] at h2
  rw [h2.cellAt k (by omega)]; exact byteVs_get bs k hk
theorem OwnB.free {w : World} {base g cap n : Nat} {bs : List Nat} (h : OwnB w base (.slice (some ⟨g, 0, none⟩) n cap) bs) (k : Nat) : w.frozen? ⟨g, k, none⟩ = false := by
  have hn := Bts.len h.bts
  have h2 := h.2
  rw [hn] at h2
  exact h2.frozenAt k
theorem byteVs_set (bs : List Nat) (k z : Nat) : byteVs (bs.set k z) = (byteVs bs).set k (.int .u8 ((z : Nat) : Int)) := by simp [byteVs]
theorem OwnB.store {w : World} {base g cap n : Nat} {bs : List Nat} (h : OwnB w base (.slice (some ⟨g, 0, none⟩) n cap) bs) (k z : Nat) (hz : z < 256) : OwnB (w.setCell ⟨g, k, none⟩ (.int .u8 ((z : Nat) : Int))) base (.slice (some ⟨g, 0, none⟩) n cap) (bs.set k z) := by
  have hn := Bts.len h.bts
  obtain ⟨h1, h2⟩ := h
  subst hn
  refine ⟨fun x hx => ?_, ?_⟩
  · rcases List.mem_or_eq_of_mem_set hx with h | rfl
    · exact h1 x h
    · exact hz
  · rw [byteVs_set, List.length_set]; exact (h2.stored k _).1

/-- base.Bytes: a copy of one's own. -/
def GivesB (w : World) (bs : List Nat) (e : Ending) (w' : World) : Prop := ∃ g cap, e = .returned (.slice (some ⟨g, 0, none⟩) bs.length cap) ∧ w.heap.size ≤ g ∧ g < w'.heap.size ∧ OwnB w' w.heap.size (.slice (some ⟨g, 0, none⟩) bs.length cap) bs ∧ Below w.heap.size w w'
theorem GivesB.mk {w w' : World} {bs : List Nat} {v : Value} (h : OwnB w' w.heap.size v bs) (hv : v ≠ .slice none 0 0) (hb : Below w.heap.size w w') : GivesB w bs (.returned v) w' := by
  obtain ⟨g, cap, rfl, h1, h2⟩ := h.shape hv
  exact ⟨g, cap, rfl, h1, h2, h, hb⟩
theorem Bytes_any (v : Value) (bs : List Nat) (w : World) (hv : Bts w v bs) (hn : bs.length ≤ 140737488355328) :
    Calls Try.prog 17 #[v] w (GivesB w bs) := by
  have HV := Lib.hid hv; clear hv
  have hn' := Lib.hid (show ([] : List Nat).length + bs.length ≤ 140737488355328 by simpa using hn); clear hn
  have he := Lib.hid (OwnB.empty w)
  go_enter Try.func17, Try.ntmps17
  go_wp2_with (at_builtin; refine wpList_append_bts rfl _ _ rfl w.heap.size _ [] rfl he.out _ bs rfl HV.out.alloc hn'.out (by simp) (fun v' w' ho hg hne => ?_); have HO := Lib.hid ho; have HG := Lib.hid hg; have HN := Lib.hid hne; clear ho hg hne)
  go_ret
  exact GivesB.mk (by simpa using HO.out) (HN.out (fun h => by cases (show Value.slice (some ⟨w.heap.size, 0, none⟩) 0 0 = Value.slice none 0 0 from h))) (((Below.refl _ _).alloc (Nat.le_refl _) _).trans (Below.grownBy HG.out (by simp) (fun k hk => he.out.own k hk)))

/-- v is a slice of slices of bytes. -/
def BtsL (w : World) (v : Value) (ls : List (List Nat)) : Prop :=
  (v = .slice none 0 0 ∧ ls = []) ∨ (∃ (a : Addr) (cap : Nat), v = .slice (some a) 0 cap ∧ ls = []) ∨
    ∃ b off cap : Nat, v = .slice (some ⟨b, off, none⟩) ls.length cap ∧ ls.length ≤ cap ∧ cap ≤ 9223372036854775807 ∧ b < w.heap.size ∧
      ∀ i, i < ls.length → ∃ u, w.cell? ⟨b, off + i, none⟩ = some u ∧ Bts w u (ls.getD i [])
theorem BtsL.below {w w' : World} {v : Value} {ls : List (List Nat)} (h : BtsL w v ls) (hb : Below w.heap.size w w') : BtsL w' v ls := by
  refine h.imp id (Or.imp id ?_)
  rintro ⟨b, off, cap, hv, hl, hc, hs, hcell⟩
  exact ⟨b, off, cap, hv, hl, hc, Nat.lt_of_lt_of_le hs hb.size, fun i hi => by
    obtain ⟨u, h1, h2⟩ := hcell i hi
    exact ⟨u, by rw [hb.cell (p := ⟨b, off + i, none⟩) hs]; exact h1, h2.below hb⟩⟩
theorem BtsL.up {w x : World} {v : Value} {ls : List (List Nat)} (h : BtsL w v ls) : BtsL (up w x) v ls := h.below (up_below w x)
theorem BtsL.one {w : World} {g : Nat} [hg : AtSize g w] {v : Value} {bs : List Nat} (h : Bts w v bs) : BtsL (w.alloc (.cells #[v] 22)) (.slice (some ⟨g, 0, none⟩) 1 1) [bs] := by
  obtain rfl := hg.at_
  exact .inr <| .inr ⟨w.heap.size, 0, 1, rfl, Nat.le_refl _, by decide, by simp, fun i hi => ⟨v, by
    obtain rfl : i = 0 := by simpa using hi
    simp [World.cell?_alloc_new], by
    obtain rfl : i = 0 := by simpa using hi
    exact h.alloc⟩⟩
theorem takeL_succ (ls : List (List Nat)) (k : Nat) (h : k < ls.length) : (ls.take (k + 1)).flatten = (ls.take k).flatten ++ ls.getD k [] := by
  rw [List.take_succ_eq_append_getElem h, List.getD_eq_getElem?_getD, List.getElem?_eq_getElem h]; simp only [Option.getD_some, List.flatten_append, List.flatten_cons, List.flatten_nil, List.append_nil]
/-- The beginning of a slice. -/
theorem Bts.cut {w : World} {b off n cap : Nat} {bs : List Nat} (h : Bts w (.slice (some ⟨b, off, none⟩) n cap) bs) (m : Nat) (hm : m ≤ n) : Bts w (.slice (some ⟨b, off, none⟩) m cap) (bs.take m) := by
  obtain ⟨h1, ⟨hv, _⟩ | ⟨_, _, hv, rfl⟩ | ⟨b', off', cap', hv, hl, hc, hs, hcell⟩⟩ := h
  · cases hv
  · cases hv
    obtain rfl : m = 0 := by omega
    exact ⟨by simp, .inr (.inl ⟨_, _, rfl, by simp⟩)⟩
  · simp only [Value.slice.injEq, Option.some.injEq, Addr.mk.injEq, and_true] at hv
    obtain ⟨⟨rfl, rfl⟩, rfl, rfl⟩ := hv
    refine ⟨fun x hx => h1 x (List.mem_of_mem_take hx), .inr (.inr ⟨b, off, cap, by rw [List.length_take]; congr 1; omega, by rw [List.length_take]; omega, hc, hs, fun i hi => ?_⟩)⟩
    rw [List.length_take] at hi
    rw [hcell i (by omega), List.getD_eq_getElem?_getD, List.getD_eq_getElem?_getD, List.getElem?_take_of_lt (by omega)]

/-- A block that was made of these bytes. -/
theorem cell_new {w : World} {g : Nat} [hg : AtSize g w] (C : Array Value) (t : TypeId) (fz : Nat × Nat) (o : Nat) : (w.alloc (.cells C t fz)).cell? ⟨g, o, none⟩ = C[o]? := by
  obtain rfl := hg.at_
  have : (w.alloc (.cells C t fz)).heap[w.heap.size]? = some (.cells C t fz) := by show (w.heap.push _)[w.heap.size]? = _; simp
  unfold World.cell?; simp only [this]; rfl
theorem Bts.lit {w : World} {g : Nat} [hg : AtSize g w] {C : Array Value} {bs : List Nat} (h : C.toList = byteVs bs) (hb : ∀ x ∈ bs, x < 256) (hl : bs.length ≤ 9223372036854775807) (t : TypeId) {n : Nat} (hn : bs.length = n) (fz : Nat × Nat := (0, 0)) :
    Bts (w.alloc (.cells C t fz)) (.slice (some ⟨g, 0, none⟩) n n) bs := by
  subst hn
  refine ⟨hb, .inr (.inr ⟨g, 0, bs.length, rfl, Nat.le_refl _, hl, by rw [World.size_alloc, hg.at_]; omega, fun i hi => ?_⟩)⟩
  rw [cell_new, Nat.zero_add, ← byteVs_get bs i hi, ← h]; simp
theorem BtsL.two {w : World} {g : Nat} [hg : AtSize g w] {v1 v2 : Value} {b1 b2 : List Nat} (h1 : Bts w v1 b1) (h2 : Bts w v2 b2) : BtsL (w.alloc (.cells #[v1, v2] 22)) (.slice (some ⟨g, 0, none⟩) 2 2) [b1, b2] := by
  obtain rfl := hg.at_
  exact .inr <| .inr ⟨w.heap.size, 0, 2, rfl, Nat.le_refl _, by decide, by simp, fun i hi => by
    have : i = 0 ∨ i = 1 := by simp at hi; omega
    rcases this with rfl | rfl
    · exact ⟨v1, by simp [World.cell?_alloc_new], h1.alloc⟩
    · exact ⟨v2, by simp [World.cell?_alloc_new], h2.alloc⟩⟩

/-- v[:min(len(v), m)] -/
def cutV (m : Nat) : Value → Value
  | .slice a n c => .slice a (min n m) c
  | x => x
theorem Bts.cutV {w : World} {v : Value} {bs : List Nat} (h : Bts w v bs) (m : Nat) : Bts w (cutV m v) (bs.take m) := by
  have h' := h
  obtain ⟨h1, ⟨rfl, rfl⟩ | ⟨_, _, rfl, rfl⟩ | ⟨b, off, cap, rfl, hl, hc, hs, hcell⟩⟩ := h'
  · exact ⟨by simp, .inl ⟨by simp [Proofs.Ytjkgodhoonkinaa.cutV], by simp⟩⟩
  · exact ⟨by simp, .inr (.inl ⟨_, _, by simp [Proofs.Ytjkgodhoonkinaa.cutV]; exact ⟨rfl, rfl⟩, by simp⟩)⟩
  · have h2 := h.cut (min bs.length m) (by omega)
    rw [show bs.take (min bs.length m) = bs.take m from by rw [Nat.min_comm, ← List.take_take, List.take_length]] at h2
    exact h2
end Go.Proofs.Ytjkgodhoonkinaa
