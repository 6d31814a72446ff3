/-
  The walks over a bank's numbers, the program's and the reference's.
-/
import Derived.Test.YtjkgodhoonkinaaBnkP
import Derived.Test.YtjkgodhoonkinaaFrmW
import Derived.Maps.AppendAt
namespace Go.Proofs.Ytjkgodhoonkinaa
open Go.RowKit
set_option linter.unusedVariables false
set_option linter.unusedSimpArgs false

theorem OwnB.nil (w : World) (base : Nat) : OwnB w base (.slice none 0 0) [] := ⟨(fun _ h => by cases h), by simp [byteVs], .inl ⟨rfl, rfl⟩⟩
theorem beN_take_lt {bs : List Nat} (h : ∀ x ∈ bs, x < 256) (i k : Nat) (hk : k ≤ 7) : beN ((bs.drop i).take k) < 72057594037927936 := by
  have hbt := beN_lt ((bs.drop i).take k) (fun y hy => h y (List.mem_of_mem_drop (List.mem_of_mem_take hy)))
  have hpw : 256 ^ ((bs.drop i).take k).length ≤ 256 ^ 7 := Nat.pow_le_pow_right (by omega) (by rw [List.length_take]; omega)
  omega
theorem drop_take_succ (bs : List Nat) (i k : Nat) (h : i + k < bs.length) : (bs.drop i).take (k + 1) = (bs.drop i).take k ++ [bs.getD (i + k) 0] := by
  rw [take_succ_getD _ _ (by rw [List.length_drop]; omega)]
  congr 2
  rw [List.getD_eq_getElem?_getD, List.getD_eq_getElem?_getD, List.getElem?_drop]
def NumAt (w : World) (n x : Nat) (k : Nat) (v0 v : Value) (wr : World) : Prop :=
  v0 = .int .u64 ((x / 256 ^ k : Nat) : Int) ∧ OwnB wr w.heap.size v (beB k (x % 256 ^ k)) ∧ Below w.heap.size w wr ∧ v ≠ .slice none 0 0
theorem beB_mod (n : Nat) : ∀ x, beB n (x % 256 ^ n) = beB n x := by
  induction n with
  | zero => intro x; rfl
  | succ n ih =>
    intro x
    unfold beB
    rw [show x % 256 ^ (n + 1) % 256 = x % 256 by rw [Nat.pow_succ, Nat.mul_comm]; exact Nat.mod_mul_right_mod x 256 (256 ^ n), show x % 256 ^ (n + 1) / 256 = (x / 256) % 256 ^ n by rw [Nat.pow_succ, Nat.mul_comm]; exact Nat.mod_mul_right_div_self x 256 (256 ^ n), ih]
theorem beB_front' (k x : Nat) : beB (k + 1) (x % 256 ^ (k + 1)) = [x / 256 ^ k % 256] ++ beB k (x % 256 ^ k) := by rw [beB_mod, beB_mod, beB_front]
/-- s[k:] -/
def skipA (k g off c : Nat) : Option Addr := if c = k then some ⟨g, off, none⟩ else some ⟨g, off + k, none⟩
abbrev skipV (k g off n c : Nat) : Value := .slice (skipA k g off c) (n - k) (c - k)
theorem skipV_own (k g off n c : Nat) : (skipV k g off n c).ownBlock = some g := by unfold skipV skipA; split <;> rfl
theorem run_skip (w : World) (k g off n c : Nat) (hk : k ≤ n) (hc : n ≤ c) : (Instr.sliceAt 22 (.slice (some ⟨g, off, none⟩) n c) (some (.int .i64 (k : Int))) none none).run Try.prog w = .ok (skipV k g off n c) w := by
  have h1 : ((k : Int) ≤ (n : Int)) := by omega
  have h2 : (0 : Int) ≤ (k : Int) := by omega
  have hu : Try.prog.underlying 22 = some (.slice 5) := Try.underlying22
  simp only [Instr.sliceAt, Instr.slice, Instr.sliceBounds, Instr.sliceBound]
  unfold skipV skipA
  go_simp
theorem wpList_skip {ops : Array Oper} {rest : List Oper} {o : Oper} {a : Act} {Q : Exit → Act → World → Prop} {w : World} (hgd : o.guard = none) (x y : Operand) (ho : o.op = .slice 22 x (some y) none none) (k g off n c : Nat)
    (hx : a.eval x = .slice (some ⟨g, off, none⟩) n c) (hy : a.eval y = .int .i64 (k : Int)) (hk : k ≤ n) (hc : n ≤ c) (h : wpList Try.prog ops Q rest (a.put o.dst (skipV k g off n c)) w) : wpList Try.prog ops Q (o :: rest) a w :=
  wpList_plain hgd fun K hK => by
    have hr := run_skip w k g off n c hk hc
    unfold Oper.wp execOp
    simp only [ho, Sem.run_bind, Sem.run_pure, Result.andThen_ok, Option.map_some, Option.map_none, hx, hy, hr]
    exact hK _ _ h
theorem bts_skip {w : World} {g off n c : Nat} {bs : List Nat} (h : Bts w (.slice (some ⟨g, off, none⟩) n c) bs) (k : Nat) (hk : k ≤ n) (hc : n ≤ c) : Bts w (skipV k g off n c) (bs.drop k) := by
  have hn := h.len
  subst hn
  have hb : ∀ x ∈ bs.drop k, x < 256 := fun x hx => h.1 x (List.mem_of_mem_drop hx)
  by_cases hz : bs.length = k
  · have hd : bs.drop k = [] := by rw [← hz, List.drop_length]
    rw [hd]
    refine ⟨(fun _ h => by cases h), .inr (.inl ?_)⟩
    unfold skipV skipA
    rw [hz, Nat.sub_self]
    split
    · exact ⟨_, _, rfl, rfl⟩
    · exact ⟨_, _, rfl, rfl⟩
  · obtain ⟨h1, ⟨hv, _⟩ | ⟨_, _, hv, rfl⟩ | ⟨b', off', cap', hv, hl, hcm, hs, hcell⟩⟩ := h
    · cases hv
    · simp at hk; simp [hk] at hz
    · simp only [Value.slice.injEq, Option.some.injEq, Addr.mk.injEq, and_true] at hv
      obtain ⟨⟨rfl, rfl⟩, _, rfl⟩ := hv
      refine ⟨hb, .inr (.inr ⟨g, off + k, c - k, ?_, by rw [List.length_drop]; omega, by omega, hs, fun i hi => ?_⟩)⟩
      · unfold skipV skipA
        rw [if_neg (by omega), List.length_drop]
      · rw [List.length_drop] at hi
        rw [Nat.add_assoc, hcell (k + i) (by omega), List.getD_eq_getElem?_getD, List.getD_eq_getElem?_getD, List.getElem?_drop]
set_option maxRecDepth 100000 in
theorem bget_any (v : Value) (bs : List Nat) (i n : Nat) (w : World) (hv : Bts w v bs) (hn : n ≤ 8) (hi : i + n ≤ bs.length) (hl : bs.length ≤ 1000000) :
    Calls Try.prog 75 #[v, .int .i64 (i : Int), .int .i64 (n : Int)] w (Tells w (.int .u64 ((beN ((bs.drop i).take n) : Nat) : Int))) := by
  obtain ⟨va, vn, vc, rfl⟩ := hv.slice
  obtain rfl := hv.len
  have HV := Lib.hid hv
  clear hv
  go_enter Try.func75, Try.ntmps75
  go_wp2_with fail
  go_loop [7, 8] (fun v7 v8 => ∃ k : Nat, k ≤ n ∧ v8 = .int .i64 k ∧ v7 = .int .u64 ((beN ((bs.drop i).take k) : Nat) : Int)) (fun _ v8 => n - (intOf v8).toNat)
  case atStart => exact ⟨0, by omega, rfl, rfl⟩
  case round =>
    obtain ⟨k, hk, rfl, rfl⟩ := hrel
    by_cases hlt : k < n
    · obtain ⟨b, off, cap, hsl, hlc, hc, hb, hcell⟩ := HV.out.some (by omega)
      obtain ⟨rfl, rfl⟩ : va = some ⟨b, off, none⟩ ∧ vc = cap := by simpa using hsl
      have c0 := hcell (i + k) (by omega)
      have hbt := beN_take_lt HV.out.1 i k (by omega)
      have hbl := HV.out.lt (i + k)
      have hsn := Lib.hid (show beN ((bs.drop i).take (k + 1)) = beN ((bs.drop i).take k) * 256 + bs.getD (i + k) 0 by rw [drop_take_succ bs i k (by omega), beN_snoc])
      generalize beN ((bs.drop i).take k) = B at *
      generalize bs.getD (i + k) 0 = y at *
      have hik : ((i : Int) + (k : Int)) < (bs.length : Int) := by omega
      clear hcell hsl
      go_wp2
      exact ⟨⟨k + 1, by omega, by go_num, by rw [hsn.out]; congr 1; omega⟩, by simp [intOf]; omega⟩
    · obtain rfl : k = n := by omega
      go_wp2
      go_ret
      exact Tells.mk rfl
set_option maxRecDepth 100000 in
theorem bnumber_any (x n : Nat) (w : World) (hx : x < 18446744073709551616) (hn : n ≤ 8) (hn0 : 0 < n) :
    Calls Try.prog 74 #[.int .u64 ((x : Nat) : Int), .int .i64 (n : Int)] w (GivesB w (beB n x)) := by
  have he := Lib.hid (OwnB.empty w)
  go_enter Try.func74, Try.ntmps74
  go_wp2_with fail
  go_loopw [0, 5, 6] (fun v0 v5 v6 wr => ∃ k : Nat, k ≤ n ∧ v6 = .int .i64 k ∧ NumAt w n x k v0 v5 wr) (fun _ _ v6 _ => n - (intOf v6).toNat)
  case atStart => exact ⟨0, by omega, rfl, by simp, he.out, (Below.refl _ _).alloc (Nat.le_refl _) _, by simp⟩
  case round =>
    clear he
    obtain ⟨k, hk, rfl, rfl, ho, hb, hne⟩ := hrel
    have HO := Lib.hid ho
    have HB := Lib.hid hb
    by_cases hlt : k < n
    · have hq : x / 256 ^ k < 18446744073709551616 := Nat.lt_of_le_of_lt (Nat.div_le_self _ _) hx
      have hs := Lib.hid (show x / 256 ^ (k + 1) = x / 256 ^ k / 256 by rw [Nat.pow_succ, Nat.div_div_eq_div_mul])
      have hf := Lib.hid (beB_front' k x)
      have hl : ([x / 256 ^ k % 256] : List Nat).length + (beB k (x % 256 ^ k)).length ≤ 140737488355328 := by rw [beB_length]; simp; omega
      have HL := Lib.hid hl
      generalize x / 256 ^ k = q at *
      generalize beB k (x % 256 ^ k) = B at *
      have HLIT := Lib.hid (OwnB.lit wr (C := #[.int .u8 ((q : Int) % 256)]) (bs := [q % 256]) (by simp [byteVs]) (by simp; omega) (by simp))
      clear ho hb hne hl
      go_wp2_with (at_builtin; refine wpList_append_bts rfl _ _ rfl wr.heap.size (.slice (some ⟨wr.heap.size, 0, none⟩) 1 1) [q % 256] (by rfl) HLIT.out _ B rfl HO.out.bts.alloc HL.out (by simp) (fun v2 w2 ho2 hg2 hne2 => ?_); have HO2 := Lib.hid ho2; have HG2 := Lib.hid hg2; have HN2 := Lib.hid hne2; clear ho2 hg2 hne2)
      refine ⟨⟨k + 1, by omega, by go_num, ?_, ?_, ?_, HN2.out (by simp)⟩, by simp [intOf]; omega⟩
      · rw [hs.out]; congr 1
      · rw [hf.out]; exact HO2.out.mono HB.out.size
      · exact Below.trans HB.out ((Below.trans ((Below.refl _ _).alloc (Nat.le_refl _) _) (Below.grownBy HG2.out (by simp) (fun k hk => by cases hk; exact Nat.le_refl _))).mono HB.out.size)
    · obtain rfl : k = n := by omega
      clear ho hb
      go_wp2_with fail
      go_ret
      refine GivesB.mk ?_ hne HB.out
      rw [← beB_mod]; exact HO.out

theorem beB_take (n x : Nat) : ∀ k, k < n → (beB n x).take (k + 1) = (beB n x).take k ++ [x / 256 ^ (n - 1 - k) % 256] := by
  induction n with
  | zero => intro k h; omega
  | succ n ih =>
    intro k hk
    rw [beB_front]
    cases k with
    | zero => simp
    | succ k =>
      rw [List.singleton_append, List.take_succ_cons, List.take_succ_cons, ih k (by omega), show n + 1 - 1 - (k + 1) = n - 1 - k by omega]
      rfl
/-- append(v, u...) of bytes; v may be nil. -/
theorem run_append_btsA (w : World) (ty : TypeId) (v u : Value) (xs ys : List Nat) (hown : OwnB w 0 v xs) (hu : Bts w u ys) (hlen : xs.length + ys.length ≤ 140737488355328) :
    ∃ v' w', (Builtin.append_ #[22, 22] ty #[v, u]).run Try.prog w = .ok v' w' ∧ OwnB w' 0 v' (xs ++ ys) ∧ w.grownBy w' v.ownBlock ∧ (v'.ownBlock = v.ownBlock ∨ v'.ownBlock = some w.heap.size) := by
  obtain ⟨i0, hi, hz0, hz1, hz2⟩ := info_parts info_u8
  obtain ⟨hb, ⟨rfl, rfl⟩ | ⟨ad, cap, rfl, rfl⟩ | ⟨b, off, cap, rfl, hl, hc, hbs, hcell⟩⟩ := hu
  · refine ⟨v, w, run_append_owned_none (P := Try.prog) (w := w) 0 22 ty 5 i0 1 Try.underlying22 hi v xs.length (byteVs xs) hown.2, ?_, ⟨rfl, rfl, rfl, Nat.le_refl _, fun _ _ _ => rfl⟩, .inl rfl⟩
    rw [List.append_nil]; exact hown
  · obtain ⟨v', w', hr, h2, h3, h4, h5⟩ := run_append_own_at (P := Try.prog) w 0 22 ty 5 i0 (.int .u8 0) 1 1 Try.underlying22 hi hz0 hz1 hz2 rfl (by decide) v xs.length (byteVs xs) hown.2 ad 0 cap []
      rfl (fun j u hj => by simp at hj) (fun u hu => by cases hu) (by unfold maxLen; simp at hlen; omega) (by simp at hlen; omega) (Nat.zero_le _)
    refine ⟨v', w', hr, ?_, h3, h5⟩
    simp only [List.append_nil, Nat.add_zero] at h2 ⊢
    exact ⟨hown.1, h2⟩
  · obtain ⟨v', w', hr, h2, h3, h4, h5⟩ := run_append_own_at (P := Try.prog) w 0 22 ty 5 i0 (.int .u8 0) 1 1 Try.underlying22 hi hz0 hz1 hz2 rfl (by decide) v xs.length (byteVs xs) hown.2 ⟨b, off, none⟩ ys.length cap (byteVs ys)
      (by rw [byteVs_length]; omega) (fun j u hj => by
        rcases Nat.lt_or_ge j ys.length with hjl | hjl
        · rw [byteVs_get ys j hjl] at hj; rw [Addr.add_lit]
          rw [← hj]; exact hcell j hjl
        · rw [List.getElem?_eq_none (by rw [byteVs_length]; exact hjl)] at hj; cases hj) (fun u hu => by
        obtain ⟨n, _, rfl⟩ := List.mem_map.1 hu; rfl) (by unfold maxLen; omega) (by omega) (Nat.zero_le _)
    refine ⟨v', w', hr, ⟨fun z hz => ?_, ?_⟩, h3, h5⟩
    · rcases List.mem_append.1 hz with hz | hz
      · exact hown.1 z hz
      · exact hb z hz
    · rw [byteVs_append, List.length_append]; exact h2
theorem wpList_append_bts_at {ops : Array Oper} {rest : List Oper} {o : Oper} {a : Act} {Q0 : Exit → Act → World → Prop} {w : World} (hgd : o.guard = none) (s x : Operand)
    (ho : o.op = .call { callee := .builtin .append, args := #[s, x], argTypes := #[22, 22] })
    (v u : Value) (xs ys : List Nat) (hs : a.eval s = v) (hv : OwnB w 0 v xs) (hx : a.eval x = u) (hu : Bts w u ys) (hlen : xs.length + ys.length ≤ 140737488355328)
    (h : ∀ v' w', OwnB w' 0 v' (xs ++ ys) → w.grownBy w' v.ownBlock → (v'.ownBlock = v.ownBlock ∨ v'.ownBlock = some w.heap.size) → wpList Try.prog ops Q0 rest (a.put o.dst v') w') : wpList Try.prog ops Q0 (o :: rest) a w :=
  wpList_plain hgd fun K hK => by
    obtain ⟨v', w', hr, h1, h2, h3⟩ := run_append_btsA w o.type v u xs ys hv hu hlen
    unfold Oper.wp execOp
    simp only [ho, resolve, invoke, builtin, Sem.run_bind, Sem.run_pure, Result.andThen_ok, List.map_toArray, List.map_cons, List.map_nil, hs, hx, hr]
    exact hK _ _ (h v' w' h1 h2 h3)
theorem gr_row {w w1 w2 : World} {row row2 : Option Nat} (h : w.grownBy w1 row) (g : w1.grownBy w2 row2) (hr : ∀ b, row2 = some b → row = some b ∨ w.heap.size ≤ b) : w.grownBy w2 row :=
  ⟨g.os.trans h.os, g.tape.trans h.tape, g.output.trans h.output, Nat.le_trans h.size g.size, fun i hi hne => (g.block i (Nat.lt_of_lt_of_le hi h.size) (fun e => by
    rcases hr i e.symm with h1 | h1
    · exact hne h1.symm
    · omega)).trans (h.block i hi hne)⟩
/-- bank.num: a number behind bytes of one's own. -/
def GivesN (w : World) (v : Value) (bs : List Nat) (e : Ending) (w' : World) : Prop := ∃ v', e = .returned v' ∧ OwnB w' 0 v' bs ∧ w.grownBy w' v.ownBlock ∧ v' ≠ .slice none 0 0 ∧ ∀ b, v'.ownBlock = some b → v.ownBlock = some b ∨ w.heap.size ≤ b
set_option maxRecDepth 100000 in
theorem bnum_any (v : Value) (bs : List Nat) (x n : Nat) (w : World) (hv : OwnB w 0 v bs) (hx : x < 18446744073709551616) (hn : n ≤ 8) (hn0 : 0 < n) (hl : bs.length ≤ 1000000) :
    Calls Try.prog 71 #[v, .int .u64 ((x : Nat) : Int), .int .i64 (n : Int)] w (GivesN w v (bs ++ beB n x)) := by
  have HV := Lib.hid hv
  clear hv
  go_enter Try.func71, Try.ntmps71
  go_wp2_with fail
  go_loopw [0, 9] (fun v0 v9 wr => ∃ k : Nat, k ≤ n ∧ v9 = .int .i64 k ∧ OwnB wr 0 v0 (bs ++ (beB n x).take k) ∧ w.grownBy wr v.ownBlock ∧ (0 < k → v0 ≠ .slice none 0 0) ∧ ∀ b, v0.ownBlock = some b → v.ownBlock = some b ∨ w.heap.size ≤ b) (fun _ v9 _ => n - (intOf v9).toNat)
  case atStart => exact ⟨0, by omega, rfl, by simpa using HV.out, gr_refl _ _, fun h => absurd h (by omega), fun b hb => .inl hb⟩
  case round =>
    obtain ⟨k, hk, rfl, ho, hb, hne, hloc⟩ := hrel
    have HO := Lib.hid ho
    have HB := Lib.hid hb
    have HNE := Lib.hid hne
    have HLO := Lib.hid hloc
    clear ho hb hne hloc
    by_cases hlt : k < n
    · have HT := Lib.hid (beB_take n x k hlt)
      have HLL := Lib.hid (show (bs ++ (beB n x).take k).length ≤ 1000010 by rw [List.length_append, List.length_take, beB_length]; omega)
      generalize hj : n - 1 - k = j at *
      have hj8 : j ≤ 7 := by omega
      have i1 : IntKind.i64.wrap ((n : Int) - 1) = ((n - 1 : Nat) : Int) := by rw [IntKind.wrap_i64]; omega
      have i2 : IntKind.i64.wrap (((n - 1 : Nat) : Int) - (k : Int)) = (j : Int) := by rw [IntKind.wrap_i64]; omega
      have i3 : IntKind.i64.wrap (8 * (j : Int)) = ((8 * j : Nat) : Int) := by rw [IntKind.wrap_i64]; omega
      have i4 : IntKind.i64.wrap ((k : Int) + 1) = ((k + 1 : Nat) : Int) := by rw [IntKind.wrap_i64]; omega
      have hy : ((x / 256 ^ j % 256 : Nat) : Int) = (x : Int) / 2 ^ (8 * j) % 256 := by
        rw [Int.pow_mul]
        simp
      have hba : Below wr.heap.size wr (wr.alloc (.cells #[.int .u8 ((x : Int) / 2 ^ (8 * j) % 256)] 5)) := (Below.refl _ _).alloc (Nat.le_refl _) _
      have HLIT := Lib.hid (show OwnB (wr.alloc (.cells #[.int .u8 ((x : Int) / 2 ^ (8 * j) % 256)] 5)) wr.heap.size (.slice (some ⟨wr.heap.size, 0, none⟩) 1 1) [x / 256 ^ j % 256] from OwnB.lit wr (bs := [x / 256 ^ j % 256]) (by simp only [byteVs, List.map_cons, List.map_nil, hy]) (by simp; omega) (by simp))
      have HOA := Lib.hid (HO.out.alloc (.cells #[.int .u8 ((x : Int) / 2 ^ (8 * j) % 256)] 5))
      have HLT := Lib.hid (show (bs ++ (beB n x).take k).length + [x / 256 ^ j % 256].length ≤ 140737488355328 by have := HLL.out; simp only [List.length_cons, List.length_nil]; omega)
      have HBA := Lib.hid (gr_row HB.out (gr_below none hba) (fun b hb => by cases hb))
      have HSZ := Lib.hid (show w.heap.size ≤ (wr.alloc (.cells #[.int .u8 ((x : Int) / 2 ^ (8 * j) % 256)] 5)).heap.size from HBA.out.size)
      clear hy hba
      go_wp2_with (at_builtin; refine wpList_append_bts_at rfl _ _ rfl u0 _ (bs ++ (beB n x).take k) [x / 256 ^ j % 256] rfl HOA.out rfl HLIT.out.bts HLT.out (fun v2 w2 ho2 hg2 hl2 => ?_); have HO2 := Lib.hid ho2; have HG2 := Lib.hid hg2; have HL2 := Lib.hid hl2; clear ho2 hg2 hl2)
      refine ⟨⟨k + 1, by omega, (by first | rfl | go_num), ?_, gr_row HBA.out HG2.out HLO.out, ?_, ?_⟩, by simp [intOf]; omega⟩
      · rw [HT.out, ← List.append_assoc]; exact HO2.out
      · intro _ e
        have := HO2.out.bts
        rw [e] at this
        have := this.len
        simp at this
      · intro b hb
        rcases HL2.out with h | h
        · exact HLO.out b (by rw [← h]; exact hb)
        · rw [h] at hb
          simp only [Option.some.injEq] at hb
          exact .inr (by have := HSZ.out; omega)
    · obtain rfl : k = n := by omega
      go_wp2_with fail
      go_ret
      refine ⟨_, rfl, ?_, HB.out, HNE.out (by omega), HLO.out⟩
      have := HO.out
      rwa [List.take_of_length_le (by rw [beB_length]; exact Nat.le_refl _)] at this
/-- A reader's number: the bytes ahead are taken. -/
def GivesD (w : World) (d : Nat) (v0 : Value) (bs : List Nat) (k : Nat) (e : Ending) (w' : World) : Prop := e = .returned (.int .u64 ((beN (bs.take k) : Nat) : Int)) ∧ ∃ v, w' = w.setCell ⟨d, 0, none⟩ v ∧ Bts w v (bs.drop k) ∧ v.ownBlock = v0.ownBlock
set_option maxRecDepth 100000 in
theorem rdnum_any (d k : Nat) (v : Value) (bs : List Nat) (w : World) (hd : d < w.heap.size) (hc0 : w.cell? ⟨d, 0, none⟩ = some v) (hf0 : w.frozen? ⟨d, 0, none⟩ = false) (hv : Bts w v bs) (hne : ∀ b, v.ownBlock = some b → b ≠ d) (hk : k ≤ 8) (hk0 : k < bs.length) :
    Calls Try.prog 72 #[.pointer (some ⟨d, 0, none⟩), .int .i64 (k : Int)] w (GivesD w d v bs k) := by
  obtain ⟨b, off, c, rfl, hlc, hc, hb, hcell⟩ := hv.some (by omega)
  have HV := Lib.hid hv
  have HNE := Lib.hid (hne b rfl)
  have HCE := Lib.hid hcell
  clear hv hne hcell
  haveI : LtSize d w := ⟨hd⟩
  have i1 : (0 : Int) ≤ (k : Int) := by omega
  have i2 : (k : Int) ≤ (c : Int) := by omega
  generalize hn : bs.length = n at *
  have HN := Lib.hid hn
  clear hn
  go_enter Try.func72, Try.ntmps72
  go_wp2_with fail
  go_loop [5, 15] (fun v5 v15 => ∃ i : Nat, i ≤ k ∧ v15 = .int .i64 i ∧ v5 = .int .u64 ((beN (bs.take i) : Nat) : Int)) (fun _ v15 => k - (intOf v15).toNat)
  case atStart => exact ⟨0, by omega, rfl, rfl⟩
  case round =>
    obtain ⟨i, hi, rfl, rfl⟩ := hrel
    by_cases hlt : i < k
    · have c1 := HCE.out i (by omega)
      have hbt := beN_lt (bs.take i) (fun y hy => HV.out.1 y (List.mem_of_mem_take hy))
      have hpw : 256 ^ (bs.take i).length ≤ 256 ^ 7 := Nat.pow_le_pow_right (by omega) (by rw [List.length_take]; omega)
      have hbl := HV.out.lt i
      have hpw' : beN (bs.take i) < 72057594037927936 := by omega
      have hor := Lib.hid (show bits BinOp.or IntKind.u64 ((beN (bs.take i) : Int) * 256) ((bs.getD i 0 : Nat) : Int) = ((beN (bs.take (i + 1)) : Nat) : Int) by
        rw [or_u64 _ _ hpw' hbl, take_succ_getD bs i (by have := HN.out; omega), beN_snoc])
      generalize beN (bs.take i) = B at *
      generalize bs.getD i 0 = y at *
      clear hbt hpw
      go_wp2_with fail
      exact ⟨⟨i + 1, by omega, by go_num, by rw [hor.out]⟩, by simp [intOf]; omega⟩
    · obtain rfl : i = k := by omega
      have HSK := Lib.hid (bts_skip HV.out i (by omega) hlc)
      go_wp2_with (refine wpList_skip rfl _ _ rfl i b off n c rfl rfl (by omega) hlc ?_)
      go_ret
      exact ⟨rfl, _, rfl, HSK.out, skipV_own _ _ _ _ _⟩
end Go.Proofs.Ytjkgodhoonkinaa
