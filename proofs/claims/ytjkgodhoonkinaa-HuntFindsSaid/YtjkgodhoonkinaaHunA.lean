/-
  Slices of frames beside one another: append of a whole slice, and where all that lies.
-/
import Derived.Test.YtjkgodhoonkinaaHunV
import Derived.Maps.AppendAt
namespace Go.Proofs.Ytjkgodhoonkinaa
open Go.RowKit
set_option linter.unusedVariables false
set_option linter.unusedSimpArgs false

/-- v is a slice of these frames, of calls' own; the bodies' blocks are among P. -/
def FrsP (w : World) (v : Value) (fs : List FrmS) (P : Nat → Prop) : Prop :=
  ∃ bvs : List Value, bvs.length = fs.length ∧ w.ownsRow 0 28 21 v fs.length (rowsOf fs bvs) ∧ ∀ (i : Nat) (f : FrmS) (bv : Value), fs[i]? = some f → bvs[i]? = some bv → OwnB w 0 bv f.body ∧ FrLim f ∧ ∀ b, bv.ownBlock = some b → P b
theorem FrsP.frs {w : World} {v : Value} {fs : List FrmS} {P : Nat → Prop} (h : FrsP w v fs P) : FrsO w 0 v fs := by
  obtain ⟨bvs, h1, h2, h3⟩ := h
  exact ⟨bvs, h1, h2, fun i f bv hf hb => ⟨(h3 i f bv hf hb).1, (h3 i f bv hf hb).2.1⟩⟩
theorem ownsRow_mono0 {w : World} {base : Nat} {e : TypeId} {size n : Nat} {v : Value} {xs : List Value} (h : w.ownsRow base e size v n xs) : w.ownsRow 0 e size v n xs :=
  ⟨h.1, h.2.imp id (fun ⟨g, cap, cur, k1, k2, k3⟩ => ⟨g, cap, cur, k1, Nat.zero_le _, k3⟩)⟩
theorem FrsO.frsP {w : World} {base : Nat} {v : Value} {fs : List FrmS} (h : FrsO w base v fs) : FrsP w v fs (fun b => base ≤ b ∧ b < w.heap.size) := by
  obtain ⟨bvs, h1, h2, h3⟩ := h
  exact ⟨bvs, h1, ownsRow_mono0 h2, fun i f bv hf hb => ⟨(h3 i f bv hf hb).1.mono (Nat.zero_le _), (h3 i f bv hf hb).2, fun b hb' => (h3 i f bv hf hb).1.2.lt b hb'⟩⟩
theorem FrsP.imp {w : World} {v : Value} {fs : List FrmS} {P Q : Nat → Prop} (h : FrsP w v fs P) (hi : ∀ b, P b → Q b) : FrsP w v fs Q := by
  obtain ⟨bvs, h1, h2, h3⟩ := h
  exact ⟨bvs, h1, h2, fun i f bv hf hb => ⟨(h3 i f bv hf hb).1, (h3 i f bv hf hb).2.1, fun b hb' => hi b ((h3 i f bv hf hb).2.2 b hb')⟩⟩
theorem FrsP.lt {w : World} {v : Value} {fs : List FrmS} {P : Nat → Prop} (h : FrsP w v fs P) : ∀ k, v.ownBlock = some k → k < w.heap.size := by
  obtain ⟨bvs, h1, h2, h3⟩ := h
  exact fun k hk => (h2.lt k hk).2
theorem FrsP.nil (w : World) (P : Nat → Prop) : FrsP w (.slice none 0 0) [] P := ⟨[], rfl, ⟨rfl, .inl ⟨rfl, rfl⟩⟩, fun i f bv h => by simp at h⟩
theorem FrsP.kept {w w' : World} {v : Value} {fs : List FrmS} {P : Nat → Prop} {row : Option Nat} (h : FrsP w v fs P) (hg : w.grownBy w' row) (hv : v.ownBlock = none ∨ v.ownBlock ≠ row) (hP : ∀ b, P b → some b ≠ row) : FrsP w' v fs P := by
  obtain ⟨bvs, h1, h2, h3⟩ := h
  refine ⟨bvs, h1, h2.kept hg hv, fun i f bv hf hb => ?_⟩
  obtain ⟨ho, hl, hp⟩ := h3 i f bv hf hb
  refine ⟨ho.kept hg ?_, hl, hp⟩
  match hbv : bv.ownBlock with
  | none => exact .inl rfl
  | some b => exact .inr (hP b (hp b hbv))
theorem FrsP.below {w w' : World} {v : Value} {fs : List FrmS} {P : Nat → Prop} (h : FrsP w v fs P) (hb : Below w.heap.size w w') : FrsP w' v fs P := by
  have hg : w.grownBy w' none := ⟨hb.os, hb.tape, hb.output, hb.size, fun k hk _ => hb.block k hk⟩
  exact h.kept hg (Classical.em _) (fun b _ e => by cases e)
theorem FrsP.byFr {w w' : World} {v u : Value} {fs gs : List FrmS} {P Q : Nat → Prop} (h : FrsP w v fs P) (hu : FrsP w u gs Q) (hg : w.grownBy w' u.ownBlock) (hv : v.ownBlock = none ∨ v.ownBlock ≠ u.ownBlock) : FrsP w' v fs P := by
  obtain ⟨bvs, h1, h2, h3⟩ := h
  obtain ⟨cvs, _, k2, _⟩ := hu
  refine ⟨bvs, h1, h2.kept hg hv, fun i f bv hf hb => ?_⟩
  obtain ⟨ho, hl, hp⟩ := h3 i f bv hf hb
  exact ⟨ho.kept hg (rows_apart ho.2 k2 (by decide)), hl, hp⟩
theorem OwnB.byFr {w w' : World} {base : Nat} {v u : Value} {bs : List Nat} {gs : List FrmS} {Q : Nat → Prop} (h : OwnB w base v bs) (hu : FrsP w u gs Q) (hg : w.grownBy w' u.ownBlock) : OwnB w' base v bs := by
  obtain ⟨cvs, _, k2, _⟩ := hu
  exact h.kept hg (rows_apart h.2 k2 (by decide))
theorem FrsP.apart {w : World} {v : Value} {fs : List FrmS} {P : Nat → Prop} {g : Nat} (hf : FrsP w v fs P) (h : U8 w g) : v.ownBlock ≠ some g := h.apart hf.frs
theorem bts_byFr {w w' : World} {v u : Value} {bs : List Nat} {gs : List FrmS} {Q : Nat → Prop} (h : Bts w v bs) (h8 : ∀ b, v.ownBlock = some b → U8 w b) (hu : FrsP w u gs Q) (hg : w.grownBy w' u.ownBlock) : Bts w' v bs := by
  refine bts_kept h hg ?_
  match hv : v.ownBlock with
  | none => exact .inl rfl
  | some b => exact .inr (fun e => hu.apart (h8 b hv) e.symm)
theorem rowsOf_len (fs : List FrmS) (bvs : List Value) (h : bvs.length = fs.length) (ht : ∀ f ∈ fs, f.tag.length = 16) : (rowsOf fs bvs).length = fs.length * 21 := by
  induction fs generalizing bvs with
  | nil => simp [rowsOf]
  | cons f fs ih =>
    match bvs, h with
    | b :: bvs, h =>
      have hr : rowsOf (f :: fs) (b :: bvs) = frL f b ++ rowsOf fs bvs := rfl
      rw [hr, List.length_append, frL_length f b (ht f (by simp)), ih bvs (by simpa using h) (fun g hg => ht g (by simp [hg])), List.length_cons]
      omega
theorem rowsOf_append2 (fs gs : List FrmS) (bvs cvs : List Value) (h : bvs.length = fs.length) : rowsOf (fs ++ gs) (bvs ++ cvs) = rowsOf fs bvs ++ rowsOf gs cvs := by
  unfold rowsOf
  rw [List.zipWith_append h.symm, List.flatten_append]
theorem rowsOf_one (fs : List FrmS) (bvs : List Value) (ho : ∀ b ∈ bvs, b.oneCell' = true) : ∀ u ∈ rowsOf fs bvs, u.oneCell' = true := by
  induction fs generalizing bvs with
  | nil => intro u hu; simp [rowsOf] at hu
  | cons f fs ih =>
    match bvs, ho with
    | [], _ => intro u hu; simp [rowsOf] at hu
    | b :: bvs, ho =>
      intro u hu
      have hr : rowsOf (f :: fs) (b :: bvs) = frL f b ++ rowsOf fs bvs := rfl
      rw [hr, List.mem_append] at hu
      rcases hu with hu | hu
      · exact (Array.all_eq_true_iff_forall_mem.1 (frL_one f (ho b (by simp)))) u (by simpa using hu)
      · exact ih bvs (fun b hb => ho b (by simp [hb])) u hu
/-- append(v, u...) of frames. -/
theorem run_append_frs (w : World) (ty : TypeId) (v u : Value) (fs gs : List FrmS) (P Q : Nat → Prop) (hv : FrsP w v fs P) (hu : FrsP w u gs Q) (hlen : fs.length + gs.length ≤ 1000000) :
    ∃ v' w', (Builtin.append_ #[58, 58] ty #[v, u]).run Try.prog w = .ok v' w' ∧ FrsP w' v' (fs ++ gs) (fun b => P b ∨ Q b) ∧ w.grownBy w' v.ownBlock ∧ (v'.ownBlock = v.ownBlock ∨ v'.ownBlock = some w.heap.size) := by
  obtain ⟨i0, z0, hi, hz0, hz1, hz2, hz3⟩ := info_fr'
  have hv0 := hv
  obtain ⟨bvs, h1, h2, h3⟩ := hv
  obtain ⟨cvs, k1, k2, k3⟩ := hu
  rcases k2.2 with ⟨rfl, e⟩ | ⟨g, cap, cur, rfl, _, hg, hc, _⟩
  · obtain rfl : gs = [] := List.eq_nil_of_length_eq_zero e
    refine ⟨v, w, run_append_owned_none (P := Try.prog) (w := w) 0 58 ty 28 i0 21 Try.underlying58 hi v fs.length (rowsOf fs bvs) h2, ?_, ⟨rfl, rfl, rfl, Nat.le_refl _, fun _ _ _ => rfl⟩, .inl rfl⟩
    rw [List.append_nil]; exact hv0.imp (fun b h => .inl h)
  · have htag : ∀ f ∈ gs, f.tag.length = 16 := fun f' hf' => by
      obtain ⟨k, hk⟩ := List.getElem?_of_mem hf'
      have hkl : k < gs.length := by
        rcases Nat.lt_or_ge k gs.length with h | h
        · exact h
        · rw [List.getElem?_eq_none h] at hk; cases hk
      exact (k3 k f' _ hk (List.getElem?_eq_getElem (by omega))).2.1.2.2.1
    have hone : ∀ b ∈ cvs, b.oneCell' = true := fun b hb => by
      obtain ⟨k, hk⟩ := List.getElem?_of_mem hb
      have hkl : k < cvs.length := by
        rcases Nat.lt_or_ge k cvs.length with h | h
        · exact h
        · rw [List.getElem?_eq_none h] at hk; cases hk
      exact one_slice (k3 k _ b (List.getElem?_eq_getElem (by omega)) hk).1.bts
    obtain ⟨v', w', hr, m2, m3, _, m5⟩ := run_append_own_at (P := Try.prog) w 0 58 ty 28 i0 z0 21 72 Try.underlying58 hi hz0 hz1 hz2 hz3 (by decide) v fs.length (rowsOf fs bvs) h2 ⟨g, 0, none⟩ gs.length cap (rowsOf gs cvs)
      (rowsOf_len gs cvs k1 htag) (fun j u hj => by rw [Addr.add_lit, Nat.zero_add, k2.cellAt j (by
          rcases Nat.lt_or_ge j (rowsOf gs cvs).length with h | h
          · rw [rowsOf_len gs cvs k1 htag] at h; exact h
          · rw [List.getElem?_eq_none h] at hj; cases hj)]; exact hj) (rowsOf_one gs cvs hone) (by unfold maxLen; omega) (by omega) (Nat.zero_le _)
    refine ⟨v', w', hr, ⟨bvs ++ cvs, by simp [h1, k1], ?_, fun i f' bv' hf hb => ?_⟩, m3, m5⟩
    · rw [rowsOf_append2 fs gs bvs cvs h1, List.length_append]; exact m2
    · rcases Nat.lt_or_ge i fs.length with hlt | hge
      · rw [List.getElem?_append_left hlt] at hf
        rw [List.getElem?_append_left (by omega)] at hb
        obtain ⟨o1, o2, o3⟩ := h3 i f' bv' hf hb
        exact ⟨o1.kept m3 (rows_apart o1.2 h2 (by decide)), o2, fun b hb => .inl (o3 b hb)⟩
      · rw [List.getElem?_append_right hge] at hf
        rw [List.getElem?_append_right (by omega), h1] at hb
        obtain ⟨o1, o2, o3⟩ := k3 _ f' bv' hf hb
        exact ⟨o1.kept m3 (rows_apart o1.2 h2 (by decide)), o2, fun b hb => .inr (o3 b hb)⟩
theorem wpList_append_frs {ops : Array Oper} {rest : List Oper} {o : Oper} {a : Act} {Q0 : Exit → Act → World → Prop} {w : World} (hgd : o.guard = none) (s x : Operand)
    (ho : o.op = .call { callee := .builtin .append, args := #[s, x], argTypes := #[58, 58] })
    (v u : Value) (fs gs : List FrmS) (P Q : Nat → Prop) (hs : a.eval s = v) (hv : FrsP w v fs P) (hx : a.eval x = u) (hu : FrsP w u gs Q) (hlen : fs.length + gs.length ≤ 1000000)
    (h : ∀ v' w', FrsP w' v' (fs ++ gs) (fun b => P b ∨ Q b) → w.grownBy w' v.ownBlock → (v'.ownBlock = v.ownBlock ∨ v'.ownBlock = some w.heap.size) → wpList Try.prog ops Q0 rest (a.put o.dst v') w') : wpList Try.prog ops Q0 (o :: rest) a w :=
  wpList_plain hgd fun K hK => by
    obtain ⟨v', w', hr, h1, h2, h3⟩ := run_append_frs w o.type v u fs gs P Q hv hu hlen
    unfold Oper.wp execOp
    simp only [ho, resolve, invoke, builtin, Sem.run_bind, Sem.run_pure, Result.andThen_ok, List.map_toArray, List.map_cons, List.map_nil, hs, hx, hr]
    exact hK _ _ (h v' w' h1 h2 h3)
/-- append(v, u...) of bytes; v may be nil. -/
theorem run_append_btsA (w : World) (ty : TypeId) (v u : Value) (xs ys : List Nat) (hown : OwnB w 0 v xs) (hu : Bts w u ys) (hlen : xs.length + ys.length ≤ 140737488355328) :
    ∃ v' w', (Builtin.append_ #[22, 22] ty #[v, u]).run Try.prog w = .ok v' w' ∧ OwnB w' 0 v' (xs ++ ys) ∧ w.grownBy w' v.ownBlock ∧ (v'.ownBlock = v.ownBlock ∨ v'.ownBlock = some w.heap.size) := by
  obtain ⟨i0, hi, hz0, hz1, hz2⟩ := info_parts info_u8
  obtain ⟨hb, ⟨rfl, rfl⟩ | ⟨ad, cap, rfl, rfl⟩ | ⟨b, off, cap, rfl, hl, hc, hbs, hcell⟩⟩ := hu
  · refine ⟨v, w, run_append_owned_none (P := Try.prog) (w := w) 0 22 ty 5 i0 1 Try.underlying22 hi v xs.length (byteVs xs) hown.2, ?_, ⟨rfl, rfl, rfl, Nat.le_refl _, fun _ _ _ => rfl⟩, .inl rfl⟩
    rw [List.append_nil]; exact hown
  · obtain ⟨v', w', hr, h2, h3, h4, h5⟩ := run_append_own_at (P := Try.prog) w 0 22 ty 5 i0 (.int .u8 0) 1 1 Try.underlying22 hi hz0 hz1 hz2 rfl (by decide) v xs.length (byteVs xs) hown.2 ad 0 cap []
      rfl (fun j u hj => by simp at hj) (fun u hu => by cases hu) (by unfold maxLen; simp at hlen; omega) (by simp at hlen; omega) (Nat.zero_le _)
    refine ⟨v', w', hr, ?_, h3, h5⟩
    simp only [List.append_nil, Nat.add_zero] at h2 ⊢
    exact ⟨hown.1, h2⟩
  · obtain ⟨v', w', hr, h2, h3, h4, h5⟩ := run_append_own_at (P := Try.prog) w 0 22 ty 5 i0 (.int .u8 0) 1 1 Try.underlying22 hi hz0 hz1 hz2 rfl (by decide) v xs.length (byteVs xs) hown.2 ⟨b, off, none⟩ ys.length cap (byteVs ys)
      (by rw [byteVs_length]; omega) (fun j u hj => by
        rcases Nat.lt_or_ge j ys.length with hjl | hjl
        · rw [byteVs_get ys j hjl] at hj; rw [Addr.add_lit]
          rw [← hj]; exact hcell j hjl
        · rw [List.getElem?_eq_none (by rw [byteVs_length]; exact hjl)] at hj; cases hj) (fun u hu => by
        obtain ⟨n, _, rfl⟩ := List.mem_map.1 hu; rfl) (by unfold maxLen; omega) (by omega) (Nat.zero_le _)
    refine ⟨v', w', hr, ⟨fun z hz => ?_, ?_⟩, h3, h5⟩
    · rcases List.mem_append.1 hz with hz | hz
      · exact hown.1 z hz
      · exact hb z hz
    · rw [byteVs_append, List.length_append]; exact h2
theorem wpList_append_bts_at {ops : Array Oper} {rest : List Oper} {o : Oper} {a : Act} {Q0 : Exit → Act → World → Prop} {w : World} (hgd : o.guard = none) (s x : Operand)
    (ho : o.op = .call { callee := .builtin .append, args := #[s, x], argTypes := #[22, 22] })
    (v u : Value) (xs ys : List Nat) (hs : a.eval s = v) (hv : OwnB w 0 v xs) (hx : a.eval x = u) (hu : Bts w u ys) (hlen : xs.length + ys.length ≤ 140737488355328)
    (h : ∀ v' w', OwnB w' 0 v' (xs ++ ys) → w.grownBy w' v.ownBlock → (v'.ownBlock = v.ownBlock ∨ v'.ownBlock = some w.heap.size) → wpList Try.prog ops Q0 rest (a.put o.dst v') w') : wpList Try.prog ops Q0 (o :: rest) a w :=
  wpList_plain hgd fun K hK => by
    obtain ⟨v', w', hr, h1, h2, h3⟩ := run_append_btsA w o.type v u xs ys hv hu hlen
    unfold Oper.wp execOp
    simp only [ho, resolve, invoke, builtin, Sem.run_bind, Sem.run_pure, Result.andThen_ok, List.map_toArray, List.map_cons, List.map_nil, hs, hx, hr]
    exact hK _ _ (h v' w' h1 h2 h3)
end Go.Proofs.Ytjkgodhoonkinaa
