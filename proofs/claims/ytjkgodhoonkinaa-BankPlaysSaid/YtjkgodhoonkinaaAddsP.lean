/-
  The law CrcAdds: what holds at a round's head.
-/
import Derived.Test.YtjkgodhoonkinaaRightX
namespace Go.Proofs.Ytjkgodhoonkinaa
open Go.RowKit

theorem putB_lt {bs : List Nat} (h : ∀ x ∈ bs, x < 256) : ∀ x ∈ putB bs, x < 256 := by
  intro x hx
  rcases List.mem_append.1 hx with hx | hx
  · exact h x hx
  · exact sumB_lt _ x hx
theorem rightB_put (bs : List Nat) : rightB (putB bs) = true := by
  have h : (putB bs).length = bs.length + 4 := putB_length bs
  rw [rightB_long h]
  unfold sameB
  rw [decide_eq_true_eq]
  have : (putB bs).take bs.length = bs := by unfold putB; rw [List.take_left]
  rw [this]

theorem rows_apart {w : World} {base base' : Nat} {e e' : TypeId} {size size' n n' : Nat} {v v' : Value} {xs xs' : List Value} (h : w.ownsRow base e size v n xs) (h' : w.ownsRow base' e' size' v' n' xs') (he : e ≠ e') : v.ownBlock = none ∨ v.ownBlock ≠ v'.ownBlock := by
  rcases h.2 with ⟨rfl, _⟩ | ⟨g, cap, cur, rfl, _, hg, _⟩
  · exact .inl rfl
  · refine .inr fun hh => ?_
    rcases h'.2 with ⟨rfl, _⟩ | ⟨g', cap', cur', rfl, _, hg', _⟩
    · cases hh
    · simp only [Value.ownBlock, Option.some.injEq] at hh
      subst hh
      rw [hg] at hg'
      simp at hg'
      exact he hg'.2
theorem OwnB.kept {w w' : World} {base : Nat} {v : Value} {bs : List Nat} {row : Option Nat} (h : OwnB w base v bs) (hg : w.grownBy w' row) (hne : v.ownBlock = none ∨ v.ownBlock ≠ row) : OwnB w' base v bs := ⟨h.1, h.2.kept hg hne⟩
theorem OwnB.mono {w : World} {base base' : Nat} {v : Value} {bs : List Nat} (h : OwnB w base v bs) (hz : base' ≤ base) : OwnB w base' v bs :=
  ⟨h.1, h.2.1, h.2.2.imp id (fun ⟨g, cap, cur, k1, k2, k3⟩ => ⟨g, cap, cur, k1, Nat.le_trans hz k2, k3⟩)⟩

theorem info_sl : (Try.prog.info? 22).map (fun i => (i.zero, i.size, i.bytes)) = some (some (.slice none 0 0), 1, 24) := by kernel_rfl
/-- append(l, u): one slice more. -/
theorem wpList_append_one {ops : Array Oper} {rest : List Oper} {o : Oper} {a : Act} {Q : Exit → Act → World → Prop} {w : World} (hgd : o.guard = none) (s x : Operand)
    (ho : o.op = .call { callee := .builtin .append, args := #[s, x], argTypes := #[75, 75] })
    (base : Nat) (v : Value) (us : List Value) (hs : a.eval s = v) (hown : w.ownsRow base 22 1 v us.length us) (g : Nat) (ua : Option Addr) (un uc : Nat) (hx : a.eval x = .slice (some ⟨g, 0, none⟩) 1 1) (hu : w.cell? ⟨g, 0, none⟩ = some (.slice ua un uc))
    (hlen : us.length ≤ 1000) (hbase : base ≤ w.heap.size)
    (h : ∀ v' w', w'.ownsRow base 22 1 v' (us ++ [Value.slice ua un uc]).length (us ++ [Value.slice ua un uc]) → w.grownBy w' v.ownBlock → wpList Try.prog ops Q rest (a.put o.dst v') w') : wpList Try.prog ops Q (o :: rest) a w := by
  obtain ⟨i0, hi, hz0, hz1, hz2⟩ := info_parts info_sl
  refine wpList_append_own w hgd s x 75 ho base 22 i0 (.slice none 0 0) 1 24 Try.underlying75 hi hz0 hz1 hz2 rfl (by decide) v us.length us hs hown ⟨g, 0, none⟩ 1 1 [.slice ua un uc] hx
    rfl (fun j u hj => ?_) (fun u hu => ?_) (by unfold maxLen; omega) (by omega) hbase (fun v' w' h2 h3 h4 => ?_)
  · match j, hj with
    | 0, hj => simp at hj; subst hj; simpa [Addr.add] using hu
  · simp at hu; subst hu; rfl
  · exact h v' w' (by rw [List.length_append]; exact h2) h3
end Go.Proofs.Ytjkgodhoonkinaa
