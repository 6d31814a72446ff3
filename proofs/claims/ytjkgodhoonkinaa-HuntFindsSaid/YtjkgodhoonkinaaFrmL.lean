/-
  The walks over the reference's Read of frames (joined), and the chapter's example.
-/
import Derived.Test.YtjkgodhoonkinaaFrmK
import Derived.Test.YtjkgodhoonkinaaFrmF
namespace Go.Proofs.Ytjkgodhoonkinaa
open Go.RowKit
set_option linter.unusedVariables false
set_option linter.unusedSimpArgs false

theorem rRead_any (v : Value) (bs : List Nat) (w : World) (hv : Bts w v bs) (hn : bs.length ≤ 1000000) :
    Calls Try.prog 18 #[v] w (GivesR w bs) := by
  have hbg : begB bs = if bs.length < 3 then preB [165, 90] bs else decide (bs.getD 0 0 = 165) && (decide (bs.getD 1 0 = 90) && (decide (30 ≤ bs.getD 2 0) && decide (bs.getD 2 0 ≤ 78))) := rfl
  have none : begB bs = false → ∀ e w', Gives w (.tuple #[.agg #[.int .i64 0, .int .i64 0, .int .u32 0, .int .u64 0, .slice Option.none 0 0, .int .u8 0, .int .u8 0, .int .u8 0, .int .u8 0, .int .u8 0, .int .u8 0, .int .u8 0, .int .u8 0, .int .u8 0, .int .u8 0, .int .u8 0, .int .u8 0, .int .u8 0, .int .u8 0, .int .u8 0, .int .u8 0], .int .i64 0, .int .i64 130]) e w' → GivesR w bs e w' :=
    fun h e w' hg => gives_bad (readE_none bs h) (by decide) hg
  have short : begB bs = true → (bs.length < 3 ∨ bs.length < 7 + bs.getD 2 0) → ∀ e w', Gives w (.tuple #[.agg #[.int .i64 0, .int .i64 0, .int .u32 0, .int .u64 0, .slice Option.none 0 0, .int .u8 0, .int .u8 0, .int .u8 0, .int .u8 0, .int .u8 0, .int .u8 0, .int .u8 0, .int .u8 0, .int .u8 0, .int .u8 0, .int .u8 0, .int .u8 0, .int .u8 0, .int .u8 0, .int .u8 0, .int .u8 0], .int .i64 0, .int .i64 7]) e w' → GivesR w bs e w' :=
    fun h h' e w' hg => gives_bad (by
      unfold readE; rw [h, if_pos rfl]
      by_cases h3 : bs.length < 3
      · rw [if_pos h3]
      · rw [if_neg h3, if_pos (by omega)]) (by decide) hg
  by_cases hl0 : bs.length = 0
  · obtain rfl : bs = [] := List.eq_nil_of_length_eq_zero hl0
    exact (rRead_s0 v [] w hv hn rfl).mono (short begB_nil (.inl (by simp)))
  · by_cases h0 : bs.getD 0 0 = 165
    · by_cases hl1 : bs.length = 1
      · refine (rRead_s1 v bs w hv hn hl1 h0).mono (short ?_ (.inl (by omega)))
        match bs, hl1, h0 with
        | [x], _, h0 => rw [begB_one]; simpa using h0
      · by_cases h1 : bs.getD 1 0 = 90
        · by_cases hl2 : bs.length = 2
          · refine (rRead_s2 v bs w hv hn hl2 h0 h1).mono (short ?_ (.inl (by omega)))
            match bs, hl2, h0, h1 with
            | [x, y], _, h0, h1 => rw [begB_two]; simp at h0 h1; simp [h0, h1]
          · rw [if_neg (by omega), h0, h1] at hbg
            by_cases h2 : bs.getD 2 0 < 30
            · exact (rRead_w2 v bs w hv hn (by omega) h0 h1 h2).mono (none (by rw [hbg]; generalize bs.getD 2 0 = z at h2 ⊢; simp; omega))
            · by_cases h3 : 78 < bs.getD 2 0
              · exact (rRead_w3 v bs w hv hn (by omega) h0 h1 h2 h3).mono (none (by rw [hbg]; generalize bs.getD 2 0 = z at h2 h3 ⊢; simp; omega))
              · have hb : begB bs = true := by rw [hbg]; generalize bs.getD 2 0 = z at h2 h3 ⊢; simp; omega
                by_cases hs : bs.length < 7 + bs.getD 2 0
                · exact (rRead_s3 v bs w hv hn (by omega) h0 h1 h2 h3 hs).mono (short hb (.inr hs))
                · have hE := readE_long hb (by omega)
                  cases hr : rightB ((bs.drop 2).take (5 + bs.getD 2 0))
                  · rw [hr, if_neg (by simp)] at hE
                    exact (rRead_sum v bs w hv hn (by omega) h0 h1 h2 h3 hs hr).mono fun e w' h => gives_bad hE (by decide) h
                  · rw [hr, if_pos rfl] at hE
                    exact rRead_good v bs w hv hn (by omega) h0 h1 h2 h3 hs hE hr
        · refine (rRead_w1 v bs w hv hn (by omega) h0 h1).mono (none ?_)
          match bs, hl0, hl1, h0, h1 with
          | [x, y], _, _, _, h1 => rw [begB_two]; simp at h1; simp [h1]
          | x :: y :: z :: t, _, _, _, h1 => rw [begB_more]; simp at h1; simp [h1]
    · refine (rRead_w0 v bs w hv hn (by omega) h0).mono (none ?_)
      match bs, hl0, h0 with
      | [x], _, h0 => rw [begB_one]; simpa using h0
      | [x, y], _, h0 => rw [begB_two]; simp at h0; simp [h0]
      | x :: y :: z :: t, _, h0 => rw [begB_more]; simp at h0; simp [h0]
theorem FrA.drew {w : World} {f : FrmS} {v : Value} (h : FrA w f v) : FrA w.drew f v := h.below (Below.drew (Below.refl _ _))
/-- What a frame's variable holds. -/
def FrV (w : World) (g : Nat) (f : FrmS) (v : Value) : Prop := ∃ L, v = .agg L.toArray ∧ L.length = 21 ∧ L.toArray.all (·.oneCell') = true ∧ w.rangeAt g 0 L ∧ FrA w f v
theorem FrA.list {w : World} {f : FrmS} {v : Value} (h : FrA w f v) : ∃ L : List Value, v = .agg L.toArray ∧ L.length = 21 ∧ L.toArray.all (·.oneCell') = true := by
  obtain ⟨bv, rfl, hb, h1, h2, h3, h4⟩ := h
  exact ⟨_, rfl, frL_length f bv h3, frL_one f (one_slice hb)⟩
theorem readS_ok {bs : List Nat} (h : ∀ x ∈ bs, x < 256) : (readS bs).epoch < 4294967296 ∧ (readS bs).counter < 18446744073709551616 ∧ (readS bs).tag.length = 16 ∧ (∀ x ∈ (readS bs).tag, x < 256) := by
  unfold readS
  by_cases hE : readE bs = 0
  · rw [if_pos hE]
    have h1 := beN_lt ((bs.drop 5).take 4) (fun y hy => h y (List.mem_of_mem_drop (List.mem_of_mem_take hy)))
    have h2 := beN_lt ((bs.drop 9).take 8) (fun y hy => h y (List.mem_of_mem_drop (List.mem_of_mem_take hy)))
    have p1 : 256 ^ ((bs.drop 5).take 4).length ≤ 256 ^ 4 := Nat.pow_le_pow_right (by omega) (by rw [List.length_take]; omega)
    have p2 : 256 ^ ((bs.drop 9).take 8).length ≤ 256 ^ 8 := Nat.pow_le_pow_right (by omega) (by rw [List.length_take]; omega)
    exact ⟨by show beN _ < _; omega, by show beN _ < _; omega, goodS_tag hE, fun x hx => h x (List.mem_of_mem_drop (List.mem_of_mem_take hx))⟩
  · rw [if_neg hE]; exact ⟨by decide, by decide, rfl, by decide⟩
/-- What Read answers, as a frame's value. -/
theorem GivesR.fr {w w' : World} {bs : List Nat} {e : Ending} (h : GivesR w bs e w') (hb : ∀ x ∈ bs, x < 256) : ∃ v, e = .returned (.tuple #[v, .int .i64 ((readN bs : Nat) : Int), .int .i64 (readE bs)]) ∧ FrA w' (readS bs) v ∧ Below w.heap.size w w' := by
  obtain ⟨bv, h1, h2, h3⟩ := h
  exact ⟨_, h1, ⟨bv, rfl, h2.bts, readS_ok hb⟩, h3⟩
end Go.Proofs.Ytjkgodhoonkinaa
