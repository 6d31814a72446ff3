/-
  The walks over frame.Read (joined), and over the reference's number and get.
-/
import Derived.Test.YtjkgodhoonkinaaFrmG
namespace Go.Proofs.Ytjkgodhoonkinaa
open Go.RowKit
set_option linter.unusedVariables false

theorem OwnB.nil (w : World) (base : Nat) : OwnB w base (.slice none 0 0) [] := ⟨(fun _ h => by cases h), by simp [byteVs], .inl ⟨rfl, rfl⟩⟩
theorem readS_bad {bs : List Nat} (h : readE bs ≠ 0) : readS bs = zeroS ∧ readN bs = 0 := by
  unfold readS readN; rw [if_neg h, if_neg h]; exact ⟨rfl, rfl⟩
theorem gives_bad {w w' : World} {bs : List Nat} {e : Ending} {c : Int} (hc : readE bs = c) (h0 : c ≠ 0)
    (h : Gives w (.tuple #[.agg #[.int .i64 0, .int .i64 0, .int .u32 0, .int .u64 0, .slice none 0 0, .int .u8 0, .int .u8 0, .int .u8 0, .int .u8 0, .int .u8 0, .int .u8 0, .int .u8 0, .int .u8 0, .int .u8 0, .int .u8 0, .int .u8 0, .int .u8 0, .int .u8 0, .int .u8 0, .int .u8 0, .int .u8 0], .int .i64 0, .int .i64 c]) e w') : GivesR w bs e w' := by
  obtain ⟨rfl, x, rfl⟩ := h
  obtain ⟨h1, h2⟩ := readS_bad (bs := bs) (by rw [hc]; exact h0)
  refine ⟨.slice none 0 0, ?_, ?_, up_below _ _⟩
  · rw [h1, h2, hc]; rfl
  · rw [h1]; exact OwnB.nil _ _
theorem fRead_any (v : Value) (bs : List Nat) (w : World) (hv : Bts w v bs) (hn : bs.length ≤ 1000000) :
    Calls Try.prog 16 #[v] w (GivesR w bs) := by
  cases hb : begB bs
  · exact (fRead_frame v bs w hv hn hb).mono fun e w' h => gives_bad (readE_none bs hb) (by decide) h
  · by_cases h3 : bs.length < 3
    · exact (fRead_short v bs w hv h3 hb).mono fun e w' h => gives_bad (by unfold readE; rw [hb, if_pos rfl, if_pos h3]) (by decide) h
    · by_cases h7 : bs.length < 7 + bs.getD 2 0
      · exact (fRead_less v bs w hv h3 hn h7 hb).mono fun e w' h => gives_bad (by unfold readE; rw [hb, if_pos rfl, if_neg h3, if_pos h7]) (by decide) h
      · have h30 := begB_len hb h3
        have hE := readE_long hb (by omega)
        cases hr : rightB ((bs.drop 2).take (5 + bs.getD 2 0))
        · rw [hr, if_neg (by simp)] at hE
          exact (fRead_sum v bs w hv h3 hn (by omega) hb hr).mono fun e w' h => gives_bad hE (by decide) h
        · exact fRead_good v bs w hv h3 hn (by omega) h30.1 hb hr
theorem beN_take_lt {bs : List Nat} (h : ∀ x ∈ bs, x < 256) (i k : Nat) (hk : k ≤ 7) : beN ((bs.drop i).take k) < 72057594037927936 := by
  have hbt := beN_lt ((bs.drop i).take k) (fun y hy => h y (List.mem_of_mem_drop (List.mem_of_mem_take hy)))
  have hpw : 256 ^ ((bs.drop i).take k).length ≤ 256 ^ 7 := Nat.pow_le_pow_right (by omega) (by rw [List.length_take]; omega)
  omega
theorem drop_take_succ (bs : List Nat) (i k : Nat) (h : i + k < bs.length) : (bs.drop i).take (k + 1) = (bs.drop i).take k ++ [bs.getD (i + k) 0] := by
  rw [take_succ_getD _ _ (by rw [List.length_drop]; omega)]
  congr 2
  rw [List.getD_eq_getElem?_getD, List.getD_eq_getElem?_getD, List.getElem?_drop]
set_option maxRecDepth 100000 in
theorem rget_any (v : Value) (bs : List Nat) (i n : Nat) (w : World) (hv : Bts w v bs) (hn : n ≤ 8) (hi : i + n ≤ bs.length) (hl : bs.length ≤ 1000000) :
    Calls Try.prog 63 #[v, .int .i64 (i : Int), .int .i64 (n : Int)] w (Tells w (.int .u64 ((beN ((bs.drop i).take n) : Nat) : Int))) := by
  obtain ⟨va, vn, vc, rfl⟩ := hv.slice
  obtain rfl := hv.len
  have HV := Lib.hid hv
  clear hv
  go_enter Try.func63, Try.ntmps63
  go_wp2_with fail
  go_loop [7, 8] (fun v7 v8 => ∃ k : Nat, k ≤ n ∧ v8 = .int .i64 k ∧ v7 = .int .u64 ((beN ((bs.drop i).take k) : Nat) : Int)) (fun _ v8 => n - (intOf v8).toNat)
  case atStart => exact ⟨0, by omega, rfl, rfl⟩
  case round =>
    obtain ⟨k, hk, rfl, rfl⟩ := hrel
    by_cases hlt : k < n
    · obtain ⟨b, off, cap, hsl, hlc, hc, hb, hcell⟩ := HV.out.some (by omega)
      obtain ⟨rfl, rfl⟩ : va = some ⟨b, off, none⟩ ∧ vc = cap := by simpa using hsl
      have c0 := hcell (i + k) (by omega)
      have hbt := beN_take_lt HV.out.1 i k (by omega)
      have hbl := HV.out.lt (i + k)
      have hsn := Lib.hid (show beN ((bs.drop i).take (k + 1)) = beN ((bs.drop i).take k) * 256 + bs.getD (i + k) 0 by rw [drop_take_succ bs i k (by omega), beN_snoc])
      generalize beN ((bs.drop i).take k) = B at *
      generalize bs.getD (i + k) 0 = y at *
      have hik : ((i : Int) + (k : Int)) < (bs.length : Int) := by omega
      clear hcell hsl
      go_wp2
      exact ⟨⟨k + 1, by omega, by go_num, by rw [hsn.out]; congr 1; omega⟩, by simp [intOf]; omega⟩
    · obtain rfl : k = n := by omega
      go_wp2
      go_ret
      exact Tells.mk rfl
def NumAt (w : World) (n x : Nat) (k : Nat) (v0 v : Value) (wr : World) : Prop :=
  v0 = .int .u64 ((x / 256 ^ k : Nat) : Int) ∧ OwnB wr w.heap.size v (beB k (x % 256 ^ k)) ∧ Below w.heap.size w wr ∧ v ≠ .slice none 0 0
theorem beB_mod (n : Nat) : ∀ x, beB n (x % 256 ^ n) = beB n x := by
  induction n with
  | zero => intro x; rfl
  | succ n ih =>
    intro x
    unfold beB
    rw [show x % 256 ^ (n + 1) % 256 = x % 256 by rw [Nat.pow_succ, Nat.mul_comm]; exact Nat.mod_mul_right_mod x 256 (256 ^ n), show x % 256 ^ (n + 1) / 256 = (x / 256) % 256 ^ n by rw [Nat.pow_succ, Nat.mul_comm]; exact Nat.mod_mul_right_div_self x 256 (256 ^ n), ih]
theorem beB_front' (k x : Nat) : beB (k + 1) (x % 256 ^ (k + 1)) = [x / 256 ^ k % 256] ++ beB k (x % 256 ^ k) := by rw [beB_mod, beB_mod, beB_front]
set_option maxRecDepth 100000 in
theorem number_any (x n : Nat) (w : World) (hx : x < 18446744073709551616) (hn : n ≤ 8) (hn0 : 0 < n) :
    Calls Try.prog 69 #[.int .u64 ((x : Nat) : Int), .int .i64 (n : Int)] w (GivesB w (beB n x)) := by
  have he := Lib.hid (OwnB.empty w)
  go_enter Try.func69, Try.ntmps69
  go_wp2_with fail
  go_loopw [0, 5, 6] (fun v0 v5 v6 wr => ∃ k : Nat, k ≤ n ∧ v6 = .int .i64 k ∧ NumAt w n x k v0 v5 wr) (fun _ _ v6 _ => n - (intOf v6).toNat)
  case atStart => exact ⟨0, by omega, rfl, by simp, he.out, (Below.refl _ _).alloc (Nat.le_refl _) _, by simp⟩
  case round =>
    clear he
    obtain ⟨k, hk, rfl, rfl, ho, hb, hne⟩ := hrel
    have HO := Lib.hid ho
    have HB := Lib.hid hb
    by_cases hlt : k < n
    · have hq : x / 256 ^ k < 18446744073709551616 := Nat.lt_of_le_of_lt (Nat.div_le_self _ _) hx
      have hs := Lib.hid (show x / 256 ^ (k + 1) = x / 256 ^ k / 256 by rw [Nat.pow_succ, Nat.div_div_eq_div_mul])
      have hf := Lib.hid (beB_front' k x)
      have hl : ([x / 256 ^ k % 256] : List Nat).length + (beB k (x % 256 ^ k)).length ≤ 140737488355328 := by rw [beB_length]; simp; omega
      have HL := Lib.hid hl
      generalize x / 256 ^ k = q at *
      generalize beB k (x % 256 ^ k) = B at *
      have HLIT := Lib.hid (OwnB.lit wr (C := #[.int .u8 ((q : Int) % 256)]) (bs := [q % 256]) (by simp [byteVs]) (by simp; omega) (by simp))
      clear ho hb hne hl
      go_wp2_with (at_builtin; refine wpList_append_bts rfl _ _ rfl wr.heap.size (.slice (some ⟨wr.heap.size, 0, none⟩) 1 1) [q % 256] (by rfl) HLIT.out _ B rfl HO.out.bts.alloc HL.out (by simp) (fun v2 w2 ho2 hg2 hne2 => ?_); have HO2 := Lib.hid ho2; have HG2 := Lib.hid hg2; have HN2 := Lib.hid hne2; clear ho2 hg2 hne2)
      refine ⟨⟨k + 1, by omega, by go_num, ?_, ?_, ?_, HN2.out (by simp)⟩, by simp [intOf]; omega⟩
      · rw [hs.out]; congr 1
      · rw [hf.out]; exact HO2.out.mono HB.out.size
      · exact Below.trans HB.out ((Below.trans ((Below.refl _ _).alloc (Nat.le_refl _) _) (Below.grownBy HG2.out (by simp) (fun k hk => by cases hk; exact Nat.le_refl _))).mono HB.out.size)
    · obtain rfl : k = n := by omega
      clear ho hb
      go_wp2_with fail
      go_ret
      refine GivesB.mk ?_ hne HB.out
      rw [← beB_mod]; exact HO.out
end Go.Proofs.Ytjkgodhoonkinaa
