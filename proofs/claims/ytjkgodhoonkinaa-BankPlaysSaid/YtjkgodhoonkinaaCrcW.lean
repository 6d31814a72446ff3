/-
  The walks over the crc layer: Add, and the reference's Add.
-/
import Derived.Test.YtjkgodhoonkinaaMem
import Derived.Test.YtjkgodhoonkinaaCrcP
import Derived.Test.YtjkgodhoonkinaaProg
namespace Go.Proofs.Ytjkgodhoonkinaa
open Go.RowKit

theorem cadd_snoc (r : Nat) (bs : List Nat) (k : Nat) (h : k < bs.length) : cadd r (bs.take (k + 1)) = csteps 8 (cadd r (bs.take k) ^^^ bs.getD k 0) := by
  rw [take_succ_getD bs k h, cadd_append]; rfl

theorem cstep_v0 (t : Nat) (ht : t < 4294967296) (h : t % 2 = 0) : bits BinOp.xor IntKind.u32 ((t : Int) / 2) (bits BinOp.and IntKind.u32 3988292384 0) = ((cstep t : Nat) : Int) := by
  rw [show bits BinOp.and IntKind.u32 3988292384 0 = 0 from by decide, show ((t : Int) / 2) = ((t / 2 : Nat) : Int) from by omega]
  have := u32_xor_nat (t / 2) 0 (by omega) (by decide)
  rw [show ((0 : Nat) : Int) = 0 from rfl] at this
  rw [this]; unfold cstep; rw [if_neg (by omega)]
theorem cstep_v1 (t : Nat) (ht : t < 4294967296) (h : t % 2 = 1) : bits BinOp.xor IntKind.u32 ((t : Int) / 2) (bits BinOp.and IntKind.u32 3988292384 4294967295) = ((cstep t : Nat) : Int) := by
  rw [show bits BinOp.and IntKind.u32 3988292384 4294967295 = ((3988292384 : Nat) : Int) from by decide, show ((t : Int) / 2) = ((t / 2 : Nat) : Int) from by omega]
  rw [u32_xor_nat (t / 2) 3988292384 (by omega) (by decide)]; unfold cstep; rw [if_pos h]
theorem val_int {k : IntKind} {a b : Int} (h : a = b) : Value.int k a = Value.int k b := by rw [h]

set_option maxHeartbeats 400000 in
theorem Add_any (r : Nat) (v : Value) (bs : List Nat) (w : World) (hr : r < 4294967296) (hv : Bts w v bs) :
    Calls Try.prog 92 #[.int .u32 (r : Int), v] w (Tells w (.int .u32 (cadd r bs : Nat))) := by
  have hlt := hv.lt
  obtain ⟨hb, ⟨rfl, rfl⟩ | ⟨_, _, rfl, rfl⟩ | ⟨b, off, cap, rfl, hlc, hcap, hbs, hcell⟩⟩ := hv
  · go_enter Try.func92, Try.ntmps92
    go_wp2_with fail
    go_loop [0, 10] (fun v0 v10 => v0 = .int .u32 (r : Int) ∧ v10 = .int .i64 0) (fun _ _ => 0)
    case atStart => exact ⟨rfl, rfl⟩
    case round =>
      obtain ⟨rfl, rfl⟩ := hrel
      go_wp2_with fail
      go_ret
      exact Tells.mk rfl
  · go_enter Try.func92, Try.ntmps92
    go_wp2_with fail
    go_loop [0, 10] (fun v0 v10 => v0 = .int .u32 (r : Int) ∧ v10 = .int .i64 0) (fun _ _ => 0)
    case atStart => exact ⟨rfl, rfl⟩
    case round =>
      obtain ⟨rfl, rfl⟩ := hrel
      go_wp2_with fail
      go_ret
      exact Tells.mk rfl
  · have hcb := fun k hk => cadd_lt (bs := bs.take k) (fun x hx => hb x (List.mem_of_mem_take hx)) r hk
    have HB := Lib.hid hcb; clear hcb
    have HL := Lib.hid hlt; clear hlt
    have HC := Lib.hid hcell; clear hcell
    clear hb
    go_enter Try.func92, Try.ntmps92
    go_wp2_with fail
    go_loop [0, 10] (fun v0 v10 => ∃ k : Nat, k ≤ bs.length ∧ v10 = .int .i64 k ∧ v0 = .int .u32 (cadd r (bs.take k) : Nat)) (fun _ v10 => bs.length - (intOf v10).toNat)
    case atStart => exact ⟨0, Nat.zero_le _, rfl, rfl⟩
    case round =>
      obtain ⟨k, hk, rfl, rfl⟩ := hrel
      by_cases hlt : k < bs.length
      · have hc := HC.out k hlt
        have hx := HL.out k
        have hs := Lib.hid (cadd_snoc r bs k hlt)
        have hq := HB.out k hr
        generalize cadd r (bs.take k) = q at *
        generalize bs.getD k 0 = x at *
        go_wp2_with fail
        rw [u32_xor_nat q x hq (by omega)]
        go_loop [0, 18] (fun v0 v18 => ∃ j : Nat, j ≤ 8 ∧ v18 = .int .i64 j ∧ v0 = .int .u32 (csteps j (q ^^^ x) : Nat)) (fun _ v18 => 8 - (intOf v18).toNat)
        case atStart => exact ⟨0, Nat.zero_le _, rfl, rfl⟩
        case round =>
          obtain ⟨j, hj, rfl, rfl⟩ := hrel
          have hst := csteps_lt j _ (xor_lt32 hq (show x < 4294967296 by omega))
          have hj' := Lib.hid (csteps_succ' j (q ^^^ x))
          by_cases hj8 : j < 8
          · generalize csteps j (q ^^^ x) = t at *
            have e1 : bits BinOp.and IntKind.u32 (t : Int) 1 = ((t % 2 : Nat) : Int) := by
              have := u32_and_nat t 1 hst (by decide); rw [nat_mask1] at this; exact this
            rcases Nat.mod_two_eq_zero_or_one t with e2 | e2
            · rw [e2] at e1
              go_wp2_with fail
              exact ⟨⟨j + 1, by omega, by go_num, val_int (by rw [hj'.out]; exact cstep_v0 t hst e2)⟩, by simp [intOf]; omega⟩
            · rw [e2] at e1
              go_wp2_with fail
              exact ⟨⟨j + 1, by omega, by go_num, val_int (by rw [hj'.out]; exact cstep_v1 t hst e2)⟩, by simp [intOf]; omega⟩
          · obtain rfl : j = 8 := by omega
            go_wp2_with fail
            exact ⟨⟨k + 1, by omega, by go_num, val_int (by rw [hs.out])⟩, by simp [intOf]; omega⟩
      · go_wp2_with fail
        go_ret
        exact Tells.mk (ret_int (by rw [List.take_of_length_le (by omega)]))

set_option maxHeartbeats 400000 in
theorem rAdd_any (r : Nat) (v : Value) (bs : List Nat) (w : World) (hr : r < 4294967296) (hv : Bts w v bs) :
    Calls Try.prog 91 #[.int .u32 (r : Int), v] w (Tells w (.int .u32 (cadd r bs : Nat))) := by
  have hlt := hv.lt
  obtain ⟨hb, ⟨rfl, rfl⟩ | ⟨_, _, rfl, rfl⟩ | ⟨b, off, cap, rfl, hlc, hcap, hbs, hcell⟩⟩ := hv
  · go_enter Try.func91, Try.ntmps91
    go_wp2_with fail
    go_loop [0, 5] (fun v0 v5 => v0 = .int .u32 (r : Int) ∧ v5 = .int .i64 0) (fun _ _ => 0)
    case atStart => exact ⟨rfl, rfl⟩
    case round =>
      obtain ⟨rfl, rfl⟩ := hrel
      go_wp2_with fail
      go_ret
      exact Tells.mk rfl
  · go_enter Try.func91, Try.ntmps91
    go_wp2_with fail
    go_loop [0, 5] (fun v0 v5 => v0 = .int .u32 (r : Int) ∧ v5 = .int .i64 0) (fun _ _ => 0)
    case atStart => exact ⟨rfl, rfl⟩
    case round =>
      obtain ⟨rfl, rfl⟩ := hrel
      go_wp2_with fail
      go_ret
      exact Tells.mk rfl
  · have hcb := fun k hk => cadd_lt (bs := bs.take k) (fun x hx => hb x (List.mem_of_mem_take hx)) r hk
    have HB := Lib.hid hcb; clear hcb
    have HL := Lib.hid hlt; clear hlt
    have HC := Lib.hid hcell; clear hcell
    clear hb
    go_enter Try.func91, Try.ntmps91
    go_wp2_with fail
    go_loop [0, 5] (fun v0 v5 => ∃ k : Nat, k ≤ bs.length ∧ v5 = .int .i64 k ∧ v0 = .int .u32 (cadd r (bs.take k) : Nat)) (fun _ v5 => bs.length - (intOf v5).toNat)
    case atStart => exact ⟨0, Nat.zero_le _, rfl, rfl⟩
    case round =>
      obtain ⟨k, hk, rfl, rfl⟩ := hrel
      by_cases hlt : k < bs.length
      · have hc := HC.out k hlt
        have hx := HL.out k
        have hs := Lib.hid (cadd_snoc r bs k hlt)
        have hq := HB.out k hr
        generalize cadd r (bs.take k) = q at *
        generalize bs.getD k 0 = x at *
        go_wp2_with fail
        rw [u32_xor_nat q x hq (by omega)]
        go_loop [0, 6] (fun v0 v6 => ∃ j : Nat, j ≤ 8 ∧ v6 = .int .i64 j ∧ v0 = .int .u32 (csteps j (q ^^^ x) : Nat)) (fun _ v6 => 8 - (intOf v6).toNat)
        case atStart => exact ⟨0, Nat.zero_le _, rfl, rfl⟩
        case round =>
          obtain ⟨j, hj, rfl, rfl⟩ := hrel
          have hst := csteps_lt j _ (xor_lt32 hq (show x < 4294967296 by omega))
          have hj' := Lib.hid (csteps_succ' j (q ^^^ x))
          by_cases hj8 : j < 8
          · generalize csteps j (q ^^^ x) = t at *
            rcases Nat.mod_two_eq_zero_or_one t with e2 | e2
            · have e3 : ((t : Int) % 2 == 1) = false := by simp; omega
              have e4 : (t : Int) % 2 = 0 := by omega
              clear e2
              go_wp2_with fail
              exact ⟨⟨j + 1, by omega, by go_num, val_int (by rw [hj'.out]; unfold cstep; rw [if_neg (by omega)]; simp)⟩, by simp [intOf]; omega⟩
            · have e3 : ((t : Int) % 2 == 1) = true := by simp; omega
              have e4 : (t : Int) % 2 = 1 := by omega
              clear e2
              go_wp2_with fail
              exact ⟨⟨j + 1, by omega, by go_num, val_int (by rw [hj'.out, show ((t : Int) / 2) = ((t / 2 : Nat) : Int) from by omega]; have := u32_xor_nat (t / 2) 3988292384 (by omega) (by decide); rw [show ((3988292384 : Nat) : Int) = 3988292384 from rfl] at this; rw [this]; unfold cstep; rw [if_pos (by omega)])⟩, by simp [intOf]; omega⟩
          · obtain rfl : j = 8 := by omega
            go_wp2_with fail
            exact ⟨⟨k + 1, by omega, by go_num, val_int (by rw [hs.out])⟩, by simp [intOf]; omega⟩
      · go_wp2_with fail
        go_ret
        exact Tells.mk (ret_int (by rw [List.take_of_length_le (by omega)]))

theorem rOf_any (v : Value) (bs : List Nat) (w : World) (hv : Bts w v bs) :
    Calls Try.prog 88 #[v] w (Tells w (.int .u32 (cof bs : Nat))) := by
  have hl := cadd_lt hv.1 4294967295 (by decide)
  have HV := Lib.hid hv; clear hv
  have hcof := Lib.hid (show ((cof bs : Nat) : Int) = 4294967295 - (cadd 4294967295 bs : Nat) by unfold cof; omega)
  go_enter Try.func88, Try.ntmps88
  go_wp2_with (go_at_call 91; refine (rAdd_any 4294967295 _ _ _ (by decide) HV.out).mono ?_; rintro e w1 ⟨rfl, rfl⟩)
  go_ret
  exact Tells.mk (ret_int (by rw [hcof.out]))

set_option maxHeartbeats 400000 in
theorem Of_any (v : Value) (ls : List (List Nat)) (w : World) (hv : BtsL w v ls) :
    Calls Try.prog 89 #[v] w (Tells w (.int .u32 (cof ls.flatten : Nat))) := by
  obtain ⟨rfl, rfl⟩ | ⟨_, _, rfl, rfl⟩ | ⟨b, off, cap, rfl, hlc, hcap, hbs, hcell⟩ := hv
  · go_enter Try.func89, Try.ntmps89
    go_wp2_with fail
    go_loop [3, 8] (fun v3 v8 => v3 = .int .u32 4294967295 ∧ v8 = .int .i64 0) (fun _ _ => 0)
    case atStart => exact ⟨rfl, rfl⟩
    case round =>
      obtain ⟨rfl, rfl⟩ := hrel
      go_wp2_with fail
      go_ret
      exact Tells.mk rfl
  · go_enter Try.func89, Try.ntmps89
    go_wp2_with fail
    go_loop [3, 8] (fun v3 v8 => v3 = .int .u32 4294967295 ∧ v8 = .int .i64 0) (fun _ _ => 0)
    case atStart => exact ⟨rfl, rfl⟩
    case round =>
      obtain ⟨rfl, rfl⟩ := hrel
      go_wp2_with fail
      go_ret
      exact Tells.mk rfl
  · have HC := Lib.hid hcell; clear hcell
    have hby : ∀ k, k ≤ ls.length → ∀ x ∈ (ls.take k).flatten, x < 256 := fun k hk x hx => by
      obtain ⟨l, hl, hxl⟩ := List.mem_flatten.1 hx
      obtain ⟨i, hi, rfl⟩ := List.getElem_of_mem hl
      rw [List.length_take] at hi
      obtain ⟨u, _, h2⟩ := HC.out i (by omega)
      rw [List.getD_eq_getElem?_getD, List.getElem?_eq_getElem (by omega)] at h2
      rw [List.getElem_take] at hxl
      exact h2.1 x hxl
    have HB := Lib.hid hby; clear hby
    go_enter Try.func89, Try.ntmps89
    go_wp2_with fail
    go_loop [3, 8] (fun v3 v8 => ∃ k : Nat, k ≤ ls.length ∧ v8 = .int .i64 k ∧ v3 = .int .u32 (cadd 4294967295 (ls.take k).flatten : Nat)) (fun _ v8 => ls.length - (intOf v8).toNat)
    case atStart => exact ⟨0, Nat.zero_le _, rfl, by simp [cadd]⟩
    case round =>
      obtain ⟨k, hk, rfl, rfl⟩ := hrel
      have hq := cadd_lt (HB.out k hk) 4294967295 (by decide)
      by_cases hlt : k < ls.length
      · obtain ⟨u, hu1, hu2⟩ := HC.out k hlt
        have HU := Lib.hid hu2; clear hu2
        have hs := Lib.hid (show cadd 4294967295 (ls.take (k + 1)).flatten = cadd (cadd 4294967295 (ls.take k).flatten) (ls.getD k []) by rw [takeL_succ ls k hlt, cadd_append])
        generalize cadd 4294967295 (ls.take k).flatten = q at *
        generalize ls.getD k [] = lk at *
        go_wp2_with (go_at_call 92; refine (Add_any q _ _ _ hq HU.out).mono ?_; rintro e w1 ⟨rfl, rfl⟩)
        exact ⟨⟨k + 1, by omega, by go_num, val_int (by rw [hs.out])⟩, by simp [intOf]; omega⟩
      · have hall := HB.out ls.length (Nat.le_refl _)
        rw [List.take_length] at hall
        have hfin := Lib.hid (show cof ls.flatten = 4294967295 ^^^ cadd 4294967295 (ls.take k).flatten by rw [List.take_of_length_le (by omega)]; exact cof_xor hall)
        clear hall
        generalize cadd 4294967295 (ls.take k).flatten = q at *
        go_wp2_with fail
        go_ret
        exact Tells.mk (ret_int (by rw [hfin.out, show IntKind.u32.max = ((4294967295 : Nat) : Int) from rfl, u32_xor_nat _ _ (by decide) hq]))
end Go.Proofs.Ytjkgodhoonkinaa
