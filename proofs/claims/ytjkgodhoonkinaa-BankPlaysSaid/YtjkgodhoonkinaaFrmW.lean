/-
  The walks over frame.num, get, octets, begins.
-/
import Derived.Test.YtjkgodhoonkinaaFrmP
import Derived.Laws.Bits64b
namespace Go.Proofs.Ytjkgodhoonkinaa
open Go.RowKit
set_option linter.unusedVariables false

theorem OwnB.lit (w : World) {C : Array Value} {bs : List Nat} (h : C.toList = byteVs bs) (hb : ∀ x ∈ bs, x < 256) (hl : bs.length ≤ 9223372036854775807) : OwnB (w.alloc (.cells C 5)) w.heap.size (.slice (some ⟨w.heap.size, 0, none⟩) bs.length bs.length) bs := by
  refine ⟨hb, ?_⟩
  have := World.ownsRow_lit (base := w.heap.size) (e := 5) (size := 1) w C bs.length (Nat.le_refl _) (by unfold maxLen; exact hl) (by have := congrArg List.length h; simpa [byteVs] using this)
  rwa [h] at this
theorem run_make4 (w : World) : (Instr.makeSlice 22 (.int .i64 4) (.int .i64 4)).run Try.prog w = .ok (.slice (some ⟨w.heap.size, 0, none⟩) 4 4) (w.alloc (.cells #[.int .u8 0, .int .u8 0, .int .u8 0, .int .u8 0] 5)) := by kernel_rfl
theorem run_make8 (w : World) : (Instr.makeSlice 22 (.int .i64 8) (.int .i64 8)).run Try.prog w = .ok (.slice (some ⟨w.heap.size, 0, none⟩) 8 8) (w.alloc (.cells #[.int .u8 0, .int .u8 0, .int .u8 0, .int .u8 0, .int .u8 0, .int .u8 0, .int .u8 0, .int .u8 0] 5)) := by kernel_rfl
theorem beB4 (x : Nat) : beB 4 x = [x / 16777216 % 256, x / 65536 % 256, x / 256 % 256, x % 256] := by
  simp only [beB_front, show beB 0 x = [] from rfl]
  simp
theorem beB8 (x : Nat) : beB 8 x = [x / 72057594037927936 % 256, x / 281474976710656 % 256, x / 1099511627776 % 256, x / 4294967296 % 256, x / 16777216 % 256, x / 65536 % 256, x / 256 % 256, x % 256] := by
  simp only [beB_front, show beB 0 x = [] from rfl]
  simp
set_option maxRecDepth 100000 in
theorem fnum4 (x : Nat) (w : World) (hx : x < 18446744073709551616) :
    Calls Try.prog 68 #[.int .u64 ((x : Nat) : Int), .int .i64 4] w (GivesB w (beB 4 x)) := by
  have hmk := run_make4
  go_enter Try.func68, Try.ntmps68
  go_wp2_with fail
  refine wp_loop_rounds 5 ?_
  rw [rounds_succ]
  go_wp2_with fail
  rw [rounds_succ]
  go_wp2_with fail
  rw [rounds_succ]
  go_wp2_with fail
  rw [rounds_succ]
  go_wp2_with fail
  rw [rounds_succ]
  go_wp2_with fail
  go_ret
  refine GivesB.mk (bs := beB 4 x) (v := .slice (some ⟨w.heap.size, 0, none⟩) 4 4) ?_ (by simp) (by (repeat (first | (with_reducible exact Below.refl _ _) | (with_reducible assumption) | (with_reducible refine Below.alloc ?_ (by (repeat (first | (with_reducible exact Nat.le_refl _) | (with_reducible assumption) | (with_reducible refine le_up ?_) | (with_reducible refine le_alloc ?_) | (with_reducible refine le_setCell ?_) | (with_reducible refine le_drew ?_) | (with_reducible refine le_drewN ?_) | omega))) _) | (with_reducible refine Below.drew ?_) | (with_reducible refine Below.drewN ?_ _) | (with_reducible refine Below.setCell ?_ (by (repeat (first | (with_reducible exact Nat.le_refl _) | (with_reducible assumption) | (with_reducible refine le_up ?_) | (with_reducible refine le_alloc ?_) | (with_reducible refine le_setCell ?_) | (with_reducible refine le_drew ?_) | (with_reducible refine le_drewN ?_) | omega))) _) | (with_reducible refine Below.up ?_ (by (repeat (first | (with_reducible exact Nat.le_refl _) | (with_reducible assumption) | (with_reducible refine le_up ?_) | (with_reducible refine le_alloc ?_) | (with_reducible refine le_setCell ?_) | (with_reducible refine le_drew ?_) | (with_reducible refine le_drewN ?_) | omega)))))))
  have hl := beB_length 4 x
  have := OwnB.lit w (C := (byteVs (beB 4 x)).toArray) (bs := beB 4 x) (by simp) (beB_lt 4 x) (by rw [hl]; omega)
  rw [hl] at this
  rw [beB4] at this ⊢
  simpa [byteVs] using this
set_option maxRecDepth 100000 in
theorem fnum8 (x : Nat) (w : World) (hx : x < 18446744073709551616) :
    Calls Try.prog 68 #[.int .u64 ((x : Nat) : Int), .int .i64 8] w (GivesB w (beB 8 x)) := by
  have hmk := run_make8
  go_enter Try.func68, Try.ntmps68
  go_wp2_with fail
  refine wp_loop_rounds 9 ?_
  rw [rounds_succ]
  go_wp2_with fail
  rw [rounds_succ]
  go_wp2_with fail
  rw [rounds_succ]
  go_wp2_with fail
  rw [rounds_succ]
  go_wp2_with fail
  rw [rounds_succ]
  go_wp2_with fail
  rw [rounds_succ]
  go_wp2_with fail
  rw [rounds_succ]
  go_wp2_with fail
  rw [rounds_succ]
  go_wp2_with fail
  rw [rounds_succ]
  go_wp2_with fail
  go_ret
  refine GivesB.mk (bs := beB 8 x) (v := .slice (some ⟨w.heap.size, 0, none⟩) 8 8) ?_ (by simp) (by (repeat (first | (with_reducible exact Below.refl _ _) | (with_reducible assumption) | (with_reducible refine Below.alloc ?_ (by (repeat (first | (with_reducible exact Nat.le_refl _) | (with_reducible assumption) | (with_reducible refine le_up ?_) | (with_reducible refine le_alloc ?_) | (with_reducible refine le_setCell ?_) | (with_reducible refine le_drew ?_) | (with_reducible refine le_drewN ?_) | omega))) _) | (with_reducible refine Below.drew ?_) | (with_reducible refine Below.drewN ?_ _) | (with_reducible refine Below.setCell ?_ (by (repeat (first | (with_reducible exact Nat.le_refl _) | (with_reducible assumption) | (with_reducible refine le_up ?_) | (with_reducible refine le_alloc ?_) | (with_reducible refine le_setCell ?_) | (with_reducible refine le_drew ?_) | (with_reducible refine le_drewN ?_) | omega))) _) | (with_reducible refine Below.up ?_ (by (repeat (first | (with_reducible exact Nat.le_refl _) | (with_reducible assumption) | (with_reducible refine le_up ?_) | (with_reducible refine le_alloc ?_) | (with_reducible refine le_setCell ?_) | (with_reducible refine le_drew ?_) | (with_reducible refine le_drewN ?_) | omega)))))))
  have hl := beB_length 8 x
  have := OwnB.lit w (C := (byteVs (beB 8 x)).toArray) (bs := beB 8 x) (by simp) (beB_lt 8 x) (by rw [hl]; omega)
  rw [hl] at this
  rw [beB8] at this ⊢
  rw [show x / 72057594037927936 % 256 = x / 72057594037927936 by omega] at this ⊢
  simpa [byteVs] using this
theorem or_u64 (B y : Nat) (hB : B < 72057594037927936) (hy : y < 256) : bits BinOp.or IntKind.u64 ((B : Int) * 256) ((y : Nat) : Int) = ((B * 256 + y : Nat) : Int) := by
  have h := bits_or_u64_nat (B * 256) y (by omega) (by omega)
  rw [show (((B * 256 : Nat)) : Int) = (B : Int) * 256 by simp] at h
  rw [h]
  have := Nat.two_pow_add_eq_or_of_lt (i := 8) (b := y) (by simpa using hy) B
  rw [show 2 ^ 8 * B = B * 256 by omega] at this
  rw [this]
set_option maxRecDepth 100000 in
theorem fget_any (v : Value) (bs : List Nat) (w : World) (hv : Bts w v bs) (hn : bs.length ≤ 8) :
    Calls Try.prog 60 #[v] w (Tells w (.int .u64 ((beN bs : Nat) : Int))) := by
  obtain ⟨va, vn, vc, rfl⟩ := hv.slice
  obtain rfl := hv.len
  have HV := Lib.hid hv
  clear hv
  go_enter Try.func60, Try.ntmps60
  go_wp2_with fail
  go_loop [3, 8] (fun v3 v8 => ∃ k : Nat, k ≤ bs.length ∧ v8 = .int .i64 k ∧ v3 = .int .u64 ((beN (bs.take k) : Nat) : Int)) (fun _ v8 => bs.length - (intOf v8).toNat)
  case atStart => exact ⟨0, by omega, rfl, rfl⟩
  case round =>
    obtain ⟨k, hk, rfl, rfl⟩ := hrel
    by_cases hlt : k < bs.length
    · obtain ⟨b, off, cap, hsl, hlc, hc, hb, hcell⟩ := HV.out.some (by omega)
      obtain ⟨rfl, rfl⟩ : va = some ⟨b, off, none⟩ ∧ vc = cap := by simpa using hsl
      have c0 := hcell k hlt
      have hbt := beN_lt (bs.take k) (fun y hy => HV.out.1 y (List.mem_of_mem_take hy))
      have hpw : 256 ^ (bs.take k).length ≤ 256 ^ 7 := Nat.pow_le_pow_right (by omega) (by rw [List.length_take]; omega)
      have hbl := HV.out.lt k
      have hpw' : beN (bs.take k) < 72057594037927936 := by omega
      have hor := Lib.hid (show bits BinOp.or IntKind.u64 ((beN (bs.take k) : Int) * 256) ((bs.getD k 0 : Nat) : Int) = ((beN (bs.take (k + 1)) : Nat) : Int) by
        rw [or_u64 _ _ hpw' hbl, take_succ_getD bs k hlt, beN_snoc])
      generalize beN (bs.take k) = B at *
      generalize bs.getD k 0 = y at *
      clear hbt hpw hcell hsl
      go_wp2
      exact ⟨⟨k + 1, by omega, by go_num, by rw [hor.out]⟩, by simp [intOf]; omega⟩
    · go_wp2
      go_ret
      exact Tells.mk (ret_int (by rw [List.take_of_length_le (by omega)]))
def idx2 (x y : Int) : Int := if octB x then (if octB y then -1 else 1) else 0
theorem octB_f {x : Int} (h : octB x = false) : x < 0 ∨ (¬ x < 0 ∧ 255 < x) := by simp [octB] at h; omega
theorem octB_t {x : Int} (h : octB x = true) : ¬ x < 0 ∧ ¬ 255 < x := by simp [octB] at h; omega
theorem oct1_f {x : Int} (w : World) (h : octB x = false) : Calls Try.prog 86 #[.int .i64 x] w (Tells w (.bool true)) := by
  rcases octB_f h with h1 | ⟨h1, h2⟩
  all_goals
    clear h
    go_enter Try.func86, Try.ntmps86
    go_wp2
    go_ret
    exact Tells.mk rfl
theorem oct1_t {x : Int} (w : World) (h : octB x = true) : Calls Try.prog 86 #[.int .i64 x] w (Tells w (.bool false)) := by
  obtain ⟨h1, h2⟩ := octB_t h
  clear h
  go_enter Try.func86, Try.ntmps86
  go_wp2
  go_ret
  exact Tells.mk rfl
set_option maxRecDepth 100000 in
theorem IndexFunc2 (x y : Int) (g : Nat) (w : World) (h0 : w.cell? ⟨g, 0, none⟩ = some (.int .i64 x)) (h1 : w.cell? ⟨g, 1, none⟩ = some (.int .i64 y)) :
    Calls Try.prog 90 #[.slice (some ⟨g, 0, none⟩) 2 2, .func (Fn.func 86) #[] #[]] w (Tells w (.int .i64 (idx2 x y))) := by
  unfold idx2
  cases hx : octB x
  · go_enter Try.func90, Try.ntmps90
    go_wp2_with fail
    refine wp_loop_rounds 3 ?_
    rw [rounds_succ]
    go_wp2_with (go_at_call 86; with_reducible refine Calls.tells (oct1_f _ hx) ?_)
    go_ret
    exact Tells.mk rfl
  · cases hy : octB y
    · go_enter Try.func90, Try.ntmps90
      go_wp2_with fail
      refine wp_loop_rounds 3 ?_
      rw [rounds_succ]
      go_wp2_with (go_at_call 86; with_reducible refine Calls.tells (oct1_t _ hx) ?_)
      rw [rounds_succ]
      go_wp2_with (go_at_call 86; with_reducible refine Calls.tells (oct1_f _ hy) ?_)
      go_ret
      exact Tells.mk rfl
    · go_enter Try.func90, Try.ntmps90
      go_wp2_with fail
      refine wp_loop_rounds 3 ?_
      rw [rounds_succ]
      go_wp2_with (go_at_call 86; with_reducible refine Calls.tells (oct1_t _ hx) ?_)
      rw [rounds_succ]
      go_wp2_with (go_at_call 86; with_reducible refine Calls.tells (oct1_t _ hy) ?_)
      rw [rounds_succ]
      go_wp2_with fail
      go_ret
      exact Tells.mk rfl
theorem ContainsFunc2 (x y : Int) (g : Nat) (w : World) (h0 : w.cell? ⟨g, 0, none⟩ = some (.int .i64 x)) (h1 : w.cell? ⟨g, 1, none⟩ = some (.int .i64 y)) :
    Calls Try.prog 85 #[.slice (some ⟨g, 0, none⟩) 2 2, .func (Fn.func 86) #[] #[]] w (Tells w (.bool (decide (0 ≤ idx2 x y)))) := by
  have hC := Lib.hid (IndexFunc2 x y g w h0 h1)
  generalize idx2 x y = i at *
  clear h0 h1
  go_enter Try.func85, Try.ntmps85
  go_wp2_with (go_at_call 90; with_reducible refine Calls.tells (hC.out) ?_)
  go_ret
  exact Tells.mk rfl
theorem octets_any (x y : Int) (g : Nat) (w : World) (h0 : w.cell? ⟨g, 0, none⟩ = some (.int .i64 x)) (h1 : w.cell? ⟨g, 1, none⟩ = some (.int .i64 y)) :
    Calls Try.prog 64 #[.slice (some ⟨g, 0, none⟩) 2 2] w (Tells w (.bool (octB x && octB y))) := by
  have hC := Lib.hid (ContainsFunc2 x y g w h0 h1)
  have he := Lib.hid (show (!decide (0 ≤ idx2 x y)) = (octB x && octB y) by unfold idx2; cases octB x <;> cases octB y <;> decide)
  generalize decide (0 ≤ idx2 x y) = i at *
  clear h0 h1
  go_enter Try.func64, Try.ntmps64
  go_wp2_with (go_at_call 85; with_reducible refine Calls.tells (hC.out) ?_)
  go_ret
  exact Tells.mk (ret_bool he.out)
/-- slices.Clone of bytes. -/
theorem Clone_any (v : Value) (bs : List Nat) (w : World) (hv : Bts w v bs) (hne : v ≠ .slice none 0 0) (hn : bs.length ≤ 140737488355328) :
    Calls Try.prog 61 #[v] w (GivesB w bs) := by
  have he := Lib.hid (OwnB.empty w)
  have hn' := Lib.hid (show ([] : List Nat).length + bs.length ≤ 140737488355328 by simpa using hn)
  have HV := Lib.hid hv
  have hsome : ∃ (a : Addr) (n cap : Nat), v = .slice (some a) n cap := by
    obtain ⟨_, ⟨rfl, _⟩ | ⟨_, _, rfl, _⟩ | ⟨_, _, _, rfl, _⟩⟩ := hv
    · exact absurd rfl hne
    · exact ⟨_, _, _, rfl⟩
    · exact ⟨_, _, _, rfl⟩
  obtain ⟨va, vn, vc, rfl⟩ := hsome
  have hnil := fun (W : World) => Lib.run_eql_slice_nil (P := Try.prog) W
  clear hv hne hn
  go_enter Try.func61, Try.ntmps61
  go_wp2_with (at_builtin; refine wpList_append_bts rfl _ _ rfl w.heap.size _ [] rfl he.out _ bs rfl HV.out.alloc hn'.out (by simp) (fun v' w' ho hg hne => ?_); have HO := Lib.hid ho; have HG := Lib.hid hg; have HN := Lib.hid hne; clear ho hg hne)
  go_ret
  exact GivesB.mk (by simpa using HO.out) (HN.out (fun h => by cases (show Value.slice (some ⟨w.heap.size, 0, none⟩) 0 0 = Value.slice none 0 0 from h))) (((Below.refl _ _).alloc (Nat.le_refl _) _).trans (Below.grownBy HG.out (by simp) (fun k hk => he.out.own k hk)))
theorem Equal_any (v u : Value) (a b : List Nat) (w : World) (hv : Bts w v a) (hu : Bts w u b) :
    Calls Try.prog 70 #[v, u] w (Tells w (.bool (sameB a b))) := by
  have k1 := run_str hv
  have k2 := run_str hu
  have ha := Lib.hid hv.1
  have hb := Lib.hid hu.1
  clear hv hu
  go_enter Try.func70, Try.ntmps70
  go_wp2_with fail
  go_ret
  exact Tells.mk (ret_bool (strB_eq ha.out hb.out))
/-- Is the second a beginning of the first? -/
def preB (a b : List Nat) : Bool := decide (b.length ≤ a.length) && sameB (a.take b.length) b
set_option maxRecDepth 100000 in
theorem HasPrefix_any (g off cap : Nat) (u : Value) (a b : List Nat) (w : World) (hv : Bts w (.slice (some ⟨g, off, none⟩) a.length cap) a) (hu : Bts w u b) (hc : a.length ≤ cap) (hc2 : cap ≤ 9223372036854775807) :
    Calls Try.prog 83 #[.slice (some ⟨g, off, none⟩) a.length cap, u] w (Tells w (.bool (preB a b))) := by
  obtain ⟨ua, un, uc, rfl⟩ := hu.slice
  obtain rfl := hu.len
  have HV := Lib.hid hv
  have HU := Lib.hid hu
  unfold preB
  by_cases hl : b.length ≤ a.length
  · have hd : decide ((b.length : Int) ≤ (a.length : Int)) = true := by simp; omega
    have hd2 : decide (b.length ≤ a.length) = true := decide_eq_true hl
    have HC := Lib.hid (hv.cut b.length hl)
    have hl2 : b.length ≤ cap := by omega
    have hl3 : (b.length : Int) ≤ (cap : Int) := by omega
    rw [hd2, Bool.true_and]
    clear hv hu
    go_enter Try.func83, Try.ntmps83
    go_wp2_with (go_at_call 70; with_reducible refine Calls.tells (Equal_any _ _ (a.take b.length) b _ HC.out HU.out) ?_)
    go_ret
    exact Tells.mk rfl
  · have hd : decide ((b.length : Int) ≤ (a.length : Int)) = false := by simp; omega
    have hd2 : decide (b.length ≤ a.length) = false := decide_eq_false hl
    rw [hd2, Bool.false_and]
    clear hv hu
    go_enter Try.func83, Try.ntmps83
    go_wp2_with fail
    go_ret
    exact Tells.mk rfl
/-- May bytes begin a frame, as far as they go? -/
def begB (bs : List Nat) : Bool :=
  if bs.length < 3 then preB [165, 90] bs else decide (bs.getD 0 0 = 165) && (decide (bs.getD 1 0 = 90) && (decide (30 ≤ bs.getD 2 0) && decide (bs.getD 2 0 ≤ 78)))
set_option maxRecDepth 100000 in
theorem begins_any (v : Value) (bs : List Nat) (w : World) (hv : Bts w v bs) (hn : bs.length ≤ 9223372036854775807) :
    Calls Try.prog 58 #[v] w (Gives w (.bool (begB bs))) := by
  obtain ⟨va, vn, vc, rfl⟩ := hv.slice
  obtain rfl := hv.len
  have HV := Lib.hid hv
  unfold begB
  by_cases h3 : bs.length < 3
  · rw [if_pos h3]
    clear hv
    have hI : (bs.length : Int) < 3 := by omega
    go_enter Try.func58, Try.ntmps58
    go_wp2_with (go_at_call 83; with_reducible refine Calls.tells (HasPrefix_any w.heap.size 0 2 _ [165, 90] bs _ (Bts.lit (by simp [byteVs]) (by decide) (by simp) _ rfl) HV.out.alloc (by simp) (by omega)) ?_)
    go_ret
    exact Gives.mk rfl (by (repeat (first | (with_reducible exact Below.refl _ _) | (with_reducible assumption) | (with_reducible refine Below.alloc ?_ (by (repeat (first | (with_reducible exact Nat.le_refl _) | (with_reducible assumption) | (with_reducible refine le_up ?_) | (with_reducible refine le_alloc ?_) | (with_reducible refine le_setCell ?_) | (with_reducible refine le_drew ?_) | (with_reducible refine le_drewN ?_) | omega))) _) | (with_reducible refine Below.drew ?_) | (with_reducible refine Below.drewN ?_ _) | (with_reducible refine Below.setCell ?_ (by (repeat (first | (with_reducible exact Nat.le_refl _) | (with_reducible assumption) | (with_reducible refine le_up ?_) | (with_reducible refine le_alloc ?_) | (with_reducible refine le_setCell ?_) | (with_reducible refine le_drew ?_) | (with_reducible refine le_drewN ?_) | omega))) _) | (with_reducible refine Below.up ?_ (by (repeat (first | (with_reducible exact Nat.le_refl _) | (with_reducible assumption) | (with_reducible refine le_up ?_) | (with_reducible refine le_alloc ?_) | (with_reducible refine le_setCell ?_) | (with_reducible refine le_drew ?_) | (with_reducible refine le_drewN ?_) | omega)))))))
  · rw [if_neg h3]
    obtain ⟨b, off, cap, hsl, hlc, hc, hb, hcell⟩ := hv.some (by omega)
    obtain ⟨rfl, rfl⟩ : va = some ⟨b, off, none⟩ ∧ vc = cap := by simpa using hsl
    have c0 := hcell 0 (by omega)
    have c1 := hcell 1 (by omega)
    have c2 := hcell 2 (by omega)
    rw [Nat.add_zero] at c0
    clear hcell hsl hv
    have hI : ¬ (bs.length : Int) < 3 := by omega
    have hI2 : 2 < bs.length := by omega
    have hy2 := HV.out.lt 2
    generalize bs.getD 0 0 = y0 at *
    generalize bs.getD 1 0 = y1 at *
    generalize bs.getD 2 0 = y2 at *
    go_enter Try.func58, Try.ntmps58
    go_wp2_with fail
    all_goals
      go_ret
      refine Gives.mk (ret_bool ?_) (by (repeat (first | (with_reducible exact Below.refl _ _) | (with_reducible assumption) | (with_reducible refine Below.alloc ?_ (by (repeat (first | (with_reducible exact Nat.le_refl _) | (with_reducible assumption) | (with_reducible refine le_up ?_) | (with_reducible refine le_alloc ?_) | (with_reducible refine le_setCell ?_) | (with_reducible refine le_drew ?_) | (with_reducible refine le_drewN ?_) | omega))) _) | (with_reducible refine Below.drew ?_) | (with_reducible refine Below.drewN ?_ _) | (with_reducible refine Below.setCell ?_ (by (repeat (first | (with_reducible exact Nat.le_refl _) | (with_reducible assumption) | (with_reducible refine le_up ?_) | (with_reducible refine le_alloc ?_) | (with_reducible refine le_setCell ?_) | (with_reducible refine le_drew ?_) | (with_reducible refine le_drewN ?_) | omega))) _) | (with_reducible refine Below.up ?_ (by (repeat (first | (with_reducible exact Nat.le_refl _) | (with_reducible assumption) | (with_reducible refine le_up ?_) | (with_reducible refine le_alloc ?_) | (with_reducible refine le_setCell ?_) | (with_reducible refine le_drew ?_) | (with_reducible refine le_drewN ?_) | omega)))))))
      rw [Bool.eq_iff_iff]
      simp only [Bool.and_eq_true, decide_eq_true_eq, Bool.false_eq_true, false_iff]
      omega
end Go.Proofs.Ytjkgodhoonkinaa
