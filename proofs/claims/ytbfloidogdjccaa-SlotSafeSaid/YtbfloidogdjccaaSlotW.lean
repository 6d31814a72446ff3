/-
  The walks over the slot layer: each function of package slot and of its reference, by its contract.
-/
import Derived.Test.YtbfloidogdjccaaLib
import Derived.Test.YtbfloidogdjccaaProg
namespace Go.Proofs.Ytbfloidogdjccaa
open Go.RowKit

def schedOK (a b c d : Int) : Bool := decide (0 ≤ a ∧ a ≤ 1099511627776 ∧ 1 ≤ b ∧ b ≤ 65535 ∧ 1 ≤ c ∧ c ≤ 16 ∧ 0 ≤ d ∧ d ≤ 65535)
def okCode (b : Bool) : Int := if b then 0 else 2
theorem okCode_eq {b : Bool} {n : Int} (h : if b = true then n = 0 else n = 2) : n = okCode b := by unfold okCode; split <;> simp_all
theorem okCode_t {b : Bool} (h : b = true) : okCode b = 0 := by simp [okCode, h]
theorem okCode_f {b : Bool} (h : b = false) : okCode b = 2 := by simp [okCode, h]
theorem sched_of {a b c d : Int} (h : schedOK a b c d = true) : 0 ≤ a ∧ a ≤ 1099511627776 ∧ 1 ≤ b ∧ b ≤ 65535 ∧ 1 ≤ c ∧ c ≤ 16 ∧ 0 ≤ d ∧ d ≤ 65535 := by simpa [schedOK] using h
def tickOK (t : Int) : Bool := decide (0 ≤ t ∧ t ≤ 1099511627776)
theorem tick_of {t : Int} (h : tickOK t = true) : 0 ≤ t ∧ t ≤ 1099511627776 := by simpa [tickOK] using h

theorem tick_any (t : Int) (w : World) :
    Calls Try.prog 54 #[.int .i64 t] w (Tells w (.bool (tickOK t))) := by
  go_enter Try.func54, Try.ntmps54
  go_wp2
  all_goals (go_ret; exact Tells.mk (ret_bool (by unfold tickOK; simp; omega)))
theorem rtick_any (t : Int) (w : World) :
    Calls Try.prog 57 #[.int .i64 t] w (Tells w (.bool (tickOK t))) := by
  go_enter Try.func57, Try.ntmps57
  go_wp2
  all_goals (go_ret; exact Tells.mk (ret_bool (by unfold tickOK; simp; omega)))

set_option maxHeartbeats 400000 in
theorem Check_any (a b c d : Int) (w : World) :
    Calls Try.prog 30 #[.agg #[.int .i64 a, .int .i64 b, .int .i64 c, .int .i64 d]] w (Gives w (.int .i64 (okCode (schedOK a b c d)))) := by
  by_cases ht : tickOK a = true
  · obtain ⟨h1, h2⟩ := tick_of ht
    go_enter Try.func30, Try.ntmps30
    go_wp2_with (go_at_call 54; refine (tick_any _ _).mono ?_; rintro e w1 ⟨rfl, rfl⟩)
    all_goals
      go_ret
      exact Gives.mk (ret_int (okCode_eq (by unfold schedOK; simp; omega))) ((Below.refl _ _).alloc (Nat.le_refl _) _)
  · have ht' : tickOK a = false := by simpa using ht
    have ht2 : ¬ (0 ≤ a ∧ a ≤ 1099511627776) := by simpa [tickOK] using ht
    clear ht
    have ht3 : ¬ a = 0 := by omega
    go_enter Try.func30, Try.ntmps30
    go_wp2_with (go_at_call 54; refine (tick_any _ _).mono ?_; rintro e w1 ⟨rfl, rfl⟩)
    all_goals
      go_ret
      exact Gives.mk (ret_int (okCode_eq (by unfold schedOK; simp; omega))) ((Below.refl _ _).alloc (Nat.le_refl _) _)

set_option maxHeartbeats 400000 in
theorem rCheck_any (a b c d : Int) (w : World) :
    Calls Try.prog 31 #[.agg #[.int .i64 a, .int .i64 b, .int .i64 c, .int .i64 d]] w (Gives w (.int .i64 (okCode (schedOK a b c d)))) := by
  go_enter Try.func31, Try.ntmps31
  go_wp2
  all_goals
    go_ret
    exact Gives.mk (ret_int (okCode_eq (by unfold schedOK; simp; omega))) ((Below.refl _ _).alloc (Nat.le_refl _) _)

theorem Check_t (a b c d : Int) (w : World) (h : schedOK a b c d = true) :
    Calls Try.prog 30 #[.agg #[.int .i64 a, .int .i64 b, .int .i64 c, .int .i64 d]] w (Gives w (.int .i64 0)) := by
  have := Check_any a b c d w; rwa [okCode_t h] at this
theorem Check_f (a b c d : Int) (w : World) (h : schedOK a b c d = false) :
    Calls Try.prog 30 #[.agg #[.int .i64 a, .int .i64 b, .int .i64 c, .int .i64 d]] w (Gives w (.int .i64 2)) := by
  have := Check_any a b c d w; rwa [okCode_f h] at this
theorem rCheck_t (a b c d : Int) (w : World) (h : schedOK a b c d = true) :
    Calls Try.prog 31 #[.agg #[.int .i64 a, .int .i64 b, .int .i64 c, .int .i64 d]] w (Gives w (.int .i64 0)) := by
  have := rCheck_any a b c d w; rwa [okCode_t h] at this
theorem rCheck_f (a b c d : Int) (w : World) (h : schedOK a b c d = false) :
    Calls Try.prog 31 #[.agg #[.int .i64 a, .int .i64 b, .int .i64 c, .int .i64 d]] w (Gives w (.int .i64 2)) := by
  have := rCheck_any a b c d w; rwa [okCode_f h] at this

def numV (n : Int) : Int := min (max n 0) 4294967295
theorem numV_bd (n : Int) : 0 ≤ numV n ∧ numV n ≤ 4294967295 := by unfold numV; omega
theorem num_any (n : Int) (w : World) (h : n ≤ 9223372036854775807) :
    Calls Try.prog 55 #[.int .i64 n] w (Tells w (.int .u32 (numV n))) := by
  go_enter Try.func55, Try.ntmps55
  go_wp2
  all_goals (go_ret; exact Tells.mk (ret_int (by unfold numV; omega)))

def begunV (a b t : Int) : Int := if t < a then 0 else (t - a) / b + 1
theorem begunV_lo {a b t : Int} (h : t < a) : begunV a b t = 0 := by simp [begunV, h]
theorem begunV_hi {a b t : Int} (h : a ≤ t) : begunV a b t = (t - a) / b + 1 := by simp [begunV]; omega

theorem div_bound (x b : Int) (hb : 1 ≤ b) (hx : -1099511627776 ≤ x) (hx' : x ≤ 1099511627776) : -1099511627776 ≤ x / b ∧ x / b ≤ 1099511627776 := by
  have e := Int.mul_ediv_add_emod x b
  have m1 := Int.emod_nonneg x (b := b) (by omega)
  have m2 := Int.emod_lt_of_pos x (b := b) (by omega)
  generalize x / b = q at *
  generalize x % b = r at *
  constructor
  · rcases Int.lt_or_le q (-1099511627776) with h | h
    · have h2 : b * (q + 1) ≤ 1 * (q + 1) := Int.mul_le_mul_of_nonpos_right hb (by omega)
      rw [Int.mul_add] at h2; omega
    · exact h
  · rcases Int.lt_or_le 1099511627776 q with h | h
    · have h2 : 1 * q ≤ b * q := Int.mul_le_mul_of_nonneg_right hb (by omega)
      omega
    · exact h
theorem begunV_bd {a b c d t : Int} (h : schedOK a b c d = true) (ht : tickOK t = true) : 0 ≤ begunV a b t ∧ begunV a b t ≤ 1099511627777 := by
  obtain ⟨h1, h2, h3, h4, h5, h6, h7, h8⟩ := sched_of h
  obtain ⟨t1, t2⟩ := tick_of ht
  by_cases hta : t < a
  · rw [begunV_lo hta]; omega
  · rw [begunV_hi (by omega)]
    obtain ⟨h9, h10⟩ := div_bound (t - a) b h3 (by omega) (by omega)
    have := Int.ediv_nonneg (a := t - a) (b := b) (by omega) (by omega)
    omega

theorem begun_any (a b c d t : Int) (w : World) (h : schedOK a b c d = true) (ht : tickOK t = true) :
    Calls Try.prog 56 #[.agg #[.int .i64 a, .int .i64 b, .int .i64 c, .int .i64 d], .int .i64 t] w (Gives w (.int .i64 (begunV a b t))) := by
  obtain ⟨h1, h2, h3, h4, h5, h6, h7, h8⟩ := sched_of h
  obtain ⟨t1, t2⟩ := tick_of ht
  clear h ht
  obtain ⟨h9, h10⟩ := div_bound (t - a) b h3 (by omega) (by omega)
  by_cases hta : t < a
  all_goals
    go_enter Try.func56, Try.ntmps56
    go_wp2
    go_ret
    exact Gives.mk (ret_int (by first | rw [begunV_lo (by omega)] | rw [begunV_hi (by omega)]; done)) ((Below.refl _ _).alloc (Nat.le_refl _) _)

/-! Begin -/
def beginV (a b i : Int) : Int := a + (i - 1) * b
theorem mul_bd {b i : Int} (h3 : 1 ≤ b) (h4 : b ≤ 65535) (hi : 0 ≤ i) (hi' : i ≤ 4294967295) : (i - 1) * b ≤ 281474976710656 ∧ - 65535 ≤ (i - 1) * b := by
  constructor
  · have h5 := Int.mul_le_mul_of_nonneg_right (a := i - 1) (b := 4294967295) (c := b) (by omega) (by omega)
    omega
  · have := Int.mul_le_mul_of_nonneg_right (a := -1) (b := i - 1) (c := b) (by omega) (by omega)
    omega

set_option maxHeartbeats 400000 in
theorem Begin_t (a b c d i : Int) (w : World) (hi : 1 ≤ i) (hi' : i ≤ 4294967295) (h : schedOK a b c d = true) :
    Calls Try.prog 22 #[.agg #[.int .i64 a, .int .i64 b, .int .i64 c, .int .i64 d], .int .u32 i] w (Gives w (.tuple #[.int .i64 (beginV a b i), .int .i64 0])) := by
  obtain ⟨h1, h2, h3, h4, h5, h6, h7, h8⟩ := sched_of h
  obtain ⟨m1, m2⟩ := mul_bd h3 h4 (by omega) hi'
  go_enter Try.func22, Try.ntmps22
  go_wp2_with (go_at_call 30; (first | with_reducible refine Calls.fold (Check_t _ _ _ _ _ h) ?_ | with_reducible refine Calls.fresh (Check_t _ _ _ _ _ h) ?_); intro x1)
  go_ret2
  exact Gives.mk rfl (by (repeat (first | (with_reducible exact Below.refl _ _) | (with_reducible assumption) | (with_reducible refine Below.alloc ?_ (by (repeat (first | (with_reducible exact Nat.le_refl _) | (with_reducible assumption) | (with_reducible refine le_up ?_) | (with_reducible refine le_alloc ?_) | (with_reducible refine le_setCell ?_) | (with_reducible refine le_drew ?_) | (with_reducible refine le_drewN ?_) | omega))) _) | (with_reducible refine Below.drew ?_) | (with_reducible refine Below.drewN ?_ _) | (with_reducible refine Below.setCell ?_ (by (repeat (first | (with_reducible exact Nat.le_refl _) | (with_reducible assumption) | (with_reducible refine le_up ?_) | (with_reducible refine le_alloc ?_) | (with_reducible refine le_setCell ?_) | (with_reducible refine le_drew ?_) | (with_reducible refine le_drewN ?_) | omega))) _) | (with_reducible refine Below.up ?_ (by (repeat (first | (with_reducible exact Nat.le_refl _) | (with_reducible assumption) | (with_reducible refine le_up ?_) | (with_reducible refine le_alloc ?_) | (with_reducible refine le_setCell ?_) | (with_reducible refine le_drew ?_) | (with_reducible refine le_drewN ?_) | omega)))))))

set_option maxHeartbeats 400000 in
theorem Begin_f (a b c d i : Int) (w : World) (hi : 0 ≤ i) (hi' : i ≤ 4294967295) (h : ¬ (schedOK a b c d = true ∧ 1 ≤ i)) :
    Calls Try.prog 22 #[.agg #[.int .i64 a, .int .i64 b, .int .i64 c, .int .i64 d], .int .u32 i] w (Gives w (.tuple #[.int .i64 0, .int .i64 2])) := by
  by_cases hs : schedOK a b c d = true
  · obtain rfl : i = 0 := by have : ¬ 1 ≤ i := fun e => h ⟨hs, e⟩; omega
    clear h
    go_enter Try.func22, Try.ntmps22
    go_wp2_with (go_at_call 30; (first | with_reducible refine Calls.fold (Check_t _ _ _ _ _ hs) ?_ | with_reducible refine Calls.fresh (Check_t _ _ _ _ _ hs) ?_); intro x1)
    go_ret2
    exact Gives.mk rfl (by (repeat (first | (with_reducible exact Below.refl _ _) | (with_reducible assumption) | (with_reducible refine Below.alloc ?_ (by (repeat (first | (with_reducible exact Nat.le_refl _) | (with_reducible assumption) | (with_reducible refine le_up ?_) | (with_reducible refine le_alloc ?_) | (with_reducible refine le_setCell ?_) | (with_reducible refine le_drew ?_) | (with_reducible refine le_drewN ?_) | omega))) _) | (with_reducible refine Below.drew ?_) | (with_reducible refine Below.drewN ?_ _) | (with_reducible refine Below.setCell ?_ (by (repeat (first | (with_reducible exact Nat.le_refl _) | (with_reducible assumption) | (with_reducible refine le_up ?_) | (with_reducible refine le_alloc ?_) | (with_reducible refine le_setCell ?_) | (with_reducible refine le_drew ?_) | (with_reducible refine le_drewN ?_) | omega))) _) | (with_reducible refine Below.up ?_ (by (repeat (first | (with_reducible exact Nat.le_refl _) | (with_reducible assumption) | (with_reducible refine le_up ?_) | (with_reducible refine le_alloc ?_) | (with_reducible refine le_setCell ?_) | (with_reducible refine le_drew ?_) | (with_reducible refine le_drewN ?_) | omega)))))))
  · have hs' : schedOK a b c d = false := by simpa using hs
    clear h hs
    go_enter Try.func22, Try.ntmps22
    go_wp2_with (go_at_call 30; (first | with_reducible refine Calls.fold (Check_f _ _ _ _ _ hs') ?_ | with_reducible refine Calls.fresh (Check_f _ _ _ _ _ hs') ?_); intro x1)
    go_ret2
    exact Gives.mk rfl (by (repeat (first | (with_reducible exact Below.refl _ _) | (with_reducible assumption) | (with_reducible refine Below.alloc ?_ (by (repeat (first | (with_reducible exact Nat.le_refl _) | (with_reducible assumption) | (with_reducible refine le_up ?_) | (with_reducible refine le_alloc ?_) | (with_reducible refine le_setCell ?_) | (with_reducible refine le_drew ?_) | (with_reducible refine le_drewN ?_) | omega))) _) | (with_reducible refine Below.drew ?_) | (with_reducible refine Below.drewN ?_ _) | (with_reducible refine Below.setCell ?_ (by (repeat (first | (with_reducible exact Nat.le_refl _) | (with_reducible assumption) | (with_reducible refine le_up ?_) | (with_reducible refine le_alloc ?_) | (with_reducible refine le_setCell ?_) | (with_reducible refine le_drew ?_) | (with_reducible refine le_drewN ?_) | omega))) _) | (with_reducible refine Below.up ?_ (by (repeat (first | (with_reducible exact Nat.le_refl _) | (with_reducible assumption) | (with_reducible refine le_up ?_) | (with_reducible refine le_alloc ?_) | (with_reducible refine le_setCell ?_) | (with_reducible refine le_drew ?_) | (with_reducible refine le_drewN ?_) | omega)))))))

/-! the reference's Begin -/
set_option maxHeartbeats 400000 in
theorem rBegin_t (a b c d i : Int) (w : World) (hi : 1 ≤ i) (hi' : i ≤ 4294967295) (h : schedOK a b c d = true) :
    Calls Try.prog 23 #[.agg #[.int .i64 a, .int .i64 b, .int .i64 c, .int .i64 d], .int .u32 i] w (Gives w (.tuple #[.int .i64 (beginV a b i), .int .i64 0])) := by
  obtain ⟨h1, h2, h3, h4, h5, h6, h7, h8⟩ := sched_of h
  obtain ⟨m1, m2⟩ := mul_bd h3 h4 (by omega) hi'
  go_enter Try.func23, Try.ntmps23
  go_wp2_with (go_at_call 31; (first | with_reducible refine Calls.fold (rCheck_t _ _ _ _ _ h) ?_ | with_reducible refine Calls.fresh (rCheck_t _ _ _ _ _ h) ?_); intro x1)
  go_ret2
  exact Gives.mk rfl (by (repeat (first | (with_reducible exact Below.refl _ _) | (with_reducible assumption) | (with_reducible refine Below.alloc ?_ (by (repeat (first | (with_reducible exact Nat.le_refl _) | (with_reducible assumption) | (with_reducible refine le_up ?_) | (with_reducible refine le_alloc ?_) | (with_reducible refine le_setCell ?_) | (with_reducible refine le_drew ?_) | (with_reducible refine le_drewN ?_) | omega))) _) | (with_reducible refine Below.drew ?_) | (with_reducible refine Below.drewN ?_ _) | (with_reducible refine Below.setCell ?_ (by (repeat (first | (with_reducible exact Nat.le_refl _) | (with_reducible assumption) | (with_reducible refine le_up ?_) | (with_reducible refine le_alloc ?_) | (with_reducible refine le_setCell ?_) | (with_reducible refine le_drew ?_) | (with_reducible refine le_drewN ?_) | omega))) _) | (with_reducible refine Below.up ?_ (by (repeat (first | (with_reducible exact Nat.le_refl _) | (with_reducible assumption) | (with_reducible refine le_up ?_) | (with_reducible refine le_alloc ?_) | (with_reducible refine le_setCell ?_) | (with_reducible refine le_drew ?_) | (with_reducible refine le_drewN ?_) | omega)))))))

set_option maxHeartbeats 400000 in
theorem rBegin_f (a b c d i : Int) (w : World) (hi : 0 ≤ i) (hi' : i ≤ 4294967295) (h : ¬ (schedOK a b c d = true ∧ 1 ≤ i)) :
    Calls Try.prog 23 #[.agg #[.int .i64 a, .int .i64 b, .int .i64 c, .int .i64 d], .int .u32 i] w (Gives w (.tuple #[.int .i64 0, .int .i64 2])) := by
  by_cases hs : schedOK a b c d = true
  · obtain rfl : i = 0 := by have : ¬ 1 ≤ i := fun e => h ⟨hs, e⟩; omega
    clear h
    go_enter Try.func23, Try.ntmps23
    go_wp2_with (go_at_call 31; (first | with_reducible refine Calls.fold (rCheck_t _ _ _ _ _ hs) ?_ | with_reducible refine Calls.fresh (rCheck_t _ _ _ _ _ hs) ?_); intro x1)
    go_ret2
    exact Gives.mk rfl (by (repeat (first | (with_reducible exact Below.refl _ _) | (with_reducible assumption) | (with_reducible refine Below.alloc ?_ (by (repeat (first | (with_reducible exact Nat.le_refl _) | (with_reducible assumption) | (with_reducible refine le_up ?_) | (with_reducible refine le_alloc ?_) | (with_reducible refine le_setCell ?_) | (with_reducible refine le_drew ?_) | (with_reducible refine le_drewN ?_) | omega))) _) | (with_reducible refine Below.drew ?_) | (with_reducible refine Below.drewN ?_ _) | (with_reducible refine Below.setCell ?_ (by (repeat (first | (with_reducible exact Nat.le_refl _) | (with_reducible assumption) | (with_reducible refine le_up ?_) | (with_reducible refine le_alloc ?_) | (with_reducible refine le_setCell ?_) | (with_reducible refine le_drew ?_) | (with_reducible refine le_drewN ?_) | omega))) _) | (with_reducible refine Below.up ?_ (by (repeat (first | (with_reducible exact Nat.le_refl _) | (with_reducible assumption) | (with_reducible refine le_up ?_) | (with_reducible refine le_alloc ?_) | (with_reducible refine le_setCell ?_) | (with_reducible refine le_drew ?_) | (with_reducible refine le_drewN ?_) | omega)))))))
  · have hs' : schedOK a b c d = false := by simpa using hs
    clear h hs
    go_enter Try.func23, Try.ntmps23
    go_wp2_with (go_at_call 31; (first | with_reducible refine Calls.fold (rCheck_f _ _ _ _ _ hs') ?_ | with_reducible refine Calls.fresh (rCheck_f _ _ _ _ _ hs') ?_); intro x1)
    go_ret2
    exact Gives.mk rfl (by (repeat (first | (with_reducible exact Below.refl _ _) | (with_reducible assumption) | (with_reducible refine Below.alloc ?_ (by (repeat (first | (with_reducible exact Nat.le_refl _) | (with_reducible assumption) | (with_reducible refine le_up ?_) | (with_reducible refine le_alloc ?_) | (with_reducible refine le_setCell ?_) | (with_reducible refine le_drew ?_) | (with_reducible refine le_drewN ?_) | omega))) _) | (with_reducible refine Below.drew ?_) | (with_reducible refine Below.drewN ?_ _) | (with_reducible refine Below.setCell ?_ (by (repeat (first | (with_reducible exact Nat.le_refl _) | (with_reducible assumption) | (with_reducible refine le_up ?_) | (with_reducible refine le_alloc ?_) | (with_reducible refine le_setCell ?_) | (with_reducible refine le_drew ?_) | (with_reducible refine le_drewN ?_) | omega))) _) | (with_reducible refine Below.up ?_ (by (repeat (first | (with_reducible exact Nat.le_refl _) | (with_reducible assumption) | (with_reducible refine le_up ?_) | (with_reducible refine le_alloc ?_) | (with_reducible refine le_setCell ?_) | (with_reducible refine le_drew ?_) | (with_reducible refine le_drewN ?_) | omega)))))))

/-! At -/
def atV (a b t : Int) : Int := numV (begunV a b t)
theorem atV_bd (a b t : Int) : 0 ≤ atV a b t ∧ atV a b t ≤ 4294967295 := numV_bd _
set_option maxHeartbeats 400000 in
theorem At_t (a b c d t : Int) (w : World) (h : schedOK a b c d = true) (ht : tickOK t = true) :
    Calls Try.prog 21 #[.agg #[.int .i64 a, .int .i64 b, .int .i64 c, .int .i64 d], .int .i64 t] w (Gives w (.tuple #[.int .u32 (atV a b t), .int .i64 0])) := by
  obtain ⟨g1, g2⟩ := begunV_bd h ht
  go_enter Try.func21, Try.ntmps21
  go_wp2_with (first | (go_at_call 30; (first | with_reducible refine Calls.fold (Check_t _ _ _ _ _ h) ?_ | with_reducible refine Calls.fresh (Check_t _ _ _ _ _ h) ?_); intro x1) | (go_at_call 54; refine (tick_any _ _).mono ?_; rintro e w1 ⟨rfl, rfl⟩) | (go_at_call 56; (first | with_reducible refine Calls.fold (begun_any _ _ _ _ _ _ h ht) ?_ | with_reducible refine Calls.fresh (begun_any _ _ _ _ _ _ h ht) ?_); intro x1) | (go_at_call 55; refine (num_any _ _ (by omega)).mono ?_; rintro e w1 ⟨rfl, rfl⟩))
  go_ret2
  exact Gives.mk rfl (by (repeat (first | (with_reducible exact Below.refl _ _) | (with_reducible assumption) | (with_reducible refine Below.alloc ?_ (by (repeat (first | (with_reducible exact Nat.le_refl _) | (with_reducible assumption) | (with_reducible refine le_up ?_) | (with_reducible refine le_alloc ?_) | (with_reducible refine le_setCell ?_) | (with_reducible refine le_drew ?_) | (with_reducible refine le_drewN ?_) | omega))) _) | (with_reducible refine Below.drew ?_) | (with_reducible refine Below.drewN ?_ _) | (with_reducible refine Below.setCell ?_ (by (repeat (first | (with_reducible exact Nat.le_refl _) | (with_reducible assumption) | (with_reducible refine le_up ?_) | (with_reducible refine le_alloc ?_) | (with_reducible refine le_setCell ?_) | (with_reducible refine le_drew ?_) | (with_reducible refine le_drewN ?_) | omega))) _) | (with_reducible refine Below.up ?_ (by (repeat (first | (with_reducible exact Nat.le_refl _) | (with_reducible assumption) | (with_reducible refine le_up ?_) | (with_reducible refine le_alloc ?_) | (with_reducible refine le_setCell ?_) | (with_reducible refine le_drew ?_) | (with_reducible refine le_drewN ?_) | omega)))))))

set_option maxHeartbeats 400000 in
theorem At_f (a b c d t : Int) (w : World) (h : ¬ (schedOK a b c d = true ∧ tickOK t = true)) :
    Calls Try.prog 21 #[.agg #[.int .i64 a, .int .i64 b, .int .i64 c, .int .i64 d], .int .i64 t] w (Gives w (.tuple #[.int .u32 0, .int .i64 2])) := by
  by_cases hs : schedOK a b c d = true
  · have ht : tickOK t = false := by cases e : tickOK t <;> simp_all
    clear h
    go_enter Try.func21, Try.ntmps21
    go_wp2_with (first | (go_at_call 30; (first | with_reducible refine Calls.fold (Check_t _ _ _ _ _ hs) ?_ | with_reducible refine Calls.fresh (Check_t _ _ _ _ _ hs) ?_); intro x1) | (go_at_call 54; refine (tick_any _ _).mono ?_; rintro e w1 ⟨rfl, rfl⟩))
    go_ret2
    exact Gives.mk rfl (by (repeat (first | (with_reducible exact Below.refl _ _) | (with_reducible assumption) | (with_reducible refine Below.alloc ?_ (by (repeat (first | (with_reducible exact Nat.le_refl _) | (with_reducible assumption) | (with_reducible refine le_up ?_) | (with_reducible refine le_alloc ?_) | (with_reducible refine le_setCell ?_) | (with_reducible refine le_drew ?_) | (with_reducible refine le_drewN ?_) | omega))) _) | (with_reducible refine Below.drew ?_) | (with_reducible refine Below.drewN ?_ _) | (with_reducible refine Below.setCell ?_ (by (repeat (first | (with_reducible exact Nat.le_refl _) | (with_reducible assumption) | (with_reducible refine le_up ?_) | (with_reducible refine le_alloc ?_) | (with_reducible refine le_setCell ?_) | (with_reducible refine le_drew ?_) | (with_reducible refine le_drewN ?_) | omega))) _) | (with_reducible refine Below.up ?_ (by (repeat (first | (with_reducible exact Nat.le_refl _) | (with_reducible assumption) | (with_reducible refine le_up ?_) | (with_reducible refine le_alloc ?_) | (with_reducible refine le_setCell ?_) | (with_reducible refine le_drew ?_) | (with_reducible refine le_drewN ?_) | omega)))))))
  · have hs' : schedOK a b c d = false := by simpa using hs
    clear h hs
    go_enter Try.func21, Try.ntmps21
    go_wp2_with (first | (go_at_call 30; (first | with_reducible refine Calls.fold (Check_f _ _ _ _ _ hs') ?_ | with_reducible refine Calls.fresh (Check_f _ _ _ _ _ hs') ?_); intro x1) | (go_at_call 54; refine (tick_any _ _).mono ?_; rintro e w1 ⟨rfl, rfl⟩))
    go_ret2
    exact Gives.mk rfl (by (repeat (first | (with_reducible exact Below.refl _ _) | (with_reducible assumption) | (with_reducible refine Below.alloc ?_ (by (repeat (first | (with_reducible exact Nat.le_refl _) | (with_reducible assumption) | (with_reducible refine le_up ?_) | (with_reducible refine le_alloc ?_) | (with_reducible refine le_setCell ?_) | (with_reducible refine le_drew ?_) | (with_reducible refine le_drewN ?_) | omega))) _) | (with_reducible refine Below.drew ?_) | (with_reducible refine Below.drewN ?_ _) | (with_reducible refine Below.setCell ?_ (by (repeat (first | (with_reducible exact Nat.le_refl _) | (with_reducible assumption) | (with_reducible refine le_up ?_) | (with_reducible refine le_alloc ?_) | (with_reducible refine le_setCell ?_) | (with_reducible refine le_drew ?_) | (with_reducible refine le_drewN ?_) | omega))) _) | (with_reducible refine Below.up ?_ (by (repeat (first | (with_reducible exact Nat.le_refl _) | (with_reducible assumption) | (with_reducible refine le_up ?_) | (with_reducible refine le_alloc ?_) | (with_reducible refine le_setCell ?_) | (with_reducible refine le_drew ?_) | (with_reducible refine le_drewN ?_) | omega)))))))

/-! Safe -/
def safeV (a b c d t i : Int) : Bool := decide (d - c * b < beginV a b i - t)
theorem mulcb_bd {b c : Int} (h3 : 1 ≤ b) (h4 : b ≤ 65535) (h5 : 1 ≤ c) (h6 : c ≤ 16) : c * b ≤ 1048560 ∧ 1 ≤ c * b := by
  constructor
  · have := Int.mul_le_mul_of_nonneg_right (a := c) (b := 16) (c := b) h6 (by omega); omega
  · have := Int.mul_le_mul_of_nonneg_right (a := 1) (b := c) (c := b) h5 (by omega); omega
theorem beginV_bd {a b c d i : Int} (h : schedOK a b c d = true) (hi : 0 ≤ i) (hi' : i ≤ 4294967295) : beginV a b i ≤ 282574488338432 ∧ -65535 ≤ beginV a b i := by
  obtain ⟨h1, h2, h3, h4, h5, h6, h7, h8⟩ := sched_of h
  obtain ⟨m1, m2⟩ := mul_bd h3 h4 hi hi'
  unfold beginV; omega
set_option maxHeartbeats 400000 in
theorem Safe_t (a b c d t i : Int) (w : World) (hi : 1 ≤ i) (hi' : i ≤ 4294967295) (h : schedOK a b c d = true) (ht : tickOK t = true) :
    Calls Try.prog 26 #[.agg #[.int .i64 a, .int .i64 b, .int .i64 c, .int .i64 d], .int .i64 t, .int .u32 i] w (Gives w (.tuple #[.bool (safeV a b c d t i), .int .i64 0])) := by
  obtain ⟨h1, h2, h3, h4, h5, h6, h7, h8⟩ := sched_of h
  obtain ⟨t1, t2⟩ := tick_of ht
  obtain ⟨m1, m2⟩ := mulcb_bd h3 h4 h5 h6
  obtain ⟨n1, n2⟩ := beginV_bd h (by omega) hi'
  go_enter Try.func26, Try.ntmps26
  go_wp2_with (first | (go_at_call 22; (first | with_reducible refine Calls.fold (Begin_t _ _ _ _ _ _ hi hi' h) ?_ | with_reducible refine Calls.fresh (Begin_t _ _ _ _ _ _ hi hi' h) ?_); intro x1) | (go_at_call 54; refine (tick_any _ _).mono ?_; rintro e w1 ⟨rfl, rfl⟩))
  go_ret2
  exact Gives.mk rfl (by (repeat (first | (with_reducible exact Below.refl _ _) | (with_reducible assumption) | (with_reducible refine Below.alloc ?_ (by (repeat (first | (with_reducible exact Nat.le_refl _) | (with_reducible assumption) | (with_reducible refine le_up ?_) | (with_reducible refine le_alloc ?_) | (with_reducible refine le_setCell ?_) | (with_reducible refine le_drew ?_) | (with_reducible refine le_drewN ?_) | omega))) _) | (with_reducible refine Below.drew ?_) | (with_reducible refine Below.drewN ?_ _) | (with_reducible refine Below.setCell ?_ (by (repeat (first | (with_reducible exact Nat.le_refl _) | (with_reducible assumption) | (with_reducible refine le_up ?_) | (with_reducible refine le_alloc ?_) | (with_reducible refine le_setCell ?_) | (with_reducible refine le_drew ?_) | (with_reducible refine le_drewN ?_) | omega))) _) | (with_reducible refine Below.up ?_ (by (repeat (first | (with_reducible exact Nat.le_refl _) | (with_reducible assumption) | (with_reducible refine le_up ?_) | (with_reducible refine le_alloc ?_) | (with_reducible refine le_setCell ?_) | (with_reducible refine le_drew ?_) | (with_reducible refine le_drewN ?_) | omega)))))))

set_option maxHeartbeats 400000 in
theorem Safe_f (a b c d t i : Int) (w : World) (hi : 0 ≤ i) (hi' : i ≤ 4294967295) (h : ¬ ((schedOK a b c d = true ∧ 1 ≤ i) ∧ tickOK t = true)) :
    Calls Try.prog 26 #[.agg #[.int .i64 a, .int .i64 b, .int .i64 c, .int .i64 d], .int .i64 t, .int .u32 i] w (Gives w (.tuple #[.bool false, .int .i64 2])) := by
  by_cases hs : schedOK a b c d = true ∧ 1 ≤ i
  · have ht : tickOK t = false := by cases e : tickOK t <;> simp_all
    clear h
    obtain ⟨hs, hi1⟩ := hs
    go_enter Try.func26, Try.ntmps26
    go_wp2_with (first | (go_at_call 22; (first | with_reducible refine Calls.fold (Begin_t _ _ _ _ _ _ hi1 hi' hs) ?_ | with_reducible refine Calls.fresh (Begin_t _ _ _ _ _ _ hi1 hi' hs) ?_); intro x1) | (go_at_call 54; refine (tick_any _ _).mono ?_; rintro e w1 ⟨rfl, rfl⟩))
    go_ret2
    exact Gives.mk rfl (by (repeat (first | (with_reducible exact Below.refl _ _) | (with_reducible assumption) | (with_reducible refine Below.alloc ?_ (by (repeat (first | (with_reducible exact Nat.le_refl _) | (with_reducible assumption) | (with_reducible refine le_up ?_) | (with_reducible refine le_alloc ?_) | (with_reducible refine le_setCell ?_) | (with_reducible refine le_drew ?_) | (with_reducible refine le_drewN ?_) | omega))) _) | (with_reducible refine Below.drew ?_) | (with_reducible refine Below.drewN ?_ _) | (with_reducible refine Below.setCell ?_ (by (repeat (first | (with_reducible exact Nat.le_refl _) | (with_reducible assumption) | (with_reducible refine le_up ?_) | (with_reducible refine le_alloc ?_) | (with_reducible refine le_setCell ?_) | (with_reducible refine le_drew ?_) | (with_reducible refine le_drewN ?_) | omega))) _) | (with_reducible refine Below.up ?_ (by (repeat (first | (with_reducible exact Nat.le_refl _) | (with_reducible assumption) | (with_reducible refine le_up ?_) | (with_reducible refine le_alloc ?_) | (with_reducible refine le_setCell ?_) | (with_reducible refine le_drew ?_) | (with_reducible refine le_drewN ?_) | omega)))))))
  · have hs' : Hid (¬ (schedOK a b c d = true ∧ 1 ≤ i)) := hs
    clear h hs
    go_enter Try.func26, Try.ntmps26
    go_wp2_with (first | (go_at_call 22; (first | with_reducible refine Calls.fold (Begin_f _ _ _ _ _ _ hi hi' hs'.out) ?_ | with_reducible refine Calls.fresh (Begin_f _ _ _ _ _ _ hi hi' hs'.out) ?_); intro x1) | (go_at_call 54; refine (tick_any _ _).mono ?_; rintro e w1 ⟨rfl, rfl⟩))
    go_ret2
    exact Gives.mk rfl (by (repeat (first | (with_reducible exact Below.refl _ _) | (with_reducible assumption) | (with_reducible refine Below.alloc ?_ (by (repeat (first | (with_reducible exact Nat.le_refl _) | (with_reducible assumption) | (with_reducible refine le_up ?_) | (with_reducible refine le_alloc ?_) | (with_reducible refine le_setCell ?_) | (with_reducible refine le_drew ?_) | (with_reducible refine le_drewN ?_) | omega))) _) | (with_reducible refine Below.drew ?_) | (with_reducible refine Below.drewN ?_ _) | (with_reducible refine Below.setCell ?_ (by (repeat (first | (with_reducible exact Nat.le_refl _) | (with_reducible assumption) | (with_reducible refine le_up ?_) | (with_reducible refine le_alloc ?_) | (with_reducible refine le_setCell ?_) | (with_reducible refine le_drew ?_) | (with_reducible refine le_drewN ?_) | omega))) _) | (with_reducible refine Below.up ?_ (by (repeat (first | (with_reducible exact Nat.le_refl _) | (with_reducible assumption) | (with_reducible refine le_up ?_) | (with_reducible refine le_alloc ?_) | (with_reducible refine le_setCell ?_) | (with_reducible refine le_drew ?_) | (with_reducible refine le_drewN ?_) | omega)))))))

end Go.Proofs.Ytbfloidogdjccaa
