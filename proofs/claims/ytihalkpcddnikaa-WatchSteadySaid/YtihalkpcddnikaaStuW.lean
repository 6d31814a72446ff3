/-
  The walks over the watcher of readings.
-/
import Derived.Test.YtihalkpcddnikaaStuP
import Derived.Test.YtihalkpcddnikaaBaseB
import Derived.Test.YtihalkpcddnikaaGen
import Derived.ChangeKeysEq
import Derived.Deep.CutRange
import Derived.RegionTactic
namespace Go.Proofs.Ytihalkpcddnikaa
open Go.RowKit Go.Maps
set_option linter.unusedVariables false

/-- A watcher: its cells at c, the map b, which holds the readings f. -/
structure StAt (w : World) (c b n : Nat) (same rate : Int) (f : Int → Option StO) : Prop where
  c0 : w.cell? ⟨c, 0, none⟩ = some (.int .i64 same)
  c1 : w.cell? ⟨c, 1, none⟩ = some (.int .i64 rate)
  c2 : w.cell? ⟨c, 2, none⟩ = some (.map (some b))
  lt : c < w.heap.size
  ne : c ≠ b
  tab : TabS w b n f
section
variable {w w' : World} {c b n : Nat} {same rate : Int} {f : Int → Option StO}
theorem StAt.below {B : Nat} (h : StAt w c b n same rate f) (hb : Below B w w') (hc : c < B) (hbB : b < B) : StAt w' c b n same rate f :=
  ⟨by rw [hb.cell (p := ⟨c, _, none⟩) hc]; exact h.c0, by rw [hb.cell (p := ⟨c, _, none⟩) hc]; exact h.c1, by rw [hb.cell (p := ⟨c, _, none⟩) hc]; exact h.c2, Nat.lt_of_lt_of_le h.lt hb.size, h.ne, h.tab.below hb hbB⟩
theorem StAt.below' (h : StAt w c b n same rate f) (hb : Below w.heap.size w w') : StAt w' c b n same rate f := h.below hb h.lt h.tab.lt
theorem StAt.up {x : World} (h : StAt w c b n same rate f) : StAt (up w x) c b n same rate f := h.below' (up_below w x)
theorem StAt.alloc {o : Obj} (h : StAt w c b n same rate f) : StAt (w.alloc o) c b n same rate f := h.below' ((Below.refl _ w).alloc (Nat.le_refl _) o)
theorem StAt.drew (h : StAt w c b n same rate f) : StAt w.drew c b n same rate f := ⟨h.c0, h.c1, h.c2, h.lt, h.ne, h.tab⟩
theorem StAt.kept {row : Option Nat} (h : StAt w c b n same rate f) (hg : w.grownBy w' row) (h1 : some c ≠ row) (h2 : some b ≠ row) : StAt w' c b n same rate f := by
  have hb := hg.block c h.lt h1
  exact ⟨by rw [World.cell?_of_block (a := ⟨c, _, none⟩) hb]; exact h.c0, by rw [World.cell?_of_block (a := ⟨c, _, none⟩) hb]; exact h.c1, by rw [World.cell?_of_block (a := ⟨c, _, none⟩) hb]; exact h.c2, Nat.lt_of_lt_of_le h.lt hg.size, h.ne, h.tab.kept hg h2⟩
theorem StAt.grown {n' : Nat} {f' : Int → Option StO} (h : StAt w c b n same rate f) (hg : w.grownBy w' (some b)) (ht : TabS w' b n' f') : StAt w' c b n' same rate f' := by
  have hb := hg.block c h.lt (fun e => h.ne (by simpa using e))
  exact ⟨by rw [World.cell?_of_block (a := ⟨c, _, none⟩) hb]; exact h.c0, by rw [World.cell?_of_block (a := ⟨c, _, none⟩) hb]; exact h.c1, by rw [World.cell?_of_block (a := ⟨c, _, none⟩) hb]; exact h.c2, Nat.lt_of_lt_of_le h.lt hg.size, h.ne, ht⟩
end
theorem gr_to_drew {a b : World} {row : Option Nat} (h : a.grownBy b row) : a.grownBy b.drew row := gr_trans h ⟨rfl, rfl, rfl, Nat.le_refl _, fun _ _ _ => rfl⟩
theorem gr_to_up {a b : World} {row : Option Nat} (h : a.grownBy b row) (x : World) : a.grownBy (up b x) row := gr_trans h (gr_below _ (up_below b x))
theorem gr_to_alloc {a b : World} {o : Obj} {row : Option Nat} (h : a.grownBy b row) : a.grownBy (b.alloc o) row := gr_trans h (gr_below _ ((Below.refl _ b).alloc (Nat.le_refl _) o))

def srcB (s : Int) : Bool := decide (0 ≤ s ∧ s < 8)
theorem src_in {s : Int} (h : srcB s = true) : 0 ≤ s ∧ s < 8 := by simpa [srcB] using h
theorem src_out {s : Int} (h : srcB s = false) : s < 0 ∨ (¬ s < 0 ∧ 8 ≤ s) := by simp [srcB] at h; omega
def stNewB (same rate : Int) : Bool := decide (1 ≤ same ∧ same ≤ 1000 ∧ 0 ≤ rate)
theorem sNew_bad {same rate : Int} (w : World) (h : stNewB same rate = false) :
    Calls Try.prog 12 #[.int .i64 same, .int .i64 rate] w (Tells w (.tuple #[.pointer none, .int .i64 2])) := by
  have h' : same < 1 ∨ (¬ same < 1 ∧ 1000 < same) ∨ (¬ same < 1 ∧ ¬ 1000 < same ∧ rate < 0) := by simp [stNewB] at h; omega
  clear h
  rcases h' with h1 | ⟨h1, h2⟩ | ⟨h1, h2, h3⟩
  all_goals
    go_enter Try.func12, Try.ntmps12
    go_wp2
    go_ret2
    exact Tells.mk rfl
def StNewR (w : World) (same rate : Int) (e : Ending) (w' : World) : Prop := ∃ c b : Nat, e = .returned (.tuple #[.pointer (some ⟨c, 0, none⟩), .int .i64 0]) ∧ w.heap.size ≤ b ∧ w.heap.size ≤ c ∧ StAt w' c b 0 same rate (fun _ => none) ∧ Below w.heap.size w w'
theorem sNew_good {same rate : Int} (w : World) (h : stNewB same rate = true) :
    Calls Try.prog 12 #[.int .i64 same, .int .i64 rate] w (StNewR w same rate) := by
  have h' : ¬ same < 1 ∧ ¬ 1000 < same ∧ ¬ rate < 0 := by simp [stNewB] at h; omega
  clear h
  obtain ⟨h1, h2, h3⟩ := h'
  have hmm := @run_makeMap Try.prog
  go_enter Try.func12, Try.ntmps12
  go_wp2
  go_ret2
  refine ⟨_, w.heap.size, rfl, Nat.le_refl _, by omega, ⟨by simp, by simp, by simp, by simp, by omega, (TabS.new w).alloc _⟩, by (repeat (first | (with_reducible exact Below.refl _ _) | (with_reducible assumption) | (with_reducible refine Below.alloc ?_ (by (repeat (first | (with_reducible exact Nat.le_refl _) | (with_reducible assumption) | (with_reducible refine le_up ?_) | (with_reducible refine le_alloc ?_) | (with_reducible refine le_setCell ?_) | (with_reducible refine le_drew ?_) | (with_reducible refine le_drewN ?_) | omega))) _) | (with_reducible refine Below.drew ?_) | (with_reducible refine Below.drewN ?_ _) | (with_reducible refine Below.setCell ?_ (by (repeat (first | (with_reducible exact Nat.le_refl _) | (with_reducible assumption) | (with_reducible refine le_up ?_) | (with_reducible refine le_alloc ?_) | (with_reducible refine le_setCell ?_) | (with_reducible refine le_drew ?_) | (with_reducible refine le_drewN ?_) | omega))) _) | (with_reducible refine Below.up ?_ (by (repeat (first | (with_reducible exact Nat.le_refl _) | (with_reducible assumption) | (with_reducible refine le_up ?_) | (with_reducible refine le_alloc ?_) | (with_reducible refine le_setCell ?_) | (with_reducible refine le_drew ?_) | (with_reducible refine le_drewN ?_) | omega))))))⟩
theorem smay_t (c b n : Nat) (same rate : Int) (f : Int → Option StO) (s : Int) (w : World) (h : StAt w c b n same rate f) (hs : srcB s = true) :
    Calls Try.prog 31 #[.pointer (some ⟨c, 0, none⟩), .int .i64 s] w (Tells w (.int .i64 0)) := by
  obtain ⟨s1, s2⟩ := src_in hs
  have hc := h.c2
  have hn := fun W => run_eql_map_nil (P := Try.prog) W 55 3 91 (some b) Try.underlying55
  clear h hs
  go_enter Try.func31, Try.ntmps31
  go_wp2
  go_ret
  exact Tells.mk rfl
theorem smay_f (c b n : Nat) (same rate : Int) (f : Int → Option StO) (s : Int) (w : World) (h : StAt w c b n same rate f) (hs : srcB s = false) :
    Calls Try.prog 31 #[.pointer (some ⟨c, 0, none⟩), .int .i64 s] w (Tells w (.int .i64 2)) := by
  have hc := h.c2
  have hn := fun W => run_eql_map_nil (P := Try.prog) W 55 3 91 (some b) Try.underlying55
  clear h
  rcases src_out hs with h1 | ⟨h1, h2⟩
  all_goals
    clear hs
    go_enter Try.func31, Try.ntmps31
    go_wp2
    go_ret
    exact Tells.mk rfl
theorem smay_nil (s : Int) (w : World) : Calls Try.prog 31 #[.pointer none, .int .i64 s] w (Tells w (.int .i64 1)) := by
  go_enter Try.func31, Try.ntmps31
  go_wp2
  go_ret
  exact Tells.mk rfl
theorem smay_void (c : Nat) (s : Int) (w : World) (hc : w.cell? ⟨c, 2, none⟩ = some (.map none)) : Calls Try.prog 31 #[.pointer (some ⟨c, 0, none⟩), .int .i64 s] w (Tells w (.int .i64 1)) := by
  have hn := fun W => run_eql_map_nil (P := Try.prog) W 55 3 91 (none) Try.underlying55
  go_enter Try.func31, Try.ntmps31
  go_wp2
  go_ret
  exact Tells.mk rfl
theorem slimit_any (c b n : Nat) (same rate : Int) (f : Int → Option StO) (t : Int) (w : World) (h : StAt w c b n same rate f) (hr : 0 ≤ rate) (hr2 : rate ≤ 9223372036854775807) (t1 : -9223372036854775808 ≤ t) (t2 : t ≤ 9223372036854775807) :
    Calls Try.prog 33 #[.pointer (some ⟨c, 0, none⟩), .int .i64 t] w (Gives w (.int .i64 (limV rate t))) := by
  have hc := h.c1
  haveI : LtSize c w := ⟨h.lt⟩
  clear h
  obtain ⟨k, hk⟩ : ∃ k, min (max t 1) 65535 = k := ⟨_, rfl⟩
  have hk1 : 1 ≤ k := by omega
  have hk2 : k ≤ 65535 := by omega
  have hv : limV rate t = (if 9223372036854775807 / k < rate then 9223372036854775807 else rate * k) := by unfold limV; rw [hk]
  have hb := lim_bd (rate := rate) (t := t) hr
  rw [hv] at hb
  rw [hv]
  clear hv
  have hparts : (t < 1 ∧ k = 1) ∨ (1 ≤ t ∧ t ≤ 65535 ∧ k = t) ∨ (65535 < t ∧ k = 65535) := by omega
  clear hk
  by_cases hq : 9223372036854775807 / k < rate
  · rw [if_pos hq]
    clear hb
    rcases hparts with ⟨p1, rfl⟩ | ⟨p1, p2, rfl⟩ | ⟨p1, rfl⟩
    · exfalso; omega
    · have hd : decide (9223372036854775807 / k < rate) = true := decide_eq_true hq
      clear hq
      go_enter Try.func33, Try.ntmps33
      go_wp2_with fail
      (refine wp_region_up (by kernel_rfl) (by kernel_rfl) ?_; (repeat (go_big_quiet_step (fail))); refine wpQuiet_nil ?_; intro _ hw'; obtain ⟨xq, hw''⟩ := hw'; subst hw'')
      go_wp2_with fail
      go_ret
      exact Gives.mk rfl (by (repeat (first | (with_reducible exact Below.refl _ _) | (with_reducible assumption) | (with_reducible refine Below.alloc ?_ (by (repeat (first | (with_reducible exact Nat.le_refl _) | (with_reducible assumption) | (with_reducible refine le_up ?_) | (with_reducible refine le_alloc ?_) | (with_reducible refine le_setCell ?_) | (with_reducible refine le_drew ?_) | (with_reducible refine le_drewN ?_) | omega))) _) | (with_reducible refine Below.drew ?_) | (with_reducible refine Below.drewN ?_ _) | (with_reducible refine Below.setCell ?_ (by (repeat (first | (with_reducible exact Nat.le_refl _) | (with_reducible assumption) | (with_reducible refine le_up ?_) | (with_reducible refine le_alloc ?_) | (with_reducible refine le_setCell ?_) | (with_reducible refine le_drew ?_) | (with_reducible refine le_drewN ?_) | omega))) _) | (with_reducible refine Below.up ?_ (by (repeat (first | (with_reducible exact Nat.le_refl _) | (with_reducible assumption) | (with_reducible refine le_up ?_) | (with_reducible refine le_alloc ?_) | (with_reducible refine le_setCell ?_) | (with_reducible refine le_drew ?_) | (with_reducible refine le_drewN ?_) | omega)))))))
    · have hd : decide (140739635871744 < rate) = true := by simp; omega
      clear hq
      go_enter Try.func33, Try.ntmps33
      go_wp2_with fail
      (refine wp_region_up (by kernel_rfl) (by kernel_rfl) ?_; (repeat (go_big_quiet_step (fail))); refine wpQuiet_nil ?_; intro _ hw'; obtain ⟨xq, hw''⟩ := hw'; subst hw'')
      go_wp2_with fail
      go_ret
      exact Gives.mk rfl (by (repeat (first | (with_reducible exact Below.refl _ _) | (with_reducible assumption) | (with_reducible refine Below.alloc ?_ (by (repeat (first | (with_reducible exact Nat.le_refl _) | (with_reducible assumption) | (with_reducible refine le_up ?_) | (with_reducible refine le_alloc ?_) | (with_reducible refine le_setCell ?_) | (with_reducible refine le_drew ?_) | (with_reducible refine le_drewN ?_) | omega))) _) | (with_reducible refine Below.drew ?_) | (with_reducible refine Below.drewN ?_ _) | (with_reducible refine Below.setCell ?_ (by (repeat (first | (with_reducible exact Nat.le_refl _) | (with_reducible assumption) | (with_reducible refine le_up ?_) | (with_reducible refine le_alloc ?_) | (with_reducible refine le_setCell ?_) | (with_reducible refine le_drew ?_) | (with_reducible refine le_drewN ?_) | omega))) _) | (with_reducible refine Below.up ?_ (by (repeat (first | (with_reducible exact Nat.le_refl _) | (with_reducible assumption) | (with_reducible refine le_up ?_) | (with_reducible refine le_alloc ?_) | (with_reducible refine le_setCell ?_) | (with_reducible refine le_drew ?_) | (with_reducible refine le_drewN ?_) | omega)))))))
  · rw [if_neg hq]
    rw [if_neg hq] at hb
    obtain ⟨hb1, hb2⟩ := hb
    rcases hparts with ⟨p1, rfl⟩ | ⟨p1, p2, rfl⟩ | ⟨p1, rfl⟩
    · rw [Int.mul_one]
      clear hq
      go_enter Try.func33, Try.ntmps33
      go_wp2_with fail
      (refine wp_region_up (by kernel_rfl) (by kernel_rfl) ?_; (repeat (go_big_quiet_step (fail))); refine wpQuiet_nil ?_; intro _ hw'; obtain ⟨xq, hw''⟩ := hw'; subst hw'')
      go_wp2_with fail
      go_ret
      exact Gives.mk rfl (by (repeat (first | (with_reducible exact Below.refl _ _) | (with_reducible assumption) | (with_reducible refine Below.alloc ?_ (by (repeat (first | (with_reducible exact Nat.le_refl _) | (with_reducible assumption) | (with_reducible refine le_up ?_) | (with_reducible refine le_alloc ?_) | (with_reducible refine le_setCell ?_) | (with_reducible refine le_drew ?_) | (with_reducible refine le_drewN ?_) | omega))) _) | (with_reducible refine Below.drew ?_) | (with_reducible refine Below.drewN ?_ _) | (with_reducible refine Below.setCell ?_ (by (repeat (first | (with_reducible exact Nat.le_refl _) | (with_reducible assumption) | (with_reducible refine le_up ?_) | (with_reducible refine le_alloc ?_) | (with_reducible refine le_setCell ?_) | (with_reducible refine le_drew ?_) | (with_reducible refine le_drewN ?_) | omega))) _) | (with_reducible refine Below.up ?_ (by (repeat (first | (with_reducible exact Nat.le_refl _) | (with_reducible assumption) | (with_reducible refine le_up ?_) | (with_reducible refine le_alloc ?_) | (with_reducible refine le_setCell ?_) | (with_reducible refine le_drew ?_) | (with_reducible refine le_drewN ?_) | omega)))))))
    · have hd : decide (9223372036854775807 / k < rate) = false := decide_eq_false hq
      clear hq
      go_enter Try.func33, Try.ntmps33
      go_wp2_with fail
      (refine wp_region_up (by kernel_rfl) (by kernel_rfl) ?_; (repeat (go_big_quiet_step (fail))); refine wpQuiet_nil ?_; intro _ hw'; obtain ⟨xq, hw''⟩ := hw'; subst hw'')
      go_wp2_with fail
      go_ret
      exact Gives.mk rfl (by (repeat (first | (with_reducible exact Below.refl _ _) | (with_reducible assumption) | (with_reducible refine Below.alloc ?_ (by (repeat (first | (with_reducible exact Nat.le_refl _) | (with_reducible assumption) | (with_reducible refine le_up ?_) | (with_reducible refine le_alloc ?_) | (with_reducible refine le_setCell ?_) | (with_reducible refine le_drew ?_) | (with_reducible refine le_drewN ?_) | omega))) _) | (with_reducible refine Below.drew ?_) | (with_reducible refine Below.drewN ?_ _) | (with_reducible refine Below.setCell ?_ (by (repeat (first | (with_reducible exact Nat.le_refl _) | (with_reducible assumption) | (with_reducible refine le_up ?_) | (with_reducible refine le_alloc ?_) | (with_reducible refine le_setCell ?_) | (with_reducible refine le_drew ?_) | (with_reducible refine le_drewN ?_) | omega))) _) | (with_reducible refine Below.up ?_ (by (repeat (first | (with_reducible exact Nat.le_refl _) | (with_reducible assumption) | (with_reducible refine le_up ?_) | (with_reducible refine le_alloc ?_) | (with_reducible refine le_setCell ?_) | (with_reducible refine le_drew ?_) | (with_reducible refine le_drewN ?_) | omega)))))))
    · have hd : decide (140739635871744 < rate) = false := by simp; omega
      clear hq
      go_enter Try.func33, Try.ntmps33
      go_wp2_with fail
      (refine wp_region_up (by kernel_rfl) (by kernel_rfl) ?_; (repeat (go_big_quiet_step (fail))); refine wpQuiet_nil ?_; intro _ hw'; obtain ⟨xq, hw''⟩ := hw'; subst hw'')
      go_wp2_with fail
      go_ret
      exact Gives.mk rfl (by (repeat (first | (with_reducible exact Below.refl _ _) | (with_reducible assumption) | (with_reducible refine Below.alloc ?_ (by (repeat (first | (with_reducible exact Nat.le_refl _) | (with_reducible assumption) | (with_reducible refine le_up ?_) | (with_reducible refine le_alloc ?_) | (with_reducible refine le_setCell ?_) | (with_reducible refine le_drew ?_) | (with_reducible refine le_drewN ?_) | omega))) _) | (with_reducible refine Below.drew ?_) | (with_reducible refine Below.drewN ?_ _) | (with_reducible refine Below.setCell ?_ (by (repeat (first | (with_reducible exact Nat.le_refl _) | (with_reducible assumption) | (with_reducible refine le_up ?_) | (with_reducible refine le_alloc ?_) | (with_reducible refine le_setCell ?_) | (with_reducible refine le_drew ?_) | (with_reducible refine le_drewN ?_) | omega))) _) | (with_reducible refine Below.up ?_ (by (repeat (first | (with_reducible exact Nat.le_refl _) | (with_reducible assumption) | (with_reducible refine le_up ?_) | (with_reducible refine le_alloc ?_) | (with_reducible refine le_setCell ?_) | (with_reducible refine le_drew ?_) | (with_reducible refine le_drewN ?_) | omega)))))))
end Go.Proofs.Ytihalkpcddnikaa
