/-
  The replay layer: All of a table, a range over its map.
-/
import Derived.Test.YtbfloidogdjccaaRepR
import Derived.Maps.RangeWalk
import Derived.Laws.MakeOwn
namespace Go.Proofs.Ytbfloidogdjccaa
open Go.RowKit Go.Maps

/-- A row of eight marks in a block. -/
structure Row8 (w : World) (g : Nat) (h : Nat → MarkT) : Prop where
  lt : g < w.heap.size
  at1 : ∀ k : Nat, k < 8 → w.cell? ⟨g, k * 2, none⟩ = some (.int .u32 (h k).1)
  at2 : ∀ k : Nat, k < 8 → w.cell? ⟨g, k * 2 + 1, none⟩ = some (.int .u64 (h k).2)
  free : ∀ o : Nat, w.frozen? ⟨g, o, none⟩ = false
theorem Row8.below {w w' : World} {g B : Nat} {h : Nat → MarkT} (r : Row8 w g h) (hb : Below B w w') (hg : g < B) : Row8 w' g h :=
  ⟨Nat.lt_of_lt_of_le r.lt hb.size, fun k hk => by rw [hb.cell (p := ⟨g, _, none⟩) hg]; exact r.at1 k hk, fun k hk => by rw [hb.cell (p := ⟨g, _, none⟩) hg]; exact r.at2 k hk, fun o => by rw [hb.frozen (p := ⟨g, _, none⟩) hg]; exact r.free o⟩
theorem Row8.kept {w w' : World} {g : Nat} {row : Option Nat} {h : Nat → MarkT} (r : Row8 w g h) (hb : w.grownBy w' row) (hg : some g ≠ row) : Row8 w' g h :=
  ⟨Nat.lt_of_lt_of_le r.lt hb.size, fun k hk => by rw [World.cell?_of_block (a := ⟨g, _, none⟩) (hb.block g r.lt hg)]; exact r.at1 k hk, fun k hk => by rw [World.cell?_of_block (a := ⟨g, _, none⟩) (hb.block g r.lt hg)]; exact r.at2 k hk, fun o => by rw [World.frozen?_of_block (a := ⟨g, _, none⟩) (hb.block g r.lt hg)]; exact r.free o⟩
theorem Row8.same {w : World} {g : Nat} {h h' : Nat → MarkT} (r : Row8 w g h) (e : ∀ k, k < 8 → h k = h' k) : Row8 w g h' :=
  ⟨r.lt, fun k hk => by rw [← e k hk]; exact r.at1 k hk, fun k hk => by rw [← e k hk]; exact r.at2 k hk, r.free⟩
def row0 : Array Value := #[.int .u32 0, .int .u64 0, .int .u32 0, .int .u64 0, .int .u32 0, .int .u64 0, .int .u32 0, .int .u64 0, .int .u32 0, .int .u64 0, .int .u32 0, .int .u64 0, .int .u32 0, .int .u64 0, .int .u32 0, .int .u64 0]
theorem Row8.new (w : World) (t : TypeId) : Row8 (w.alloc (.cells row0 t)) w.heap.size (fun _ => (0, 0)) :=
  ⟨by simp, fun k hk => by
    rcases k with _ | _ | _ | _ | _ | _ | _ | _ | k <;> first | omega | (simp [row0]), fun k hk => by
    rcases k with _ | _ | _ | _ | _ | _ | _ | _ | k <;> first | omega | (simp [row0]), fun o => by simp⟩
theorem Row8.set {w : World} {g : Nat} {h : Nat → MarkT} (r : Row8 w g h) (j : Nat) (hj : j < 8) (m : MarkT) :
    Row8 ((w.setCell ⟨g, j * 2, none⟩ (.int .u32 m.1)).setCell ⟨g, j * 2 + 1, none⟩ (.int .u64 m.2)) g (fun k => if k = j then m else h k) := by
  refine ⟨by simpa using r.lt, fun k hk => ?_, fun k hk => ?_, fun o => by rw [World.frozen?_setCell, World.frozen?_setCell]; exact r.free o⟩
  · rw [World.cell?_setCell_other _ _ _ _ (by intro e; injection e; omega)]
    by_cases hkj : k = j
    · subst hkj
      rw [World.cell?_setCell_same _ _ _ (r.at1 k hk), if_pos rfl]
    · rw [World.cell?_setCell_other _ _ _ _ (by intro e; injection e; omega), if_neg hkj]; exact r.at1 k hk
  · by_cases hkj : k = j
    · subst hkj
      have hl := r.at2 k hk
      have hl' : (w.setCell ⟨g, k * 2, none⟩ (.int .u32 m.1)).cell? ⟨g, k * 2 + 1, none⟩ = some (.int .u64 (h k).2) := by rw [World.cell?_setCell_other _ _ _ _ (by simp)]; exact hl
      rw [World.cell?_setCell_same _ _ _ hl', if_pos rfl]
    · rw [World.cell?_setCell_other _ _ _ _ (by intro e; injection e; omega), World.cell?_setCell_other _ _ _ _ (by intro e; injection e; omega), if_neg hkj]; exact r.at2 k hk
theorem gr_set (w : World) (b i : Nat) (v : Value) : w.grownBy (w.setCell ⟨b, i, none⟩ v) (some b) :=
  ⟨rfl, rfl, rfl, by simp [World.setCell], fun k _ hk => Below.heap_setCell _ _ _ _ (fun e => hk (by simp [e]))⟩
theorem run_row8 (w : World) : (Instr.makeSlice 82 (.int .i64 8) (.int .i64 8)).run Try.prog w = .ok (.slice (some ⟨w.heap.size, 0, none⟩) 8 8) (w.alloc (.cells row0 56)) := by kernel_rfl

def leftF (f : Int → Option MarkT) (left : Lit → Bool) (k : Nat) : MarkT := if left (.int .i64 (k : Int)) then (0, 0) else (f k).getD (0, 0)
structure AllAt (w0 : World) (b r g n : Nat) (f : Int → Option MarkT) (D : DataW Unit) (left : Lit → Bool) (cnt : Nat) (w : World) : Prop where
  rg : w.ranges Try.prog 3 markR b r n D left cnt
  key : ∀ i : Int, left (.int .i64 i) = true → (f i).isSome = true
  row : Row8 w g (leftF f left)
  bel : Below w0.heap.size w0 w

set_option maxRecDepth 100000 in
set_option maxHeartbeats 800000 in
theorem All_any (c b n : Nat) (f : Int → Option MarkT) (w : World) (h : ObjT w c b n f) (hin : ∀ i, (f i).isSome = true → 0 ≤ i ∧ i < 8) :
    Calls Try.prog 49 #[.pointer (some ⟨c, 0, none⟩)] w (fun e w' => ∃ g, e = .returned (.slice (some ⟨g, 0, none⟩) 8 8) ∧ w.heap.size ≤ g ∧ g < w'.heap.size ∧ Below w.heap.size w w' ∧ Row8 w' g (fun k => (f k).getD (0, 0))) := by
  have hbl := h.tab.lt
  have H := Lib.hid h
  have hc := h.cell
  have hcb := h.ne
  haveI : LtSize c w := ⟨h.lt⟩
  obtain ⟨D, hown, hhas, hat⟩ := h.tab
  have hmk := run_row8
  clear h
  go_enter Try.func49, Try.ntmps49
  go_wp2_with (first
    | (go_at_call 64; with_reducible refine Calls.tells (is_t _ _ _ _ _ H.out) ?_)
    | (at_range; refine wpList_range_own _ rfl _ 77 rfl 3 56 keyK Try.underlying77 markR b n D rfl ?_ ?_))
  · exact hown.kept (World.grownBy_alloc w _ none) (by simp)
  intro w0 hrg0 hg0 hs0
  have hrow0 : Row8 w0 w.heap.size (fun _ => (0, 0)) := (Row8.new w _).kept hg0 (by simp)
  try simp only [World.size_alloc] at hrg0
  have hb0 : Below w.heap.size w w0 := (Below.alloc (Below.refl _ _) (Nat.le_refl _) _).trans (Below.grownBy hg0 (by simp) (by simp))
  generalize hvb : w.heap.size = vb at *
  have hst : AllAt w b (vb + 1) vb n f D (has D) (size D) w0 := ⟨hrg0, fun i hi => by rw [← hhas i]; exact hi, hrow0.same (fun k hk => by
    unfold leftF; rw [hhas]; cases f k <;> rfl), by rw [hvb]; exact hb0⟩
  go_wp2_with fail

  go_loopw [4, 5] (fun _ _ wr => ∃ left cnt, AllAt w b (vb + 1) vb n f D left cnt wr) (fun _ _ wr => wr.rangeLeft b (vb + 1))
  case atStart => exact ⟨_, _, hst⟩
  case round =>
    clear hst hrg0 hrow0 hg0 hs0 hb0 hown hc
    obtain ⟨left, cnt, ha⟩ := hrel
    have HA := Lib.hid ha
    clear ha
    go_wp2_with (first
      | (at_next; refine wpList_next_ranges _ rfl _ rfl 3 keyK markR (Value.int .i64) mkV (fun key kl hkey => by obtain ⟨x, rfl, _⟩ := Maps.keyOf_int_inv Try.underlying3 hkey; exact ⟨x, rfl⟩) (fun v y hv => by obtain ⟨m, rfl, _⟩ := markR_inv hv; exact ⟨m, rfl⟩) b (vb + 1) n D _ _ rfl HA.out.rg ?_ ?_)
      | go_in)
    · intro _ hl0
      go_wp2
      go_ret
      refine ⟨w.heap.size, by rw [hvb]; rfl, Nat.le_refl _, by rw [hvb]; exact HA.out.row.lt, HA.out.bel, ?_⟩
      rw [hvb]
      exact HA.out.row.same (fun k hk => by unfold leftF; rw [hl0]; rfl)
    · intro x m1 m2 kl y yp w1 cnt1 hkey hlx hR hatk hrg1 hlt hg1 hs1 hen
      obtain ⟨x', ex, rfl, _⟩ := Maps.keyOf_int_inv Try.underlying3 hkey
      cases ex
      have hfx := HA.out.key x hlx
      have hval : (f x).getD (0, 0) = (m1, m2) := by
        cases hv : f x with
        | none => rw [hv] at hfx; cases hfx
        | some m' =>
          rw [markR_mk] at hR
          cases hR
          exact mkD_inj ((hat x m' hv (mkD (0, 0))).symm.trans (hatk _))
      obtain ⟨hx0, hx8⟩ := hin x hfx
      obtain ⟨j, rfl⟩ := Int.eq_ofNat_of_zero_le hx0
      have hrow1 := HA.out.row.kept hg1 (by intro e; injection e; omega)
      have hb1 := HA.out.bel.trans (Below.grownBy hg1 (B := w.heap.size) (by have := HA.out.bel.size; omega) (fun k hk => by cases hk; omega))
      have hz1 := hrow1.free (j * 2)
      have hz2 := hrow1.free (j * 2 + 1)
      have hkey1 := HA.out.key
      have hleft := HA.out.rg.left_eq
      have hglt := hrow1.lt
      have HS1 := Lib.hid hs1
      have hbw : b ≠ w1.heap.size := by omega
      have hvw : vb ≠ w1.heap.size := by omega
      have hrw : vb + 1 ≠ w1.heap.size := by have := HA.out.rg.lt; omega
      clear hlx hR hatk hkey hs1
      simp only [mkV] at hen ⊢
      haveI : LtSize vb w1 := ⟨hrow1.lt⟩
      have hc1 := hrow1.at1 j (by omega)
      have hc2 := hrow1.at2 j (by omega)
      have HROW := Lib.hid hrow1
      have HB := Lib.hid hb1
      have HRG := Lib.hid hrg1
      clear hrow1 hb1 hrg1 HA
      go_wp2_with fail
      have G1 := gr_set w1 vb (j * 2) (.int .u32 m1)
      have G2 := gr_set (w1.setCell ⟨vb, j * 2, none⟩ (.int .u32 m1)) vb (j * 2 + 1) (.int .u64 m2)
      have R2 := (((HRG.out.kept G1 (by simp; omega) (by simp)).kept G2 (by simp; omega) (by simp)).alloc (Obj.cells #[Value.int .u32 m1, Value.int .u64 m2] 56))
      refine ⟨⟨_, cnt1, ⟨R2, fun i hi => hkey1 i (by simp only [Bool.and_eq_true] at hi; exact hi.1), ?_, ?_⟩⟩, by rw [R2.left_eq, hleft]; exact hlt⟩
      · refine Row8.below ((HROW.out.set j (by omega) (m1, m2)).same (fun k hk => ?_)) (B := vb + 1) (Below.alloc (Below.refl _ _) (by simp; omega) _) (by omega)
        unfold leftF
        by_cases hkj : k = j
        · subst hkj
          rw [if_pos rfl, hval]
          simp [Lit.sameKey]
        · rw [if_neg hkj]
          have e : (Lit.int .i64 (k : Int)).sameKey (Lit.int .i64 (j : Int)) = false := by simp [Lit.sameKey]; omega
          simp [e]
      · have hsz := HB.out.size
        have hvb' := hvb
        exact ((HB.out.setCell (by show w.heap.size ≤ vb; omega) _).setCell (by show w.heap.size ≤ vb; omega) _).alloc (by simp; omega) _
end Go.Proofs.Ytbfloidogdjccaa
