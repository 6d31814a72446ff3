/-
  The walks over crc.Put, crc.Right and the document's own.
-/
import Derived.Test.YtjkgodhoonkinaaStrB
import Derived.Test.YtjkgodhoonkinaaCrcW
import Derived.Test.YtjkgodhoonkinaaLib2
namespace Go.Proofs.Ytjkgodhoonkinaa
open Go.RowKit

/-- A sum's bytes. -/
def sumB (s : Nat) : List Nat := [s % 256, s / 256 % 256, s / 65536 % 256, s / 16777216 % 256]
theorem sumB_lt (s : Nat) : ∀ x ∈ sumB s, x < 256 := by
  intro x hx
  simp only [sumB, List.mem_cons, List.not_mem_nil, or_false] at hx
  omega
def putB (bs : List Nat) : List Nat := bs ++ sumB (cof bs)

set_option maxRecDepth 100000 in
theorem rPut_any (v : Value) (bs : List Nat) (w : World) (hv : Bts w v bs) (hn : bs.length ≤ 1000000) :
    Calls Try.prog 67 #[v] w (GivesB w (putB bs)) := by
  have HV := Lib.hid hv
  have hl := Lib.hid (show ([] : List Nat).length + bs.length ≤ 140737488355328 by simp; omega)
  have he := Lib.hid (OwnB.empty w)
  have hl2 := Lib.hid (show bs.length + (sumB (cof bs)).length ≤ 140737488355328 by simp [sumB]; omega)
  clear hv
  have hs := cof_lt bs
  go_enter Try.func67, Try.ntmps67
  go_wp2_with (first | (go_at_call 88; with_reducible refine Calls.tells (rOf_any _ _ _ HV.out) ?_) | (at_builtin; have HO1 := HO.out; refine Hid.out (?_ : Hid _)) | (at_builtin; refine wpList_append_bts rfl _ _ rfl w.heap.size _ [] rfl he.out _ bs rfl HV.out.alloc hl.out (by simp) (fun v' w' ho hg hne => ?_); have HO := Lib.hid ho; have HG := Lib.hid hg; have HN := Lib.hid hne; clear ho hg hne))
  refine Lib.hid ?_
  refine wpList_append_bts rfl _ _ rfl w.heap.size _ bs rfl (HO1.alloc _) _ (sumB (cof bs)) rfl (Bts.lit ?hC (sumB_lt _) (by simp [sumB]) _ rfl) hl2.out (by have := HG.out.size; simp at this ⊢; omega) (fun v2 w2 ho2 hg2 hne2 => ?_)
  case hC => simp [byteVs, sumB]; omega
  have HO2 := Lib.hid ho2
  have HG2 := Lib.hid hg2
  have HN2 := Lib.hid hne2
  have hb1 : Below w.heap.size w w' := ((Below.refl _ _).alloc (Nat.le_refl _) _).trans (Below.grownBy HG.out (by simp) (fun k hk => he.out.own k hk))
  have hb2 : Below w.heap.size w w2 := (hb1.alloc hb1.size _).trans (Below.grownBy HG2.out (by have := hb1.size; simp; omega) (fun k hk => HO1.own k hk))
  have HB := Lib.hid hb2
  clear ho2 hg2 hne2 hb1 hb2 HO1
  go_wp2_with fail
  go_ret
  exact GivesB.mk HO2.out (HN2.out (HN.out (fun h => by cases (show Value.slice (some ⟨w.heap.size, 0, none⟩) 0 0 = Value.slice none 0 0 from h)))) HB.out
end Go.Proofs.Ytjkgodhoonkinaa
