/-
  string(b): slices of bytes as strings, and whether these are the same.
-/
import Derived.Test.YtjkgodhoonkinaaMem
import Derived.Laws.IdiomStrings
import Derived.Laws.StructEq
namespace Go.Proofs.Ytjkgodhoonkinaa
open Go.RowKit

def strB (bs : List Nat) : ByteArray := ⟨(bs.map UInt8.ofNat).toArray⟩
theorem run_str {w : World} {v : Value} {bs : List Nat} (h : Bts w v bs) : (convert 22 9 v).run Try.prog w = .ok (.string (strB bs)) w := by
  obtain ⟨h1, ⟨rfl, rfl⟩ | ⟨ad, cap, rfl, rfl⟩ | ⟨b, off, cap, rfl, hl, hc, hs, hcell⟩⟩ := h
  · exact run_convert_bytes_nil w 22 5 Try.underlying22 Try.underlying5 0 0 9 Try.underlying9
  · exact run_convert_bytes_back w 22 9 5 ad cap [] Try.underlying22 Try.underlying5 Try.underlying9 (fun j hj => by simp at hj)
  · have := run_convert_bytes_back (P := Try.prog) w 22 9 5 ⟨b, off, none⟩ cap (bs.map UInt8.ofNat) Try.underlying22 Try.underlying5 Try.underlying9 (fun j hj => by
      have hj' : j < bs.length := by simpa using hj
      rw [Addr.add_lit, hcell j hj', List.getD_eq_getElem?_getD, List.getElem?_eq_getElem hj']
      have := h1 _ (List.getElem_mem hj')
      simp only [List.getElem_map, Option.getD_some, Value.int.injEq, true_and, Option.some.injEq]
      rw [UInt8.toNat_ofNat_of_lt' (by simpa using this)])
    rw [List.length_map] at this
    exact this
theorem strB_inj {a b : List Nat} (ha : ∀ x ∈ a, x < 256) (hb : ∀ x ∈ b, x < 256) (h : strB a = strB b) : a = b := by
  have h' : a.map UInt8.ofNat = b.map UInt8.ofNat := by
    have := congrArg (fun s : ByteArray => s.data.toList) h
    simpa [strB] using this
  have h2 := congrArg (List.map UInt8.toNat) h'
  rw [List.map_map, List.map_map] at h2
  have e : ∀ l : List Nat, (∀ x ∈ l, x < 256) → l.map (UInt8.toNat ∘ UInt8.ofNat) = l := fun l hl => by
    conv => rhs; rw [← List.map_id l]
    exact List.map_congr_left (fun x hx => by simp only [Function.comp, id]; exact UInt8.toNat_ofNat_of_lt' (by simpa using hl x hx))
  rwa [e a ha, e b hb] at h2
def sameB (a b : List Nat) : Bool := decide (a = b)
theorem strB_eq {a b : List Nat} (ha : ∀ x ∈ a, x < 256) (hb : ∀ x ∈ b, x < 256) : ((strB a).toList == (strB b).toList) = sameB a b := by
  unfold sameB
  by_cases h : a = b
  · subst h; simp
  · rw [decide_eq_false h, beq_eq_false_iff_ne]
    refine fun e => h (strB_inj ha hb ?_)
    rw [ByteArray.toList_eq, ByteArray.toList_eq] at e
    exact congrArg ByteArray.mk (Array.ext' e)
theorem SameBytes_any (v u : Value) (a b : List Nat) (w : World) (hv : Bts w v a) (hu : Bts w u b) :
    Calls Try.prog 25 #[v, u] w (Tells w (.bool (sameB a b))) := by
  have k1 := run_str hv
  have k2 := run_str hu
  have ha := Lib.hid hv.1
  have hb := Lib.hid hu.1
  clear hv hu
  go_enter Try.func25, Try.ntmps25
  go_wp2_with fail
  go_ret
  exact Tells.mk (ret_bool (strB_eq ha.out hb.out))
end Go.Proofs.Ytjkgodhoonkinaa
