/-
  Numbers in bytes, the highest first; frames as lists of bytes.
-/
import Derived.Test.YtjkgodhoonkinaaRightX
import Derived.Test.YtjkgodhoonkinaaGen
namespace Go.Proofs.Ytjkgodhoonkinaa
open Go.RowKit

/-- A number in so many bytes. -/
def beB : Nat → Nat → List Nat
  | 0, _ => []
  | n + 1, x => beB n (x / 256) ++ [x % 256]
/-- A number of bytes. -/
def beN (bs : List Nat) : Nat := bs.foldl (fun a c => a * 256 + c) 0
theorem beB_length (n : Nat) : ∀ x, (beB n x).length = n := by
  induction n with
  | zero => intro x; rfl
  | succ n ih => intro x; unfold beB; rw [List.length_append, ih]; rfl
theorem beB_lt (n : Nat) : ∀ x, ∀ y ∈ beB n x, y < 256 := by
  induction n with
  | zero => intro x y h; cases h
  | succ n ih =>
    intro x y h
    unfold beB at h
    rcases List.mem_append.1 h with h | h
    · exact ih _ y h
    · simp only [List.mem_singleton] at h; omega
theorem beB_front (n : Nat) : ∀ x, beB (n + 1) x = [x / 256 ^ n % 256] ++ beB n x := by
  induction n with
  | zero => intro x; simp [beB]
  | succ n ih =>
    intro x
    show beB (n + 1) (x / 256) ++ [x % 256] = _
    rw [ih, List.append_assoc]
    show _ = [x / 256 ^ (n + 1) % 256] ++ (beB n (x / 256) ++ [x % 256])
    rw [Nat.div_div_eq_div_mul, Nat.pow_succ, Nat.mul_comm 256]
theorem beN_snoc (bs : List Nat) (c : Nat) : beN (bs ++ [c]) = beN bs * 256 + c := by unfold beN; rw [List.foldl_append]; rfl
theorem beN_beB (n : Nat) : ∀ x, beN (beB n x) = x % 256 ^ n := by
  induction n with
  | zero => intro x; simp [beB, beN, Nat.mod_one]
  | succ n ih =>
    intro x
    unfold beB
    rw [beN_snoc, ih]
    have h := Nat.mod_mul (a := 256) (b := 256 ^ n) (x := x)
    rw [Nat.pow_succ, Nat.mul_comm (256 ^ n) 256, h]
    omega
theorem list_snoc {α : Type} {P : List α → Prop} (h0 : P []) (h1 : ∀ l c, P l → P (l ++ [c])) (l : List α) : P l := by
  rw [← List.reverse_reverse l]
  induction l.reverse with
  | nil => exact h0
  | cons c l ih => rw [List.reverse_cons]; exact h1 _ _ ih
theorem beN_lt : ∀ (bs : List Nat), (∀ y ∈ bs, y < 256) → beN bs < 256 ^ bs.length := by
  refine list_snoc (fun _ => by simp [beN]) (fun l c ih h => ?_)
  · rw [beN_snoc, List.length_append, List.length_singleton, Nat.pow_succ]
    have h1 := ih (fun y hy => h y (by simp [hy]))
    have h2 := h c (by simp)
    have : (beN l + 1) * 256 ≤ 256 ^ l.length * 256 := Nat.mul_le_mul_right _ h1
    omega
theorem beB_beN : ∀ (bs : List Nat), (∀ y ∈ bs, y < 256) → beB bs.length (beN bs) = bs := by
  refine list_snoc (fun _ => rfl) (fun l c ih h => ?_)
  · have h1 := ih (fun y hy => h y (by simp [hy]))
    have h2 := h c (by simp)
    rw [beN_snoc, List.length_append, List.length_singleton]
    unfold beB
    rw [show (beN l * 256 + c) / 256 = beN l by omega, show (beN l * 256 + c) % 256 = c by omega, h1]

/-- A frame. -/
structure FrmS where
  kind : Int
  source : Int
  epoch : Nat
  counter : Nat
  body : List Nat
  tag : List Nat
def byteI (x : Int) : Nat := (x % 256).toNat
theorem byteI_lt (x : Int) : byteI x < 256 := by unfold byteI; omega
def signedB (f : FrmS) : List Nat := [byteI f.kind, byteI f.source] ++ beB 4 f.epoch ++ beB 8 f.counter ++ f.body
def octB (x : Int) : Bool := decide (0 ≤ x ∧ x ≤ 255)
def putE (f : FrmS) : Int := if octB f.kind && octB f.source then (if f.body.length ≤ 48 then 0 else 3) else 2
def lenB (s : List Nat) : List Nat := [s.length % 256] ++ s
def putF (f : FrmS) : List Nat := [165, 90] ++ putB (lenB (signedB f ++ f.tag))
theorem signedB_length (f : FrmS) : (signedB f).length = 14 + f.body.length := by
  unfold signedB; simp only [List.length_append, beB_length, List.length_cons, List.length_nil]
theorem signedB_lt {f : FrmS} (h : ∀ y ∈ f.body, y < 256) : ∀ y ∈ signedB f, y < 256 := by
  intro y hy
  unfold signedB at hy
  simp only [List.mem_append, List.mem_cons, List.not_mem_nil, or_false] at hy
  rcases hy with ((((rfl | rfl) | h1) | h1) | h1)
  · exact byteI_lt _
  · exact byteI_lt _
  · exact beB_lt 4 _ y h1
  · exact beB_lt 8 _ y h1
  · exact h y h1
end Go.Proofs.Ytjkgodhoonkinaa
