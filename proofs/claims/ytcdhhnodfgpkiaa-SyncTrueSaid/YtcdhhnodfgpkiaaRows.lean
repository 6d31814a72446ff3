/-
  No cell of these rows narrows 'for every input' (looked for: loops, veiled, ifaces, maps, wideKeys, modest, calm, conditions, laid).
  DERIVED. THE GIVEN ROWS OF THIS SEAT. 10 by the template 'for every input the law returns true; each argument reads behind the call as it read before'; 0 by the template 'total and deterministic' (their statements: YtcdhhnodfgpkiaaTotals.lean).
  GIVEN WITH THE SEED: the statements are not yours to turn. If you find one false, say at which input.
  Laid BY PROGRAM, IN A SANDBOX (cutbox-rows.mjs): the forced cells as the released guide's own fill.sh prints them over the translation e9a1127fe8fd83ed… (all of the seat's roots in one cut). By AI agents, Wed Nov 11 2026. No macro, syntax, notation, axiom, sorry.
-/
import Derived.Test.YtcdhhnodfgpkiaaChecked
import GoSem.Claim
import GoSem.ClaimJoined
import GoSem.ClaimMapViews
import Derived.JoinedTies
import Derived.KernelRfl
namespace Go.Proofs.Ytcdhhnodfgpkiaa
/- THE CELL 'sum', in the pinned program and in every row, IS THE sha256 OF THE DUMP (.gsa) THAT YtcdhhnodfgpkiaaProg.lean LOADS. Nothing in Lean hashes anything: it is a label: what it is worth is what the hold of that sum in a sandbox is worth. -/
noncomputable def Try.pinned : Pinned := { name := "ytcdhhnodfgpkiaa", sum := "e9a1127fe8fd83ed7711e04aa1fc61be9ee5661f792d81ee8e9b75926342a3d9", checked := Try.checked }
namespace Rows
def none {H : Type} : Left H := { results := [], args := [] }

/-- 'peloruslaw18.LockPlays': WHATEVER THE INPUT: true; the input reads as it did. -/
def lockPlaysSpec : ChangeSpec := { name := "lockPlays", fn := fun _ => fun
  | [d1, d2, d3] => { results := [.lit (.bool true)], args := [d1, d2, d3] }
  | _ => none }
def lockPlaysRow : OpenClaim := { program := "ytcdhhnodfgpkiaa", sum := "e9a1127fe8fd83ed7711e04aa1fc61be9ee5661f792d81ee8e9b75926342a3d9", func := "pelorus/peloruslaw18.LockPlays", spec := "lockPlays", apart := false }
def LockPlaysSaid : Prop := lockPlaysRow.holds Try.pinned (OpenSpec.ofChange lockPlaysSpec)

/-- ITS FALSE NEIGHBOUR: 'it returns false'. Refute it at one input. -/
def lockPlaysWrong : ChangeSpec := { name := "lockPlays", fn := fun _ => fun
  | [d1, d2, d3] => { results := [.lit (.bool false)], args := [d1, d2, d3] }
  | _ => none }
def LockPlaysWrongFalsely : Prop := lockPlaysRow.holds Try.pinned (OpenSpec.ofChange lockPlaysWrong)

/-- 'peloruslaw18.LockBounded': WHATEVER THE INPUT: true; the input reads as it did. -/
def lockBoundedSpec : ChangeSpec := { name := "lockBounded", fn := fun _ => fun
  | [d1, d2, d3, d4, d5] => { results := [.lit (.bool true)], args := [d1, d2, d3, d4, d5] }
  | _ => none }
def lockBoundedRow : OpenClaim := { program := "ytcdhhnodfgpkiaa", sum := "e9a1127fe8fd83ed7711e04aa1fc61be9ee5661f792d81ee8e9b75926342a3d9", func := "pelorus/peloruslaw18.LockBounded", spec := "lockBounded", apart := false }
def LockBoundedSaid : Prop := lockBoundedRow.holds Try.pinned (OpenSpec.ofChange lockBoundedSpec)

/-- ITS FALSE NEIGHBOUR: 'it returns false'. Refute it at one input. -/
def lockBoundedWrong : ChangeSpec := { name := "lockBounded", fn := fun _ => fun
  | [d1, d2, d3, d4, d5] => { results := [.lit (.bool false)], args := [d1, d2, d3, d4, d5] }
  | _ => none }
def LockBoundedWrongFalsely : Prop := lockBoundedRow.holds Try.pinned (OpenSpec.ofChange lockBoundedWrong)

/-- 'peloruslaw18.LockVoid': WHATEVER THE INPUT: true; the input reads as it did. -/
def lockVoidSpec : ChangeSpec := { name := "lockVoid", fn := fun _ => fun
  | [d1, d2] => { results := [.lit (.bool true)], args := [d1, d2] }
  | _ => none }
def lockVoidRow : OpenClaim := { program := "ytcdhhnodfgpkiaa", sum := "e9a1127fe8fd83ed7711e04aa1fc61be9ee5661f792d81ee8e9b75926342a3d9", func := "pelorus/peloruslaw18.LockVoid", spec := "lockVoid", apart := false }
def LockVoidSaid : Prop := lockVoidRow.holds Try.pinned (OpenSpec.ofChange lockVoidSpec)

/-- ITS FALSE NEIGHBOUR: 'it returns false'. Refute it at one input. -/
def lockVoidWrong : ChangeSpec := { name := "lockVoid", fn := fun _ => fun
  | [d1, d2] => { results := [.lit (.bool false)], args := [d1, d2] }
  | _ => none }
def LockVoidWrongFalsely : Prop := lockVoidRow.holds Try.pinned (OpenSpec.ofChange lockVoidWrong)

/-- 'peloruslaw35.SyncTrue': WHATEVER THE INPUT: true; the input reads as it did. -/
def syncTrueSpec : ChangeSpec := { name := "syncTrue", fn := fun _ => fun
  | [d1, d2, d3, d4] => { results := [.lit (.bool true)], args := [d1, d2, d3, d4] }
  | _ => none }
def syncTrueRow : OpenClaim := { program := "ytcdhhnodfgpkiaa", sum := "e9a1127fe8fd83ed7711e04aa1fc61be9ee5661f792d81ee8e9b75926342a3d9", func := "pelorus/peloruslaw35.SyncTrue", spec := "syncTrue", apart := false }
def SyncTrueSaid : Prop := syncTrueRow.holds Try.pinned (OpenSpec.ofChange syncTrueSpec)

/-- ITS FALSE NEIGHBOUR: 'it returns false'. Refute it at one input. -/
def syncTrueWrong : ChangeSpec := { name := "syncTrue", fn := fun _ => fun
  | [d1, d2, d3, d4] => { results := [.lit (.bool false)], args := [d1, d2, d3, d4] }
  | _ => none }
def SyncTrueWrongFalsely : Prop := syncTrueRow.holds Try.pinned (OpenSpec.ofChange syncTrueWrong)

/-- 'peloruslaw25.QuarHolds': WHATEVER THE INPUT: true; the input reads as it did. -/
def quarHoldsSpec : ChangeSpec := { name := "quarHolds", fn := fun _ => fun
  | [d1, d2, d3, d4] => { results := [.lit (.bool true)], args := [d1, d2, d3, d4] }
  | _ => none }
def quarHoldsRow : OpenClaim := { program := "ytcdhhnodfgpkiaa", sum := "e9a1127fe8fd83ed7711e04aa1fc61be9ee5661f792d81ee8e9b75926342a3d9", func := "pelorus/peloruslaw25.QuarHolds", spec := "quarHolds", apart := false }
def QuarHoldsSaid : Prop := quarHoldsRow.holds Try.pinned (OpenSpec.ofChange quarHoldsSpec)

/-- ITS FALSE NEIGHBOUR: 'it returns false'. Refute it at one input. -/
def quarHoldsWrong : ChangeSpec := { name := "quarHolds", fn := fun _ => fun
  | [d1, d2, d3, d4] => { results := [.lit (.bool false)], args := [d1, d2, d3, d4] }
  | _ => none }
def QuarHoldsWrongFalsely : Prop := quarHoldsRow.holds Try.pinned (OpenSpec.ofChange quarHoldsWrong)

/-- 'peloruslaw35.SyncPlays': WHATEVER THE INPUT: true; the input reads as it did. -/
def syncPlaysSpec : ChangeSpec := { name := "syncPlays", fn := fun _ => fun
  | [d1, d2, d3, d4, d5, d6] => { results := [.lit (.bool true)], args := [d1, d2, d3, d4, d5, d6] }
  | _ => none }
def syncPlaysRow : OpenClaim := { program := "ytcdhhnodfgpkiaa", sum := "e9a1127fe8fd83ed7711e04aa1fc61be9ee5661f792d81ee8e9b75926342a3d9", func := "pelorus/peloruslaw35.SyncPlays", spec := "syncPlays", apart := false }
def SyncPlaysSaid : Prop := syncPlaysRow.holds Try.pinned (OpenSpec.ofChange syncPlaysSpec)

/-- ITS FALSE NEIGHBOUR: 'it returns false'. Refute it at one input. -/
def syncPlaysWrong : ChangeSpec := { name := "syncPlays", fn := fun _ => fun
  | [d1, d2, d3, d4, d5, d6] => { results := [.lit (.bool false)], args := [d1, d2, d3, d4, d5, d6] }
  | _ => none }
def SyncPlaysWrongFalsely : Prop := syncPlaysRow.holds Try.pinned (OpenSpec.ofChange syncPlaysWrong)

/-- 'peloruslaw35.SyncVoid': WHATEVER THE INPUT: true; the input reads as it did. -/
def syncVoidSpec : ChangeSpec := { name := "syncVoid", fn := fun _ => fun
  | [d1, d2] => { results := [.lit (.bool true)], args := [d1, d2] }
  | _ => none }
def syncVoidRow : OpenClaim := { program := "ytcdhhnodfgpkiaa", sum := "e9a1127fe8fd83ed7711e04aa1fc61be9ee5661f792d81ee8e9b75926342a3d9", func := "pelorus/peloruslaw35.SyncVoid", spec := "syncVoid", apart := false }
def SyncVoidSaid : Prop := syncVoidRow.holds Try.pinned (OpenSpec.ofChange syncVoidSpec)

/-- ITS FALSE NEIGHBOUR: 'it returns false'. Refute it at one input. -/
def syncVoidWrong : ChangeSpec := { name := "syncVoid", fn := fun _ => fun
  | [d1, d2] => { results := [.lit (.bool false)], args := [d1, d2] }
  | _ => none }
def SyncVoidWrongFalsely : Prop := syncVoidRow.holds Try.pinned (OpenSpec.ofChange syncVoidWrong)

/-- 'peloruslaw25.QuarFew': WHATEVER THE INPUT: true; the input reads as it did. -/
def quarFewSpec : ChangeSpec := { name := "quarFew", fn := fun _ => fun
  | [d1, d2, d3, d4, d5] => { results := [.lit (.bool true)], args := [d1, d2, d3, d4, d5] }
  | _ => none }
def quarFewRow : OpenClaim := { program := "ytcdhhnodfgpkiaa", sum := "e9a1127fe8fd83ed7711e04aa1fc61be9ee5661f792d81ee8e9b75926342a3d9", func := "pelorus/peloruslaw25.QuarFew", spec := "quarFew", apart := false }
def QuarFewSaid : Prop := quarFewRow.holds Try.pinned (OpenSpec.ofChange quarFewSpec)

/-- ITS FALSE NEIGHBOUR: 'it returns false'. Refute it at one input. -/
def quarFewWrong : ChangeSpec := { name := "quarFew", fn := fun _ => fun
  | [d1, d2, d3, d4, d5] => { results := [.lit (.bool false)], args := [d1, d2, d3, d4, d5] }
  | _ => none }
def QuarFewWrongFalsely : Prop := quarFewRow.holds Try.pinned (OpenSpec.ofChange quarFewWrong)

/-- 'peloruslaw25.QuarPlays': WHATEVER THE INPUT: true; the input reads as it did. -/
def quarPlaysSpec : ChangeSpec := { name := "quarPlays", fn := fun _ => fun
  | [d1, d2, d3, d4] => { results := [.lit (.bool true)], args := [d1, d2, d3, d4] }
  | _ => none }
def quarPlaysRow : OpenClaim := { program := "ytcdhhnodfgpkiaa", sum := "e9a1127fe8fd83ed7711e04aa1fc61be9ee5661f792d81ee8e9b75926342a3d9", func := "pelorus/peloruslaw25.QuarPlays", spec := "quarPlays", apart := false }
def QuarPlaysSaid : Prop := quarPlaysRow.holds Try.pinned (OpenSpec.ofChange quarPlaysSpec)

/-- ITS FALSE NEIGHBOUR: 'it returns false'. Refute it at one input. -/
def quarPlaysWrong : ChangeSpec := { name := "quarPlays", fn := fun _ => fun
  | [d1, d2, d3, d4] => { results := [.lit (.bool false)], args := [d1, d2, d3, d4] }
  | _ => none }
def QuarPlaysWrongFalsely : Prop := quarPlaysRow.holds Try.pinned (OpenSpec.ofChange quarPlaysWrong)

/-- 'peloruslaw25.QuarVoid': WHATEVER THE INPUT: true; the input reads as it did. -/
def quarVoidSpec : ChangeSpec := { name := "quarVoid", fn := fun _ => fun
  | [d] => { results := [.lit (.bool true)], args := [d] }
  | _ => none }
def quarVoidRow : OpenClaim := { program := "ytcdhhnodfgpkiaa", sum := "e9a1127fe8fd83ed7711e04aa1fc61be9ee5661f792d81ee8e9b75926342a3d9", func := "pelorus/peloruslaw25.QuarVoid", spec := "quarVoid", apart := false }
def QuarVoidSaid : Prop := quarVoidRow.holds Try.pinned (OpenSpec.ofChange quarVoidSpec)

/-- ITS FALSE NEIGHBOUR: 'it returns false'. Refute it at one input. -/
def quarVoidWrong : ChangeSpec := { name := "quarVoid", fn := fun _ => fun
  | [d] => { results := [.lit (.bool false)], args := [d] }
  | _ => none }
def QuarVoidWrongFalsely : Prop := quarVoidRow.holds Try.pinned (OpenSpec.ofChange quarVoidWrong)

/- THE SECOND FORM. 'bulk': how many values and letters a reading holds, each counted each time it is reached (what is shared counts as often as it is met; a slice's spare places count too). A statement '..UptoSaid' is the law's where the arguments, and the package variables that the reading takes, are together of bulk at most 1048576: NARROWER than '..Said'. Prove '..Said' where nothing that the law and all that it calls make is longer than what came in: it says more and counts as full. Else prove '..UptoSaid'. A law counts once. -/
mutual
def uptoBulk {H : Type} : DataW H → Nat
  | .lit (.string bytes) => bytes.length + 1
  | .lit _ => 1
  | .nil => 1
  | .ptr d => uptoBulk d + 1
  | .slice elems spare => uptoBulkAll elems + uptoBulkAll spare + 1
  | .agg parts => uptoBulkAll parts + 1
  | .iface _ d => uptoBulk d + 1
  | .map entries => uptoBulkEntries entries + 1
  | .held _ => 1
def uptoBulkAll {H : Type} : List (DataW H) → Nat
  | [] => 0
  | d :: r => uptoBulk d + uptoBulkAll r
def uptoBulkEntries {H : Type} : List (Lit × DataW H) → Nat
  | [] => 0
  | x :: r => uptoBulkEntry x + uptoBulkEntries r
def uptoBulkEntry {H : Type} : Lit × DataW H → Nat
  | (.string bytes, d) => bytes.length + uptoBulk d + 1
  | (_, d) => uptoBulk d + 1
 end
def uptoSmall : (H : Type) → List (DataW H) → Bool := fun _ ds => decide (uptoBulkAll ds ≤ 1048576)
def OpenSpec.upto (s : _root_.Go.ChangeSpec) : _root_.Go.OpenSpec := { _root_.Go.OpenSpec.ofChange s with cond := some uptoSmall }

/-- 'peloruslaw18.LockPlays', WHERE WHAT IT READS IS OF BULK AT MOST 1048576: true; the input reads as it did. -/
def lockPlaysUptoRow : OpenClaim := { program := "ytcdhhnodfgpkiaa", sum := "e9a1127fe8fd83ed7711e04aa1fc61be9ee5661f792d81ee8e9b75926342a3d9", func := "pelorus/peloruslaw18.LockPlays", spec := "lockPlays", apart := false, narrowed := true }
def LockPlaysUptoSaid : Prop := lockPlaysUptoRow.holds Try.pinned (OpenSpec.upto lockPlaysSpec)

/-- 'peloruslaw18.LockBounded', WHERE WHAT IT READS IS OF BULK AT MOST 1048576: true; the input reads as it did. -/
def lockBoundedUptoRow : OpenClaim := { program := "ytcdhhnodfgpkiaa", sum := "e9a1127fe8fd83ed7711e04aa1fc61be9ee5661f792d81ee8e9b75926342a3d9", func := "pelorus/peloruslaw18.LockBounded", spec := "lockBounded", apart := false, narrowed := true }
def LockBoundedUptoSaid : Prop := lockBoundedUptoRow.holds Try.pinned (OpenSpec.upto lockBoundedSpec)

/-- 'peloruslaw18.LockVoid', WHERE WHAT IT READS IS OF BULK AT MOST 1048576: true; the input reads as it did. -/
def lockVoidUptoRow : OpenClaim := { program := "ytcdhhnodfgpkiaa", sum := "e9a1127fe8fd83ed7711e04aa1fc61be9ee5661f792d81ee8e9b75926342a3d9", func := "pelorus/peloruslaw18.LockVoid", spec := "lockVoid", apart := false, narrowed := true }
def LockVoidUptoSaid : Prop := lockVoidUptoRow.holds Try.pinned (OpenSpec.upto lockVoidSpec)

/-- 'peloruslaw35.SyncTrue', WHERE WHAT IT READS IS OF BULK AT MOST 1048576: true; the input reads as it did. -/
def syncTrueUptoRow : OpenClaim := { program := "ytcdhhnodfgpkiaa", sum := "e9a1127fe8fd83ed7711e04aa1fc61be9ee5661f792d81ee8e9b75926342a3d9", func := "pelorus/peloruslaw35.SyncTrue", spec := "syncTrue", apart := false, narrowed := true }
def SyncTrueUptoSaid : Prop := syncTrueUptoRow.holds Try.pinned (OpenSpec.upto syncTrueSpec)

/-- 'peloruslaw25.QuarHolds', WHERE WHAT IT READS IS OF BULK AT MOST 1048576: true; the input reads as it did. -/
def quarHoldsUptoRow : OpenClaim := { program := "ytcdhhnodfgpkiaa", sum := "e9a1127fe8fd83ed7711e04aa1fc61be9ee5661f792d81ee8e9b75926342a3d9", func := "pelorus/peloruslaw25.QuarHolds", spec := "quarHolds", apart := false, narrowed := true }
def QuarHoldsUptoSaid : Prop := quarHoldsUptoRow.holds Try.pinned (OpenSpec.upto quarHoldsSpec)

/-- 'peloruslaw35.SyncPlays', WHERE WHAT IT READS IS OF BULK AT MOST 1048576: true; the input reads as it did. -/
def syncPlaysUptoRow : OpenClaim := { program := "ytcdhhnodfgpkiaa", sum := "e9a1127fe8fd83ed7711e04aa1fc61be9ee5661f792d81ee8e9b75926342a3d9", func := "pelorus/peloruslaw35.SyncPlays", spec := "syncPlays", apart := false, narrowed := true }
def SyncPlaysUptoSaid : Prop := syncPlaysUptoRow.holds Try.pinned (OpenSpec.upto syncPlaysSpec)

/-- 'peloruslaw35.SyncVoid', WHERE WHAT IT READS IS OF BULK AT MOST 1048576: true; the input reads as it did. -/
def syncVoidUptoRow : OpenClaim := { program := "ytcdhhnodfgpkiaa", sum := "e9a1127fe8fd83ed7711e04aa1fc61be9ee5661f792d81ee8e9b75926342a3d9", func := "pelorus/peloruslaw35.SyncVoid", spec := "syncVoid", apart := false, narrowed := true }
def SyncVoidUptoSaid : Prop := syncVoidUptoRow.holds Try.pinned (OpenSpec.upto syncVoidSpec)

/-- 'peloruslaw25.QuarFew', WHERE WHAT IT READS IS OF BULK AT MOST 1048576: true; the input reads as it did. -/
def quarFewUptoRow : OpenClaim := { program := "ytcdhhnodfgpkiaa", sum := "e9a1127fe8fd83ed7711e04aa1fc61be9ee5661f792d81ee8e9b75926342a3d9", func := "pelorus/peloruslaw25.QuarFew", spec := "quarFew", apart := false, narrowed := true }
def QuarFewUptoSaid : Prop := quarFewUptoRow.holds Try.pinned (OpenSpec.upto quarFewSpec)

/-- 'peloruslaw25.QuarPlays', WHERE WHAT IT READS IS OF BULK AT MOST 1048576: true; the input reads as it did. -/
def quarPlaysUptoRow : OpenClaim := { program := "ytcdhhnodfgpkiaa", sum := "e9a1127fe8fd83ed7711e04aa1fc61be9ee5661f792d81ee8e9b75926342a3d9", func := "pelorus/peloruslaw25.QuarPlays", spec := "quarPlays", apart := false, narrowed := true }
def QuarPlaysUptoSaid : Prop := quarPlaysUptoRow.holds Try.pinned (OpenSpec.upto quarPlaysSpec)

/-- 'peloruslaw25.QuarVoid', WHERE WHAT IT READS IS OF BULK AT MOST 1048576: true; the input reads as it did. -/
def quarVoidUptoRow : OpenClaim := { program := "ytcdhhnodfgpkiaa", sum := "e9a1127fe8fd83ed7711e04aa1fc61be9ee5661f792d81ee8e9b75926342a3d9", func := "pelorus/peloruslaw25.QuarVoid", spec := "quarVoid", apart := false, narrowed := true }
def QuarVoidUptoSaid : Prop := quarVoidUptoRow.holds Try.pinned (OpenSpec.upto quarVoidSpec)

end Rows
end Go.Proofs.Ytcdhhnodfgpkiaa
