/-
  No cell of these rows narrows 'for every input' (looked for: loops, veiled, ifaces, maps, wideKeys, modest, calm, conditions, laid).
  DERIVED. THE GIVEN ROWS OF THIS SEAT. 7 by the template 'for every input the law returns true; each argument reads behind the call as it read before'; 0 by the template 'total and deterministic' (their statements: YtihalkpcddnikaaTotals.lean).
  GIVEN WITH THE SEED: the statements are not yours to turn. If you find one false, say at which input.
  Laid BY PROGRAM, IN A SANDBOX (cutbox-rows.mjs): the forced cells as the released guide's own fill.sh prints them over the translation e3bf602e5b68d121… (all of the seat's roots in one cut). By AI agents, Wed Nov 11 2026. No macro, syntax, notation, axiom, sorry.
-/
import Derived.Test.YtihalkpcddnikaaChecked
import GoSem.Claim
import GoSem.ClaimJoined
import GoSem.ClaimMapViews
import Derived.JoinedTies
import Derived.KernelRfl
namespace Go.Proofs.Ytihalkpcddnikaa
/- THE CELL 'sum', in the pinned program and in every row, IS THE sha256 OF THE DUMP (.gsa) THAT YtihalkpcddnikaaProg.lean LOADS. Nothing in Lean hashes anything: it is a label: what it is worth is what the hold of that sum in a sandbox is worth. -/
noncomputable def Try.pinned : Pinned := { name := "ytihalkpcddnikaa", sum := "e3bf602e5b68d12162f12a8fa062b2896e8a3d957b772175fb71964beb272a1d", checked := Try.checked }
namespace Rows
def none {H : Type} : Left H := { results := [], args := [] }

/-- 'peloruslaw24.StuckMoves': WHATEVER THE INPUT: true; the input reads as it did. -/
def stuckMovesSpec : ChangeSpec := { name := "stuckMoves", fn := fun _ => fun
  | [d1, d2, d3, d4] => { results := [.lit (.bool true)], args := [d1, d2, d3, d4] }
  | _ => none }
def stuckMovesRow : OpenClaim := { program := "ytihalkpcddnikaa", sum := "e3bf602e5b68d12162f12a8fa062b2896e8a3d957b772175fb71964beb272a1d", func := "pelorus/peloruslaw24.StuckMoves", spec := "stuckMoves", plainKeys := false, apart := false }
def StuckMovesSaid : Prop := stuckMovesRow.holds Try.pinned (OpenSpec.ofChange stuckMovesSpec)

/-- ITS FALSE NEIGHBOUR: 'it returns false'. Refute it at one input. -/
def stuckMovesWrong : ChangeSpec := { name := "stuckMoves", fn := fun _ => fun
  | [d1, d2, d3, d4] => { results := [.lit (.bool false)], args := [d1, d2, d3, d4] }
  | _ => none }
def StuckMovesWrongFalsely : Prop := stuckMovesRow.holds Try.pinned (OpenSpec.ofChange stuckMovesWrong)

/-- 'peloruslaw24.StuckPlays': WHATEVER THE INPUT: true; the input reads as it did. -/
def stuckPlaysSpec : ChangeSpec := { name := "stuckPlays", fn := fun _ => fun
  | [d1, d2, d3] => { results := [.lit (.bool true)], args := [d1, d2, d3] }
  | _ => none }
def stuckPlaysRow : OpenClaim := { program := "ytihalkpcddnikaa", sum := "e3bf602e5b68d12162f12a8fa062b2896e8a3d957b772175fb71964beb272a1d", func := "pelorus/peloruslaw24.StuckPlays", spec := "stuckPlays", plainKeys := false, apart := false }
def StuckPlaysSaid : Prop := stuckPlaysRow.holds Try.pinned (OpenSpec.ofChange stuckPlaysSpec)

/-- ITS FALSE NEIGHBOUR: 'it returns false'. Refute it at one input. -/
def stuckPlaysWrong : ChangeSpec := { name := "stuckPlays", fn := fun _ => fun
  | [d1, d2, d3] => { results := [.lit (.bool false)], args := [d1, d2, d3] }
  | _ => none }
def StuckPlaysWrongFalsely : Prop := stuckPlaysRow.holds Try.pinned (OpenSpec.ofChange stuckPlaysWrong)

/-- 'peloruslaw24.StuckVoid': WHATEVER THE INPUT: true; the input reads as it did. -/
def stuckVoidSpec : ChangeSpec := { name := "stuckVoid", fn := fun _ => fun
  | [d1, d2, d3] => { results := [.lit (.bool true)], args := [d1, d2, d3] }
  | _ => none }
def stuckVoidRow : OpenClaim := { program := "ytihalkpcddnikaa", sum := "e3bf602e5b68d12162f12a8fa062b2896e8a3d957b772175fb71964beb272a1d", func := "pelorus/peloruslaw24.StuckVoid", spec := "stuckVoid", plainKeys := false, apart := false }
def StuckVoidSaid : Prop := stuckVoidRow.holds Try.pinned (OpenSpec.ofChange stuckVoidSpec)

/-- ITS FALSE NEIGHBOUR: 'it returns false'. Refute it at one input. -/
def stuckVoidWrong : ChangeSpec := { name := "stuckVoid", fn := fun _ => fun
  | [d1, d2, d3] => { results := [.lit (.bool false)], args := [d1, d2, d3] }
  | _ => none }
def StuckVoidWrongFalsely : Prop := stuckVoidRow.holds Try.pinned (OpenSpec.ofChange stuckVoidWrong)

/-- 'peloruslaw26.WatchSteady': WHATEVER THE INPUT: true; the input reads as it did. -/
def watchSteadySpec : ChangeSpec := { name := "watchSteady", fn := fun _ => fun
  | [d1, d2, d3, d4] => { results := [.lit (.bool true)], args := [d1, d2, d3, d4] }
  | _ => none }
def watchSteadyRow : OpenClaim := { program := "ytihalkpcddnikaa", sum := "e3bf602e5b68d12162f12a8fa062b2896e8a3d957b772175fb71964beb272a1d", func := "pelorus/peloruslaw26.WatchSteady", spec := "watchSteady", plainKeys := false, apart := false }
def WatchSteadySaid : Prop := watchSteadyRow.holds Try.pinned (OpenSpec.ofChange watchSteadySpec)

/-- ITS FALSE NEIGHBOUR: 'it returns false'. Refute it at one input. -/
def watchSteadyWrong : ChangeSpec := { name := "watchSteady", fn := fun _ => fun
  | [d1, d2, d3, d4] => { results := [.lit (.bool false)], args := [d1, d2, d3, d4] }
  | _ => none }
def WatchSteadyWrongFalsely : Prop := watchSteadyRow.holds Try.pinned (OpenSpec.ofChange watchSteadyWrong)

/-- 'peloruslaw26.WatchHolds': WHATEVER THE INPUT: true; the input reads as it did. -/
def watchHoldsSpec : ChangeSpec := { name := "watchHolds", fn := fun _ => fun
  | [d1, d2] => { results := [.lit (.bool true)], args := [d1, d2] }
  | _ => none }
def watchHoldsRow : OpenClaim := { program := "ytihalkpcddnikaa", sum := "e3bf602e5b68d12162f12a8fa062b2896e8a3d957b772175fb71964beb272a1d", func := "pelorus/peloruslaw26.WatchHolds", spec := "watchHolds", plainKeys := false, apart := false }
def WatchHoldsSaid : Prop := watchHoldsRow.holds Try.pinned (OpenSpec.ofChange watchHoldsSpec)

/-- ITS FALSE NEIGHBOUR: 'it returns false'. Refute it at one input. -/
def watchHoldsWrong : ChangeSpec := { name := "watchHolds", fn := fun _ => fun
  | [d1, d2] => { results := [.lit (.bool false)], args := [d1, d2] }
  | _ => none }
def WatchHoldsWrongFalsely : Prop := watchHoldsRow.holds Try.pinned (OpenSpec.ofChange watchHoldsWrong)

/-- 'peloruslaw26.WatchApart': WHATEVER THE INPUT: true; the input reads as it did. -/
def watchApartSpec : ChangeSpec := { name := "watchApart", fn := fun _ => fun
  | [d1, d2] => { results := [.lit (.bool true)], args := [d1, d2] }
  | _ => none }
def watchApartRow : OpenClaim := { program := "ytihalkpcddnikaa", sum := "e3bf602e5b68d12162f12a8fa062b2896e8a3d957b772175fb71964beb272a1d", func := "pelorus/peloruslaw26.WatchApart", spec := "watchApart", plainKeys := false, apart := false }
def WatchApartSaid : Prop := watchApartRow.holds Try.pinned (OpenSpec.ofChange watchApartSpec)

/-- ITS FALSE NEIGHBOUR: 'it returns false'. Refute it at one input. -/
def watchApartWrong : ChangeSpec := { name := "watchApart", fn := fun _ => fun
  | [d1, d2] => { results := [.lit (.bool false)], args := [d1, d2] }
  | _ => none }
def WatchApartWrongFalsely : Prop := watchApartRow.holds Try.pinned (OpenSpec.ofChange watchApartWrong)

/-- 'peloruslaw26.WatchVoid': WHATEVER THE INPUT: true; the input reads as it did. -/
def watchVoidSpec : ChangeSpec := { name := "watchVoid", fn := fun _ => fun
  | [d] => { results := [.lit (.bool true)], args := [d] }
  | _ => none }
def watchVoidRow : OpenClaim := { program := "ytihalkpcddnikaa", sum := "e3bf602e5b68d12162f12a8fa062b2896e8a3d957b772175fb71964beb272a1d", func := "pelorus/peloruslaw26.WatchVoid", spec := "watchVoid", plainKeys := false, apart := false }
def WatchVoidSaid : Prop := watchVoidRow.holds Try.pinned (OpenSpec.ofChange watchVoidSpec)

/-- ITS FALSE NEIGHBOUR: 'it returns false'. Refute it at one input. -/
def watchVoidWrong : ChangeSpec := { name := "watchVoid", fn := fun _ => fun
  | [d] => { results := [.lit (.bool false)], args := [d] }
  | _ => none }
def WatchVoidWrongFalsely : Prop := watchVoidRow.holds Try.pinned (OpenSpec.ofChange watchVoidWrong)

/- THE SECOND FORM. 'bulk': how many values and letters a reading holds, each counted each time it is reached (what is shared counts as often as it is met; a slice's spare places count too). A statement '..UptoSaid' is the law's where the arguments, and the package variables that the reading takes, are together of bulk at most 1048576: NARROWER than '..Said'. Prove '..Said' where nothing that the law and all that it calls make is longer than what came in: it says more and counts as full. Else prove '..UptoSaid'. A law counts once. -/
mutual
def uptoBulk {H : Type} : DataW H → Nat
  | .lit (.string bytes) => bytes.length + 1
  | .lit _ => 1
  | .nil => 1
  | .ptr d => uptoBulk d + 1
  | .slice elems spare => uptoBulkAll elems + uptoBulkAll spare + 1
  | .agg parts => uptoBulkAll parts + 1
  | .iface _ d => uptoBulk d + 1
  | .map entries => uptoBulkEntries entries + 1
  | .held _ => 1
def uptoBulkAll {H : Type} : List (DataW H) → Nat
  | [] => 0
  | d :: r => uptoBulk d + uptoBulkAll r
def uptoBulkEntries {H : Type} : List (Lit × DataW H) → Nat
  | [] => 0
  | x :: r => uptoBulkEntry x + uptoBulkEntries r
def uptoBulkEntry {H : Type} : Lit × DataW H → Nat
  | (.string bytes, d) => bytes.length + uptoBulk d + 1
  | (_, d) => uptoBulk d + 1
 end
def uptoSmall : (H : Type) → List (DataW H) → Bool := fun _ ds => decide (uptoBulkAll ds ≤ 1048576)
def OpenSpec.upto (s : _root_.Go.ChangeSpec) : _root_.Go.OpenSpec := { _root_.Go.OpenSpec.ofChange s with cond := some uptoSmall }

/-- 'peloruslaw24.StuckMoves', WHERE WHAT IT READS IS OF BULK AT MOST 1048576: true; the input reads as it did. -/
def stuckMovesUptoRow : OpenClaim := { program := "ytihalkpcddnikaa", sum := "e3bf602e5b68d12162f12a8fa062b2896e8a3d957b772175fb71964beb272a1d", func := "pelorus/peloruslaw24.StuckMoves", spec := "stuckMoves", plainKeys := false, apart := false, narrowed := true }
def StuckMovesUptoSaid : Prop := stuckMovesUptoRow.holds Try.pinned (OpenSpec.upto stuckMovesSpec)

/-- 'peloruslaw24.StuckPlays', WHERE WHAT IT READS IS OF BULK AT MOST 1048576: true; the input reads as it did. -/
def stuckPlaysUptoRow : OpenClaim := { program := "ytihalkpcddnikaa", sum := "e3bf602e5b68d12162f12a8fa062b2896e8a3d957b772175fb71964beb272a1d", func := "pelorus/peloruslaw24.StuckPlays", spec := "stuckPlays", plainKeys := false, apart := false, narrowed := true }
def StuckPlaysUptoSaid : Prop := stuckPlaysUptoRow.holds Try.pinned (OpenSpec.upto stuckPlaysSpec)

/-- 'peloruslaw24.StuckVoid', WHERE WHAT IT READS IS OF BULK AT MOST 1048576: true; the input reads as it did. -/
def stuckVoidUptoRow : OpenClaim := { program := "ytihalkpcddnikaa", sum := "e3bf602e5b68d12162f12a8fa062b2896e8a3d957b772175fb71964beb272a1d", func := "pelorus/peloruslaw24.StuckVoid", spec := "stuckVoid", plainKeys := false, apart := false, narrowed := true }
def StuckVoidUptoSaid : Prop := stuckVoidUptoRow.holds Try.pinned (OpenSpec.upto stuckVoidSpec)

/-- 'peloruslaw26.WatchSteady', WHERE WHAT IT READS IS OF BULK AT MOST 1048576: true; the input reads as it did. -/
def watchSteadyUptoRow : OpenClaim := { program := "ytihalkpcddnikaa", sum := "e3bf602e5b68d12162f12a8fa062b2896e8a3d957b772175fb71964beb272a1d", func := "pelorus/peloruslaw26.WatchSteady", spec := "watchSteady", plainKeys := false, apart := false, narrowed := true }
def WatchSteadyUptoSaid : Prop := watchSteadyUptoRow.holds Try.pinned (OpenSpec.upto watchSteadySpec)

/-- 'peloruslaw26.WatchHolds', WHERE WHAT IT READS IS OF BULK AT MOST 1048576: true; the input reads as it did. -/
def watchHoldsUptoRow : OpenClaim := { program := "ytihalkpcddnikaa", sum := "e3bf602e5b68d12162f12a8fa062b2896e8a3d957b772175fb71964beb272a1d", func := "pelorus/peloruslaw26.WatchHolds", spec := "watchHolds", plainKeys := false, apart := false, narrowed := true }
def WatchHoldsUptoSaid : Prop := watchHoldsUptoRow.holds Try.pinned (OpenSpec.upto watchHoldsSpec)

/-- 'peloruslaw26.WatchApart', WHERE WHAT IT READS IS OF BULK AT MOST 1048576: true; the input reads as it did. -/
def watchApartUptoRow : OpenClaim := { program := "ytihalkpcddnikaa", sum := "e3bf602e5b68d12162f12a8fa062b2896e8a3d957b772175fb71964beb272a1d", func := "pelorus/peloruslaw26.WatchApart", spec := "watchApart", plainKeys := false, apart := false, narrowed := true }
def WatchApartUptoSaid : Prop := watchApartUptoRow.holds Try.pinned (OpenSpec.upto watchApartSpec)

/-- 'peloruslaw26.WatchVoid', WHERE WHAT IT READS IS OF BULK AT MOST 1048576: true; the input reads as it did. -/
def watchVoidUptoRow : OpenClaim := { program := "ytihalkpcddnikaa", sum := "e3bf602e5b68d12162f12a8fa062b2896e8a3d957b772175fb71964beb272a1d", func := "pelorus/peloruslaw26.WatchVoid", spec := "watchVoid", plainKeys := false, apart := false, narrowed := true }
def WatchVoidUptoSaid : Prop := watchVoidUptoRow.holds Try.pinned (OpenSpec.upto watchVoidSpec)

end Rows
end Go.Proofs.Ytihalkpcddnikaa
