/-
  No cell of these rows narrows 'for every input' (looked for: loops, veiled, ifaces, maps, wideKeys, modest, calm, conditions, laid).
  DERIVED. THE GIVEN ROWS OF THIS SEAT. 10 by the template 'for every input the law returns true; each argument reads behind the call as it read before'; 0 by the template 'total and deterministic' (their statements: YtbfloidogdjccaaTotals.lean).
  GIVEN WITH THE SEED: the statements are not yours to turn. If you find one false, say at which input.
  Laid BY PROGRAM, IN A SANDBOX (cutbox-rows.mjs): the forced cells as the released guide's own fill.sh prints them over the translation edda8e9632835a64… (all of the seat's roots in one cut). By AI agents, Wed Nov 11 2026. No macro, syntax, notation, axiom, sorry.
-/
import Derived.Test.YtbfloidogdjccaaChecked
import GoSem.Claim
import GoSem.ClaimJoined
import GoSem.ClaimMapViews
import Derived.JoinedTies
import Derived.KernelRfl
namespace Go.Proofs.Ytbfloidogdjccaa
/- THE CELL 'sum', in the pinned program and in every row, IS THE sha256 OF THE DUMP (.gsa) THAT YtbfloidogdjccaaProg.lean LOADS. Nothing in Lean hashes anything: it is a label: what it is worth is what the hold of that sum in a sandbox is worth. -/
noncomputable def Try.pinned : Pinned := { name := "ytbfloidogdjccaa", sum := "edda8e9632835a64f1009cf32defb307d41140a29d826eda859f7b23a355a691", checked := Try.checked }
namespace Rows
def none {H : Type} : Left H := { results := [], args := [] }

/-- 'peloruslaw11.CrcBursts': WHATEVER THE INPUT: true; the input reads as it did. -/
def crcBurstsSpec : ChangeSpec := { name := "crcBursts", fn := fun _ => fun
  | [d1, d2, d3] => { results := [.lit (.bool true)], args := [d1, d2, d3] }
  | _ => none }
def crcBurstsRow : OpenClaim := { program := "ytbfloidogdjccaa", sum := "edda8e9632835a64f1009cf32defb307d41140a29d826eda859f7b23a355a691", func := "pelorus/peloruslaw11.CrcBursts", spec := "crcBursts", apart := false }
def CrcBurstsSaid : Prop := crcBurstsRow.holds Try.pinned (OpenSpec.ofChange crcBurstsSpec)

/-- ITS FALSE NEIGHBOUR: 'it returns false'. Refute it at one input. -/
def crcBurstsWrong : ChangeSpec := { name := "crcBursts", fn := fun _ => fun
  | [d1, d2, d3] => { results := [.lit (.bool false)], args := [d1, d2, d3] }
  | _ => none }
def CrcBurstsWrongFalsely : Prop := crcBurstsRow.holds Try.pinned (OpenSpec.ofChange crcBurstsWrong)

/-- 'peloruslaw11.CrcTurns': WHATEVER THE INPUT: true; the input reads as it did. -/
def crcTurnsSpec : ChangeSpec := { name := "crcTurns", fn := fun _ => fun
  | [d1, d2, d3, d4, d5] => { results := [.lit (.bool true)], args := [d1, d2, d3, d4, d5] }
  | _ => none }
def crcTurnsRow : OpenClaim := { program := "ytbfloidogdjccaa", sum := "edda8e9632835a64f1009cf32defb307d41140a29d826eda859f7b23a355a691", func := "pelorus/peloruslaw11.CrcTurns", spec := "crcTurns", apart := false }
def CrcTurnsSaid : Prop := crcTurnsRow.holds Try.pinned (OpenSpec.ofChange crcTurnsSpec)

/-- ITS FALSE NEIGHBOUR: 'it returns false'. Refute it at one input. -/
def crcTurnsWrong : ChangeSpec := { name := "crcTurns", fn := fun _ => fun
  | [d1, d2, d3, d4, d5] => { results := [.lit (.bool false)], args := [d1, d2, d3, d4, d5] }
  | _ => none }
def CrcTurnsWrongFalsely : Prop := crcTurnsRow.holds Try.pinned (OpenSpec.ofChange crcTurnsWrong)

/-- 'peloruslaw15.SlotWithin': WHATEVER THE INPUT: true; the input reads as it did. -/
def slotWithinSpec : ChangeSpec := { name := "slotWithin", fn := fun _ => fun
  | [d1, d2] => { results := [.lit (.bool true)], args := [d1, d2] }
  | _ => none }
def slotWithinRow : OpenClaim := { program := "ytbfloidogdjccaa", sum := "edda8e9632835a64f1009cf32defb307d41140a29d826eda859f7b23a355a691", func := "pelorus/peloruslaw15.SlotWithin", spec := "slotWithin", apart := false }
def SlotWithinSaid : Prop := slotWithinRow.holds Try.pinned (OpenSpec.ofChange slotWithinSpec)

/-- ITS FALSE NEIGHBOUR: 'it returns false'. Refute it at one input. -/
def slotWithinWrong : ChangeSpec := { name := "slotWithin", fn := fun _ => fun
  | [d1, d2] => { results := [.lit (.bool false)], args := [d1, d2] }
  | _ => none }
def SlotWithinWrongFalsely : Prop := slotWithinRow.holds Try.pinned (OpenSpec.ofChange slotWithinWrong)

/-- 'peloruslaw15.SlotTells': WHATEVER THE INPUT: true; the input reads as it did. -/
def slotTellsSpec : ChangeSpec := { name := "slotTells", fn := fun _ => fun
  | [d1, d2, d3] => { results := [.lit (.bool true)], args := [d1, d2, d3] }
  | _ => none }
def slotTellsRow : OpenClaim := { program := "ytbfloidogdjccaa", sum := "edda8e9632835a64f1009cf32defb307d41140a29d826eda859f7b23a355a691", func := "pelorus/peloruslaw15.SlotTells", spec := "slotTells", apart := false }
def SlotTellsSaid : Prop := slotTellsRow.holds Try.pinned (OpenSpec.ofChange slotTellsSpec)

/-- ITS FALSE NEIGHBOUR: 'it returns false'. Refute it at one input. -/
def slotTellsWrong : ChangeSpec := { name := "slotTells", fn := fun _ => fun
  | [d1, d2, d3] => { results := [.lit (.bool false)], args := [d1, d2, d3] }
  | _ => none }
def SlotTellsWrongFalsely : Prop := slotTellsRow.holds Try.pinned (OpenSpec.ofChange slotTellsWrong)

/-- 'peloruslaw15.SlotSafe': WHATEVER THE INPUT: true; the input reads as it did. -/
def slotSafeSpec : ChangeSpec := { name := "slotSafe", fn := fun _ => fun
  | [d1, d2, d3, d4, d5] => { results := [.lit (.bool true)], args := [d1, d2, d3, d4, d5] }
  | _ => none }
def slotSafeRow : OpenClaim := { program := "ytbfloidogdjccaa", sum := "edda8e9632835a64f1009cf32defb307d41140a29d826eda859f7b23a355a691", func := "pelorus/peloruslaw15.SlotSafe", spec := "slotSafe", apart := false }
def SlotSafeSaid : Prop := slotSafeRow.holds Try.pinned (OpenSpec.ofChange slotSafeSpec)

/-- ITS FALSE NEIGHBOUR: 'it returns false'. Refute it at one input. -/
def slotSafeWrong : ChangeSpec := { name := "slotSafe", fn := fun _ => fun
  | [d1, d2, d3, d4, d5] => { results := [.lit (.bool false)], args := [d1, d2, d3, d4, d5] }
  | _ => none }
def SlotSafeWrongFalsely : Prop := slotSafeRow.holds Try.pinned (OpenSpec.ofChange slotSafeWrong)

/-- 'peloruslaw17.ReplayRises': WHATEVER THE INPUT: true; the input reads as it did. -/
def replayRisesSpec : ChangeSpec := { name := "replayRises", fn := fun _ => fun
  | [d1, d2, d3] => { results := [.lit (.bool true)], args := [d1, d2, d3] }
  | _ => none }
def replayRisesRow : OpenClaim := { program := "ytbfloidogdjccaa", sum := "edda8e9632835a64f1009cf32defb307d41140a29d826eda859f7b23a355a691", func := "pelorus/peloruslaw17.ReplayRises", spec := "replayRises", apart := false }
def ReplayRisesSaid : Prop := replayRisesRow.holds Try.pinned (OpenSpec.ofChange replayRisesSpec)

/-- ITS FALSE NEIGHBOUR: 'it returns false'. Refute it at one input. -/
def replayRisesWrong : ChangeSpec := { name := "replayRises", fn := fun _ => fun
  | [d1, d2, d3] => { results := [.lit (.bool false)], args := [d1, d2, d3] }
  | _ => none }
def ReplayRisesWrongFalsely : Prop := replayRisesRow.holds Try.pinned (OpenSpec.ofChange replayRisesWrong)

/-- 'peloruslaw22.GateOpens': WHATEVER THE INPUT: true; the input reads as it did. -/
def gateOpensSpec : ChangeSpec := { name := "gateOpens", fn := fun _ => fun
  | [d1, d2, d3, d4] => { results := [.lit (.bool true)], args := [d1, d2, d3, d4] }
  | _ => none }
def gateOpensRow : OpenClaim := { program := "ytbfloidogdjccaa", sum := "edda8e9632835a64f1009cf32defb307d41140a29d826eda859f7b23a355a691", func := "pelorus/peloruslaw22.GateOpens", spec := "gateOpens", apart := false }
def GateOpensSaid : Prop := gateOpensRow.holds Try.pinned (OpenSpec.ofChange gateOpensSpec)

/-- ITS FALSE NEIGHBOUR: 'it returns false'. Refute it at one input. -/
def gateOpensWrong : ChangeSpec := { name := "gateOpens", fn := fun _ => fun
  | [d1, d2, d3, d4] => { results := [.lit (.bool false)], args := [d1, d2, d3, d4] }
  | _ => none }
def GateOpensWrongFalsely : Prop := gateOpensRow.holds Try.pinned (OpenSpec.ofChange gateOpensWrong)

/-- 'peloruslaw11.CrcAdds': WHATEVER THE INPUT: true; the input reads as it did. -/
def crcAddsSpec : ChangeSpec := { name := "crcAdds", fn := fun _ => fun
  | [d1, d2] => { results := [.lit (.bool true)], args := [d1, d2] }
  | _ => none }
def crcAddsRow : OpenClaim := { program := "ytbfloidogdjccaa", sum := "edda8e9632835a64f1009cf32defb307d41140a29d826eda859f7b23a355a691", func := "pelorus/peloruslaw11.CrcAdds", spec := "crcAdds", apart := false }
def CrcAddsSaid : Prop := crcAddsRow.holds Try.pinned (OpenSpec.ofChange crcAddsSpec)

/-- ITS FALSE NEIGHBOUR: 'it returns false'. Refute it at one input. -/
def crcAddsWrong : ChangeSpec := { name := "crcAdds", fn := fun _ => fun
  | [d1, d2] => { results := [.lit (.bool false)], args := [d1, d2] }
  | _ => none }
def CrcAddsWrongFalsely : Prop := crcAddsRow.holds Try.pinned (OpenSpec.ofChange crcAddsWrong)

/-- 'peloruslaw17.ReplayVoid': WHATEVER THE INPUT: true; the input reads as it did. -/
def replayVoidSpec : ChangeSpec := { name := "replayVoid", fn := fun _ => fun
  | [d1, d2] => { results := [.lit (.bool true)], args := [d1, d2] }
  | _ => none }
def replayVoidRow : OpenClaim := { program := "ytbfloidogdjccaa", sum := "edda8e9632835a64f1009cf32defb307d41140a29d826eda859f7b23a355a691", func := "pelorus/peloruslaw17.ReplayVoid", spec := "replayVoid", apart := false }
def ReplayVoidSaid : Prop := replayVoidRow.holds Try.pinned (OpenSpec.ofChange replayVoidSpec)

/-- ITS FALSE NEIGHBOUR: 'it returns false'. Refute it at one input. -/
def replayVoidWrong : ChangeSpec := { name := "replayVoid", fn := fun _ => fun
  | [d1, d2] => { results := [.lit (.bool false)], args := [d1, d2] }
  | _ => none }
def ReplayVoidWrongFalsely : Prop := replayVoidRow.holds Try.pinned (OpenSpec.ofChange replayVoidWrong)

/-- 'peloruslaw17.ReplayPlays': WHATEVER THE INPUT: true; the input reads as it did. -/
def replayPlaysSpec : ChangeSpec := { name := "replayPlays", fn := fun _ => fun
  | [d1, d2, d3, d4] => { results := [.lit (.bool true)], args := [d1, d2, d3, d4] }
  | _ => none }
def replayPlaysRow : OpenClaim := { program := "ytbfloidogdjccaa", sum := "edda8e9632835a64f1009cf32defb307d41140a29d826eda859f7b23a355a691", func := "pelorus/peloruslaw17.ReplayPlays", spec := "replayPlays", apart := false }
def ReplayPlaysSaid : Prop := replayPlaysRow.holds Try.pinned (OpenSpec.ofChange replayPlaysSpec)

/-- ITS FALSE NEIGHBOUR: 'it returns false'. Refute it at one input. -/
def replayPlaysWrong : ChangeSpec := { name := "replayPlays", fn := fun _ => fun
  | [d1, d2, d3, d4] => { results := [.lit (.bool false)], args := [d1, d2, d3, d4] }
  | _ => none }
def ReplayPlaysWrongFalsely : Prop := replayPlaysRow.holds Try.pinned (OpenSpec.ofChange replayPlaysWrong)

/- THE SECOND FORM. 'bulk': how many values and letters a reading holds, each counted each time it is reached (what is shared counts as often as it is met; a slice's spare places count too). A statement '..UptoSaid' is the law's where the arguments, and the package variables that the reading takes, are together of bulk at most 1048576: NARROWER than '..Said'. Prove '..Said' where nothing that the law and all that it calls make is longer than what came in: it says more and counts as full. Else prove '..UptoSaid'. A law counts once. -/
mutual
def uptoBulk {H : Type} : DataW H → Nat
  | .lit (.string bytes) => bytes.length + 1
  | .lit _ => 1
  | .nil => 1
  | .ptr d => uptoBulk d + 1
  | .slice elems spare => uptoBulkAll elems + uptoBulkAll spare + 1
  | .agg parts => uptoBulkAll parts + 1
  | .iface _ d => uptoBulk d + 1
  | .map entries => uptoBulkEntries entries + 1
  | .held _ => 1
def uptoBulkAll {H : Type} : List (DataW H) → Nat
  | [] => 0
  | d :: r => uptoBulk d + uptoBulkAll r
def uptoBulkEntries {H : Type} : List (Lit × DataW H) → Nat
  | [] => 0
  | x :: r => uptoBulkEntry x + uptoBulkEntries r
def uptoBulkEntry {H : Type} : Lit × DataW H → Nat
  | (.string bytes, d) => bytes.length + uptoBulk d + 1
  | (_, d) => uptoBulk d + 1
 end
def uptoSmall : (H : Type) → List (DataW H) → Bool := fun _ ds => decide (uptoBulkAll ds ≤ 1048576)
def OpenSpec.upto (s : _root_.Go.ChangeSpec) : _root_.Go.OpenSpec := { _root_.Go.OpenSpec.ofChange s with cond := some uptoSmall }

/-- 'peloruslaw11.CrcBursts', WHERE WHAT IT READS IS OF BULK AT MOST 1048576: true; the input reads as it did. -/
def crcBurstsUptoRow : OpenClaim := { program := "ytbfloidogdjccaa", sum := "edda8e9632835a64f1009cf32defb307d41140a29d826eda859f7b23a355a691", func := "pelorus/peloruslaw11.CrcBursts", spec := "crcBursts", apart := false, narrowed := true }
def CrcBurstsUptoSaid : Prop := crcBurstsUptoRow.holds Try.pinned (OpenSpec.upto crcBurstsSpec)

/-- 'peloruslaw11.CrcTurns', WHERE WHAT IT READS IS OF BULK AT MOST 1048576: true; the input reads as it did. -/
def crcTurnsUptoRow : OpenClaim := { program := "ytbfloidogdjccaa", sum := "edda8e9632835a64f1009cf32defb307d41140a29d826eda859f7b23a355a691", func := "pelorus/peloruslaw11.CrcTurns", spec := "crcTurns", apart := false, narrowed := true }
def CrcTurnsUptoSaid : Prop := crcTurnsUptoRow.holds Try.pinned (OpenSpec.upto crcTurnsSpec)

/-- 'peloruslaw15.SlotWithin', WHERE WHAT IT READS IS OF BULK AT MOST 1048576: true; the input reads as it did. -/
def slotWithinUptoRow : OpenClaim := { program := "ytbfloidogdjccaa", sum := "edda8e9632835a64f1009cf32defb307d41140a29d826eda859f7b23a355a691", func := "pelorus/peloruslaw15.SlotWithin", spec := "slotWithin", apart := false, narrowed := true }
def SlotWithinUptoSaid : Prop := slotWithinUptoRow.holds Try.pinned (OpenSpec.upto slotWithinSpec)

/-- 'peloruslaw15.SlotTells', WHERE WHAT IT READS IS OF BULK AT MOST 1048576: true; the input reads as it did. -/
def slotTellsUptoRow : OpenClaim := { program := "ytbfloidogdjccaa", sum := "edda8e9632835a64f1009cf32defb307d41140a29d826eda859f7b23a355a691", func := "pelorus/peloruslaw15.SlotTells", spec := "slotTells", apart := false, narrowed := true }
def SlotTellsUptoSaid : Prop := slotTellsUptoRow.holds Try.pinned (OpenSpec.upto slotTellsSpec)

/-- 'peloruslaw15.SlotSafe', WHERE WHAT IT READS IS OF BULK AT MOST 1048576: true; the input reads as it did. -/
def slotSafeUptoRow : OpenClaim := { program := "ytbfloidogdjccaa", sum := "edda8e9632835a64f1009cf32defb307d41140a29d826eda859f7b23a355a691", func := "pelorus/peloruslaw15.SlotSafe", spec := "slotSafe", apart := false, narrowed := true }
def SlotSafeUptoSaid : Prop := slotSafeUptoRow.holds Try.pinned (OpenSpec.upto slotSafeSpec)

/-- 'peloruslaw17.ReplayRises', WHERE WHAT IT READS IS OF BULK AT MOST 1048576: true; the input reads as it did. -/
def replayRisesUptoRow : OpenClaim := { program := "ytbfloidogdjccaa", sum := "edda8e9632835a64f1009cf32defb307d41140a29d826eda859f7b23a355a691", func := "pelorus/peloruslaw17.ReplayRises", spec := "replayRises", apart := false, narrowed := true }
def ReplayRisesUptoSaid : Prop := replayRisesUptoRow.holds Try.pinned (OpenSpec.upto replayRisesSpec)

/-- 'peloruslaw22.GateOpens', WHERE WHAT IT READS IS OF BULK AT MOST 1048576: true; the input reads as it did. -/
def gateOpensUptoRow : OpenClaim := { program := "ytbfloidogdjccaa", sum := "edda8e9632835a64f1009cf32defb307d41140a29d826eda859f7b23a355a691", func := "pelorus/peloruslaw22.GateOpens", spec := "gateOpens", apart := false, narrowed := true }
def GateOpensUptoSaid : Prop := gateOpensUptoRow.holds Try.pinned (OpenSpec.upto gateOpensSpec)

/-- 'peloruslaw11.CrcAdds', WHERE WHAT IT READS IS OF BULK AT MOST 1048576: true; the input reads as it did. -/
def crcAddsUptoRow : OpenClaim := { program := "ytbfloidogdjccaa", sum := "edda8e9632835a64f1009cf32defb307d41140a29d826eda859f7b23a355a691", func := "pelorus/peloruslaw11.CrcAdds", spec := "crcAdds", apart := false, narrowed := true }
def CrcAddsUptoSaid : Prop := crcAddsUptoRow.holds Try.pinned (OpenSpec.upto crcAddsSpec)

/-- 'peloruslaw17.ReplayVoid', WHERE WHAT IT READS IS OF BULK AT MOST 1048576: true; the input reads as it did. -/
def replayVoidUptoRow : OpenClaim := { program := "ytbfloidogdjccaa", sum := "edda8e9632835a64f1009cf32defb307d41140a29d826eda859f7b23a355a691", func := "pelorus/peloruslaw17.ReplayVoid", spec := "replayVoid", apart := false, narrowed := true }
def ReplayVoidUptoSaid : Prop := replayVoidUptoRow.holds Try.pinned (OpenSpec.upto replayVoidSpec)

/-- 'peloruslaw17.ReplayPlays', WHERE WHAT IT READS IS OF BULK AT MOST 1048576: true; the input reads as it did. -/
def replayPlaysUptoRow : OpenClaim := { program := "ytbfloidogdjccaa", sum := "edda8e9632835a64f1009cf32defb307d41140a29d826eda859f7b23a355a691", func := "pelorus/peloruslaw17.ReplayPlays", spec := "replayPlays", apart := false, narrowed := true }
def ReplayPlaysUptoSaid : Prop := replayPlaysUptoRow.holds Try.pinned (OpenSpec.upto replayPlaysSpec)

end Rows
end Go.Proofs.Ytbfloidogdjccaa
