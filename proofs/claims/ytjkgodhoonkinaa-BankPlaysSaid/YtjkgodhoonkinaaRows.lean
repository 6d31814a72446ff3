/-
  No cell of these rows narrows 'for every input' (looked for: loops, veiled, ifaces, maps, wideKeys, modest, calm, conditions, laid).
  DERIVED. THE GIVEN ROWS OF THIS SEAT. 13 by the template 'for every input the law returns true; each argument reads behind the call as it read before'; 0 by the template 'total and deterministic' (their statements: YtjkgodhoonkinaaTotals.lean).
  GIVEN WITH THE SEED: the statements are not yours to turn. If you find one false, say at which input.
  Laid BY PROGRAM, IN A SANDBOX (cutbox-rows.mjs): the forced cells as the released guide's own fill.sh prints them over the translation 49269da1ea2b7d35… (all of the seat's roots in one cut). By AI agents, Wed Nov 11 2026. No macro, syntax, notation, axiom, sorry.
-/
import Derived.Test.YtjkgodhoonkinaaChecked
import GoSem.Claim
import GoSem.ClaimJoined
import GoSem.ClaimMapViews
import Derived.JoinedTies
import Derived.KernelRfl
namespace Go.Proofs.Ytjkgodhoonkinaa
/- THE CELL 'sum', in the pinned program and in every row, IS THE sha256 OF THE DUMP (.gsa) THAT YtjkgodhoonkinaaProg.lean LOADS. Nothing in Lean hashes anything: it is a label: what it is worth is what the hold of that sum in a sandbox is worth. -/
noncomputable def Try.pinned : Pinned := { name := "ytjkgodhoonkinaa", sum := "49269da1ea2b7d352848cd2e949a3b1a26bf789bc2b74300d132f6c266b503aa", checked := Try.checked }
namespace Rows
def none {H : Type} : Left H := { results := [], args := [] }

/-- 'peloruslaw13.FrameReads': WHATEVER THE INPUT: true; the input reads as it did. -/
def frameReadsSpec : ChangeSpec := { name := "frameReads", fn := fun _ => fun
  | [d] => { results := [.lit (.bool true)], args := [d] }
  | _ => none }
def frameReadsRow : OpenClaim := { program := "ytjkgodhoonkinaa", sum := "49269da1ea2b7d352848cd2e949a3b1a26bf789bc2b74300d132f6c266b503aa", func := "pelorus/peloruslaw13.FrameReads", spec := "frameReads", unfollowed := true, recurses := true, apart := false }
def FrameReadsSaid : Prop := frameReadsRow.holds Try.pinned (OpenSpec.ofChange frameReadsSpec)

/-- ITS FALSE NEIGHBOUR: 'it returns false'. Refute it at one input. -/
def frameReadsWrong : ChangeSpec := { name := "frameReads", fn := fun _ => fun
  | [d] => { results := [.lit (.bool false)], args := [d] }
  | _ => none }
def FrameReadsWrongFalsely : Prop := frameReadsRow.holds Try.pinned (OpenSpec.ofChange frameReadsWrong)

/-- 'peloruslaw13.FrameBack': WHATEVER THE INPUT: true; the input reads as it did. -/
def frameBackSpec : ChangeSpec := { name := "frameBack", fn := fun _ => fun
  | [d1, d2] => { results := [.lit (.bool true)], args := [d1, d2] }
  | _ => none }
def frameBackRow : OpenClaim := { program := "ytjkgodhoonkinaa", sum := "49269da1ea2b7d352848cd2e949a3b1a26bf789bc2b74300d132f6c266b503aa", func := "pelorus/peloruslaw13.FrameBack", spec := "frameBack", unfollowed := true, recurses := true, apart := false }
def FrameBackSaid : Prop := frameBackRow.holds Try.pinned (OpenSpec.ofChange frameBackSpec)

/-- ITS FALSE NEIGHBOUR: 'it returns false'. Refute it at one input. -/
def frameBackWrong : ChangeSpec := { name := "frameBack", fn := fun _ => fun
  | [d1, d2] => { results := [.lit (.bool false)], args := [d1, d2] }
  | _ => none }
def FrameBackWrongFalsely : Prop := frameBackRow.holds Try.pinned (OpenSpec.ofChange frameBackWrong)

/-- 'peloruslaw13.FrameTurned': WHATEVER THE INPUT: true; the input reads as it did. -/
def frameTurnedSpec : ChangeSpec := { name := "frameTurned", fn := fun _ => fun
  | [d1, d2, d3] => { results := [.lit (.bool true)], args := [d1, d2, d3] }
  | _ => none }
def frameTurnedRow : OpenClaim := { program := "ytjkgodhoonkinaa", sum := "49269da1ea2b7d352848cd2e949a3b1a26bf789bc2b74300d132f6c266b503aa", func := "pelorus/peloruslaw13.FrameTurned", spec := "frameTurned", unfollowed := true, recurses := true, apart := false }
def FrameTurnedSaid : Prop := frameTurnedRow.holds Try.pinned (OpenSpec.ofChange frameTurnedSpec)

/-- ITS FALSE NEIGHBOUR: 'it returns false'. Refute it at one input. -/
def frameTurnedWrong : ChangeSpec := { name := "frameTurned", fn := fun _ => fun
  | [d1, d2, d3] => { results := [.lit (.bool false)], args := [d1, d2, d3] }
  | _ => none }
def FrameTurnedWrongFalsely : Prop := frameTurnedRow.holds Try.pinned (OpenSpec.ofChange frameTurnedWrong)

/-- 'peloruslaw13.FramePuts': WHATEVER THE INPUT: true; the input reads as it did. -/
def framePutsSpec : ChangeSpec := { name := "framePuts", fn := fun _ => fun
  | [d1, d2] => { results := [.lit (.bool true)], args := [d1, d2] }
  | _ => none }
def framePutsRow : OpenClaim := { program := "ytjkgodhoonkinaa", sum := "49269da1ea2b7d352848cd2e949a3b1a26bf789bc2b74300d132f6c266b503aa", func := "pelorus/peloruslaw13.FramePuts", spec := "framePuts", unfollowed := true, recurses := true, apart := false }
def FramePutsSaid : Prop := framePutsRow.holds Try.pinned (OpenSpec.ofChange framePutsSpec)

/-- ITS FALSE NEIGHBOUR: 'it returns false'. Refute it at one input. -/
def framePutsWrong : ChangeSpec := { name := "framePuts", fn := fun _ => fun
  | [d1, d2] => { results := [.lit (.bool false)], args := [d1, d2] }
  | _ => none }
def FramePutsWrongFalsely : Prop := framePutsRow.holds Try.pinned (OpenSpec.ofChange framePutsWrong)

/-- 'peloruslaw30.BankBack': WHATEVER THE INPUT: true; the input reads as it did. -/
def bankBackSpec : ChangeSpec := { name := "bankBack", fn := fun _ => fun
  | [d1, d2] => { results := [.lit (.bool true)], args := [d1, d2] }
  | _ => none }
def bankBackRow : OpenClaim := { program := "ytjkgodhoonkinaa", sum := "49269da1ea2b7d352848cd2e949a3b1a26bf789bc2b74300d132f6c266b503aa", func := "pelorus/peloruslaw30.BankBack", spec := "bankBack", apart := false }
def BankBackSaid : Prop := bankBackRow.holds Try.pinned (OpenSpec.ofChange bankBackSpec)

/-- ITS FALSE NEIGHBOUR: 'it returns false'. Refute it at one input. -/
def bankBackWrong : ChangeSpec := { name := "bankBack", fn := fun _ => fun
  | [d1, d2] => { results := [.lit (.bool false)], args := [d1, d2] }
  | _ => none }
def BankBackWrongFalsely : Prop := bankBackRow.holds Try.pinned (OpenSpec.ofChange bankBackWrong)

/-- 'peloruslaw14.HuntPieces': WHATEVER THE INPUT: true; the input reads as it did. -/
def huntPiecesSpec : ChangeSpec := { name := "huntPieces", fn := fun _ => fun
  | [d1, d2] => { results := [.lit (.bool true)], args := [d1, d2] }
  | _ => none }
def huntPiecesRow : OpenClaim := { program := "ytjkgodhoonkinaa", sum := "49269da1ea2b7d352848cd2e949a3b1a26bf789bc2b74300d132f6c266b503aa", func := "pelorus/peloruslaw14.HuntPieces", spec := "huntPieces", apart := false }
def HuntPiecesSaid : Prop := huntPiecesRow.holds Try.pinned (OpenSpec.ofChange huntPiecesSpec)

/-- ITS FALSE NEIGHBOUR: 'it returns false'. Refute it at one input. -/
def huntPiecesWrong : ChangeSpec := { name := "huntPieces", fn := fun _ => fun
  | [d1, d2] => { results := [.lit (.bool false)], args := [d1, d2] }
  | _ => none }
def HuntPiecesWrongFalsely : Prop := huntPiecesRow.holds Try.pinned (OpenSpec.ofChange huntPiecesWrong)

/-- 'peloruslaw14.HuntFinds': WHATEVER THE INPUT: true; the input reads as it did. -/
def huntFindsSpec : ChangeSpec := { name := "huntFinds", fn := fun _ => fun
  | [d1, d2] => { results := [.lit (.bool true)], args := [d1, d2] }
  | _ => none }
def huntFindsRow : OpenClaim := { program := "ytjkgodhoonkinaa", sum := "49269da1ea2b7d352848cd2e949a3b1a26bf789bc2b74300d132f6c266b503aa", func := "pelorus/peloruslaw14.HuntFinds", spec := "huntFinds", apart := false }
def HuntFindsSaid : Prop := huntFindsRow.holds Try.pinned (OpenSpec.ofChange huntFindsSpec)

/-- ITS FALSE NEIGHBOUR: 'it returns false'. Refute it at one input. -/
def huntFindsWrong : ChangeSpec := { name := "huntFinds", fn := fun _ => fun
  | [d1, d2] => { results := [.lit (.bool false)], args := [d1, d2] }
  | _ => none }
def HuntFindsWrongFalsely : Prop := huntFindsRow.holds Try.pinned (OpenSpec.ofChange huntFindsWrong)

/-- 'peloruslaw30.BankBytes': WHATEVER THE INPUT: true; the input reads as it did. -/
def bankBytesSpec : ChangeSpec := { name := "bankBytes", fn := fun _ => fun
  | [d1, d2] => { results := [.lit (.bool true)], args := [d1, d2] }
  | _ => none }
def bankBytesRow : OpenClaim := { program := "ytjkgodhoonkinaa", sum := "49269da1ea2b7d352848cd2e949a3b1a26bf789bc2b74300d132f6c266b503aa", func := "pelorus/peloruslaw30.BankBytes", spec := "bankBytes", apart := false }
def BankBytesSaid : Prop := bankBytesRow.holds Try.pinned (OpenSpec.ofChange bankBytesSpec)

/-- ITS FALSE NEIGHBOUR: 'it returns false'. Refute it at one input. -/
def bankBytesWrong : ChangeSpec := { name := "bankBytes", fn := fun _ => fun
  | [d1, d2] => { results := [.lit (.bool false)], args := [d1, d2] }
  | _ => none }
def BankBytesWrongFalsely : Prop := bankBytesRow.holds Try.pinned (OpenSpec.ofChange bankBytesWrong)

/-- 'peloruslaw14.HuntFeeds': WHATEVER THE INPUT: true; the input reads as it did. -/
def huntFeedsSpec : ChangeSpec := { name := "huntFeeds", fn := fun _ => fun
  | [d1, d2] => { results := [.lit (.bool true)], args := [d1, d2] }
  | _ => none }
def huntFeedsRow : OpenClaim := { program := "ytjkgodhoonkinaa", sum := "49269da1ea2b7d352848cd2e949a3b1a26bf789bc2b74300d132f6c266b503aa", func := "pelorus/peloruslaw14.HuntFeeds", spec := "huntFeeds", apart := false }
def HuntFeedsSaid : Prop := huntFeedsRow.holds Try.pinned (OpenSpec.ofChange huntFeedsSpec)

/-- ITS FALSE NEIGHBOUR: 'it returns false'. Refute it at one input. -/
def huntFeedsWrong : ChangeSpec := { name := "huntFeeds", fn := fun _ => fun
  | [d1, d2] => { results := [.lit (.bool false)], args := [d1, d2] }
  | _ => none }
def HuntFeedsWrongFalsely : Prop := huntFeedsRow.holds Try.pinned (OpenSpec.ofChange huntFeedsWrong)

/-- 'peloruslaw14.HuntVoid': WHATEVER THE INPUT: true; the input reads as it did. -/
def huntVoidSpec : ChangeSpec := { name := "huntVoid", fn := fun _ => fun
  | [d] => { results := [.lit (.bool true)], args := [d] }
  | _ => none }
def huntVoidRow : OpenClaim := { program := "ytjkgodhoonkinaa", sum := "49269da1ea2b7d352848cd2e949a3b1a26bf789bc2b74300d132f6c266b503aa", func := "pelorus/peloruslaw14.HuntVoid", spec := "huntVoid", apart := false }
def HuntVoidSaid : Prop := huntVoidRow.holds Try.pinned (OpenSpec.ofChange huntVoidSpec)

/-- ITS FALSE NEIGHBOUR: 'it returns false'. Refute it at one input. -/
def huntVoidWrong : ChangeSpec := { name := "huntVoid", fn := fun _ => fun
  | [d] => { results := [.lit (.bool false)], args := [d] }
  | _ => none }
def HuntVoidWrongFalsely : Prop := huntVoidRow.holds Try.pinned (OpenSpec.ofChange huntVoidWrong)

/-- 'peloruslaw30.BankKeeps': WHATEVER THE INPUT: true; the input reads as it did. -/
def bankKeepsSpec : ChangeSpec := { name := "bankKeeps", fn := fun _ => fun
  | [d1, d2, d3] => { results := [.lit (.bool true)], args := [d1, d2, d3] }
  | _ => none }
def bankKeepsRow : OpenClaim := { program := "ytjkgodhoonkinaa", sum := "49269da1ea2b7d352848cd2e949a3b1a26bf789bc2b74300d132f6c266b503aa", func := "pelorus/peloruslaw30.BankKeeps", spec := "bankKeeps", apart := false }
def BankKeepsSaid : Prop := bankKeepsRow.holds Try.pinned (OpenSpec.ofChange bankKeepsSpec)

/-- ITS FALSE NEIGHBOUR: 'it returns false'. Refute it at one input. -/
def bankKeepsWrong : ChangeSpec := { name := "bankKeeps", fn := fun _ => fun
  | [d1, d2, d3] => { results := [.lit (.bool false)], args := [d1, d2, d3] }
  | _ => none }
def BankKeepsWrongFalsely : Prop := bankKeepsRow.holds Try.pinned (OpenSpec.ofChange bankKeepsWrong)

/-- 'peloruslaw30.BankPlays': WHATEVER THE INPUT: true; the input reads as it did. -/
def bankPlaysSpec : ChangeSpec := { name := "bankPlays", fn := fun _ => fun
  | [d] => { results := [.lit (.bool true)], args := [d] }
  | _ => none }
def bankPlaysRow : OpenClaim := { program := "ytjkgodhoonkinaa", sum := "49269da1ea2b7d352848cd2e949a3b1a26bf789bc2b74300d132f6c266b503aa", func := "pelorus/peloruslaw30.BankPlays", spec := "bankPlays", apart := false }
def BankPlaysSaid : Prop := bankPlaysRow.holds Try.pinned (OpenSpec.ofChange bankPlaysSpec)

/-- ITS FALSE NEIGHBOUR: 'it returns false'. Refute it at one input. -/
def bankPlaysWrong : ChangeSpec := { name := "bankPlays", fn := fun _ => fun
  | [d] => { results := [.lit (.bool false)], args := [d] }
  | _ => none }
def BankPlaysWrongFalsely : Prop := bankPlaysRow.holds Try.pinned (OpenSpec.ofChange bankPlaysWrong)

/-- 'peloruslaw30.BankVoid': WHATEVER THE INPUT: true; the input reads as it did. -/
def bankVoidSpec : ChangeSpec := { name := "bankVoid", fn := fun _ => fun
  | [d] => { results := [.lit (.bool true)], args := [d] }
  | _ => none }
def bankVoidRow : OpenClaim := { program := "ytjkgodhoonkinaa", sum := "49269da1ea2b7d352848cd2e949a3b1a26bf789bc2b74300d132f6c266b503aa", func := "pelorus/peloruslaw30.BankVoid", spec := "bankVoid", apart := false }
def BankVoidSaid : Prop := bankVoidRow.holds Try.pinned (OpenSpec.ofChange bankVoidSpec)

/-- ITS FALSE NEIGHBOUR: 'it returns false'. Refute it at one input. -/
def bankVoidWrong : ChangeSpec := { name := "bankVoid", fn := fun _ => fun
  | [d] => { results := [.lit (.bool false)], args := [d] }
  | _ => none }
def BankVoidWrongFalsely : Prop := bankVoidRow.holds Try.pinned (OpenSpec.ofChange bankVoidWrong)

/- THE SECOND FORM. 'bulk': how many values and letters a reading holds, each counted each time it is reached (what is shared counts as often as it is met; a slice's spare places count too). A statement '..UptoSaid' is the law's where the arguments, and the package variables that the reading takes, are together of bulk at most 1048576: NARROWER than '..Said'. Prove '..Said' where nothing that the law and all that it calls make is longer than what came in: it says more and counts as full. Else prove '..UptoSaid'. A law counts once. -/
mutual
def uptoBulk {H : Type} : DataW H → Nat
  | .lit (.string bytes) => bytes.length + 1
  | .lit _ => 1
  | .nil => 1
  | .ptr d => uptoBulk d + 1
  | .slice elems spare => uptoBulkAll elems + uptoBulkAll spare + 1
  | .agg parts => uptoBulkAll parts + 1
  | .iface _ d => uptoBulk d + 1
  | .map entries => uptoBulkEntries entries + 1
  | .held _ => 1
def uptoBulkAll {H : Type} : List (DataW H) → Nat
  | [] => 0
  | d :: r => uptoBulk d + uptoBulkAll r
def uptoBulkEntries {H : Type} : List (Lit × DataW H) → Nat
  | [] => 0
  | x :: r => uptoBulkEntry x + uptoBulkEntries r
def uptoBulkEntry {H : Type} : Lit × DataW H → Nat
  | (.string bytes, d) => bytes.length + uptoBulk d + 1
  | (_, d) => uptoBulk d + 1
 end
def uptoSmall : (H : Type) → List (DataW H) → Bool := fun _ ds => decide (uptoBulkAll ds ≤ 1048576)
def OpenSpec.upto (s : _root_.Go.ChangeSpec) : _root_.Go.OpenSpec := { _root_.Go.OpenSpec.ofChange s with cond := some uptoSmall }

/-- 'peloruslaw13.FrameReads', WHERE WHAT IT READS IS OF BULK AT MOST 1048576: true; the input reads as it did. -/
def frameReadsUptoRow : OpenClaim := { program := "ytjkgodhoonkinaa", sum := "49269da1ea2b7d352848cd2e949a3b1a26bf789bc2b74300d132f6c266b503aa", func := "pelorus/peloruslaw13.FrameReads", spec := "frameReads", unfollowed := true, recurses := true, apart := false, narrowed := true }
def FrameReadsUptoSaid : Prop := frameReadsUptoRow.holds Try.pinned (OpenSpec.upto frameReadsSpec)

/-- 'peloruslaw13.FrameBack', WHERE WHAT IT READS IS OF BULK AT MOST 1048576: true; the input reads as it did. -/
def frameBackUptoRow : OpenClaim := { program := "ytjkgodhoonkinaa", sum := "49269da1ea2b7d352848cd2e949a3b1a26bf789bc2b74300d132f6c266b503aa", func := "pelorus/peloruslaw13.FrameBack", spec := "frameBack", unfollowed := true, recurses := true, apart := false, narrowed := true }
def FrameBackUptoSaid : Prop := frameBackUptoRow.holds Try.pinned (OpenSpec.upto frameBackSpec)

/-- 'peloruslaw13.FrameTurned', WHERE WHAT IT READS IS OF BULK AT MOST 1048576: true; the input reads as it did. -/
def frameTurnedUptoRow : OpenClaim := { program := "ytjkgodhoonkinaa", sum := "49269da1ea2b7d352848cd2e949a3b1a26bf789bc2b74300d132f6c266b503aa", func := "pelorus/peloruslaw13.FrameTurned", spec := "frameTurned", unfollowed := true, recurses := true, apart := false, narrowed := true }
def FrameTurnedUptoSaid : Prop := frameTurnedUptoRow.holds Try.pinned (OpenSpec.upto frameTurnedSpec)

/-- 'peloruslaw13.FramePuts', WHERE WHAT IT READS IS OF BULK AT MOST 1048576: true; the input reads as it did. -/
def framePutsUptoRow : OpenClaim := { program := "ytjkgodhoonkinaa", sum := "49269da1ea2b7d352848cd2e949a3b1a26bf789bc2b74300d132f6c266b503aa", func := "pelorus/peloruslaw13.FramePuts", spec := "framePuts", unfollowed := true, recurses := true, apart := false, narrowed := true }
def FramePutsUptoSaid : Prop := framePutsUptoRow.holds Try.pinned (OpenSpec.upto framePutsSpec)

/-- 'peloruslaw30.BankBack', WHERE WHAT IT READS IS OF BULK AT MOST 1048576: true; the input reads as it did. -/
def bankBackUptoRow : OpenClaim := { program := "ytjkgodhoonkinaa", sum := "49269da1ea2b7d352848cd2e949a3b1a26bf789bc2b74300d132f6c266b503aa", func := "pelorus/peloruslaw30.BankBack", spec := "bankBack", apart := false, narrowed := true }
def BankBackUptoSaid : Prop := bankBackUptoRow.holds Try.pinned (OpenSpec.upto bankBackSpec)

/-- 'peloruslaw14.HuntPieces', WHERE WHAT IT READS IS OF BULK AT MOST 1048576: true; the input reads as it did. -/
def huntPiecesUptoRow : OpenClaim := { program := "ytjkgodhoonkinaa", sum := "49269da1ea2b7d352848cd2e949a3b1a26bf789bc2b74300d132f6c266b503aa", func := "pelorus/peloruslaw14.HuntPieces", spec := "huntPieces", apart := false, narrowed := true }
def HuntPiecesUptoSaid : Prop := huntPiecesUptoRow.holds Try.pinned (OpenSpec.upto huntPiecesSpec)

/-- 'peloruslaw14.HuntFinds', WHERE WHAT IT READS IS OF BULK AT MOST 1048576: true; the input reads as it did. -/
def huntFindsUptoRow : OpenClaim := { program := "ytjkgodhoonkinaa", sum := "49269da1ea2b7d352848cd2e949a3b1a26bf789bc2b74300d132f6c266b503aa", func := "pelorus/peloruslaw14.HuntFinds", spec := "huntFinds", apart := false, narrowed := true }
def HuntFindsUptoSaid : Prop := huntFindsUptoRow.holds Try.pinned (OpenSpec.upto huntFindsSpec)

/-- 'peloruslaw30.BankBytes', WHERE WHAT IT READS IS OF BULK AT MOST 1048576: true; the input reads as it did. -/
def bankBytesUptoRow : OpenClaim := { program := "ytjkgodhoonkinaa", sum := "49269da1ea2b7d352848cd2e949a3b1a26bf789bc2b74300d132f6c266b503aa", func := "pelorus/peloruslaw30.BankBytes", spec := "bankBytes", apart := false, narrowed := true }
def BankBytesUptoSaid : Prop := bankBytesUptoRow.holds Try.pinned (OpenSpec.upto bankBytesSpec)

/-- 'peloruslaw14.HuntFeeds', WHERE WHAT IT READS IS OF BULK AT MOST 1048576: true; the input reads as it did. -/
def huntFeedsUptoRow : OpenClaim := { program := "ytjkgodhoonkinaa", sum := "49269da1ea2b7d352848cd2e949a3b1a26bf789bc2b74300d132f6c266b503aa", func := "pelorus/peloruslaw14.HuntFeeds", spec := "huntFeeds", apart := false, narrowed := true }
def HuntFeedsUptoSaid : Prop := huntFeedsUptoRow.holds Try.pinned (OpenSpec.upto huntFeedsSpec)

/-- 'peloruslaw14.HuntVoid', WHERE WHAT IT READS IS OF BULK AT MOST 1048576: true; the input reads as it did. -/
def huntVoidUptoRow : OpenClaim := { program := "ytjkgodhoonkinaa", sum := "49269da1ea2b7d352848cd2e949a3b1a26bf789bc2b74300d132f6c266b503aa", func := "pelorus/peloruslaw14.HuntVoid", spec := "huntVoid", apart := false, narrowed := true }
def HuntVoidUptoSaid : Prop := huntVoidUptoRow.holds Try.pinned (OpenSpec.upto huntVoidSpec)

/-- 'peloruslaw30.BankKeeps', WHERE WHAT IT READS IS OF BULK AT MOST 1048576: true; the input reads as it did. -/
def bankKeepsUptoRow : OpenClaim := { program := "ytjkgodhoonkinaa", sum := "49269da1ea2b7d352848cd2e949a3b1a26bf789bc2b74300d132f6c266b503aa", func := "pelorus/peloruslaw30.BankKeeps", spec := "bankKeeps", apart := false, narrowed := true }
def BankKeepsUptoSaid : Prop := bankKeepsUptoRow.holds Try.pinned (OpenSpec.upto bankKeepsSpec)

/-- 'peloruslaw30.BankPlays', WHERE WHAT IT READS IS OF BULK AT MOST 1048576: true; the input reads as it did. -/
def bankPlaysUptoRow : OpenClaim := { program := "ytjkgodhoonkinaa", sum := "49269da1ea2b7d352848cd2e949a3b1a26bf789bc2b74300d132f6c266b503aa", func := "pelorus/peloruslaw30.BankPlays", spec := "bankPlays", apart := false, narrowed := true }
def BankPlaysUptoSaid : Prop := bankPlaysUptoRow.holds Try.pinned (OpenSpec.upto bankPlaysSpec)

/-- 'peloruslaw30.BankVoid', WHERE WHAT IT READS IS OF BULK AT MOST 1048576: true; the input reads as it did. -/
def bankVoidUptoRow : OpenClaim := { program := "ytjkgodhoonkinaa", sum := "49269da1ea2b7d352848cd2e949a3b1a26bf789bc2b74300d132f6c266b503aa", func := "pelorus/peloruslaw30.BankVoid", spec := "bankVoid", apart := false, narrowed := true }
def BankVoidUptoSaid : Prop := bankVoidUptoRow.holds Try.pinned (OpenSpec.upto bankVoidSpec)

end Rows
end Go.Proofs.Ytjkgodhoonkinaa
