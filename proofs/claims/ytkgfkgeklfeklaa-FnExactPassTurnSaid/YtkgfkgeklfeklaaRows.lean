/-
  No cell of these rows narrows 'for every input' (looked for: loops, veiled, ifaces, maps, wideKeys, modest, calm, conditions, laid).
  DERIVED. THE GIVEN ROWS OF THIS SEAT. 8 by the template 'for every input the law returns true; each argument reads behind the call as it read before'; 0 by the template 'total and deterministic' (their statements: YtkgfkgeklfeklaaTotals.lean).
  GIVEN WITH THE SEED: the statements are not yours to turn. If you find one false, say at which input.
  Laid BY PROGRAM, IN A SANDBOX (cutbox-rows.mjs): the forced cells as the released guide's own fill.sh prints them over the translation 3364dd5b4cf8e9d6… (all of the seat's roots in one cut). By AI agents, Wed Nov 11 2026. No macro, syntax, notation, axiom, sorry.
-/
import Derived.Test.YtkgfkgeklfeklaaChecked
import GoSem.Claim
import GoSem.ClaimJoined
import GoSem.ClaimMapViews
import Derived.JoinedTies
import Derived.KernelRfl
namespace Go.Proofs.Ytkgfkgeklfeklaa
/- THE CELL 'sum', in the pinned program and in every row, IS THE sha256 OF THE DUMP (.gsa) THAT YtkgfkgeklfeklaaProg.lean LOADS. Nothing in Lean hashes anything: it is a label: what it is worth is what the hold of that sum in a sandbox is worth. -/
noncomputable def Try.pinned : Pinned := { name := "ytkgfkgeklfeklaa", sum := "3364dd5b4cf8e9d6a8dde157147cec1f0cee7c0f67711d356c629878de5cd187", checked := Try.checked }
namespace Rows
def none {H : Type} : Left H := { results := [], args := [] }

/-- 'laws.FnExactIsSelection': WHATEVER THE INPUT: true; the input reads as it did. -/
def fnExactIsSelectionSpec : ChangeSpec := { name := "fnExactIsSelection", fn := fun _ => fun
  | [d] => { results := [.lit (.bool true)], args := [d] }
  | _ => none }
def fnExactIsSelectionRow : OpenClaim := { program := "ytkgfkgeklfeklaa", sum := "3364dd5b4cf8e9d6a8dde157147cec1f0cee7c0f67711d356c629878de5cd187", func := "loop.example/g01027/laws.FnExactIsSelection", spec := "fnExactIsSelection", apart := false }
def FnExactIsSelectionSaid : Prop := fnExactIsSelectionRow.holds Try.pinned (OpenSpec.ofChange fnExactIsSelectionSpec)

/-- ITS FALSE NEIGHBOUR: 'it returns false'. Refute it at one input. -/
def fnExactIsSelectionWrong : ChangeSpec := { name := "fnExactIsSelection", fn := fun _ => fun
  | [d] => { results := [.lit (.bool false)], args := [d] }
  | _ => none }
def FnExactIsSelectionWrongFalsely : Prop := fnExactIsSelectionRow.holds Try.pinned (OpenSpec.ofChange fnExactIsSelectionWrong)

/-- 'laws.FnExactStrikesLeft': WHATEVER THE INPUT: true; the input reads as it did. -/
def fnExactStrikesLeftSpec : ChangeSpec := { name := "fnExactStrikesLeft", fn := fun _ => fun
  | [d] => { results := [.lit (.bool true)], args := [d] }
  | _ => none }
def fnExactStrikesLeftRow : OpenClaim := { program := "ytkgfkgeklfeklaa", sum := "3364dd5b4cf8e9d6a8dde157147cec1f0cee7c0f67711d356c629878de5cd187", func := "loop.example/g01027/laws.FnExactStrikesLeft", spec := "fnExactStrikesLeft", apart := false }
def FnExactStrikesLeftSaid : Prop := fnExactStrikesLeftRow.holds Try.pinned (OpenSpec.ofChange fnExactStrikesLeftSpec)

/-- ITS FALSE NEIGHBOUR: 'it returns false'. Refute it at one input. -/
def fnExactStrikesLeftWrong : ChangeSpec := { name := "fnExactStrikesLeft", fn := fun _ => fun
  | [d] => { results := [.lit (.bool false)], args := [d] }
  | _ => none }
def FnExactStrikesLeftWrongFalsely : Prop := fnExactStrikesLeftRow.holds Try.pinned (OpenSpec.ofChange fnExactStrikesLeftWrong)

/-- 'laws.FnExactIsOver': WHATEVER THE INPUT: true; the input reads as it did. -/
def fnExactIsOverSpec : ChangeSpec := { name := "fnExactIsOver", fn := fun _ => fun
  | [d] => { results := [.lit (.bool true)], args := [d] }
  | _ => none }
def fnExactIsOverRow : OpenClaim := { program := "ytkgfkgeklfeklaa", sum := "3364dd5b4cf8e9d6a8dde157147cec1f0cee7c0f67711d356c629878de5cd187", func := "loop.example/g01027/laws.FnExactIsOver", spec := "fnExactIsOver", apart := false }
def FnExactIsOverSaid : Prop := fnExactIsOverRow.holds Try.pinned (OpenSpec.ofChange fnExactIsOverSpec)

/-- ITS FALSE NEIGHBOUR: 'it returns false'. Refute it at one input. -/
def fnExactIsOverWrong : ChangeSpec := { name := "fnExactIsOver", fn := fun _ => fun
  | [d] => { results := [.lit (.bool false)], args := [d] }
  | _ => none }
def FnExactIsOverWrongFalsely : Prop := fnExactIsOverRow.holds Try.pinned (OpenSpec.ofChange fnExactIsOverWrong)

/-- 'laws.FnExactMostReached': WHATEVER THE INPUT: true; the input reads as it did. -/
def fnExactMostReachedSpec : ChangeSpec := { name := "fnExactMostReached", fn := fun _ => fun
  | [d] => { results := [.lit (.bool true)], args := [d] }
  | _ => none }
def fnExactMostReachedRow : OpenClaim := { program := "ytkgfkgeklfeklaa", sum := "3364dd5b4cf8e9d6a8dde157147cec1f0cee7c0f67711d356c629878de5cd187", func := "loop.example/g01027/laws.FnExactMostReached", spec := "fnExactMostReached", apart := false }
def FnExactMostReachedSaid : Prop := fnExactMostReachedRow.holds Try.pinned (OpenSpec.ofChange fnExactMostReachedSpec)

/-- ITS FALSE NEIGHBOUR: 'it returns false'. Refute it at one input. -/
def fnExactMostReachedWrong : ChangeSpec := { name := "fnExactMostReached", fn := fun _ => fun
  | [d] => { results := [.lit (.bool false)], args := [d] }
  | _ => none }
def FnExactMostReachedWrongFalsely : Prop := fnExactMostReachedRow.holds Try.pinned (OpenSpec.ofChange fnExactMostReachedWrong)

/-- 'laws.FnExactPassTurn': WHATEVER THE INPUT: true; the input reads as it did. -/
def fnExactPassTurnSpec : ChangeSpec := { name := "fnExactPassTurn", fn := fun _ => fun
  | [d] => { results := [.lit (.bool true)], args := [d] }
  | _ => none }
def fnExactPassTurnRow : OpenClaim := { program := "ytkgfkgeklfeklaa", sum := "3364dd5b4cf8e9d6a8dde157147cec1f0cee7c0f67711d356c629878de5cd187", func := "loop.example/g01027/laws.FnExactPassTurn", spec := "fnExactPassTurn", apart := false }
def FnExactPassTurnSaid : Prop := fnExactPassTurnRow.holds Try.pinned (OpenSpec.ofChange fnExactPassTurnSpec)

/-- ITS FALSE NEIGHBOUR: 'it returns false'. Refute it at one input. -/
def fnExactPassTurnWrong : ChangeSpec := { name := "fnExactPassTurn", fn := fun _ => fun
  | [d] => { results := [.lit (.bool false)], args := [d] }
  | _ => none }
def FnExactPassTurnWrongFalsely : Prop := fnExactPassTurnRow.holds Try.pinned (OpenSpec.ofChange fnExactPassTurnWrong)

/-- 'laws.FnExactStrikeSeat': WHATEVER THE INPUT: true; the input reads as it did. -/
def fnExactStrikeSeatSpec : ChangeSpec := { name := "fnExactStrikeSeat", fn := fun _ => fun
  | [d1, d2] => { results := [.lit (.bool true)], args := [d1, d2] }
  | _ => none }
def fnExactStrikeSeatRow : OpenClaim := { program := "ytkgfkgeklfeklaa", sum := "3364dd5b4cf8e9d6a8dde157147cec1f0cee7c0f67711d356c629878de5cd187", func := "loop.example/g01027/laws.FnExactStrikeSeat", spec := "fnExactStrikeSeat", apart := false }
def FnExactStrikeSeatSaid : Prop := fnExactStrikeSeatRow.holds Try.pinned (OpenSpec.ofChange fnExactStrikeSeatSpec)

/-- ITS FALSE NEIGHBOUR: 'it returns false'. Refute it at one input. -/
def fnExactStrikeSeatWrong : ChangeSpec := { name := "fnExactStrikeSeat", fn := fun _ => fun
  | [d1, d2] => { results := [.lit (.bool false)], args := [d1, d2] }
  | _ => none }
def FnExactStrikeSeatWrongFalsely : Prop := fnExactStrikeSeatRow.holds Try.pinned (OpenSpec.ofChange fnExactStrikeSeatWrong)

/-- 'laws.FnExactPlayMoves': WHATEVER THE INPUT: true; the input reads as it did. -/
def fnExactPlayMovesSpec : ChangeSpec := { name := "fnExactPlayMoves", fn := fun _ => fun
  | [d1, d2] => { results := [.lit (.bool true)], args := [d1, d2] }
  | _ => none }
def fnExactPlayMovesRow : OpenClaim := { program := "ytkgfkgeklfeklaa", sum := "3364dd5b4cf8e9d6a8dde157147cec1f0cee7c0f67711d356c629878de5cd187", func := "loop.example/g01027/laws.FnExactPlayMoves", spec := "fnExactPlayMoves", apart := false }
def FnExactPlayMovesSaid : Prop := fnExactPlayMovesRow.holds Try.pinned (OpenSpec.ofChange fnExactPlayMovesSpec)

/-- ITS FALSE NEIGHBOUR: 'it returns false'. Refute it at one input. -/
def fnExactPlayMovesWrong : ChangeSpec := { name := "fnExactPlayMoves", fn := fun _ => fun
  | [d1, d2] => { results := [.lit (.bool false)], args := [d1, d2] }
  | _ => none }
def FnExactPlayMovesWrongFalsely : Prop := fnExactPlayMovesRow.holds Try.pinned (OpenSpec.ofChange fnExactPlayMovesWrong)

/-- 'laws.FnStrikes': WHATEVER THE INPUT: true; the input reads as it did. -/
def fnStrikesSpec : ChangeSpec := { name := "fnStrikes", fn := fun _ => fun
  | [d] => { results := [.lit (.bool true)], args := [d] }
  | _ => none }
def fnStrikesRow : OpenClaim := { program := "ytkgfkgeklfeklaa", sum := "3364dd5b4cf8e9d6a8dde157147cec1f0cee7c0f67711d356c629878de5cd187", func := "loop.example/g01027/laws.FnStrikes", spec := "fnStrikes", apart := false }
def FnStrikesSaid : Prop := fnStrikesRow.holds Try.pinned (OpenSpec.ofChange fnStrikesSpec)

/-- ITS FALSE NEIGHBOUR: 'it returns false'. Refute it at one input. -/
def fnStrikesWrong : ChangeSpec := { name := "fnStrikes", fn := fun _ => fun
  | [d] => { results := [.lit (.bool false)], args := [d] }
  | _ => none }
def FnStrikesWrongFalsely : Prop := fnStrikesRow.holds Try.pinned (OpenSpec.ofChange fnStrikesWrong)

/- THE SECOND FORM. 'bulk': how many values and letters a reading holds, each counted each time it is reached (what is shared counts as often as it is met; a slice's spare places count too). A statement '..UptoSaid' is the law's where the arguments, and the package variables that the reading takes, are together of bulk at most 1048576: NARROWER than '..Said'. Prove '..Said' where nothing that the law and all that it calls make is longer than what came in: it says more and counts as full. Else prove '..UptoSaid'. A law counts once. -/
mutual
def uptoBulk {H : Type} : DataW H → Nat
  | .lit (.string bytes) => bytes.length + 1
  | .lit _ => 1
  | .nil => 1
  | .ptr d => uptoBulk d + 1
  | .slice elems spare => uptoBulkAll elems + uptoBulkAll spare + 1
  | .agg parts => uptoBulkAll parts + 1
  | .iface _ d => uptoBulk d + 1
  | .map entries => uptoBulkEntries entries + 1
  | .held _ => 1
def uptoBulkAll {H : Type} : List (DataW H) → Nat
  | [] => 0
  | d :: r => uptoBulk d + uptoBulkAll r
def uptoBulkEntries {H : Type} : List (Lit × DataW H) → Nat
  | [] => 0
  | x :: r => uptoBulkEntry x + uptoBulkEntries r
def uptoBulkEntry {H : Type} : Lit × DataW H → Nat
  | (.string bytes, d) => bytes.length + uptoBulk d + 1
  | (_, d) => uptoBulk d + 1
 end
def uptoSmall : (H : Type) → List (DataW H) → Bool := fun _ ds => decide (uptoBulkAll ds ≤ 1048576)
def OpenSpec.upto (s : _root_.Go.ChangeSpec) : _root_.Go.OpenSpec := { _root_.Go.OpenSpec.ofChange s with cond := some uptoSmall }

/-- 'laws.FnExactIsSelection', WHERE WHAT IT READS IS OF BULK AT MOST 1048576: true; the input reads as it did. -/
def fnExactIsSelectionUptoRow : OpenClaim := { program := "ytkgfkgeklfeklaa", sum := "3364dd5b4cf8e9d6a8dde157147cec1f0cee7c0f67711d356c629878de5cd187", func := "loop.example/g01027/laws.FnExactIsSelection", spec := "fnExactIsSelection", apart := false, narrowed := true }
def FnExactIsSelectionUptoSaid : Prop := fnExactIsSelectionUptoRow.holds Try.pinned (OpenSpec.upto fnExactIsSelectionSpec)

/-- 'laws.FnExactStrikesLeft', WHERE WHAT IT READS IS OF BULK AT MOST 1048576: true; the input reads as it did. -/
def fnExactStrikesLeftUptoRow : OpenClaim := { program := "ytkgfkgeklfeklaa", sum := "3364dd5b4cf8e9d6a8dde157147cec1f0cee7c0f67711d356c629878de5cd187", func := "loop.example/g01027/laws.FnExactStrikesLeft", spec := "fnExactStrikesLeft", apart := false, narrowed := true }
def FnExactStrikesLeftUptoSaid : Prop := fnExactStrikesLeftUptoRow.holds Try.pinned (OpenSpec.upto fnExactStrikesLeftSpec)

/-- 'laws.FnExactIsOver', WHERE WHAT IT READS IS OF BULK AT MOST 1048576: true; the input reads as it did. -/
def fnExactIsOverUptoRow : OpenClaim := { program := "ytkgfkgeklfeklaa", sum := "3364dd5b4cf8e9d6a8dde157147cec1f0cee7c0f67711d356c629878de5cd187", func := "loop.example/g01027/laws.FnExactIsOver", spec := "fnExactIsOver", apart := false, narrowed := true }
def FnExactIsOverUptoSaid : Prop := fnExactIsOverUptoRow.holds Try.pinned (OpenSpec.upto fnExactIsOverSpec)

/-- 'laws.FnExactMostReached', WHERE WHAT IT READS IS OF BULK AT MOST 1048576: true; the input reads as it did. -/
def fnExactMostReachedUptoRow : OpenClaim := { program := "ytkgfkgeklfeklaa", sum := "3364dd5b4cf8e9d6a8dde157147cec1f0cee7c0f67711d356c629878de5cd187", func := "loop.example/g01027/laws.FnExactMostReached", spec := "fnExactMostReached", apart := false, narrowed := true }
def FnExactMostReachedUptoSaid : Prop := fnExactMostReachedUptoRow.holds Try.pinned (OpenSpec.upto fnExactMostReachedSpec)

/-- 'laws.FnExactPassTurn', WHERE WHAT IT READS IS OF BULK AT MOST 1048576: true; the input reads as it did. -/
def fnExactPassTurnUptoRow : OpenClaim := { program := "ytkgfkgeklfeklaa", sum := "3364dd5b4cf8e9d6a8dde157147cec1f0cee7c0f67711d356c629878de5cd187", func := "loop.example/g01027/laws.FnExactPassTurn", spec := "fnExactPassTurn", apart := false, narrowed := true }
def FnExactPassTurnUptoSaid : Prop := fnExactPassTurnUptoRow.holds Try.pinned (OpenSpec.upto fnExactPassTurnSpec)

/-- 'laws.FnExactStrikeSeat', WHERE WHAT IT READS IS OF BULK AT MOST 1048576: true; the input reads as it did. -/
def fnExactStrikeSeatUptoRow : OpenClaim := { program := "ytkgfkgeklfeklaa", sum := "3364dd5b4cf8e9d6a8dde157147cec1f0cee7c0f67711d356c629878de5cd187", func := "loop.example/g01027/laws.FnExactStrikeSeat", spec := "fnExactStrikeSeat", apart := false, narrowed := true }
def FnExactStrikeSeatUptoSaid : Prop := fnExactStrikeSeatUptoRow.holds Try.pinned (OpenSpec.upto fnExactStrikeSeatSpec)

/-- 'laws.FnExactPlayMoves', WHERE WHAT IT READS IS OF BULK AT MOST 1048576: true; the input reads as it did. -/
def fnExactPlayMovesUptoRow : OpenClaim := { program := "ytkgfkgeklfeklaa", sum := "3364dd5b4cf8e9d6a8dde157147cec1f0cee7c0f67711d356c629878de5cd187", func := "loop.example/g01027/laws.FnExactPlayMoves", spec := "fnExactPlayMoves", apart := false, narrowed := true }
def FnExactPlayMovesUptoSaid : Prop := fnExactPlayMovesUptoRow.holds Try.pinned (OpenSpec.upto fnExactPlayMovesSpec)

/-- 'laws.FnStrikes', WHERE WHAT IT READS IS OF BULK AT MOST 1048576: true; the input reads as it did. -/
def fnStrikesUptoRow : OpenClaim := { program := "ytkgfkgeklfeklaa", sum := "3364dd5b4cf8e9d6a8dde157147cec1f0cee7c0f67711d356c629878de5cd187", func := "loop.example/g01027/laws.FnStrikes", spec := "fnStrikes", apart := false, narrowed := true }
def FnStrikesUptoSaid : Prop := fnStrikesUptoRow.holds Try.pinned (OpenSpec.upto fnStrikesSpec)

end Rows
end Go.Proofs.Ytkgfkgeklfeklaa
