/-
  No cell of these rows narrows 'for every input' (looked for: loops, veiled, ifaces, maps, wideKeys, modest, calm, conditions, laid).
  DERIVED. THE GIVEN ROWS OF THIS SEAT. 3 by the template 'for every input the law returns true; each argument reads behind the call as it read before'; 0 by the template 'total and deterministic' (their statements: YtbkpcfncdnmknaaTotals.lean).
  GIVEN WITH THE SEED: the statements are not yours to turn. If you find one false, say at which input.
  Laid BY PROGRAM, IN A SANDBOX (cutbox-rows.mjs): the forced cells as the released guide's own fill.sh prints them over the translation 89d7db8ed62e48ec… (all of the seat's roots in one cut). By AI agents, Wed Nov 11 2026. No macro, syntax, notation, axiom, sorry.
-/
import Derived.Test.YtbkpcfncdnmknaaChecked
import GoSem.Claim
import GoSem.ClaimJoined
import GoSem.ClaimMapViews
import Derived.JoinedTies
import Derived.KernelRfl
namespace Go.Proofs.Ytbkpcfncdnmknaa
/- THE CELL 'sum', in the pinned program and in every row, IS THE sha256 OF THE DUMP (.gsa) THAT YtbkpcfncdnmknaaProg.lean LOADS. Nothing in Lean hashes anything: it is a label: what it is worth is what the hold of that sum in a sandbox is worth. -/
noncomputable def Try.pinned : Pinned := { name := "ytbkpcfncdnmknaa", sum := "89d7db8ed62e48ecd2fd6e2670231576ced584daa2558082b5a5d2619b746612", checked := Try.checked }
namespace Rows
def none {H : Type} : Left H := { results := [], args := [] }

/-- 'laws.FnExactPanelOfRecord': WHATEVER THE INPUT: true; the input reads as it did. -/
def fnExactPanelOfRecordSpec : ChangeSpec := { name := "fnExactPanelOfRecord", fn := fun _ => fun
  | [d1, d2, d3] => { results := [.lit (.bool true)], args := [d1, d2, d3] }
  | _ => none }
def fnExactPanelOfRecordRow : OpenClaim := { program := "ytbkpcfncdnmknaa", sum := "89d7db8ed62e48ecd2fd6e2670231576ced584daa2558082b5a5d2619b746612", func := "loop.example/g01027/laws.FnExactPanelOfRecord", spec := "fnExactPanelOfRecord", apart := false }
def FnExactPanelOfRecordSaid : Prop := fnExactPanelOfRecordRow.holds Try.pinned (OpenSpec.ofChange fnExactPanelOfRecordSpec)

/-- ITS FALSE NEIGHBOUR: 'it returns false'. Refute it at one input. -/
def fnExactPanelOfRecordWrong : ChangeSpec := { name := "fnExactPanelOfRecord", fn := fun _ => fun
  | [d1, d2, d3] => { results := [.lit (.bool false)], args := [d1, d2, d3] }
  | _ => none }
def FnExactPanelOfRecordWrongFalsely : Prop := fnExactPanelOfRecordRow.holds Try.pinned (OpenSpec.ofChange fnExactPanelOfRecordWrong)

/-- 'laws.FnExactFirstBadMove': WHATEVER THE INPUT: true; the input reads as it did. -/
def fnExactFirstBadMoveSpec : ChangeSpec := { name := "fnExactFirstBadMove", fn := fun _ => fun
  | [d1, d2, d3] => { results := [.lit (.bool true)], args := [d1, d2, d3] }
  | _ => none }
def fnExactFirstBadMoveRow : OpenClaim := { program := "ytbkpcfncdnmknaa", sum := "89d7db8ed62e48ecd2fd6e2670231576ced584daa2558082b5a5d2619b746612", func := "loop.example/g01027/laws.FnExactFirstBadMove", spec := "fnExactFirstBadMove", apart := false }
def FnExactFirstBadMoveSaid : Prop := fnExactFirstBadMoveRow.holds Try.pinned (OpenSpec.ofChange fnExactFirstBadMoveSpec)

/-- ITS FALSE NEIGHBOUR: 'it returns false'. Refute it at one input. -/
def fnExactFirstBadMoveWrong : ChangeSpec := { name := "fnExactFirstBadMove", fn := fun _ => fun
  | [d1, d2, d3] => { results := [.lit (.bool false)], args := [d1, d2, d3] }
  | _ => none }
def FnExactFirstBadMoveWrongFalsely : Prop := fnExactFirstBadMoveRow.holds Try.pinned (OpenSpec.ofChange fnExactFirstBadMoveWrong)

/-- 'laws.FnExactStruckBy': WHATEVER THE INPUT: true; the input reads as it did. -/
def fnExactStruckBySpec : ChangeSpec := { name := "fnExactStruckBy", fn := fun _ => fun
  | [d1, d2, d3, d4] => { results := [.lit (.bool true)], args := [d1, d2, d3, d4] }
  | _ => none }
def fnExactStruckByRow : OpenClaim := { program := "ytbkpcfncdnmknaa", sum := "89d7db8ed62e48ecd2fd6e2670231576ced584daa2558082b5a5d2619b746612", func := "loop.example/g01027/laws.FnExactStruckBy", spec := "fnExactStruckBy", apart := false }
def FnExactStruckBySaid : Prop := fnExactStruckByRow.holds Try.pinned (OpenSpec.ofChange fnExactStruckBySpec)

/-- ITS FALSE NEIGHBOUR: 'it returns false'. Refute it at one input. -/
def fnExactStruckByWrong : ChangeSpec := { name := "fnExactStruckBy", fn := fun _ => fun
  | [d1, d2, d3, d4] => { results := [.lit (.bool false)], args := [d1, d2, d3, d4] }
  | _ => none }
def FnExactStruckByWrongFalsely : Prop := fnExactStruckByRow.holds Try.pinned (OpenSpec.ofChange fnExactStruckByWrong)

/- THE SECOND FORM. 'bulk': how many values and letters a reading holds, each counted each time it is reached (what is shared counts as often as it is met; a slice's spare places count too). A statement '..UptoSaid' is the law's where the arguments, and the package variables that the reading takes, are together of bulk at most 1048576: NARROWER than '..Said'. Prove '..Said' where nothing that the law and all that it calls make is longer than what came in: it says more and counts as full. Else prove '..UptoSaid'. A law counts once. -/
mutual
def uptoBulk {H : Type} : DataW H → Nat
  | .lit (.string bytes) => bytes.length + 1
  | .lit _ => 1
  | .nil => 1
  | .ptr d => uptoBulk d + 1
  | .slice elems spare => uptoBulkAll elems + uptoBulkAll spare + 1
  | .agg parts => uptoBulkAll parts + 1
  | .iface _ d => uptoBulk d + 1
  | .map entries => uptoBulkEntries entries + 1
  | .held _ => 1
def uptoBulkAll {H : Type} : List (DataW H) → Nat
  | [] => 0
  | d :: r => uptoBulk d + uptoBulkAll r
def uptoBulkEntries {H : Type} : List (Lit × DataW H) → Nat
  | [] => 0
  | x :: r => uptoBulkEntry x + uptoBulkEntries r
def uptoBulkEntry {H : Type} : Lit × DataW H → Nat
  | (.string bytes, d) => bytes.length + uptoBulk d + 1
  | (_, d) => uptoBulk d + 1
 end
def uptoSmall : (H : Type) → List (DataW H) → Bool := fun _ ds => decide (uptoBulkAll ds ≤ 1048576)
def OpenSpec.upto (s : _root_.Go.ChangeSpec) : _root_.Go.OpenSpec := { _root_.Go.OpenSpec.ofChange s with cond := some uptoSmall }

/-- 'laws.FnExactPanelOfRecord', WHERE WHAT IT READS IS OF BULK AT MOST 1048576: true; the input reads as it did. -/
def fnExactPanelOfRecordUptoRow : OpenClaim := { program := "ytbkpcfncdnmknaa", sum := "89d7db8ed62e48ecd2fd6e2670231576ced584daa2558082b5a5d2619b746612", func := "loop.example/g01027/laws.FnExactPanelOfRecord", spec := "fnExactPanelOfRecord", apart := false, narrowed := true }
def FnExactPanelOfRecordUptoSaid : Prop := fnExactPanelOfRecordUptoRow.holds Try.pinned (OpenSpec.upto fnExactPanelOfRecordSpec)

/-- 'laws.FnExactFirstBadMove', WHERE WHAT IT READS IS OF BULK AT MOST 1048576: true; the input reads as it did. -/
def fnExactFirstBadMoveUptoRow : OpenClaim := { program := "ytbkpcfncdnmknaa", sum := "89d7db8ed62e48ecd2fd6e2670231576ced584daa2558082b5a5d2619b746612", func := "loop.example/g01027/laws.FnExactFirstBadMove", spec := "fnExactFirstBadMove", apart := false, narrowed := true }
def FnExactFirstBadMoveUptoSaid : Prop := fnExactFirstBadMoveUptoRow.holds Try.pinned (OpenSpec.upto fnExactFirstBadMoveSpec)

/-- 'laws.FnExactStruckBy', WHERE WHAT IT READS IS OF BULK AT MOST 1048576: true; the input reads as it did. -/
def fnExactStruckByUptoRow : OpenClaim := { program := "ytbkpcfncdnmknaa", sum := "89d7db8ed62e48ecd2fd6e2670231576ced584daa2558082b5a5d2619b746612", func := "loop.example/g01027/laws.FnExactStruckBy", spec := "fnExactStruckBy", apart := false, narrowed := true }
def FnExactStruckByUptoSaid : Prop := fnExactStruckByUptoRow.holds Try.pinned (OpenSpec.upto fnExactStruckBySpec)

end Rows
end Go.Proofs.Ytbkpcfncdnmknaa
