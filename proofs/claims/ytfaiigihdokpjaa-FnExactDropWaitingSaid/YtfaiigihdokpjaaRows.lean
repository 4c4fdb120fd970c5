/-
  No cell of these rows narrows 'for every input' (looked for: loops, veiled, ifaces, maps, wideKeys, modest, calm, conditions, laid).
  DERIVED. THE GIVEN ROWS OF THIS SEAT. 5 by the template 'for every input the law returns true; each argument reads behind the call as it read before'; 0 by the template 'total and deterministic' (their statements: YtfaiigihdokpjaaTotals.lean).
  GIVEN WITH THE SEED: the statements are not yours to turn. If you find one false, say at which input.
  Laid BY PROGRAM, IN A SANDBOX (cutbox-rows.mjs): the forced cells as the released guide's own fill.sh prints them over the translation 6c36763cf2b20046… (all of the seat's roots in one cut). By AI agents, Wed Nov 11 2026. No macro, syntax, notation, axiom, sorry.
-/
import Derived.Test.YtfaiigihdokpjaaChecked
import GoSem.Claim
import GoSem.ClaimJoined
import GoSem.ClaimMapViews
import Derived.JoinedTies
import Derived.KernelRfl
namespace Go.Proofs.Ytfaiigihdokpjaa
/- THE CELL 'sum', in the pinned program and in every row, IS THE sha256 OF THE DUMP (.gsa) THAT YtfaiigihdokpjaaProg.lean LOADS. Nothing in Lean hashes anything: it is a label: what it is worth is what the hold of that sum in a sandbox is worth. -/
noncomputable def Try.pinned : Pinned := { name := "ytfaiigihdokpjaa", sum := "6c36763cf2b20046a2318cbb9978475985dc66312d6a01266a01a7afe29f8039", checked := Try.checked }
namespace Rows
def none {H : Type} : Left H := { results := [], args := [] }

/-- 'laws.FnExactMakePanel': WHATEVER THE INPUT: true; the input reads as it did. -/
def fnExactMakePanelSpec : ChangeSpec := { name := "fnExactMakePanel", fn := fun _ => fun
  | [d1, d2] => { results := [.lit (.bool true)], args := [d1, d2] }
  | _ => none }
def fnExactMakePanelRow : OpenClaim := { program := "ytfaiigihdokpjaa", sum := "6c36763cf2b20046a2318cbb9978475985dc66312d6a01266a01a7afe29f8039", func := "loop.example/g01027/laws.FnExactMakePanel", spec := "fnExactMakePanel", apart := false }
def FnExactMakePanelSaid : Prop := fnExactMakePanelRow.holds Try.pinned (OpenSpec.ofChange fnExactMakePanelSpec)

/-- ITS FALSE NEIGHBOUR: 'it returns false'. Refute it at one input. -/
def fnExactMakePanelWrong : ChangeSpec := { name := "fnExactMakePanel", fn := fun _ => fun
  | [d1, d2] => { results := [.lit (.bool false)], args := [d1, d2] }
  | _ => none }
def FnExactMakePanelWrongFalsely : Prop := fnExactMakePanelRow.holds Try.pinned (OpenSpec.ofChange fnExactMakePanelWrong)

/-- 'laws.FnExactEmptySeat': WHATEVER THE INPUT: true; the input reads as it did. -/
def fnExactEmptySeatSpec : ChangeSpec := { name := "fnExactEmptySeat", fn := fun _ => fun
  | [d1, d2] => { results := [.lit (.bool true)], args := [d1, d2] }
  | _ => none }
def fnExactEmptySeatRow : OpenClaim := { program := "ytfaiigihdokpjaa", sum := "6c36763cf2b20046a2318cbb9978475985dc66312d6a01266a01a7afe29f8039", func := "loop.example/g01027/laws.FnExactEmptySeat", spec := "fnExactEmptySeat", apart := false }
def FnExactEmptySeatSaid : Prop := fnExactEmptySeatRow.holds Try.pinned (OpenSpec.ofChange fnExactEmptySeatSpec)

/-- ITS FALSE NEIGHBOUR: 'it returns false'. Refute it at one input. -/
def fnExactEmptySeatWrong : ChangeSpec := { name := "fnExactEmptySeat", fn := fun _ => fun
  | [d1, d2] => { results := [.lit (.bool false)], args := [d1, d2] }
  | _ => none }
def FnExactEmptySeatWrongFalsely : Prop := fnExactEmptySeatRow.holds Try.pinned (OpenSpec.ofChange fnExactEmptySeatWrong)

/-- 'laws.FnExactDropWaiting': WHATEVER THE INPUT: true; the input reads as it did. -/
def fnExactDropWaitingSpec : ChangeSpec := { name := "fnExactDropWaiting", fn := fun _ => fun
  | [d1, d2] => { results := [.lit (.bool true)], args := [d1, d2] }
  | _ => none }
def fnExactDropWaitingRow : OpenClaim := { program := "ytfaiigihdokpjaa", sum := "6c36763cf2b20046a2318cbb9978475985dc66312d6a01266a01a7afe29f8039", func := "loop.example/g01027/laws.FnExactDropWaiting", spec := "fnExactDropWaiting", unfollowed := true, recurses := true, apart := false }
def FnExactDropWaitingSaid : Prop := fnExactDropWaitingRow.holds Try.pinned (OpenSpec.ofChange fnExactDropWaitingSpec)

/-- ITS FALSE NEIGHBOUR: 'it returns false'. Refute it at one input. -/
def fnExactDropWaitingWrong : ChangeSpec := { name := "fnExactDropWaiting", fn := fun _ => fun
  | [d1, d2] => { results := [.lit (.bool false)], args := [d1, d2] }
  | _ => none }
def FnExactDropWaitingWrongFalsely : Prop := fnExactDropWaitingRow.holds Try.pinned (OpenSpec.ofChange fnExactDropWaitingWrong)

/-- 'laws.FnExactStrikeSeat': WHATEVER THE INPUT: true; the input reads as it did. -/
def fnExactStrikeSeatSpec : ChangeSpec := { name := "fnExactStrikeSeat", fn := fun _ => fun
  | [d1, d2] => { results := [.lit (.bool true)], args := [d1, d2] }
  | _ => none }
def fnExactStrikeSeatRow : OpenClaim := { program := "ytfaiigihdokpjaa", sum := "6c36763cf2b20046a2318cbb9978475985dc66312d6a01266a01a7afe29f8039", func := "loop.example/g01027/laws.FnExactStrikeSeat", spec := "fnExactStrikeSeat", apart := false }
def FnExactStrikeSeatSaid : Prop := fnExactStrikeSeatRow.holds Try.pinned (OpenSpec.ofChange fnExactStrikeSeatSpec)

/-- ITS FALSE NEIGHBOUR: 'it returns false'. Refute it at one input. -/
def fnExactStrikeSeatWrong : ChangeSpec := { name := "fnExactStrikeSeat", fn := fun _ => fun
  | [d1, d2] => { results := [.lit (.bool false)], args := [d1, d2] }
  | _ => none }
def FnExactStrikeSeatWrongFalsely : Prop := fnExactStrikeSeatRow.holds Try.pinned (OpenSpec.ofChange fnExactStrikeSeatWrong)

/-- 'laws.FnExactPlayMoves': WHATEVER THE INPUT: true; the input reads as it did. -/
def fnExactPlayMovesSpec : ChangeSpec := { name := "fnExactPlayMoves", fn := fun _ => fun
  | [d1, d2] => { results := [.lit (.bool true)], args := [d1, d2] }
  | _ => none }
def fnExactPlayMovesRow : OpenClaim := { program := "ytfaiigihdokpjaa", sum := "6c36763cf2b20046a2318cbb9978475985dc66312d6a01266a01a7afe29f8039", func := "loop.example/g01027/laws.FnExactPlayMoves", spec := "fnExactPlayMoves", apart := false }
def FnExactPlayMovesSaid : Prop := fnExactPlayMovesRow.holds Try.pinned (OpenSpec.ofChange fnExactPlayMovesSpec)

/-- ITS FALSE NEIGHBOUR: 'it returns false'. Refute it at one input. -/
def fnExactPlayMovesWrong : ChangeSpec := { name := "fnExactPlayMoves", fn := fun _ => fun
  | [d1, d2] => { results := [.lit (.bool false)], args := [d1, d2] }
  | _ => none }
def FnExactPlayMovesWrongFalsely : Prop := fnExactPlayMovesRow.holds Try.pinned (OpenSpec.ofChange fnExactPlayMovesWrong)

/- THE SECOND FORM. 'bulk': how many values and letters a reading holds, each counted each time it is reached (what is shared counts as often as it is met; a slice's spare places count too). A statement '..UptoSaid' is the law's where the arguments, and the package variables that the reading takes, are together of bulk at most 1048576: NARROWER than '..Said'. Prove '..Said' where nothing that the law and all that it calls make is longer than what came in: it says more and counts as full. Else prove '..UptoSaid'. A law counts once. -/
mutual
def uptoBulk {H : Type} : DataW H → Nat
  | .lit (.string bytes) => bytes.length + 1
  | .lit _ => 1
  | .nil => 1
  | .ptr d => uptoBulk d + 1
  | .slice elems spare => uptoBulkAll elems + uptoBulkAll spare + 1
  | .agg parts => uptoBulkAll parts + 1
  | .iface _ d => uptoBulk d + 1
  | .map entries => uptoBulkEntries entries + 1
  | .held _ => 1
def uptoBulkAll {H : Type} : List (DataW H) → Nat
  | [] => 0
  | d :: r => uptoBulk d + uptoBulkAll r
def uptoBulkEntries {H : Type} : List (Lit × DataW H) → Nat
  | [] => 0
  | x :: r => uptoBulkEntry x + uptoBulkEntries r
def uptoBulkEntry {H : Type} : Lit × DataW H → Nat
  | (.string bytes, d) => bytes.length + uptoBulk d + 1
  | (_, d) => uptoBulk d + 1
 end
def uptoSmall : (H : Type) → List (DataW H) → Bool := fun _ ds => decide (uptoBulkAll ds ≤ 1048576)
def OpenSpec.upto (s : _root_.Go.ChangeSpec) : _root_.Go.OpenSpec := { _root_.Go.OpenSpec.ofChange s with cond := some uptoSmall }

/-- 'laws.FnExactMakePanel', WHERE WHAT IT READS IS OF BULK AT MOST 1048576: true; the input reads as it did. -/
def fnExactMakePanelUptoRow : OpenClaim := { program := "ytfaiigihdokpjaa", sum := "6c36763cf2b20046a2318cbb9978475985dc66312d6a01266a01a7afe29f8039", func := "loop.example/g01027/laws.FnExactMakePanel", spec := "fnExactMakePanel", apart := false, narrowed := true }
def FnExactMakePanelUptoSaid : Prop := fnExactMakePanelUptoRow.holds Try.pinned (OpenSpec.upto fnExactMakePanelSpec)

/-- 'laws.FnExactEmptySeat', WHERE WHAT IT READS IS OF BULK AT MOST 1048576: true; the input reads as it did. -/
def fnExactEmptySeatUptoRow : OpenClaim := { program := "ytfaiigihdokpjaa", sum := "6c36763cf2b20046a2318cbb9978475985dc66312d6a01266a01a7afe29f8039", func := "loop.example/g01027/laws.FnExactEmptySeat", spec := "fnExactEmptySeat", apart := false, narrowed := true }
def FnExactEmptySeatUptoSaid : Prop := fnExactEmptySeatUptoRow.holds Try.pinned (OpenSpec.upto fnExactEmptySeatSpec)

/-- 'laws.FnExactDropWaiting', WHERE WHAT IT READS IS OF BULK AT MOST 1048576: true; the input reads as it did. -/
def fnExactDropWaitingUptoRow : OpenClaim := { program := "ytfaiigihdokpjaa", sum := "6c36763cf2b20046a2318cbb9978475985dc66312d6a01266a01a7afe29f8039", func := "loop.example/g01027/laws.FnExactDropWaiting", spec := "fnExactDropWaiting", unfollowed := true, recurses := true, apart := false, narrowed := true }
def FnExactDropWaitingUptoSaid : Prop := fnExactDropWaitingUptoRow.holds Try.pinned (OpenSpec.upto fnExactDropWaitingSpec)

/-- 'laws.FnExactStrikeSeat', WHERE WHAT IT READS IS OF BULK AT MOST 1048576: true; the input reads as it did. -/
def fnExactStrikeSeatUptoRow : OpenClaim := { program := "ytfaiigihdokpjaa", sum := "6c36763cf2b20046a2318cbb9978475985dc66312d6a01266a01a7afe29f8039", func := "loop.example/g01027/laws.FnExactStrikeSeat", spec := "fnExactStrikeSeat", apart := false, narrowed := true }
def FnExactStrikeSeatUptoSaid : Prop := fnExactStrikeSeatUptoRow.holds Try.pinned (OpenSpec.upto fnExactStrikeSeatSpec)

/-- 'laws.FnExactPlayMoves', WHERE WHAT IT READS IS OF BULK AT MOST 1048576: true; the input reads as it did. -/
def fnExactPlayMovesUptoRow : OpenClaim := { program := "ytfaiigihdokpjaa", sum := "6c36763cf2b20046a2318cbb9978475985dc66312d6a01266a01a7afe29f8039", func := "loop.example/g01027/laws.FnExactPlayMoves", spec := "fnExactPlayMoves", apart := false, narrowed := true }
def FnExactPlayMovesUptoSaid : Prop := fnExactPlayMovesUptoRow.holds Try.pinned (OpenSpec.upto fnExactPlayMovesSpec)

end Rows
end Go.Proofs.Ytfaiigihdokpjaa
