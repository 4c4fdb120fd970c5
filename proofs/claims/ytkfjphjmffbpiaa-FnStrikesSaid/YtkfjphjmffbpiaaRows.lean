/-
  No cell of these rows narrows 'for every input' (looked for: loops, veiled, ifaces, maps, wideKeys, modest, calm, conditions, laid).
  DERIVED. THE GIVEN ROWS OF THIS SEAT. 4 by the template 'for every input the law returns true; each argument reads behind the call as it read before'; 0 by the template 'total and deterministic' (their statements: YtkfjphjmffbpiaaTotals.lean).
  GIVEN WITH THE SEED: the statements are not yours to turn. If you find one false, say at which input.
  Laid BY PROGRAM, IN A SANDBOX (cutbox-rows.mjs): the forced cells as the released guide's own fill.sh prints them over the translation 068df4114d540313… (all of the seat's roots in one cut). By AI agents, Wed Nov 11 2026. No macro, syntax, notation, axiom, sorry.
-/
import Derived.Test.YtkfjphjmffbpiaaChecked
import GoSem.Claim
import GoSem.ClaimJoined
import GoSem.ClaimMapViews
import Derived.JoinedTies
import Derived.KernelRfl
namespace Go.Proofs.Ytkfjphjmffbpiaa
/- THE CELL 'sum', in the pinned program and in every row, IS THE sha256 OF THE DUMP (.gsa) THAT YtkfjphjmffbpiaaProg.lean LOADS. Nothing in Lean hashes anything: it is a label: what it is worth is what the hold of that sum in a sandbox is worth. -/
noncomputable def Try.pinned : Pinned := { name := "ytkfjphjmffbpiaa", sum := "068df4114d540313f80fa91802fcbc1cbe839da163da0f2a4a4939092a0819af", checked := Try.checked }
namespace Rows
def none {H : Type} : Left H := { results := [], args := [] }

/-- 'laws.FnSeatHistories': WHATEVER THE INPUT: true; the input reads as it did. -/
def fnSeatHistoriesSpec : ChangeSpec := { name := "fnSeatHistories", fn := fun _ => fun
  | [d] => { results := [.lit (.bool true)], args := [d] }
  | _ => none }
def fnSeatHistoriesRow : OpenClaim := { program := "ytkfjphjmffbpiaa", sum := "068df4114d540313f80fa91802fcbc1cbe839da163da0f2a4a4939092a0819af", func := "loop.example/g01027/laws.FnSeatHistories", spec := "fnSeatHistories", unfollowed := true, recurses := true, apart := false }
def FnSeatHistoriesSaid : Prop := fnSeatHistoriesRow.holds Try.pinned (OpenSpec.ofChange fnSeatHistoriesSpec)

/-- ITS FALSE NEIGHBOUR: 'it returns false'. Refute it at one input. -/
def fnSeatHistoriesWrong : ChangeSpec := { name := "fnSeatHistories", fn := fun _ => fun
  | [d] => { results := [.lit (.bool false)], args := [d] }
  | _ => none }
def FnSeatHistoriesWrongFalsely : Prop := fnSeatHistoriesRow.holds Try.pinned (OpenSpec.ofChange fnSeatHistoriesWrong)

/-- 'laws.FnPanels': WHATEVER THE INPUT: true; the input reads as it did. -/
def fnPanelsSpec : ChangeSpec := { name := "fnPanels", fn := fun _ => fun
  | [d] => { results := [.lit (.bool true)], args := [d] }
  | _ => none }
def fnPanelsRow : OpenClaim := { program := "ytkfjphjmffbpiaa", sum := "068df4114d540313f80fa91802fcbc1cbe839da163da0f2a4a4939092a0819af", func := "loop.example/g01027/laws.FnPanels", spec := "fnPanels", unfollowed := true, recurses := true, apart := false }
def FnPanelsSaid : Prop := fnPanelsRow.holds Try.pinned (OpenSpec.ofChange fnPanelsSpec)

/-- ITS FALSE NEIGHBOUR: 'it returns false'. Refute it at one input. -/
def fnPanelsWrong : ChangeSpec := { name := "fnPanels", fn := fun _ => fun
  | [d] => { results := [.lit (.bool false)], args := [d] }
  | _ => none }
def FnPanelsWrongFalsely : Prop := fnPanelsRow.holds Try.pinned (OpenSpec.ofChange fnPanelsWrong)

/-- 'laws.FnStrikes': WHATEVER THE INPUT: true; the input reads as it did. -/
def fnStrikesSpec : ChangeSpec := { name := "fnStrikes", fn := fun _ => fun
  | [d] => { results := [.lit (.bool true)], args := [d] }
  | _ => none }
def fnStrikesRow : OpenClaim := { program := "ytkfjphjmffbpiaa", sum := "068df4114d540313f80fa91802fcbc1cbe839da163da0f2a4a4939092a0819af", func := "loop.example/g01027/laws.FnStrikes", spec := "fnStrikes", apart := false }
def FnStrikesSaid : Prop := fnStrikesRow.holds Try.pinned (OpenSpec.ofChange fnStrikesSpec)

/-- ITS FALSE NEIGHBOUR: 'it returns false'. Refute it at one input. -/
def fnStrikesWrong : ChangeSpec := { name := "fnStrikes", fn := fun _ => fun
  | [d] => { results := [.lit (.bool false)], args := [d] }
  | _ => none }
def FnStrikesWrongFalsely : Prop := fnStrikesRow.holds Try.pinned (OpenSpec.ofChange fnStrikesWrong)

/-- 'laws.FnJuries': WHATEVER THE INPUT: true; the input reads as it did. -/
def fnJuriesSpec : ChangeSpec := { name := "fnJuries", fn := fun _ => fun
  | [d] => { results := [.lit (.bool true)], args := [d] }
  | _ => none }
def fnJuriesRow : OpenClaim := { program := "ytkfjphjmffbpiaa", sum := "068df4114d540313f80fa91802fcbc1cbe839da163da0f2a4a4939092a0819af", func := "loop.example/g01027/laws.FnJuries", spec := "fnJuries", unfollowed := true, recurses := true, apart := false }
def FnJuriesSaid : Prop := fnJuriesRow.holds Try.pinned (OpenSpec.ofChange fnJuriesSpec)

/-- ITS FALSE NEIGHBOUR: 'it returns false'. Refute it at one input. -/
def fnJuriesWrong : ChangeSpec := { name := "fnJuries", fn := fun _ => fun
  | [d] => { results := [.lit (.bool false)], args := [d] }
  | _ => none }
def FnJuriesWrongFalsely : Prop := fnJuriesRow.holds Try.pinned (OpenSpec.ofChange fnJuriesWrong)

/- THE SECOND FORM. 'bulk': how many values and letters a reading holds, each counted each time it is reached (what is shared counts as often as it is met; a slice's spare places count too). A statement '..UptoSaid' is the law's where the arguments, and the package variables that the reading takes, are together of bulk at most 1048576: NARROWER than '..Said'. Prove '..Said' where nothing that the law and all that it calls make is longer than what came in: it says more and counts as full. Else prove '..UptoSaid'. A law counts once. -/
mutual
def uptoBulk {H : Type} : DataW H → Nat
  | .lit (.string bytes) => bytes.length + 1
  | .lit _ => 1
  | .nil => 1
  | .ptr d => uptoBulk d + 1
  | .slice elems spare => uptoBulkAll elems + uptoBulkAll spare + 1
  | .agg parts => uptoBulkAll parts + 1
  | .iface _ d => uptoBulk d + 1
  | .map entries => uptoBulkEntries entries + 1
  | .held _ => 1
def uptoBulkAll {H : Type} : List (DataW H) → Nat
  | [] => 0
  | d :: r => uptoBulk d + uptoBulkAll r
def uptoBulkEntries {H : Type} : List (Lit × DataW H) → Nat
  | [] => 0
  | x :: r => uptoBulkEntry x + uptoBulkEntries r
def uptoBulkEntry {H : Type} : Lit × DataW H → Nat
  | (.string bytes, d) => bytes.length + uptoBulk d + 1
  | (_, d) => uptoBulk d + 1
 end
def uptoSmall : (H : Type) → List (DataW H) → Bool := fun _ ds => decide (uptoBulkAll ds ≤ 1048576)
def OpenSpec.upto (s : _root_.Go.ChangeSpec) : _root_.Go.OpenSpec := { _root_.Go.OpenSpec.ofChange s with cond := some uptoSmall }

/-- 'laws.FnSeatHistories', WHERE WHAT IT READS IS OF BULK AT MOST 1048576: true; the input reads as it did. -/
def fnSeatHistoriesUptoRow : OpenClaim := { program := "ytkfjphjmffbpiaa", sum := "068df4114d540313f80fa91802fcbc1cbe839da163da0f2a4a4939092a0819af", func := "loop.example/g01027/laws.FnSeatHistories", spec := "fnSeatHistories", unfollowed := true, recurses := true, apart := false, narrowed := true }
def FnSeatHistoriesUptoSaid : Prop := fnSeatHistoriesUptoRow.holds Try.pinned (OpenSpec.upto fnSeatHistoriesSpec)

/-- 'laws.FnPanels', WHERE WHAT IT READS IS OF BULK AT MOST 1048576: true; the input reads as it did. -/
def fnPanelsUptoRow : OpenClaim := { program := "ytkfjphjmffbpiaa", sum := "068df4114d540313f80fa91802fcbc1cbe839da163da0f2a4a4939092a0819af", func := "loop.example/g01027/laws.FnPanels", spec := "fnPanels", unfollowed := true, recurses := true, apart := false, narrowed := true }
def FnPanelsUptoSaid : Prop := fnPanelsUptoRow.holds Try.pinned (OpenSpec.upto fnPanelsSpec)

/-- 'laws.FnStrikes', WHERE WHAT IT READS IS OF BULK AT MOST 1048576: true; the input reads as it did. -/
def fnStrikesUptoRow : OpenClaim := { program := "ytkfjphjmffbpiaa", sum := "068df4114d540313f80fa91802fcbc1cbe839da163da0f2a4a4939092a0819af", func := "loop.example/g01027/laws.FnStrikes", spec := "fnStrikes", apart := false, narrowed := true }
def FnStrikesUptoSaid : Prop := fnStrikesUptoRow.holds Try.pinned (OpenSpec.upto fnStrikesSpec)

/-- 'laws.FnJuries', WHERE WHAT IT READS IS OF BULK AT MOST 1048576: true; the input reads as it did. -/
def fnJuriesUptoRow : OpenClaim := { program := "ytkfjphjmffbpiaa", sum := "068df4114d540313f80fa91802fcbc1cbe839da163da0f2a4a4939092a0819af", func := "loop.example/g01027/laws.FnJuries", spec := "fnJuries", unfollowed := true, recurses := true, apart := false, narrowed := true }
def FnJuriesUptoSaid : Prop := fnJuriesUptoRow.holds Try.pinned (OpenSpec.upto fnJuriesSpec)

end Rows
end Go.Proofs.Ytkfjphjmffbpiaa
