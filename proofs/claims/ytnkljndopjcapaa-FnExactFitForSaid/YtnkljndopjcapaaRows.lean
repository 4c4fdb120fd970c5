/-
  No cell of these rows narrows 'for every input' (looked for: loops, veiled, ifaces, maps, wideKeys, modest, calm, conditions, laid).
  DERIVED. THE GIVEN ROWS OF THIS SEAT. 10 by the template 'for every input the law returns true; each argument reads behind the call as it read before'; 0 by the template 'total and deterministic' (their statements: YtnkljndopjcapaaTotals.lean).
  GIVEN WITH THE SEED: the statements are not yours to turn. If you find one false, say at which input.
  Laid BY PROGRAM, IN A SANDBOX (cutbox-rows.mjs): the forced cells as the released guide's own fill.sh prints them over the translation a2a70aaa0475dafa… (all of the seat's roots in one cut). By AI agents, Wed Nov 11 2026. No macro, syntax, notation, axiom, sorry.
-/
import Derived.Test.YtnkljndopjcapaaChecked
import GoSem.Claim
import GoSem.ClaimJoined
import GoSem.ClaimMapViews
import Derived.JoinedTies
import Derived.KernelRfl
namespace Go.Proofs.Ytnkljndopjcapaa
/- THE CELL 'sum', in the pinned program and in every row, IS THE sha256 OF THE DUMP (.gsa) THAT YtnkljndopjcapaaProg.lean LOADS. Nothing in Lean hashes anything: it is a label: what it is worth is what the hold of that sum in a sandbox is worth. -/
noncomputable def Try.pinned : Pinned := { name := "ytnkljndopjcapaa", sum := "a2a70aaa0475dafa44eb37c5a42a281251fad062206cd43bfd08e0f5dd658aa7", checked := Try.checked }
namespace Rows
def none {H : Type} : Left H := { results := [], args := [] }

/-- 'laws.FnExactAreTies': WHATEVER THE INPUT: true; the input reads as it did. -/
def fnExactAreTiesSpec : ChangeSpec := { name := "fnExactAreTies", fn := fun _ => fun
  | [d] => { results := [.lit (.bool true)], args := [d] }
  | _ => none }
def fnExactAreTiesRow : OpenClaim := { program := "ytnkljndopjcapaa", sum := "a2a70aaa0475dafa44eb37c5a42a281251fad062206cd43bfd08e0f5dd658aa7", func := "loop.example/g01027/laws.FnExactAreTies", spec := "fnExactAreTies", apart := false }
def FnExactAreTiesSaid : Prop := fnExactAreTiesRow.holds Try.pinned (OpenSpec.ofChange fnExactAreTiesSpec)

/-- ITS FALSE NEIGHBOUR: 'it returns false'. Refute it at one input. -/
def fnExactAreTiesWrong : ChangeSpec := { name := "fnExactAreTies", fn := fun _ => fun
  | [d] => { results := [.lit (.bool false)], args := [d] }
  | _ => none }
def FnExactAreTiesWrongFalsely : Prop := fnExactAreTiesRow.holds Try.pinned (OpenSpec.ofChange fnExactAreTiesWrong)

/-- 'laws.FnExactIsBiased': WHATEVER THE INPUT: true; the input reads as it did. -/
def fnExactIsBiasedSpec : ChangeSpec := { name := "fnExactIsBiased", fn := fun _ => fun
  | [d1, d2, d3] => { results := [.lit (.bool true)], args := [d1, d2, d3] }
  | _ => none }
def fnExactIsBiasedRow : OpenClaim := { program := "ytnkljndopjcapaa", sum := "a2a70aaa0475dafa44eb37c5a42a281251fad062206cd43bfd08e0f5dd658aa7", func := "loop.example/g01027/laws.FnExactIsBiased", spec := "fnExactIsBiased", apart := false }
def FnExactIsBiasedSaid : Prop := fnExactIsBiasedRow.holds Try.pinned (OpenSpec.ofChange fnExactIsBiasedSpec)

/-- ITS FALSE NEIGHBOUR: 'it returns false'. Refute it at one input. -/
def fnExactIsBiasedWrong : ChangeSpec := { name := "fnExactIsBiased", fn := fun _ => fun
  | [d1, d2, d3] => { results := [.lit (.bool false)], args := [d1, d2, d3] }
  | _ => none }
def FnExactIsBiasedWrongFalsely : Prop := fnExactIsBiasedRow.holds Try.pinned (OpenSpec.ofChange fnExactIsBiasedWrong)

/-- 'laws.FnExactCountKinds': WHATEVER THE INPUT: true; the input reads as it did. -/
def fnExactCountKindsSpec : ChangeSpec := { name := "fnExactCountKinds", fn := fun _ => fun
  | [d1, d2] => { results := [.lit (.bool true)], args := [d1, d2] }
  | _ => none }
def fnExactCountKindsRow : OpenClaim := { program := "ytnkljndopjcapaa", sum := "a2a70aaa0475dafa44eb37c5a42a281251fad062206cd43bfd08e0f5dd658aa7", func := "loop.example/g01027/laws.FnExactCountKinds", spec := "fnExactCountKinds", apart := false }
def FnExactCountKindsSaid : Prop := fnExactCountKindsRow.holds Try.pinned (OpenSpec.ofChange fnExactCountKindsSpec)

/-- ITS FALSE NEIGHBOUR: 'it returns false'. Refute it at one input. -/
def fnExactCountKindsWrong : ChangeSpec := { name := "fnExactCountKinds", fn := fun _ => fun
  | [d1, d2] => { results := [.lit (.bool false)], args := [d1, d2] }
  | _ => none }
def FnExactCountKindsWrongFalsely : Prop := fnExactCountKindsRow.holds Try.pinned (OpenSpec.ofChange fnExactCountKindsWrong)

/-- 'laws.FnExactCausesOf': WHATEVER THE INPUT: true; the input reads as it did. -/
def fnExactCausesOfSpec : ChangeSpec := { name := "fnExactCausesOf", fn := fun _ => fun
  | [d1, d2, d3] => { results := [.lit (.bool true)], args := [d1, d2, d3] }
  | _ => none }
def fnExactCausesOfRow : OpenClaim := { program := "ytnkljndopjcapaa", sum := "a2a70aaa0475dafa44eb37c5a42a281251fad062206cd43bfd08e0f5dd658aa7", func := "loop.example/g01027/laws.FnExactCausesOf", spec := "fnExactCausesOf", apart := false }
def FnExactCausesOfSaid : Prop := fnExactCausesOfRow.holds Try.pinned (OpenSpec.ofChange fnExactCausesOfSpec)

/-- ITS FALSE NEIGHBOUR: 'it returns false'. Refute it at one input. -/
def fnExactCausesOfWrong : ChangeSpec := { name := "fnExactCausesOf", fn := fun _ => fun
  | [d1, d2, d3] => { results := [.lit (.bool false)], args := [d1, d2, d3] }
  | _ => none }
def FnExactCausesOfWrongFalsely : Prop := fnExactCausesOfRow.holds Try.pinned (OpenSpec.ofChange fnExactCausesOfWrong)

/-- 'laws.FnExactFitFor': WHATEVER THE INPUT: true; the input reads as it did. -/
def fnExactFitForSpec : ChangeSpec := { name := "fnExactFitFor", fn := fun _ => fun
  | [d1, d2, d3] => { results := [.lit (.bool true)], args := [d1, d2, d3] }
  | _ => none }
def fnExactFitForRow : OpenClaim := { program := "ytnkljndopjcapaa", sum := "a2a70aaa0475dafa44eb37c5a42a281251fad062206cd43bfd08e0f5dd658aa7", func := "loop.example/g01027/laws.FnExactFitFor", spec := "fnExactFitFor", apart := false }
def FnExactFitForSaid : Prop := fnExactFitForRow.holds Try.pinned (OpenSpec.ofChange fnExactFitForSpec)

/-- ITS FALSE NEIGHBOUR: 'it returns false'. Refute it at one input. -/
def fnExactFitForWrong : ChangeSpec := { name := "fnExactFitFor", fn := fun _ => fun
  | [d1, d2, d3] => { results := [.lit (.bool false)], args := [d1, d2, d3] }
  | _ => none }
def FnExactFitForWrongFalsely : Prop := fnExactFitForRow.holds Try.pinned (OpenSpec.ofChange fnExactFitForWrong)

/-- 'laws.FnExactClearPanel': WHATEVER THE INPUT: true; the input reads as it did. -/
def fnExactClearPanelSpec : ChangeSpec := { name := "fnExactClearPanel", fn := fun _ => fun
  | [d1, d2, d3] => { results := [.lit (.bool true)], args := [d1, d2, d3] }
  | _ => none }
def fnExactClearPanelRow : OpenClaim := { program := "ytnkljndopjcapaa", sum := "a2a70aaa0475dafa44eb37c5a42a281251fad062206cd43bfd08e0f5dd658aa7", func := "loop.example/g01027/laws.FnExactClearPanel", spec := "fnExactClearPanel", apart := false }
def FnExactClearPanelSaid : Prop := fnExactClearPanelRow.holds Try.pinned (OpenSpec.ofChange fnExactClearPanelSpec)

/-- ITS FALSE NEIGHBOUR: 'it returns false'. Refute it at one input. -/
def fnExactClearPanelWrong : ChangeSpec := { name := "fnExactClearPanel", fn := fun _ => fun
  | [d1, d2, d3] => { results := [.lit (.bool false)], args := [d1, d2, d3] }
  | _ => none }
def FnExactClearPanelWrongFalsely : Prop := fnExactClearPanelRow.holds Try.pinned (OpenSpec.ofChange fnExactClearPanelWrong)

/-- 'laws.FnCauses': WHATEVER THE INPUT: true; the input reads as it did. -/
def fnCausesSpec : ChangeSpec := { name := "fnCauses", fn := fun _ => fun
  | [d] => { results := [.lit (.bool true)], args := [d] }
  | _ => none }
def fnCausesRow : OpenClaim := { program := "ytnkljndopjcapaa", sum := "a2a70aaa0475dafa44eb37c5a42a281251fad062206cd43bfd08e0f5dd658aa7", func := "loop.example/g01027/laws.FnCauses", spec := "fnCauses", recurses := true, apart := false }
def FnCausesSaid : Prop := fnCausesRow.holds Try.pinned (OpenSpec.ofChange fnCausesSpec)

/-- ITS FALSE NEIGHBOUR: 'it returns false'. Refute it at one input. -/
def fnCausesWrong : ChangeSpec := { name := "fnCauses", fn := fun _ => fun
  | [d] => { results := [.lit (.bool false)], args := [d] }
  | _ => none }
def FnCausesWrongFalsely : Prop := fnCausesRow.holds Try.pinned (OpenSpec.ofChange fnCausesWrong)

/-- 'laws.FnExactBiasedOf': WHATEVER THE INPUT: true; the input reads as it did. -/
def fnExactBiasedOfSpec : ChangeSpec := { name := "fnExactBiasedOf", fn := fun _ => fun
  | [d1, d2] => { results := [.lit (.bool true)], args := [d1, d2] }
  | _ => none }
def fnExactBiasedOfRow : OpenClaim := { program := "ytnkljndopjcapaa", sum := "a2a70aaa0475dafa44eb37c5a42a281251fad062206cd43bfd08e0f5dd658aa7", func := "loop.example/g01027/laws.FnExactBiasedOf", spec := "fnExactBiasedOf", recurses := true, apart := false }
def FnExactBiasedOfSaid : Prop := fnExactBiasedOfRow.holds Try.pinned (OpenSpec.ofChange fnExactBiasedOfSpec)

/-- ITS FALSE NEIGHBOUR: 'it returns false'. Refute it at one input. -/
def fnExactBiasedOfWrong : ChangeSpec := { name := "fnExactBiasedOf", fn := fun _ => fun
  | [d1, d2] => { results := [.lit (.bool false)], args := [d1, d2] }
  | _ => none }
def FnExactBiasedOfWrongFalsely : Prop := fnExactBiasedOfRow.holds Try.pinned (OpenSpec.ofChange fnExactBiasedOfWrong)

/-- 'laws.FnExactPartiesAgainst': WHATEVER THE INPUT: true; the input reads as it did. -/
def fnExactPartiesAgainstSpec : ChangeSpec := { name := "fnExactPartiesAgainst", fn := fun _ => fun
  | [d1, d2, d3] => { results := [.lit (.bool true)], args := [d1, d2, d3] }
  | _ => none }
def fnExactPartiesAgainstRow : OpenClaim := { program := "ytnkljndopjcapaa", sum := "a2a70aaa0475dafa44eb37c5a42a281251fad062206cd43bfd08e0f5dd658aa7", func := "loop.example/g01027/laws.FnExactPartiesAgainst", spec := "fnExactPartiesAgainst", recurses := true, apart := false }
def FnExactPartiesAgainstSaid : Prop := fnExactPartiesAgainstRow.holds Try.pinned (OpenSpec.ofChange fnExactPartiesAgainstSpec)

/-- ITS FALSE NEIGHBOUR: 'it returns false'. Refute it at one input. -/
def fnExactPartiesAgainstWrong : ChangeSpec := { name := "fnExactPartiesAgainst", fn := fun _ => fun
  | [d1, d2, d3] => { results := [.lit (.bool false)], args := [d1, d2, d3] }
  | _ => none }
def FnExactPartiesAgainstWrongFalsely : Prop := fnExactPartiesAgainstRow.holds Try.pinned (OpenSpec.ofChange fnExactPartiesAgainstWrong)

/-- 'laws.FnCleared': WHATEVER THE INPUT: true; the input reads as it did. -/
def fnClearedSpec : ChangeSpec := { name := "fnCleared", fn := fun _ => fun
  | [d] => { results := [.lit (.bool true)], args := [d] }
  | _ => none }
def fnClearedRow : OpenClaim := { program := "ytnkljndopjcapaa", sum := "a2a70aaa0475dafa44eb37c5a42a281251fad062206cd43bfd08e0f5dd658aa7", func := "loop.example/g01027/laws.FnCleared", spec := "fnCleared", recurses := true, apart := false }
def FnClearedSaid : Prop := fnClearedRow.holds Try.pinned (OpenSpec.ofChange fnClearedSpec)

/-- ITS FALSE NEIGHBOUR: 'it returns false'. Refute it at one input. -/
def fnClearedWrong : ChangeSpec := { name := "fnCleared", fn := fun _ => fun
  | [d] => { results := [.lit (.bool false)], args := [d] }
  | _ => none }
def FnClearedWrongFalsely : Prop := fnClearedRow.holds Try.pinned (OpenSpec.ofChange fnClearedWrong)

/- THE SECOND FORM. 'bulk': how many values and letters a reading holds, each counted each time it is reached (what is shared counts as often as it is met; a slice's spare places count too). A statement '..UptoSaid' is the law's where the arguments, and the package variables that the reading takes, are together of bulk at most 1048576: NARROWER than '..Said'. Prove '..Said' where nothing that the law and all that it calls make is longer than what came in: it says more and counts as full. Else prove '..UptoSaid'. A law counts once. -/
mutual
def uptoBulk {H : Type} : DataW H → Nat
  | .lit (.string bytes) => bytes.length + 1
  | .lit _ => 1
  | .nil => 1
  | .ptr d => uptoBulk d + 1
  | .slice elems spare => uptoBulkAll elems + uptoBulkAll spare + 1
  | .agg parts => uptoBulkAll parts + 1
  | .iface _ d => uptoBulk d + 1
  | .map entries => uptoBulkEntries entries + 1
  | .held _ => 1
def uptoBulkAll {H : Type} : List (DataW H) → Nat
  | [] => 0
  | d :: r => uptoBulk d + uptoBulkAll r
def uptoBulkEntries {H : Type} : List (Lit × DataW H) → Nat
  | [] => 0
  | x :: r => uptoBulkEntry x + uptoBulkEntries r
def uptoBulkEntry {H : Type} : Lit × DataW H → Nat
  | (.string bytes, d) => bytes.length + uptoBulk d + 1
  | (_, d) => uptoBulk d + 1
 end
def uptoSmall : (H : Type) → List (DataW H) → Bool := fun _ ds => decide (uptoBulkAll ds ≤ 1048576)
def OpenSpec.upto (s : _root_.Go.ChangeSpec) : _root_.Go.OpenSpec := { _root_.Go.OpenSpec.ofChange s with cond := some uptoSmall }

/-- 'laws.FnExactAreTies', WHERE WHAT IT READS IS OF BULK AT MOST 1048576: true; the input reads as it did. -/
def fnExactAreTiesUptoRow : OpenClaim := { program := "ytnkljndopjcapaa", sum := "a2a70aaa0475dafa44eb37c5a42a281251fad062206cd43bfd08e0f5dd658aa7", func := "loop.example/g01027/laws.FnExactAreTies", spec := "fnExactAreTies", apart := false, narrowed := true }
def FnExactAreTiesUptoSaid : Prop := fnExactAreTiesUptoRow.holds Try.pinned (OpenSpec.upto fnExactAreTiesSpec)

/-- 'laws.FnExactIsBiased', WHERE WHAT IT READS IS OF BULK AT MOST 1048576: true; the input reads as it did. -/
def fnExactIsBiasedUptoRow : OpenClaim := { program := "ytnkljndopjcapaa", sum := "a2a70aaa0475dafa44eb37c5a42a281251fad062206cd43bfd08e0f5dd658aa7", func := "loop.example/g01027/laws.FnExactIsBiased", spec := "fnExactIsBiased", apart := false, narrowed := true }
def FnExactIsBiasedUptoSaid : Prop := fnExactIsBiasedUptoRow.holds Try.pinned (OpenSpec.upto fnExactIsBiasedSpec)

/-- 'laws.FnExactCountKinds', WHERE WHAT IT READS IS OF BULK AT MOST 1048576: true; the input reads as it did. -/
def fnExactCountKindsUptoRow : OpenClaim := { program := "ytnkljndopjcapaa", sum := "a2a70aaa0475dafa44eb37c5a42a281251fad062206cd43bfd08e0f5dd658aa7", func := "loop.example/g01027/laws.FnExactCountKinds", spec := "fnExactCountKinds", apart := false, narrowed := true }
def FnExactCountKindsUptoSaid : Prop := fnExactCountKindsUptoRow.holds Try.pinned (OpenSpec.upto fnExactCountKindsSpec)

/-- 'laws.FnExactCausesOf', WHERE WHAT IT READS IS OF BULK AT MOST 1048576: true; the input reads as it did. -/
def fnExactCausesOfUptoRow : OpenClaim := { program := "ytnkljndopjcapaa", sum := "a2a70aaa0475dafa44eb37c5a42a281251fad062206cd43bfd08e0f5dd658aa7", func := "loop.example/g01027/laws.FnExactCausesOf", spec := "fnExactCausesOf", apart := false, narrowed := true }
def FnExactCausesOfUptoSaid : Prop := fnExactCausesOfUptoRow.holds Try.pinned (OpenSpec.upto fnExactCausesOfSpec)

/-- 'laws.FnExactFitFor', WHERE WHAT IT READS IS OF BULK AT MOST 1048576: true; the input reads as it did. -/
def fnExactFitForUptoRow : OpenClaim := { program := "ytnkljndopjcapaa", sum := "a2a70aaa0475dafa44eb37c5a42a281251fad062206cd43bfd08e0f5dd658aa7", func := "loop.example/g01027/laws.FnExactFitFor", spec := "fnExactFitFor", apart := false, narrowed := true }
def FnExactFitForUptoSaid : Prop := fnExactFitForUptoRow.holds Try.pinned (OpenSpec.upto fnExactFitForSpec)

/-- 'laws.FnExactClearPanel', WHERE WHAT IT READS IS OF BULK AT MOST 1048576: true; the input reads as it did. -/
def fnExactClearPanelUptoRow : OpenClaim := { program := "ytnkljndopjcapaa", sum := "a2a70aaa0475dafa44eb37c5a42a281251fad062206cd43bfd08e0f5dd658aa7", func := "loop.example/g01027/laws.FnExactClearPanel", spec := "fnExactClearPanel", apart := false, narrowed := true }
def FnExactClearPanelUptoSaid : Prop := fnExactClearPanelUptoRow.holds Try.pinned (OpenSpec.upto fnExactClearPanelSpec)

/-- 'laws.FnCauses', WHERE WHAT IT READS IS OF BULK AT MOST 1048576: true; the input reads as it did. -/
def fnCausesUptoRow : OpenClaim := { program := "ytnkljndopjcapaa", sum := "a2a70aaa0475dafa44eb37c5a42a281251fad062206cd43bfd08e0f5dd658aa7", func := "loop.example/g01027/laws.FnCauses", spec := "fnCauses", recurses := true, apart := false, narrowed := true }
def FnCausesUptoSaid : Prop := fnCausesUptoRow.holds Try.pinned (OpenSpec.upto fnCausesSpec)

/-- 'laws.FnExactBiasedOf', WHERE WHAT IT READS IS OF BULK AT MOST 1048576: true; the input reads as it did. -/
def fnExactBiasedOfUptoRow : OpenClaim := { program := "ytnkljndopjcapaa", sum := "a2a70aaa0475dafa44eb37c5a42a281251fad062206cd43bfd08e0f5dd658aa7", func := "loop.example/g01027/laws.FnExactBiasedOf", spec := "fnExactBiasedOf", recurses := true, apart := false, narrowed := true }
def FnExactBiasedOfUptoSaid : Prop := fnExactBiasedOfUptoRow.holds Try.pinned (OpenSpec.upto fnExactBiasedOfSpec)

/-- 'laws.FnExactPartiesAgainst', WHERE WHAT IT READS IS OF BULK AT MOST 1048576: true; the input reads as it did. -/
def fnExactPartiesAgainstUptoRow : OpenClaim := { program := "ytnkljndopjcapaa", sum := "a2a70aaa0475dafa44eb37c5a42a281251fad062206cd43bfd08e0f5dd658aa7", func := "loop.example/g01027/laws.FnExactPartiesAgainst", spec := "fnExactPartiesAgainst", recurses := true, apart := false, narrowed := true }
def FnExactPartiesAgainstUptoSaid : Prop := fnExactPartiesAgainstUptoRow.holds Try.pinned (OpenSpec.upto fnExactPartiesAgainstSpec)

/-- 'laws.FnCleared', WHERE WHAT IT READS IS OF BULK AT MOST 1048576: true; the input reads as it did. -/
def fnClearedUptoRow : OpenClaim := { program := "ytnkljndopjcapaa", sum := "a2a70aaa0475dafa44eb37c5a42a281251fad062206cd43bfd08e0f5dd658aa7", func := "loop.example/g01027/laws.FnCleared", spec := "fnCleared", recurses := true, apart := false, narrowed := true }
def FnClearedUptoSaid : Prop := fnClearedUptoRow.holds Try.pinned (OpenSpec.upto fnClearedSpec)

end Rows
end Go.Proofs.Ytnkljndopjcapaa
