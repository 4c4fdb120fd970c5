/-
  No cell of these rows narrows 'for every input' (looked for: loops, veiled, ifaces, maps, wideKeys, modest, calm, conditions, laid).
  DERIVED. THE GIVEN ROWS OF THIS SEAT. 7 by the template 'for every input the law returns true; each argument reads behind the call as it read before'; 0 by the template 'total and deterministic' (their statements: YtmianahfccediaaTotals.lean).
  GIVEN WITH THE SEED: the statements are not yours to turn. If you find one false, say at which input.
  Laid BY PROGRAM, IN A SANDBOX (cutbox-rows.mjs): the forced cells as the released guide's own fill.sh prints them over the translation 248e5506370d4ec5… (all of the seat's roots in one cut). By AI agents, Wed Nov 11 2026. No macro, syntax, notation, axiom, sorry.
-/
import Derived.Test.YtmianahfccediaaChecked
import GoSem.Claim
import GoSem.ClaimJoined
import GoSem.ClaimMapViews
import Derived.JoinedTies
import Derived.KernelRfl
namespace Go.Proofs.Ytmianahfccediaa
/- THE CELL 'sum', in the pinned program and in every row, IS THE sha256 OF THE DUMP (.gsa) THAT YtmianahfccediaaProg.lean LOADS. Nothing in Lean hashes anything: it is a label: what it is worth is what the hold of that sum in a sandbox is worth. -/
noncomputable def Try.pinned : Pinned := { name := "ytmianahfccediaa", sum := "248e5506370d4ec578c871d8da58331dd54b3b245a5339899342766c26a3c342", checked := Try.checked }
namespace Rows
def none {H : Type} : Left H := { results := [], args := [] }

/-- 'laws.FnExactWaysToChoose': WHATEVER THE INPUT: true; the input reads as it did. -/
def fnExactWaysToChooseSpec : ChangeSpec := { name := "fnExactWaysToChoose", fn := fun _ => fun
  | [d1, d2] => { results := [.lit (.bool true)], args := [d1, d2] }
  | _ => none }
def fnExactWaysToChooseRow : OpenClaim := { program := "ytmianahfccediaa", sum := "248e5506370d4ec578c871d8da58331dd54b3b245a5339899342766c26a3c342", func := "loop.example/g01027/laws.FnExactWaysToChoose", spec := "fnExactWaysToChoose", apart := false }
def FnExactWaysToChooseSaid : Prop := fnExactWaysToChooseRow.holds Try.pinned (OpenSpec.ofChange fnExactWaysToChooseSpec)

/-- ITS FALSE NEIGHBOUR: 'it returns false'. Refute it at one input. -/
def fnExactWaysToChooseWrong : ChangeSpec := { name := "fnExactWaysToChoose", fn := fun _ => fun
  | [d1, d2] => { results := [.lit (.bool false)], args := [d1, d2] }
  | _ => none }
def FnExactWaysToChooseWrongFalsely : Prop := fnExactWaysToChooseRow.holds Try.pinned (OpenSpec.ofChange fnExactWaysToChooseWrong)

/-- 'laws.FnExactExpectedMembers': WHATEVER THE INPUT: true; the input reads as it did. -/
def fnExactExpectedMembersSpec : ChangeSpec := { name := "fnExactExpectedMembers", fn := fun _ => fun
  | [d1, d2, d3] => { results := [.lit (.bool true)], args := [d1, d2, d3] }
  | _ => none }
def fnExactExpectedMembersRow : OpenClaim := { program := "ytmianahfccediaa", sum := "248e5506370d4ec578c871d8da58331dd54b3b245a5339899342766c26a3c342", func := "loop.example/g01027/laws.FnExactExpectedMembers", spec := "fnExactExpectedMembers", apart := false }
def FnExactExpectedMembersSaid : Prop := fnExactExpectedMembersRow.holds Try.pinned (OpenSpec.ofChange fnExactExpectedMembersSpec)

/-- ITS FALSE NEIGHBOUR: 'it returns false'. Refute it at one input. -/
def fnExactExpectedMembersWrong : ChangeSpec := { name := "fnExactExpectedMembers", fn := fun _ => fun
  | [d1, d2, d3] => { results := [.lit (.bool false)], args := [d1, d2, d3] }
  | _ => none }
def FnExactExpectedMembersWrongFalsely : Prop := fnExactExpectedMembersRow.holds Try.pinned (OpenSpec.ofChange fnExactExpectedMembersWrong)

/-- 'laws.FnExactLikeliestNumber': WHATEVER THE INPUT: true; the input reads as it did. -/
def fnExactLikeliestNumberSpec : ChangeSpec := { name := "fnExactLikeliestNumber", fn := fun _ => fun
  | [d1, d2, d3] => { results := [.lit (.bool true)], args := [d1, d2, d3] }
  | _ => none }
def fnExactLikeliestNumberRow : OpenClaim := { program := "ytmianahfccediaa", sum := "248e5506370d4ec578c871d8da58331dd54b3b245a5339899342766c26a3c342", func := "loop.example/g01027/laws.FnExactLikeliestNumber", spec := "fnExactLikeliestNumber", apart := false }
def FnExactLikeliestNumberSaid : Prop := fnExactLikeliestNumberRow.holds Try.pinned (OpenSpec.ofChange fnExactLikeliestNumberSpec)

/-- ITS FALSE NEIGHBOUR: 'it returns false'. Refute it at one input. -/
def fnExactLikeliestNumberWrong : ChangeSpec := { name := "fnExactLikeliestNumber", fn := fun _ => fun
  | [d1, d2, d3] => { results := [.lit (.bool false)], args := [d1, d2, d3] }
  | _ => none }
def FnExactLikeliestNumberWrongFalsely : Prop := fnExactLikeliestNumberRow.holds Try.pinned (OpenSpec.ofChange fnExactLikeliestNumberWrong)

/-- 'laws.FnExactIsHigh': WHATEVER THE INPUT: true; the input reads as it did. -/
def fnExactIsHighSpec : ChangeSpec := { name := "fnExactIsHigh", fn := fun _ => fun
  | [d1, d2, d3, d4, d5] => { results := [.lit (.bool true)], args := [d1, d2, d3, d4, d5] }
  | _ => none }
def fnExactIsHighRow : OpenClaim := { program := "ytmianahfccediaa", sum := "248e5506370d4ec578c871d8da58331dd54b3b245a5339899342766c26a3c342", func := "loop.example/g01027/laws.FnExactIsHigh", spec := "fnExactIsHigh", apart := false }
def FnExactIsHighSaid : Prop := fnExactIsHighRow.holds Try.pinned (OpenSpec.ofChange fnExactIsHighSpec)

/-- ITS FALSE NEIGHBOUR: 'it returns false'. Refute it at one input. -/
def fnExactIsHighWrong : ChangeSpec := { name := "fnExactIsHigh", fn := fun _ => fun
  | [d1, d2, d3, d4, d5] => { results := [.lit (.bool false)], args := [d1, d2, d3, d4, d5] }
  | _ => none }
def FnExactIsHighWrongFalsely : Prop := fnExactIsHighRow.holds Try.pinned (OpenSpec.ofChange fnExactIsHighWrong)

/-- 'laws.FnExactIsLow': WHATEVER THE INPUT: true; the input reads as it did. -/
def fnExactIsLowSpec : ChangeSpec := { name := "fnExactIsLow", fn := fun _ => fun
  | [d1, d2, d3, d4, d5] => { results := [.lit (.bool true)], args := [d1, d2, d3, d4, d5] }
  | _ => none }
def fnExactIsLowRow : OpenClaim := { program := "ytmianahfccediaa", sum := "248e5506370d4ec578c871d8da58331dd54b3b245a5339899342766c26a3c342", func := "loop.example/g01027/laws.FnExactIsLow", spec := "fnExactIsLow", apart := false }
def FnExactIsLowSaid : Prop := fnExactIsLowRow.holds Try.pinned (OpenSpec.ofChange fnExactIsLowSpec)

/-- ITS FALSE NEIGHBOUR: 'it returns false'. Refute it at one input. -/
def fnExactIsLowWrong : ChangeSpec := { name := "fnExactIsLow", fn := fun _ => fun
  | [d1, d2, d3, d4, d5] => { results := [.lit (.bool false)], args := [d1, d2, d3, d4, d5] }
  | _ => none }
def FnExactIsLowWrongFalsely : Prop := fnExactIsLowRow.holds Try.pinned (OpenSpec.ofChange fnExactIsLowWrong)

/-- 'laws.FnExactChanceOfAtLeast': WHATEVER THE INPUT: true; the input reads as it did. -/
def fnExactChanceOfAtLeastSpec : ChangeSpec := { name := "fnExactChanceOfAtLeast", fn := fun _ => fun
  | [d1, d2, d3, d4] => { results := [.lit (.bool true)], args := [d1, d2, d3, d4] }
  | _ => none }
def fnExactChanceOfAtLeastRow : OpenClaim := { program := "ytmianahfccediaa", sum := "248e5506370d4ec578c871d8da58331dd54b3b245a5339899342766c26a3c342", func := "loop.example/g01027/laws.FnExactChanceOfAtLeast", spec := "fnExactChanceOfAtLeast", apart := false }
def FnExactChanceOfAtLeastSaid : Prop := fnExactChanceOfAtLeastRow.holds Try.pinned (OpenSpec.ofChange fnExactChanceOfAtLeastSpec)

/-- ITS FALSE NEIGHBOUR: 'it returns false'. Refute it at one input. -/
def fnExactChanceOfAtLeastWrong : ChangeSpec := { name := "fnExactChanceOfAtLeast", fn := fun _ => fun
  | [d1, d2, d3, d4] => { results := [.lit (.bool false)], args := [d1, d2, d3, d4] }
  | _ => none }
def FnExactChanceOfAtLeastWrongFalsely : Prop := fnExactChanceOfAtLeastRow.holds Try.pinned (OpenSpec.ofChange fnExactChanceOfAtLeastWrong)

/-- 'laws.FnExactAreTies': WHATEVER THE INPUT: true; the input reads as it did. -/
def fnExactAreTiesSpec : ChangeSpec := { name := "fnExactAreTies", fn := fun _ => fun
  | [d] => { results := [.lit (.bool true)], args := [d] }
  | _ => none }
def fnExactAreTiesRow : OpenClaim := { program := "ytmianahfccediaa", sum := "248e5506370d4ec578c871d8da58331dd54b3b245a5339899342766c26a3c342", func := "loop.example/g01027/laws.FnExactAreTies", spec := "fnExactAreTies", apart := false }
def FnExactAreTiesSaid : Prop := fnExactAreTiesRow.holds Try.pinned (OpenSpec.ofChange fnExactAreTiesSpec)

/-- ITS FALSE NEIGHBOUR: 'it returns false'. Refute it at one input. -/
def fnExactAreTiesWrong : ChangeSpec := { name := "fnExactAreTies", fn := fun _ => fun
  | [d] => { results := [.lit (.bool false)], args := [d] }
  | _ => none }
def FnExactAreTiesWrongFalsely : Prop := fnExactAreTiesRow.holds Try.pinned (OpenSpec.ofChange fnExactAreTiesWrong)

/- THE SECOND FORM. 'bulk': how many values and letters a reading holds, each counted each time it is reached (what is shared counts as often as it is met; a slice's spare places count too). A statement '..UptoSaid' is the law's where the arguments, and the package variables that the reading takes, are together of bulk at most 1048576: NARROWER than '..Said'. Prove '..Said' where nothing that the law and all that it calls make is longer than what came in: it says more and counts as full. Else prove '..UptoSaid'. A law counts once. -/
mutual
def uptoBulk {H : Type} : DataW H → Nat
  | .lit (.string bytes) => bytes.length + 1
  | .lit _ => 1
  | .nil => 1
  | .ptr d => uptoBulk d + 1
  | .slice elems spare => uptoBulkAll elems + uptoBulkAll spare + 1
  | .agg parts => uptoBulkAll parts + 1
  | .iface _ d => uptoBulk d + 1
  | .map entries => uptoBulkEntries entries + 1
  | .held _ => 1
def uptoBulkAll {H : Type} : List (DataW H) → Nat
  | [] => 0
  | d :: r => uptoBulk d + uptoBulkAll r
def uptoBulkEntries {H : Type} : List (Lit × DataW H) → Nat
  | [] => 0
  | x :: r => uptoBulkEntry x + uptoBulkEntries r
def uptoBulkEntry {H : Type} : Lit × DataW H → Nat
  | (.string bytes, d) => bytes.length + uptoBulk d + 1
  | (_, d) => uptoBulk d + 1
 end
def uptoSmall : (H : Type) → List (DataW H) → Bool := fun _ ds => decide (uptoBulkAll ds ≤ 1048576)
def OpenSpec.upto (s : _root_.Go.ChangeSpec) : _root_.Go.OpenSpec := { _root_.Go.OpenSpec.ofChange s with cond := some uptoSmall }

/-- 'laws.FnExactWaysToChoose', WHERE WHAT IT READS IS OF BULK AT MOST 1048576: true; the input reads as it did. -/
def fnExactWaysToChooseUptoRow : OpenClaim := { program := "ytmianahfccediaa", sum := "248e5506370d4ec578c871d8da58331dd54b3b245a5339899342766c26a3c342", func := "loop.example/g01027/laws.FnExactWaysToChoose", spec := "fnExactWaysToChoose", apart := false, narrowed := true }
def FnExactWaysToChooseUptoSaid : Prop := fnExactWaysToChooseUptoRow.holds Try.pinned (OpenSpec.upto fnExactWaysToChooseSpec)

/-- 'laws.FnExactExpectedMembers', WHERE WHAT IT READS IS OF BULK AT MOST 1048576: true; the input reads as it did. -/
def fnExactExpectedMembersUptoRow : OpenClaim := { program := "ytmianahfccediaa", sum := "248e5506370d4ec578c871d8da58331dd54b3b245a5339899342766c26a3c342", func := "loop.example/g01027/laws.FnExactExpectedMembers", spec := "fnExactExpectedMembers", apart := false, narrowed := true }
def FnExactExpectedMembersUptoSaid : Prop := fnExactExpectedMembersUptoRow.holds Try.pinned (OpenSpec.upto fnExactExpectedMembersSpec)

/-- 'laws.FnExactLikeliestNumber', WHERE WHAT IT READS IS OF BULK AT MOST 1048576: true; the input reads as it did. -/
def fnExactLikeliestNumberUptoRow : OpenClaim := { program := "ytmianahfccediaa", sum := "248e5506370d4ec578c871d8da58331dd54b3b245a5339899342766c26a3c342", func := "loop.example/g01027/laws.FnExactLikeliestNumber", spec := "fnExactLikeliestNumber", apart := false, narrowed := true }
def FnExactLikeliestNumberUptoSaid : Prop := fnExactLikeliestNumberUptoRow.holds Try.pinned (OpenSpec.upto fnExactLikeliestNumberSpec)

/-- 'laws.FnExactIsHigh', WHERE WHAT IT READS IS OF BULK AT MOST 1048576: true; the input reads as it did. -/
def fnExactIsHighUptoRow : OpenClaim := { program := "ytmianahfccediaa", sum := "248e5506370d4ec578c871d8da58331dd54b3b245a5339899342766c26a3c342", func := "loop.example/g01027/laws.FnExactIsHigh", spec := "fnExactIsHigh", apart := false, narrowed := true }
def FnExactIsHighUptoSaid : Prop := fnExactIsHighUptoRow.holds Try.pinned (OpenSpec.upto fnExactIsHighSpec)

/-- 'laws.FnExactIsLow', WHERE WHAT IT READS IS OF BULK AT MOST 1048576: true; the input reads as it did. -/
def fnExactIsLowUptoRow : OpenClaim := { program := "ytmianahfccediaa", sum := "248e5506370d4ec578c871d8da58331dd54b3b245a5339899342766c26a3c342", func := "loop.example/g01027/laws.FnExactIsLow", spec := "fnExactIsLow", apart := false, narrowed := true }
def FnExactIsLowUptoSaid : Prop := fnExactIsLowUptoRow.holds Try.pinned (OpenSpec.upto fnExactIsLowSpec)

/-- 'laws.FnExactChanceOfAtLeast', WHERE WHAT IT READS IS OF BULK AT MOST 1048576: true; the input reads as it did. -/
def fnExactChanceOfAtLeastUptoRow : OpenClaim := { program := "ytmianahfccediaa", sum := "248e5506370d4ec578c871d8da58331dd54b3b245a5339899342766c26a3c342", func := "loop.example/g01027/laws.FnExactChanceOfAtLeast", spec := "fnExactChanceOfAtLeast", apart := false, narrowed := true }
def FnExactChanceOfAtLeastUptoSaid : Prop := fnExactChanceOfAtLeastUptoRow.holds Try.pinned (OpenSpec.upto fnExactChanceOfAtLeastSpec)

/-- 'laws.FnExactAreTies', WHERE WHAT IT READS IS OF BULK AT MOST 1048576: true; the input reads as it did. -/
def fnExactAreTiesUptoRow : OpenClaim := { program := "ytmianahfccediaa", sum := "248e5506370d4ec578c871d8da58331dd54b3b245a5339899342766c26a3c342", func := "loop.example/g01027/laws.FnExactAreTies", spec := "fnExactAreTies", apart := false, narrowed := true }
def FnExactAreTiesUptoSaid : Prop := fnExactAreTiesUptoRow.holds Try.pinned (OpenSpec.upto fnExactAreTiesSpec)

end Rows
end Go.Proofs.Ytmianahfccediaa
