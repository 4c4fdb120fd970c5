/-
  No cell of these rows narrows 'for every input' (looked for: loops, veiled, ifaces, maps, wideKeys, modest, calm, conditions, laid).
  DERIVED. THE GIVEN ROWS OF THIS SEAT. 4 by the template 'for every input the law returns true; each argument reads behind the call as it read before'; 0 by the template 'total and deterministic' (their statements: YtmcnnbjgehmmoaaTotals.lean).
  GIVEN WITH THE SEED: the statements are not yours to turn. If you find one false, say at which input.
  Laid BY PROGRAM, IN A SANDBOX (cutbox-rows.mjs): the forced cells as the released guide's own fill.sh prints them over the translation 261b5d076dfe1155… (all of the seat's roots in one cut). By AI agents, Wed Nov 11 2026. No macro, syntax, notation, axiom, sorry.
-/
import Derived.Test.YtmcnnbjgehmmoaaChecked
import GoSem.Claim
import GoSem.ClaimJoined
import GoSem.ClaimMapViews
import Derived.JoinedTies
import Derived.KernelRfl
namespace Go.Proofs.Ytmcnnbjgehmmoaa
/- THE CELL 'sum', in the pinned program and in every row, IS THE sha256 OF THE DUMP (.gsa) THAT YtmcnnbjgehmmoaaProg.lean LOADS. Nothing in Lean hashes anything: it is a label: what it is worth is what the hold of that sum in a sandbox is worth. -/
noncomputable def Try.pinned : Pinned := { name := "ytmcnnbjgehmmoaa", sum := "261b5d076dfe115587cbf40c9d6be7f0d22e94456aa60d4f21b5067c5075e763", checked := Try.checked }
namespace Rows
def none {H : Type} : Left H := { results := [], args := [] }

/-- 'laws.FnCauses': WHATEVER THE INPUT: true; the input reads as it did. -/
def fnCausesSpec : ChangeSpec := { name := "fnCauses", fn := fun _ => fun
  | [d] => { results := [.lit (.bool true)], args := [d] }
  | _ => none }
def fnCausesRow : OpenClaim := { program := "ytmcnnbjgehmmoaa", sum := "261b5d076dfe115587cbf40c9d6be7f0d22e94456aa60d4f21b5067c5075e763", func := "loop.example/g01027/laws.FnCauses", spec := "fnCauses", recurses := true, apart := false }
def FnCausesSaid : Prop := fnCausesRow.holds Try.pinned (OpenSpec.ofChange fnCausesSpec)

/-- ITS FALSE NEIGHBOUR: 'it returns false'. Refute it at one input. -/
def fnCausesWrong : ChangeSpec := { name := "fnCauses", fn := fun _ => fun
  | [d] => { results := [.lit (.bool false)], args := [d] }
  | _ => none }
def FnCausesWrongFalsely : Prop := fnCausesRow.holds Try.pinned (OpenSpec.ofChange fnCausesWrong)

/-- 'laws.FnExactBiasedOf': WHATEVER THE INPUT: true; the input reads as it did. -/
def fnExactBiasedOfSpec : ChangeSpec := { name := "fnExactBiasedOf", fn := fun _ => fun
  | [d1, d2] => { results := [.lit (.bool true)], args := [d1, d2] }
  | _ => none }
def fnExactBiasedOfRow : OpenClaim := { program := "ytmcnnbjgehmmoaa", sum := "261b5d076dfe115587cbf40c9d6be7f0d22e94456aa60d4f21b5067c5075e763", func := "loop.example/g01027/laws.FnExactBiasedOf", spec := "fnExactBiasedOf", recurses := true, apart := false }
def FnExactBiasedOfSaid : Prop := fnExactBiasedOfRow.holds Try.pinned (OpenSpec.ofChange fnExactBiasedOfSpec)

/-- ITS FALSE NEIGHBOUR: 'it returns false'. Refute it at one input. -/
def fnExactBiasedOfWrong : ChangeSpec := { name := "fnExactBiasedOf", fn := fun _ => fun
  | [d1, d2] => { results := [.lit (.bool false)], args := [d1, d2] }
  | _ => none }
def FnExactBiasedOfWrongFalsely : Prop := fnExactBiasedOfRow.holds Try.pinned (OpenSpec.ofChange fnExactBiasedOfWrong)

/-- 'laws.FnExactPartiesAgainst': WHATEVER THE INPUT: true; the input reads as it did. -/
def fnExactPartiesAgainstSpec : ChangeSpec := { name := "fnExactPartiesAgainst", fn := fun _ => fun
  | [d1, d2, d3] => { results := [.lit (.bool true)], args := [d1, d2, d3] }
  | _ => none }
def fnExactPartiesAgainstRow : OpenClaim := { program := "ytmcnnbjgehmmoaa", sum := "261b5d076dfe115587cbf40c9d6be7f0d22e94456aa60d4f21b5067c5075e763", func := "loop.example/g01027/laws.FnExactPartiesAgainst", spec := "fnExactPartiesAgainst", recurses := true, apart := false }
def FnExactPartiesAgainstSaid : Prop := fnExactPartiesAgainstRow.holds Try.pinned (OpenSpec.ofChange fnExactPartiesAgainstSpec)

/-- ITS FALSE NEIGHBOUR: 'it returns false'. Refute it at one input. -/
def fnExactPartiesAgainstWrong : ChangeSpec := { name := "fnExactPartiesAgainst", fn := fun _ => fun
  | [d1, d2, d3] => { results := [.lit (.bool false)], args := [d1, d2, d3] }
  | _ => none }
def FnExactPartiesAgainstWrongFalsely : Prop := fnExactPartiesAgainstRow.holds Try.pinned (OpenSpec.ofChange fnExactPartiesAgainstWrong)

/-- 'laws.FnCleared': WHATEVER THE INPUT: true; the input reads as it did. -/
def fnClearedSpec : ChangeSpec := { name := "fnCleared", fn := fun _ => fun
  | [d] => { results := [.lit (.bool true)], args := [d] }
  | _ => none }
def fnClearedRow : OpenClaim := { program := "ytmcnnbjgehmmoaa", sum := "261b5d076dfe115587cbf40c9d6be7f0d22e94456aa60d4f21b5067c5075e763", func := "loop.example/g01027/laws.FnCleared", spec := "fnCleared", recurses := true, apart := false }
def FnClearedSaid : Prop := fnClearedRow.holds Try.pinned (OpenSpec.ofChange fnClearedSpec)

/-- ITS FALSE NEIGHBOUR: 'it returns false'. Refute it at one input. -/
def fnClearedWrong : ChangeSpec := { name := "fnCleared", fn := fun _ => fun
  | [d] => { results := [.lit (.bool false)], args := [d] }
  | _ => none }
def FnClearedWrongFalsely : Prop := fnClearedRow.holds Try.pinned (OpenSpec.ofChange fnClearedWrong)

/- THE SECOND FORM. 'bulk': how many values and letters a reading holds, each counted each time it is reached (what is shared counts as often as it is met; a slice's spare places count too). A statement '..UptoSaid' is the law's where the arguments, and the package variables that the reading takes, are together of bulk at most 1048576: NARROWER than '..Said'. Prove '..Said' where nothing that the law and all that it calls make is longer than what came in: it says more and counts as full. Else prove '..UptoSaid'. A law counts once. -/
mutual
def uptoBulk {H : Type} : DataW H → Nat
  | .lit (.string bytes) => bytes.length + 1
  | .lit _ => 1
  | .nil => 1
  | .ptr d => uptoBulk d + 1
  | .slice elems spare => uptoBulkAll elems + uptoBulkAll spare + 1
  | .agg parts => uptoBulkAll parts + 1
  | .iface _ d => uptoBulk d + 1
  | .map entries => uptoBulkEntries entries + 1
  | .held _ => 1
def uptoBulkAll {H : Type} : List (DataW H) → Nat
  | [] => 0
  | d :: r => uptoBulk d + uptoBulkAll r
def uptoBulkEntries {H : Type} : List (Lit × DataW H) → Nat
  | [] => 0
  | x :: r => uptoBulkEntry x + uptoBulkEntries r
def uptoBulkEntry {H : Type} : Lit × DataW H → Nat
  | (.string bytes, d) => bytes.length + uptoBulk d + 1
  | (_, d) => uptoBulk d + 1
 end
def uptoSmall : (H : Type) → List (DataW H) → Bool := fun _ ds => decide (uptoBulkAll ds ≤ 1048576)
def OpenSpec.upto (s : _root_.Go.ChangeSpec) : _root_.Go.OpenSpec := { _root_.Go.OpenSpec.ofChange s with cond := some uptoSmall }

/-- 'laws.FnCauses', WHERE WHAT IT READS IS OF BULK AT MOST 1048576: true; the input reads as it did. -/
def fnCausesUptoRow : OpenClaim := { program := "ytmcnnbjgehmmoaa", sum := "261b5d076dfe115587cbf40c9d6be7f0d22e94456aa60d4f21b5067c5075e763", func := "loop.example/g01027/laws.FnCauses", spec := "fnCauses", recurses := true, apart := false, narrowed := true }
def FnCausesUptoSaid : Prop := fnCausesUptoRow.holds Try.pinned (OpenSpec.upto fnCausesSpec)

/-- 'laws.FnExactBiasedOf', WHERE WHAT IT READS IS OF BULK AT MOST 1048576: true; the input reads as it did. -/
def fnExactBiasedOfUptoRow : OpenClaim := { program := "ytmcnnbjgehmmoaa", sum := "261b5d076dfe115587cbf40c9d6be7f0d22e94456aa60d4f21b5067c5075e763", func := "loop.example/g01027/laws.FnExactBiasedOf", spec := "fnExactBiasedOf", recurses := true, apart := false, narrowed := true }
def FnExactBiasedOfUptoSaid : Prop := fnExactBiasedOfUptoRow.holds Try.pinned (OpenSpec.upto fnExactBiasedOfSpec)

/-- 'laws.FnExactPartiesAgainst', WHERE WHAT IT READS IS OF BULK AT MOST 1048576: true; the input reads as it did. -/
def fnExactPartiesAgainstUptoRow : OpenClaim := { program := "ytmcnnbjgehmmoaa", sum := "261b5d076dfe115587cbf40c9d6be7f0d22e94456aa60d4f21b5067c5075e763", func := "loop.example/g01027/laws.FnExactPartiesAgainst", spec := "fnExactPartiesAgainst", recurses := true, apart := false, narrowed := true }
def FnExactPartiesAgainstUptoSaid : Prop := fnExactPartiesAgainstUptoRow.holds Try.pinned (OpenSpec.upto fnExactPartiesAgainstSpec)

/-- 'laws.FnCleared', WHERE WHAT IT READS IS OF BULK AT MOST 1048576: true; the input reads as it did. -/
def fnClearedUptoRow : OpenClaim := { program := "ytmcnnbjgehmmoaa", sum := "261b5d076dfe115587cbf40c9d6be7f0d22e94456aa60d4f21b5067c5075e763", func := "loop.example/g01027/laws.FnCleared", spec := "fnCleared", recurses := true, apart := false, narrowed := true }
def FnClearedUptoSaid : Prop := fnClearedUptoRow.holds Try.pinned (OpenSpec.upto fnClearedSpec)

end Rows
end Go.Proofs.Ytmcnnbjgehmmoaa
