/-
  No cell of these rows narrows 'for every input' (looked for: loops, veiled, ifaces, maps, wideKeys, modest, calm, conditions, laid).
  DERIVED. THE GIVEN ROWS OF THIS SEAT. 10 by the template 'for every input the law returns true; each argument reads behind the call as it read before'; 0 by the template 'total and deterministic' (their statements: YtfehedaaenoleaaTotals.lean).
  GIVEN WITH THE SEED: the statements are not yours to turn. If you find one false, say at which input.
  Laid BY PROGRAM, IN A SANDBOX (cutbox-rows.mjs): the forced cells as the released guide's own fill.sh prints them over the translation b2f697f60a46ff53… (all of the seat's roots in one cut). By AI agents, Wed Nov 11 2026. No macro, syntax, notation, axiom, sorry.
-/
import Derived.Test.YtfehedaaenoleaaChecked
import GoSem.Claim
import GoSem.ClaimJoined
import GoSem.ClaimMapViews
import Derived.JoinedTies
import Derived.KernelRfl
namespace Go.Proofs.Ytfehedaaenoleaa
/- THE CELL 'sum', in the pinned program and in every row, IS THE sha256 OF THE DUMP (.gsa) THAT YtfehedaaenoleaaProg.lean LOADS. Nothing in Lean hashes anything: it is a label: what it is worth is what the hold of that sum in a sandbox is worth. -/
noncomputable def Try.pinned : Pinned := { name := "ytfehedaaenoleaa", sum := "b2f697f60a46ff5305d6c51de415fa021bf4728301061f68f4e62e6091c078fe", checked := Try.checked }
namespace Rows
def none {H : Type} : Left H := { results := [], args := [] }

/-- 'laws.FnExactIsJury': WHATEVER THE INPUT: true; the input reads as it did. -/
def fnExactIsJurySpec : ChangeSpec := { name := "fnExactIsJury", fn := fun _ => fun
  | [d] => { results := [.lit (.bool true)], args := [d] }
  | _ => none }
def fnExactIsJuryRow : OpenClaim := { program := "ytfehedaaenoleaa", sum := "b2f697f60a46ff5305d6c51de415fa021bf4728301061f68f4e62e6091c078fe", func := "loop.example/g01027/laws.FnExactIsJury", spec := "fnExactIsJury", apart := false }
def FnExactIsJurySaid : Prop := fnExactIsJuryRow.holds Try.pinned (OpenSpec.ofChange fnExactIsJurySpec)

/-- ITS FALSE NEIGHBOUR: 'it returns false'. Refute it at one input. -/
def fnExactIsJuryWrong : ChangeSpec := { name := "fnExactIsJury", fn := fun _ => fun
  | [d] => { results := [.lit (.bool false)], args := [d] }
  | _ => none }
def FnExactIsJuryWrongFalsely : Prop := fnExactIsJuryRow.holds Try.pinned (OpenSpec.ofChange fnExactIsJuryWrong)

/-- 'laws.FnExactMayGoOn': WHATEVER THE INPUT: true; the input reads as it did. -/
def fnExactMayGoOnSpec : ChangeSpec := { name := "fnExactMayGoOn", fn := fun _ => fun
  | [d1, d2] => { results := [.lit (.bool true)], args := [d1, d2] }
  | _ => none }
def fnExactMayGoOnRow : OpenClaim := { program := "ytfehedaaenoleaa", sum := "b2f697f60a46ff5305d6c51de415fa021bf4728301061f68f4e62e6091c078fe", func := "loop.example/g01027/laws.FnExactMayGoOn", spec := "fnExactMayGoOn", apart := false }
def FnExactMayGoOnSaid : Prop := fnExactMayGoOnRow.holds Try.pinned (OpenSpec.ofChange fnExactMayGoOnSpec)

/-- ITS FALSE NEIGHBOUR: 'it returns false'. Refute it at one input. -/
def fnExactMayGoOnWrong : ChangeSpec := { name := "fnExactMayGoOn", fn := fun _ => fun
  | [d1, d2] => { results := [.lit (.bool false)], args := [d1, d2] }
  | _ => none }
def FnExactMayGoOnWrongFalsely : Prop := fnExactMayGoOnRow.holds Try.pinned (OpenSpec.ofChange fnExactMayGoOnWrong)

/-- 'laws.FnExactMembersOf': WHATEVER THE INPUT: true; the input reads as it did. -/
def fnExactMembersOfSpec : ChangeSpec := { name := "fnExactMembersOf", fn := fun _ => fun
  | [d] => { results := [.lit (.bool true)], args := [d] }
  | _ => none }
def fnExactMembersOfRow : OpenClaim := { program := "ytfehedaaenoleaa", sum := "b2f697f60a46ff5305d6c51de415fa021bf4728301061f68f4e62e6091c078fe", func := "loop.example/g01027/laws.FnExactMembersOf", spec := "fnExactMembersOf", apart := false }
def FnExactMembersOfSaid : Prop := fnExactMembersOfRow.holds Try.pinned (OpenSpec.ofChange fnExactMembersOfSpec)

/-- ITS FALSE NEIGHBOUR: 'it returns false'. Refute it at one input. -/
def fnExactMembersOfWrong : ChangeSpec := { name := "fnExactMembersOf", fn := fun _ => fun
  | [d] => { results := [.lit (.bool false)], args := [d] }
  | _ => none }
def FnExactMembersOfWrongFalsely : Prop := fnExactMembersOfRow.holds Try.pinned (OpenSpec.ofChange fnExactMembersOfWrong)

/-- 'laws.FnExactRoleOf': WHATEVER THE INPUT: true; the input reads as it did. -/
def fnExactRoleOfSpec : ChangeSpec := { name := "fnExactRoleOf", fn := fun _ => fun
  | [d1, d2] => { results := [.lit (.bool true)], args := [d1, d2] }
  | _ => none }
def fnExactRoleOfRow : OpenClaim := { program := "ytfehedaaenoleaa", sum := "b2f697f60a46ff5305d6c51de415fa021bf4728301061f68f4e62e6091c078fe", func := "loop.example/g01027/laws.FnExactRoleOf", spec := "fnExactRoleOf", apart := false }
def FnExactRoleOfSaid : Prop := fnExactRoleOfRow.holds Try.pinned (OpenSpec.ofChange fnExactRoleOfSpec)

/-- ITS FALSE NEIGHBOUR: 'it returns false'. Refute it at one input. -/
def fnExactRoleOfWrong : ChangeSpec := { name := "fnExactRoleOf", fn := fun _ => fun
  | [d1, d2] => { results := [.lit (.bool false)], args := [d1, d2] }
  | _ => none }
def FnExactRoleOfWrongFalsely : Prop := fnExactRoleOfRow.holds Try.pinned (OpenSpec.ofChange fnExactRoleOfWrong)

/-- 'laws.FnExactLossesBorne': WHATEVER THE INPUT: true; the input reads as it did. -/
def fnExactLossesBorneSpec : ChangeSpec := { name := "fnExactLossesBorne", fn := fun _ => fun
  | [d1, d2] => { results := [.lit (.bool true)], args := [d1, d2] }
  | _ => none }
def fnExactLossesBorneRow : OpenClaim := { program := "ytfehedaaenoleaa", sum := "b2f697f60a46ff5305d6c51de415fa021bf4728301061f68f4e62e6091c078fe", func := "loop.example/g01027/laws.FnExactLossesBorne", spec := "fnExactLossesBorne", apart := false }
def FnExactLossesBorneSaid : Prop := fnExactLossesBorneRow.holds Try.pinned (OpenSpec.ofChange fnExactLossesBorneSpec)

/-- ITS FALSE NEIGHBOUR: 'it returns false'. Refute it at one input. -/
def fnExactLossesBorneWrong : ChangeSpec := { name := "fnExactLossesBorne", fn := fun _ => fun
  | [d1, d2] => { results := [.lit (.bool false)], args := [d1, d2] }
  | _ => none }
def FnExactLossesBorneWrongFalsely : Prop := fnExactLossesBorneRow.holds Try.pinned (OpenSpec.ofChange fnExactLossesBorneWrong)

/-- 'laws.FnExactSwearJury': WHATEVER THE INPUT: true; the input reads as it did. -/
def fnExactSwearJurySpec : ChangeSpec := { name := "fnExactSwearJury", fn := fun _ => fun
  | [d1, d2, d3] => { results := [.lit (.bool true)], args := [d1, d2, d3] }
  | _ => none }
def fnExactSwearJuryRow : OpenClaim := { program := "ytfehedaaenoleaa", sum := "b2f697f60a46ff5305d6c51de415fa021bf4728301061f68f4e62e6091c078fe", func := "loop.example/g01027/laws.FnExactSwearJury", spec := "fnExactSwearJury", apart := false }
def FnExactSwearJurySaid : Prop := fnExactSwearJuryRow.holds Try.pinned (OpenSpec.ofChange fnExactSwearJurySpec)

/-- ITS FALSE NEIGHBOUR: 'it returns false'. Refute it at one input. -/
def fnExactSwearJuryWrong : ChangeSpec := { name := "fnExactSwearJury", fn := fun _ => fun
  | [d1, d2, d3] => { results := [.lit (.bool false)], args := [d1, d2, d3] }
  | _ => none }
def FnExactSwearJuryWrongFalsely : Prop := fnExactSwearJuryRow.holds Try.pinned (OpenSpec.ofChange fnExactSwearJuryWrong)

/-- 'laws.FnExactLeaveJury': WHATEVER THE INPUT: true; the input reads as it did. -/
def fnExactLeaveJurySpec : ChangeSpec := { name := "fnExactLeaveJury", fn := fun _ => fun
  | [d1, d2] => { results := [.lit (.bool true)], args := [d1, d2] }
  | _ => none }
def fnExactLeaveJuryRow : OpenClaim := { program := "ytfehedaaenoleaa", sum := "b2f697f60a46ff5305d6c51de415fa021bf4728301061f68f4e62e6091c078fe", func := "loop.example/g01027/laws.FnExactLeaveJury", spec := "fnExactLeaveJury", unfollowed := true, recurses := true, apart := false }
def FnExactLeaveJurySaid : Prop := fnExactLeaveJuryRow.holds Try.pinned (OpenSpec.ofChange fnExactLeaveJurySpec)

/-- ITS FALSE NEIGHBOUR: 'it returns false'. Refute it at one input. -/
def fnExactLeaveJuryWrong : ChangeSpec := { name := "fnExactLeaveJury", fn := fun _ => fun
  | [d1, d2] => { results := [.lit (.bool false)], args := [d1, d2] }
  | _ => none }
def FnExactLeaveJuryWrongFalsely : Prop := fnExactLeaveJuryRow.holds Try.pinned (OpenSpec.ofChange fnExactLeaveJuryWrong)

/-- 'laws.FnExactSeatHistory': WHATEVER THE INPUT: true; the input reads as it did. -/
def fnExactSeatHistorySpec : ChangeSpec := { name := "fnExactSeatHistory", fn := fun _ => fun
  | [d1, d2, d3] => { results := [.lit (.bool true)], args := [d1, d2, d3] }
  | _ => none }
def fnExactSeatHistoryRow : OpenClaim := { program := "ytfehedaaenoleaa", sum := "b2f697f60a46ff5305d6c51de415fa021bf4728301061f68f4e62e6091c078fe", func := "loop.example/g01027/laws.FnExactSeatHistory", spec := "fnExactSeatHistory", unfollowed := true, recurses := true, apart := false }
def FnExactSeatHistorySaid : Prop := fnExactSeatHistoryRow.holds Try.pinned (OpenSpec.ofChange fnExactSeatHistorySpec)

/-- ITS FALSE NEIGHBOUR: 'it returns false'. Refute it at one input. -/
def fnExactSeatHistoryWrong : ChangeSpec := { name := "fnExactSeatHistory", fn := fun _ => fun
  | [d1, d2, d3] => { results := [.lit (.bool false)], args := [d1, d2, d3] }
  | _ => none }
def FnExactSeatHistoryWrongFalsely : Prop := fnExactSeatHistoryRow.holds Try.pinned (OpenSpec.ofChange fnExactSeatHistoryWrong)

/-- 'laws.FnSeatHistories': WHATEVER THE INPUT: true; the input reads as it did. -/
def fnSeatHistoriesSpec : ChangeSpec := { name := "fnSeatHistories", fn := fun _ => fun
  | [d] => { results := [.lit (.bool true)], args := [d] }
  | _ => none }
def fnSeatHistoriesRow : OpenClaim := { program := "ytfehedaaenoleaa", sum := "b2f697f60a46ff5305d6c51de415fa021bf4728301061f68f4e62e6091c078fe", func := "loop.example/g01027/laws.FnSeatHistories", spec := "fnSeatHistories", unfollowed := true, recurses := true, apart := false }
def FnSeatHistoriesSaid : Prop := fnSeatHistoriesRow.holds Try.pinned (OpenSpec.ofChange fnSeatHistoriesSpec)

/-- ITS FALSE NEIGHBOUR: 'it returns false'. Refute it at one input. -/
def fnSeatHistoriesWrong : ChangeSpec := { name := "fnSeatHistories", fn := fun _ => fun
  | [d] => { results := [.lit (.bool false)], args := [d] }
  | _ => none }
def FnSeatHistoriesWrongFalsely : Prop := fnSeatHistoriesRow.holds Try.pinned (OpenSpec.ofChange fnSeatHistoriesWrong)

/-- 'laws.FnJuries': WHATEVER THE INPUT: true; the input reads as it did. -/
def fnJuriesSpec : ChangeSpec := { name := "fnJuries", fn := fun _ => fun
  | [d] => { results := [.lit (.bool true)], args := [d] }
  | _ => none }
def fnJuriesRow : OpenClaim := { program := "ytfehedaaenoleaa", sum := "b2f697f60a46ff5305d6c51de415fa021bf4728301061f68f4e62e6091c078fe", func := "loop.example/g01027/laws.FnJuries", spec := "fnJuries", unfollowed := true, recurses := true, apart := false }
def FnJuriesSaid : Prop := fnJuriesRow.holds Try.pinned (OpenSpec.ofChange fnJuriesSpec)

/-- ITS FALSE NEIGHBOUR: 'it returns false'. Refute it at one input. -/
def fnJuriesWrong : ChangeSpec := { name := "fnJuries", fn := fun _ => fun
  | [d] => { results := [.lit (.bool false)], args := [d] }
  | _ => none }
def FnJuriesWrongFalsely : Prop := fnJuriesRow.holds Try.pinned (OpenSpec.ofChange fnJuriesWrong)

/- THE SECOND FORM. 'bulk': how many values and letters a reading holds, each counted each time it is reached (what is shared counts as often as it is met; a slice's spare places count too). A statement '..UptoSaid' is the law's where the arguments, and the package variables that the reading takes, are together of bulk at most 1048576: NARROWER than '..Said'. Prove '..Said' where nothing that the law and all that it calls make is longer than what came in: it says more and counts as full. Else prove '..UptoSaid'. A law counts once. -/
mutual
def uptoBulk {H : Type} : DataW H → Nat
  | .lit (.string bytes) => bytes.length + 1
  | .lit _ => 1
  | .nil => 1
  | .ptr d => uptoBulk d + 1
  | .slice elems spare => uptoBulkAll elems + uptoBulkAll spare + 1
  | .agg parts => uptoBulkAll parts + 1
  | .iface _ d => uptoBulk d + 1
  | .map entries => uptoBulkEntries entries + 1
  | .held _ => 1
def uptoBulkAll {H : Type} : List (DataW H) → Nat
  | [] => 0
  | d :: r => uptoBulk d + uptoBulkAll r
def uptoBulkEntries {H : Type} : List (Lit × DataW H) → Nat
  | [] => 0
  | x :: r => uptoBulkEntry x + uptoBulkEntries r
def uptoBulkEntry {H : Type} : Lit × DataW H → Nat
  | (.string bytes, d) => bytes.length + uptoBulk d + 1
  | (_, d) => uptoBulk d + 1
 end
def uptoSmall : (H : Type) → List (DataW H) → Bool := fun _ ds => decide (uptoBulkAll ds ≤ 1048576)
def OpenSpec.upto (s : _root_.Go.ChangeSpec) : _root_.Go.OpenSpec := { _root_.Go.OpenSpec.ofChange s with cond := some uptoSmall }

/-- 'laws.FnExactIsJury', WHERE WHAT IT READS IS OF BULK AT MOST 1048576: true; the input reads as it did. -/
def fnExactIsJuryUptoRow : OpenClaim := { program := "ytfehedaaenoleaa", sum := "b2f697f60a46ff5305d6c51de415fa021bf4728301061f68f4e62e6091c078fe", func := "loop.example/g01027/laws.FnExactIsJury", spec := "fnExactIsJury", apart := false, narrowed := true }
def FnExactIsJuryUptoSaid : Prop := fnExactIsJuryUptoRow.holds Try.pinned (OpenSpec.upto fnExactIsJurySpec)

/-- 'laws.FnExactMayGoOn', WHERE WHAT IT READS IS OF BULK AT MOST 1048576: true; the input reads as it did. -/
def fnExactMayGoOnUptoRow : OpenClaim := { program := "ytfehedaaenoleaa", sum := "b2f697f60a46ff5305d6c51de415fa021bf4728301061f68f4e62e6091c078fe", func := "loop.example/g01027/laws.FnExactMayGoOn", spec := "fnExactMayGoOn", apart := false, narrowed := true }
def FnExactMayGoOnUptoSaid : Prop := fnExactMayGoOnUptoRow.holds Try.pinned (OpenSpec.upto fnExactMayGoOnSpec)

/-- 'laws.FnExactMembersOf', WHERE WHAT IT READS IS OF BULK AT MOST 1048576: true; the input reads as it did. -/
def fnExactMembersOfUptoRow : OpenClaim := { program := "ytfehedaaenoleaa", sum := "b2f697f60a46ff5305d6c51de415fa021bf4728301061f68f4e62e6091c078fe", func := "loop.example/g01027/laws.FnExactMembersOf", spec := "fnExactMembersOf", apart := false, narrowed := true }
def FnExactMembersOfUptoSaid : Prop := fnExactMembersOfUptoRow.holds Try.pinned (OpenSpec.upto fnExactMembersOfSpec)

/-- 'laws.FnExactRoleOf', WHERE WHAT IT READS IS OF BULK AT MOST 1048576: true; the input reads as it did. -/
def fnExactRoleOfUptoRow : OpenClaim := { program := "ytfehedaaenoleaa", sum := "b2f697f60a46ff5305d6c51de415fa021bf4728301061f68f4e62e6091c078fe", func := "loop.example/g01027/laws.FnExactRoleOf", spec := "fnExactRoleOf", apart := false, narrowed := true }
def FnExactRoleOfUptoSaid : Prop := fnExactRoleOfUptoRow.holds Try.pinned (OpenSpec.upto fnExactRoleOfSpec)

/-- 'laws.FnExactLossesBorne', WHERE WHAT IT READS IS OF BULK AT MOST 1048576: true; the input reads as it did. -/
def fnExactLossesBorneUptoRow : OpenClaim := { program := "ytfehedaaenoleaa", sum := "b2f697f60a46ff5305d6c51de415fa021bf4728301061f68f4e62e6091c078fe", func := "loop.example/g01027/laws.FnExactLossesBorne", spec := "fnExactLossesBorne", apart := false, narrowed := true }
def FnExactLossesBorneUptoSaid : Prop := fnExactLossesBorneUptoRow.holds Try.pinned (OpenSpec.upto fnExactLossesBorneSpec)

/-- 'laws.FnExactSwearJury', WHERE WHAT IT READS IS OF BULK AT MOST 1048576: true; the input reads as it did. -/
def fnExactSwearJuryUptoRow : OpenClaim := { program := "ytfehedaaenoleaa", sum := "b2f697f60a46ff5305d6c51de415fa021bf4728301061f68f4e62e6091c078fe", func := "loop.example/g01027/laws.FnExactSwearJury", spec := "fnExactSwearJury", apart := false, narrowed := true }
def FnExactSwearJuryUptoSaid : Prop := fnExactSwearJuryUptoRow.holds Try.pinned (OpenSpec.upto fnExactSwearJurySpec)

/-- 'laws.FnExactLeaveJury', WHERE WHAT IT READS IS OF BULK AT MOST 1048576: true; the input reads as it did. -/
def fnExactLeaveJuryUptoRow : OpenClaim := { program := "ytfehedaaenoleaa", sum := "b2f697f60a46ff5305d6c51de415fa021bf4728301061f68f4e62e6091c078fe", func := "loop.example/g01027/laws.FnExactLeaveJury", spec := "fnExactLeaveJury", unfollowed := true, recurses := true, apart := false, narrowed := true }
def FnExactLeaveJuryUptoSaid : Prop := fnExactLeaveJuryUptoRow.holds Try.pinned (OpenSpec.upto fnExactLeaveJurySpec)

/-- 'laws.FnExactSeatHistory', WHERE WHAT IT READS IS OF BULK AT MOST 1048576: true; the input reads as it did. -/
def fnExactSeatHistoryUptoRow : OpenClaim := { program := "ytfehedaaenoleaa", sum := "b2f697f60a46ff5305d6c51de415fa021bf4728301061f68f4e62e6091c078fe", func := "loop.example/g01027/laws.FnExactSeatHistory", spec := "fnExactSeatHistory", unfollowed := true, recurses := true, apart := false, narrowed := true }
def FnExactSeatHistoryUptoSaid : Prop := fnExactSeatHistoryUptoRow.holds Try.pinned (OpenSpec.upto fnExactSeatHistorySpec)

/-- 'laws.FnSeatHistories', WHERE WHAT IT READS IS OF BULK AT MOST 1048576: true; the input reads as it did. -/
def fnSeatHistoriesUptoRow : OpenClaim := { program := "ytfehedaaenoleaa", sum := "b2f697f60a46ff5305d6c51de415fa021bf4728301061f68f4e62e6091c078fe", func := "loop.example/g01027/laws.FnSeatHistories", spec := "fnSeatHistories", unfollowed := true, recurses := true, apart := false, narrowed := true }
def FnSeatHistoriesUptoSaid : Prop := fnSeatHistoriesUptoRow.holds Try.pinned (OpenSpec.upto fnSeatHistoriesSpec)

/-- 'laws.FnJuries', WHERE WHAT IT READS IS OF BULK AT MOST 1048576: true; the input reads as it did. -/
def fnJuriesUptoRow : OpenClaim := { program := "ytfehedaaenoleaa", sum := "b2f697f60a46ff5305d6c51de415fa021bf4728301061f68f4e62e6091c078fe", func := "loop.example/g01027/laws.FnJuries", spec := "fnJuries", unfollowed := true, recurses := true, apart := false, narrowed := true }
def FnJuriesUptoSaid : Prop := fnJuriesUptoRow.holds Try.pinned (OpenSpec.upto fnJuriesSpec)

end Rows
end Go.Proofs.Ytfehedaaenoleaa
