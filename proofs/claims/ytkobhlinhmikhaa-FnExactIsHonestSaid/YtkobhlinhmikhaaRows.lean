/-
  No cell of these rows narrows 'for every input' (looked for: loops, veiled, ifaces, maps, wideKeys, modest, calm, conditions, laid).
  DERIVED. THE GIVEN ROWS OF THIS SEAT. 2 by the template 'for every input the law returns true; each argument reads behind the call as it read before'; 0 by the template 'total and deterministic' (their statements: YtkobhlinhmikhaaTotals.lean).
  GIVEN WITH THE SEED: the statements are not yours to turn. If you find one false, say at which input.
  Laid BY PROGRAM, IN A SANDBOX (cutbox-rows.mjs): the forced cells as the released guide's own fill.sh prints them over the translation 283bf9be595d793f… (all of the seat's roots in one cut). By AI agents, Wed Nov 11 2026. No macro, syntax, notation, axiom, sorry.
-/
import Derived.Test.YtkobhlinhmikhaaChecked
import GoSem.Claim
import GoSem.ClaimJoined
import GoSem.ClaimMapViews
import Derived.JoinedTies
import Derived.KernelRfl
namespace Go.Proofs.Ytkobhlinhmikhaa
/- THE CELL 'sum', in the pinned program and in every row, IS THE sha256 OF THE DUMP (.gsa) THAT YtkobhlinhmikhaaProg.lean LOADS. Nothing in Lean hashes anything: it is a label: what it is worth is what the hold of that sum in a sandbox is worth. -/
noncomputable def Try.pinned : Pinned := { name := "ytkobhlinhmikhaa", sum := "283bf9be595d793f30f58edc5cefc071598c3bd8df01daf51cc76983da9caa1a", checked := Try.checked }
namespace Rows
def none {H : Type} : Left H := { results := [], args := [] }

/-- 'laws.FnExactIsRecord': WHATEVER THE INPUT: true; the input reads as it did. -/
def fnExactIsRecordSpec : ChangeSpec := { name := "fnExactIsRecord", fn := fun _ => fun
  | [d] => { results := [.lit (.bool true)], args := [d] }
  | _ => none }
def fnExactIsRecordRow : OpenClaim := { program := "ytkobhlinhmikhaa", sum := "283bf9be595d793f30f58edc5cefc071598c3bd8df01daf51cc76983da9caa1a", func := "loop.example/g01027/laws.FnExactIsRecord", spec := "fnExactIsRecord", apart := false }
def FnExactIsRecordSaid : Prop := fnExactIsRecordRow.holds Try.pinned (OpenSpec.ofChange fnExactIsRecordSpec)

/-- ITS FALSE NEIGHBOUR: 'it returns false'. Refute it at one input. -/
def fnExactIsRecordWrong : ChangeSpec := { name := "fnExactIsRecord", fn := fun _ => fun
  | [d] => { results := [.lit (.bool false)], args := [d] }
  | _ => none }
def FnExactIsRecordWrongFalsely : Prop := fnExactIsRecordRow.holds Try.pinned (OpenSpec.ofChange fnExactIsRecordWrong)

/-- 'laws.FnExactIsHonest': WHATEVER THE INPUT: true; the input reads as it did. -/
def fnExactIsHonestSpec : ChangeSpec := { name := "fnExactIsHonest", fn := fun _ => fun
  | [d] => { results := [.lit (.bool true)], args := [d] }
  | _ => none }
def fnExactIsHonestRow : OpenClaim := { program := "ytkobhlinhmikhaa", sum := "283bf9be595d793f30f58edc5cefc071598c3bd8df01daf51cc76983da9caa1a", func := "loop.example/g01027/laws.FnExactIsHonest", spec := "fnExactIsHonest", apart := false }
def FnExactIsHonestSaid : Prop := fnExactIsHonestRow.holds Try.pinned (OpenSpec.ofChange fnExactIsHonestSpec)

/-- ITS FALSE NEIGHBOUR: 'it returns false'. Refute it at one input. -/
def fnExactIsHonestWrong : ChangeSpec := { name := "fnExactIsHonest", fn := fun _ => fun
  | [d] => { results := [.lit (.bool false)], args := [d] }
  | _ => none }
def FnExactIsHonestWrongFalsely : Prop := fnExactIsHonestRow.holds Try.pinned (OpenSpec.ofChange fnExactIsHonestWrong)

/- THE SECOND FORM. 'bulk': how many values and letters a reading holds, each counted each time it is reached (what is shared counts as often as it is met; a slice's spare places count too). A statement '..UptoSaid' is the law's where the arguments, and the package variables that the reading takes, are together of bulk at most 1048576: NARROWER than '..Said'. Prove '..Said' where nothing that the law and all that it calls make is longer than what came in: it says more and counts as full. Else prove '..UptoSaid'. A law counts once. -/
mutual
def uptoBulk {H : Type} : DataW H → Nat
  | .lit (.string bytes) => bytes.length + 1
  | .lit _ => 1
  | .nil => 1
  | .ptr d => uptoBulk d + 1
  | .slice elems spare => uptoBulkAll elems + uptoBulkAll spare + 1
  | .agg parts => uptoBulkAll parts + 1
  | .iface _ d => uptoBulk d + 1
  | .map entries => uptoBulkEntries entries + 1
  | .held _ => 1
def uptoBulkAll {H : Type} : List (DataW H) → Nat
  | [] => 0
  | d :: r => uptoBulk d + uptoBulkAll r
def uptoBulkEntries {H : Type} : List (Lit × DataW H) → Nat
  | [] => 0
  | x :: r => uptoBulkEntry x + uptoBulkEntries r
def uptoBulkEntry {H : Type} : Lit × DataW H → Nat
  | (.string bytes, d) => bytes.length + uptoBulk d + 1
  | (_, d) => uptoBulk d + 1
 end
def uptoSmall : (H : Type) → List (DataW H) → Bool := fun _ ds => decide (uptoBulkAll ds ≤ 1048576)
def OpenSpec.upto (s : _root_.Go.ChangeSpec) : _root_.Go.OpenSpec := { _root_.Go.OpenSpec.ofChange s with cond := some uptoSmall }

/-- 'laws.FnExactIsRecord', WHERE WHAT IT READS IS OF BULK AT MOST 1048576: true; the input reads as it did. -/
def fnExactIsRecordUptoRow : OpenClaim := { program := "ytkobhlinhmikhaa", sum := "283bf9be595d793f30f58edc5cefc071598c3bd8df01daf51cc76983da9caa1a", func := "loop.example/g01027/laws.FnExactIsRecord", spec := "fnExactIsRecord", apart := false, narrowed := true }
def FnExactIsRecordUptoSaid : Prop := fnExactIsRecordUptoRow.holds Try.pinned (OpenSpec.upto fnExactIsRecordSpec)

/-- 'laws.FnExactIsHonest', WHERE WHAT IT READS IS OF BULK AT MOST 1048576: true; the input reads as it did. -/
def fnExactIsHonestUptoRow : OpenClaim := { program := "ytkobhlinhmikhaa", sum := "283bf9be595d793f30f58edc5cefc071598c3bd8df01daf51cc76983da9caa1a", func := "loop.example/g01027/laws.FnExactIsHonest", spec := "fnExactIsHonest", apart := false, narrowed := true }
def FnExactIsHonestUptoSaid : Prop := fnExactIsHonestUptoRow.holds Try.pinned (OpenSpec.upto fnExactIsHonestSpec)

end Rows
end Go.Proofs.Ytkobhlinhmikhaa
