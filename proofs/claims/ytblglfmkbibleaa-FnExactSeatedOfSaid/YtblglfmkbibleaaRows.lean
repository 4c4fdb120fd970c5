/-
  No cell of these rows narrows 'for every input' (looked for: loops, veiled, ifaces, maps, wideKeys, modest, calm, conditions, laid).
  DERIVED. THE GIVEN ROWS OF THIS SEAT. 9 by the template 'for every input the law returns true; each argument reads behind the call as it read before'; 0 by the template 'total and deterministic' (their statements: YtblglfmkbibleaaTotals.lean).
  GIVEN WITH THE SEED: the statements are not yours to turn. If you find one false, say at which input.
  Laid BY PROGRAM, IN A SANDBOX (cutbox-rows.mjs): the forced cells as the released guide's own fill.sh prints them over the translation 67f215d97eb6ff9e… (all of the seat's roots in one cut). By AI agents, Wed Nov 11 2026. No macro, syntax, notation, axiom, sorry.
-/
import Derived.Test.YtblglfmkbibleaaChecked
import GoSem.Claim
import GoSem.ClaimJoined
import GoSem.ClaimMapViews
import Derived.JoinedTies
import Derived.KernelRfl
namespace Go.Proofs.Ytblglfmkbibleaa
/- THE CELL 'sum', in the pinned program and in every row, IS THE sha256 OF THE DUMP (.gsa) THAT YtblglfmkbibleaaProg.lean LOADS. Nothing in Lean hashes anything: it is a label: what it is worth is what the hold of that sum in a sandbox is worth. -/
noncomputable def Try.pinned : Pinned := { name := "ytblglfmkbibleaa", sum := "67f215d97eb6ff9e1bfb3fe07a647218323fac27ce0c425fe9024681314208ea", checked := Try.checked }
namespace Rows
def none {H : Type} : Left H := { results := [], args := [] }

/-- 'laws.FnExactIsFull': WHATEVER THE INPUT: true; the input reads as it did. -/
def fnExactIsFullSpec : ChangeSpec := { name := "fnExactIsFull", fn := fun _ => fun
  | [d] => { results := [.lit (.bool true)], args := [d] }
  | _ => none }
def fnExactIsFullRow : OpenClaim := { program := "ytblglfmkbibleaa", sum := "67f215d97eb6ff9e1bfb3fe07a647218323fac27ce0c425fe9024681314208ea", func := "loop.example/g01027/laws.FnExactIsFull", spec := "fnExactIsFull", apart := false }
def FnExactIsFullSaid : Prop := fnExactIsFullRow.holds Try.pinned (OpenSpec.ofChange fnExactIsFullSpec)

/-- ITS FALSE NEIGHBOUR: 'it returns false'. Refute it at one input. -/
def fnExactIsFullWrong : ChangeSpec := { name := "fnExactIsFull", fn := fun _ => fun
  | [d] => { results := [.lit (.bool false)], args := [d] }
  | _ => none }
def FnExactIsFullWrongFalsely : Prop := fnExactIsFullRow.holds Try.pinned (OpenSpec.ofChange fnExactIsFullWrong)

/-- 'laws.FnExactGoneBefore': WHATEVER THE INPUT: true; the input reads as it did. -/
def fnExactGoneBeforeSpec : ChangeSpec := { name := "fnExactGoneBefore", fn := fun _ => fun
  | [d1, d2] => { results := [.lit (.bool true)], args := [d1, d2] }
  | _ => none }
def fnExactGoneBeforeRow : OpenClaim := { program := "ytblglfmkbibleaa", sum := "67f215d97eb6ff9e1bfb3fe07a647218323fac27ce0c425fe9024681314208ea", func := "loop.example/g01027/laws.FnExactGoneBefore", spec := "fnExactGoneBefore", apart := false }
def FnExactGoneBeforeSaid : Prop := fnExactGoneBeforeRow.holds Try.pinned (OpenSpec.ofChange fnExactGoneBeforeSpec)

/-- ITS FALSE NEIGHBOUR: 'it returns false'. Refute it at one input. -/
def fnExactGoneBeforeWrong : ChangeSpec := { name := "fnExactGoneBefore", fn := fun _ => fun
  | [d1, d2] => { results := [.lit (.bool false)], args := [d1, d2] }
  | _ => none }
def FnExactGoneBeforeWrongFalsely : Prop := fnExactGoneBeforeRow.holds Try.pinned (OpenSpec.ofChange fnExactGoneBeforeWrong)

/-- 'laws.FnExactSeatOf': WHATEVER THE INPUT: true; the input reads as it did. -/
def fnExactSeatOfSpec : ChangeSpec := { name := "fnExactSeatOf", fn := fun _ => fun
  | [d1, d2] => { results := [.lit (.bool true)], args := [d1, d2] }
  | _ => none }
def fnExactSeatOfRow : OpenClaim := { program := "ytblglfmkbibleaa", sum := "67f215d97eb6ff9e1bfb3fe07a647218323fac27ce0c425fe9024681314208ea", func := "loop.example/g01027/laws.FnExactSeatOf", spec := "fnExactSeatOf", apart := false }
def FnExactSeatOfSaid : Prop := fnExactSeatOfRow.holds Try.pinned (OpenSpec.ofChange fnExactSeatOfSpec)

/-- ITS FALSE NEIGHBOUR: 'it returns false'. Refute it at one input. -/
def fnExactSeatOfWrong : ChangeSpec := { name := "fnExactSeatOf", fn := fun _ => fun
  | [d1, d2] => { results := [.lit (.bool false)], args := [d1, d2] }
  | _ => none }
def FnExactSeatOfWrongFalsely : Prop := fnExactSeatOfRow.holds Try.pinned (OpenSpec.ofChange fnExactSeatOfWrong)

/-- 'laws.FnExactMakePanel': WHATEVER THE INPUT: true; the input reads as it did. -/
def fnExactMakePanelSpec : ChangeSpec := { name := "fnExactMakePanel", fn := fun _ => fun
  | [d1, d2] => { results := [.lit (.bool true)], args := [d1, d2] }
  | _ => none }
def fnExactMakePanelRow : OpenClaim := { program := "ytblglfmkbibleaa", sum := "67f215d97eb6ff9e1bfb3fe07a647218323fac27ce0c425fe9024681314208ea", func := "loop.example/g01027/laws.FnExactMakePanel", spec := "fnExactMakePanel", apart := false }
def FnExactMakePanelSaid : Prop := fnExactMakePanelRow.holds Try.pinned (OpenSpec.ofChange fnExactMakePanelSpec)

/-- ITS FALSE NEIGHBOUR: 'it returns false'. Refute it at one input. -/
def fnExactMakePanelWrong : ChangeSpec := { name := "fnExactMakePanel", fn := fun _ => fun
  | [d1, d2] => { results := [.lit (.bool false)], args := [d1, d2] }
  | _ => none }
def FnExactMakePanelWrongFalsely : Prop := fnExactMakePanelRow.holds Try.pinned (OpenSpec.ofChange fnExactMakePanelWrong)

/-- 'laws.FnExactSeatedOf': WHATEVER THE INPUT: true; the input reads as it did. -/
def fnExactSeatedOfSpec : ChangeSpec := { name := "fnExactSeatedOf", fn := fun _ => fun
  | [d] => { results := [.lit (.bool true)], args := [d] }
  | _ => none }
def fnExactSeatedOfRow : OpenClaim := { program := "ytblglfmkbibleaa", sum := "67f215d97eb6ff9e1bfb3fe07a647218323fac27ce0c425fe9024681314208ea", func := "loop.example/g01027/laws.FnExactSeatedOf", spec := "fnExactSeatedOf", apart := false }
def FnExactSeatedOfSaid : Prop := fnExactSeatedOfRow.holds Try.pinned (OpenSpec.ofChange fnExactSeatedOfSpec)

/-- ITS FALSE NEIGHBOUR: 'it returns false'. Refute it at one input. -/
def fnExactSeatedOfWrong : ChangeSpec := { name := "fnExactSeatedOf", fn := fun _ => fun
  | [d] => { results := [.lit (.bool false)], args := [d] }
  | _ => none }
def FnExactSeatedOfWrongFalsely : Prop := fnExactSeatedOfRow.holds Try.pinned (OpenSpec.ofChange fnExactSeatedOfWrong)

/-- 'laws.FnExactEmptySeat': WHATEVER THE INPUT: true; the input reads as it did. -/
def fnExactEmptySeatSpec : ChangeSpec := { name := "fnExactEmptySeat", fn := fun _ => fun
  | [d1, d2] => { results := [.lit (.bool true)], args := [d1, d2] }
  | _ => none }
def fnExactEmptySeatRow : OpenClaim := { program := "ytblglfmkbibleaa", sum := "67f215d97eb6ff9e1bfb3fe07a647218323fac27ce0c425fe9024681314208ea", func := "loop.example/g01027/laws.FnExactEmptySeat", spec := "fnExactEmptySeat", apart := false }
def FnExactEmptySeatSaid : Prop := fnExactEmptySeatRow.holds Try.pinned (OpenSpec.ofChange fnExactEmptySeatSpec)

/-- ITS FALSE NEIGHBOUR: 'it returns false'. Refute it at one input. -/
def fnExactEmptySeatWrong : ChangeSpec := { name := "fnExactEmptySeat", fn := fun _ => fun
  | [d1, d2] => { results := [.lit (.bool false)], args := [d1, d2] }
  | _ => none }
def FnExactEmptySeatWrongFalsely : Prop := fnExactEmptySeatRow.holds Try.pinned (OpenSpec.ofChange fnExactEmptySeatWrong)

/-- 'laws.FnExactDropWaiting': WHATEVER THE INPUT: true; the input reads as it did. -/
def fnExactDropWaitingSpec : ChangeSpec := { name := "fnExactDropWaiting", fn := fun _ => fun
  | [d1, d2] => { results := [.lit (.bool true)], args := [d1, d2] }
  | _ => none }
def fnExactDropWaitingRow : OpenClaim := { program := "ytblglfmkbibleaa", sum := "67f215d97eb6ff9e1bfb3fe07a647218323fac27ce0c425fe9024681314208ea", func := "loop.example/g01027/laws.FnExactDropWaiting", spec := "fnExactDropWaiting", unfollowed := true, recurses := true, apart := false }
def FnExactDropWaitingSaid : Prop := fnExactDropWaitingRow.holds Try.pinned (OpenSpec.ofChange fnExactDropWaitingSpec)

/-- ITS FALSE NEIGHBOUR: 'it returns false'. Refute it at one input. -/
def fnExactDropWaitingWrong : ChangeSpec := { name := "fnExactDropWaiting", fn := fun _ => fun
  | [d1, d2] => { results := [.lit (.bool false)], args := [d1, d2] }
  | _ => none }
def FnExactDropWaitingWrongFalsely : Prop := fnExactDropWaitingRow.holds Try.pinned (OpenSpec.ofChange fnExactDropWaitingWrong)

/-- 'laws.FnSeats': WHATEVER THE INPUT: true; the input reads as it did. -/
def fnSeatsSpec : ChangeSpec := { name := "fnSeats", fn := fun _ => fun
  | [d] => { results := [.lit (.bool true)], args := [d] }
  | _ => none }
def fnSeatsRow : OpenClaim := { program := "ytblglfmkbibleaa", sum := "67f215d97eb6ff9e1bfb3fe07a647218323fac27ce0c425fe9024681314208ea", func := "loop.example/g01027/laws.FnSeats", spec := "fnSeats", apart := false }
def FnSeatsSaid : Prop := fnSeatsRow.holds Try.pinned (OpenSpec.ofChange fnSeatsSpec)

/-- ITS FALSE NEIGHBOUR: 'it returns false'. Refute it at one input. -/
def fnSeatsWrong : ChangeSpec := { name := "fnSeats", fn := fun _ => fun
  | [d] => { results := [.lit (.bool false)], args := [d] }
  | _ => none }
def FnSeatsWrongFalsely : Prop := fnSeatsRow.holds Try.pinned (OpenSpec.ofChange fnSeatsWrong)

/-- 'laws.FnPanels': WHATEVER THE INPUT: true; the input reads as it did. -/
def fnPanelsSpec : ChangeSpec := { name := "fnPanels", fn := fun _ => fun
  | [d] => { results := [.lit (.bool true)], args := [d] }
  | _ => none }
def fnPanelsRow : OpenClaim := { program := "ytblglfmkbibleaa", sum := "67f215d97eb6ff9e1bfb3fe07a647218323fac27ce0c425fe9024681314208ea", func := "loop.example/g01027/laws.FnPanels", spec := "fnPanels", unfollowed := true, recurses := true, apart := false }
def FnPanelsSaid : Prop := fnPanelsRow.holds Try.pinned (OpenSpec.ofChange fnPanelsSpec)

/-- ITS FALSE NEIGHBOUR: 'it returns false'. Refute it at one input. -/
def fnPanelsWrong : ChangeSpec := { name := "fnPanels", fn := fun _ => fun
  | [d] => { results := [.lit (.bool false)], args := [d] }
  | _ => none }
def FnPanelsWrongFalsely : Prop := fnPanelsRow.holds Try.pinned (OpenSpec.ofChange fnPanelsWrong)

/- THE SECOND FORM. 'bulk': how many values and letters a reading holds, each counted each time it is reached (what is shared counts as often as it is met; a slice's spare places count too). A statement '..UptoSaid' is the law's where the arguments, and the package variables that the reading takes, are together of bulk at most 1048576: NARROWER than '..Said'. Prove '..Said' where nothing that the law and all that it calls make is longer than what came in: it says more and counts as full. Else prove '..UptoSaid'. A law counts once. -/
mutual
def uptoBulk {H : Type} : DataW H → Nat
  | .lit (.string bytes) => bytes.length + 1
  | .lit _ => 1
  | .nil => 1
  | .ptr d => uptoBulk d + 1
  | .slice elems spare => uptoBulkAll elems + uptoBulkAll spare + 1
  | .agg parts => uptoBulkAll parts + 1
  | .iface _ d => uptoBulk d + 1
  | .map entries => uptoBulkEntries entries + 1
  | .held _ => 1
def uptoBulkAll {H : Type} : List (DataW H) → Nat
  | [] => 0
  | d :: r => uptoBulk d + uptoBulkAll r
def uptoBulkEntries {H : Type} : List (Lit × DataW H) → Nat
  | [] => 0
  | x :: r => uptoBulkEntry x + uptoBulkEntries r
def uptoBulkEntry {H : Type} : Lit × DataW H → Nat
  | (.string bytes, d) => bytes.length + uptoBulk d + 1
  | (_, d) => uptoBulk d + 1
 end
def uptoSmall : (H : Type) → List (DataW H) → Bool := fun _ ds => decide (uptoBulkAll ds ≤ 1048576)
def OpenSpec.upto (s : _root_.Go.ChangeSpec) : _root_.Go.OpenSpec := { _root_.Go.OpenSpec.ofChange s with cond := some uptoSmall }

/-- 'laws.FnExactIsFull', WHERE WHAT IT READS IS OF BULK AT MOST 1048576: true; the input reads as it did. -/
def fnExactIsFullUptoRow : OpenClaim := { program := "ytblglfmkbibleaa", sum := "67f215d97eb6ff9e1bfb3fe07a647218323fac27ce0c425fe9024681314208ea", func := "loop.example/g01027/laws.FnExactIsFull", spec := "fnExactIsFull", apart := false, narrowed := true }
def FnExactIsFullUptoSaid : Prop := fnExactIsFullUptoRow.holds Try.pinned (OpenSpec.upto fnExactIsFullSpec)

/-- 'laws.FnExactGoneBefore', WHERE WHAT IT READS IS OF BULK AT MOST 1048576: true; the input reads as it did. -/
def fnExactGoneBeforeUptoRow : OpenClaim := { program := "ytblglfmkbibleaa", sum := "67f215d97eb6ff9e1bfb3fe07a647218323fac27ce0c425fe9024681314208ea", func := "loop.example/g01027/laws.FnExactGoneBefore", spec := "fnExactGoneBefore", apart := false, narrowed := true }
def FnExactGoneBeforeUptoSaid : Prop := fnExactGoneBeforeUptoRow.holds Try.pinned (OpenSpec.upto fnExactGoneBeforeSpec)

/-- 'laws.FnExactSeatOf', WHERE WHAT IT READS IS OF BULK AT MOST 1048576: true; the input reads as it did. -/
def fnExactSeatOfUptoRow : OpenClaim := { program := "ytblglfmkbibleaa", sum := "67f215d97eb6ff9e1bfb3fe07a647218323fac27ce0c425fe9024681314208ea", func := "loop.example/g01027/laws.FnExactSeatOf", spec := "fnExactSeatOf", apart := false, narrowed := true }
def FnExactSeatOfUptoSaid : Prop := fnExactSeatOfUptoRow.holds Try.pinned (OpenSpec.upto fnExactSeatOfSpec)

/-- 'laws.FnExactMakePanel', WHERE WHAT IT READS IS OF BULK AT MOST 1048576: true; the input reads as it did. -/
def fnExactMakePanelUptoRow : OpenClaim := { program := "ytblglfmkbibleaa", sum := "67f215d97eb6ff9e1bfb3fe07a647218323fac27ce0c425fe9024681314208ea", func := "loop.example/g01027/laws.FnExactMakePanel", spec := "fnExactMakePanel", apart := false, narrowed := true }
def FnExactMakePanelUptoSaid : Prop := fnExactMakePanelUptoRow.holds Try.pinned (OpenSpec.upto fnExactMakePanelSpec)

/-- 'laws.FnExactSeatedOf', WHERE WHAT IT READS IS OF BULK AT MOST 1048576: true; the input reads as it did. -/
def fnExactSeatedOfUptoRow : OpenClaim := { program := "ytblglfmkbibleaa", sum := "67f215d97eb6ff9e1bfb3fe07a647218323fac27ce0c425fe9024681314208ea", func := "loop.example/g01027/laws.FnExactSeatedOf", spec := "fnExactSeatedOf", apart := false, narrowed := true }
def FnExactSeatedOfUptoSaid : Prop := fnExactSeatedOfUptoRow.holds Try.pinned (OpenSpec.upto fnExactSeatedOfSpec)

/-- 'laws.FnExactEmptySeat', WHERE WHAT IT READS IS OF BULK AT MOST 1048576: true; the input reads as it did. -/
def fnExactEmptySeatUptoRow : OpenClaim := { program := "ytblglfmkbibleaa", sum := "67f215d97eb6ff9e1bfb3fe07a647218323fac27ce0c425fe9024681314208ea", func := "loop.example/g01027/laws.FnExactEmptySeat", spec := "fnExactEmptySeat", apart := false, narrowed := true }
def FnExactEmptySeatUptoSaid : Prop := fnExactEmptySeatUptoRow.holds Try.pinned (OpenSpec.upto fnExactEmptySeatSpec)

/-- 'laws.FnExactDropWaiting', WHERE WHAT IT READS IS OF BULK AT MOST 1048576: true; the input reads as it did. -/
def fnExactDropWaitingUptoRow : OpenClaim := { program := "ytblglfmkbibleaa", sum := "67f215d97eb6ff9e1bfb3fe07a647218323fac27ce0c425fe9024681314208ea", func := "loop.example/g01027/laws.FnExactDropWaiting", spec := "fnExactDropWaiting", unfollowed := true, recurses := true, apart := false, narrowed := true }
def FnExactDropWaitingUptoSaid : Prop := fnExactDropWaitingUptoRow.holds Try.pinned (OpenSpec.upto fnExactDropWaitingSpec)

/-- 'laws.FnSeats', WHERE WHAT IT READS IS OF BULK AT MOST 1048576: true; the input reads as it did. -/
def fnSeatsUptoRow : OpenClaim := { program := "ytblglfmkbibleaa", sum := "67f215d97eb6ff9e1bfb3fe07a647218323fac27ce0c425fe9024681314208ea", func := "loop.example/g01027/laws.FnSeats", spec := "fnSeats", apart := false, narrowed := true }
def FnSeatsUptoSaid : Prop := fnSeatsUptoRow.holds Try.pinned (OpenSpec.upto fnSeatsSpec)

/-- 'laws.FnPanels', WHERE WHAT IT READS IS OF BULK AT MOST 1048576: true; the input reads as it did. -/
def fnPanelsUptoRow : OpenClaim := { program := "ytblglfmkbibleaa", sum := "67f215d97eb6ff9e1bfb3fe07a647218323fac27ce0c425fe9024681314208ea", func := "loop.example/g01027/laws.FnPanels", spec := "fnPanels", unfollowed := true, recurses := true, apart := false, narrowed := true }
def FnPanelsUptoSaid : Prop := fnPanelsUptoRow.holds Try.pinned (OpenSpec.upto fnPanelsSpec)

end Rows
end Go.Proofs.Ytblglfmkbibleaa
