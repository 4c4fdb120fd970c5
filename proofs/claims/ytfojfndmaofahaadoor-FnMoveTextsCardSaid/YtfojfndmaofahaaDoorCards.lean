/-
  DERIVED. GIVEN WITH THE SEED: THE CARDS: each row of YtfojfndmaofahaaDoorRows.lean that lists a variable, with what it lists TIED to the program's text (the seventh form; the later family's looks); each row that meets fmt, with fmt's text TOLD by the authors' own Lean function (tested against real Go, not proved from fmt's source: count such statements apart). THE CARD IS WHAT COUNTS. Prove the row's statement (the work); the ties are given (YtfojfndmaofahaaDoorTie.lean); close each card by the builder's one call (the guide's Derived/Test/ToyasCard.lean, 'card_holds'). Laid BY PROGRAM, IN A SANDBOX (cutbox-door.mjs). By AI agents, Wed Nov 11 2026. No macro, syntax, notation, axiom, sorry.
-/
import Derived.Test.YtfojfndmaofahaaDoorRows
import GoSem.ClaimSeven
namespace Go.Proofs.YtfojfndmaofahaaDoor
namespace Rows

/-- THE TIED CARD OF 'laws.FnMoveTexts'. -/
def fnMoveTextsCard : Claim7 := { stood := { row := fnMoveTextsRow, standIns := [], harness := (true, "6af91588657f270730c9833e440211ef70d9c2acec61c396ae51ddf6de5123d1"), looks := true }, kinds := [], alts := [], laidByText := true, laidKinds := [.data, .data, .data, .data, .sentinel, .sentinel, .pinned], laidTests := true, laidLooks := .later }
def FnMoveTextsCardSaid : Prop := Claim7.holds Tryd.pinned (.plain (OpenSpec.ofChange fnMoveTextsSpec)) fnMoveTextsCard

/-- THE SECOND FORM's CARD OF 'laws.FnMoveTexts'. -/
def fnMoveTextsUptoCard : Claim7 := { stood := { row := fnMoveTextsUptoRow, standIns := [], harness := (true, "6af91588657f270730c9833e440211ef70d9c2acec61c396ae51ddf6de5123d1"), looks := true }, kinds := [], alts := [], laidByText := true, laidKinds := [.data, .data, .data, .data, .sentinel, .sentinel, .pinned], laidTests := true, laidLooks := .later }
def FnMoveTextsUptoCardSaid : Prop := Claim7.holds Tryd.pinned (.plain (OpenSpec.upto fnMoveTextsSpec)) fnMoveTextsUptoCard
end Rows
end Go.Proofs.YtfojfndmaofahaaDoor
