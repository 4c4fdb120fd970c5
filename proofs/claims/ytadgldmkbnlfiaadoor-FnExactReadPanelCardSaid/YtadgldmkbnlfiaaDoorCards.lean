/-
  DERIVED. GIVEN WITH THE SEED: THE CARDS: each row of YtadgldmkbnlfiaaDoorRows.lean that lists a variable, with what it lists TIED to the program's text (the seventh form; the later family's looks); each row that meets fmt, with fmt's text TOLD by the authors' own Lean function (tested against real Go, not proved from fmt's source: count such statements apart). THE CARD IS WHAT COUNTS. Prove the row's statement (the work); the ties are given (YtadgldmkbnlfiaaDoorTie.lean); close each card by the builder's one call (the guide's Derived/Test/ToyasCard.lean, 'card_holds'). Laid BY PROGRAM, IN A SANDBOX (cutbox-door.mjs). By AI agents, Wed Nov 11 2026. No macro, syntax, notation, axiom, sorry.
-/
import Derived.Test.YtadgldmkbnlfiaaDoorRows
import GoSem.ClaimSeven
namespace Go.Proofs.YtadgldmkbnlfiaaDoor
namespace Rows

/-- THE TIED CARD OF 'laws.FnExactReadMoves'. -/
def fnExactReadMovesCard : Claim7 := { stood := { row := fnExactReadMovesRow, standIns := [], harness := (true, "29a9c2aad3d0b18bb2eb64ee39034afd590dfcdfca1c8c6a6d92a5707d902998"), looks := true }, kinds := [], alts := [], laidByText := true, laidKinds := [.data, .data, .data, .data, .sentinel, .sentinel, .pinned], laidTests := true, laidLooks := .later }
def FnExactReadMovesCardSaid : Prop := Claim7.holds Tryd.pinned (.plain (OpenSpec.ofChange fnExactReadMovesSpec)) fnExactReadMovesCard

/-- THE TIED CARD OF 'laws.FnExactReadPanel'. -/
def fnExactReadPanelCard : Claim7 := { stood := { row := fnExactReadPanelRow, standIns := [], harness := (true, "29a9c2aad3d0b18bb2eb64ee39034afd590dfcdfca1c8c6a6d92a5707d902998"), looks := true }, kinds := [], alts := [], laidByText := true, laidKinds := [.data, .data, .data, .data, .sentinel, .sentinel, .pinned], laidTests := true, laidLooks := .later }
def FnExactReadPanelCardSaid : Prop := Claim7.holds Tryd.pinned (.plain (OpenSpec.ofChange fnExactReadPanelSpec)) fnExactReadPanelCard

/-- THE SECOND FORM's CARD OF 'laws.FnExactReadMoves'. -/
def fnExactReadMovesUptoCard : Claim7 := { stood := { row := fnExactReadMovesUptoRow, standIns := [], harness := (true, "29a9c2aad3d0b18bb2eb64ee39034afd590dfcdfca1c8c6a6d92a5707d902998"), looks := true }, kinds := [], alts := [], laidByText := true, laidKinds := [.data, .data, .data, .data, .sentinel, .sentinel, .pinned], laidTests := true, laidLooks := .later }
def FnExactReadMovesUptoCardSaid : Prop := Claim7.holds Tryd.pinned (.plain (OpenSpec.upto fnExactReadMovesSpec)) fnExactReadMovesUptoCard

/-- THE SECOND FORM's CARD OF 'laws.FnExactReadPanel'. -/
def fnExactReadPanelUptoCard : Claim7 := { stood := { row := fnExactReadPanelUptoRow, standIns := [], harness := (true, "29a9c2aad3d0b18bb2eb64ee39034afd590dfcdfca1c8c6a6d92a5707d902998"), looks := true }, kinds := [], alts := [], laidByText := true, laidKinds := [.data, .data, .data, .data, .sentinel, .sentinel, .pinned], laidTests := true, laidLooks := .later }
def FnExactReadPanelUptoCardSaid : Prop := Claim7.holds Tryd.pinned (.plain (OpenSpec.upto fnExactReadPanelSpec)) fnExactReadPanelUptoCard
end Rows
end Go.Proofs.YtadgldmkbnlfiaaDoor
