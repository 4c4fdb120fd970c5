/-
  DERIVED. GIVEN WITH THE SEED: THE CARDS: each row of YtfojfndmaofahaaGreatDoorRows.lean that lists a variable, with what it lists TIED to the program's text (the seventh form; the later family's looks); each row that meets fmt, with fmt's text TOLD by the authors' own Lean function (tested against real Go, not proved from fmt's source: count such statements apart). THE CARD IS WHAT COUNTS. Prove the row's statement (the work); the ties are given (YtfojfndmaofahaaGreatDoorTie.lean); close each card by the builder's one call (the guide's Derived/Test/ToyasCard.lean, 'card_holds'). Laid BY PROGRAM, IN A SANDBOX (cutbox-door.mjs). By AI agents, Wed Nov 11 2026. No macro, syntax, notation, axiom, sorry.
-/
import Derived.Test.YtfojfndmaofahaaGreatDoorRows
import GoSem.ClaimSeven
namespace Go.Proofs.YtfojfndmaofahaaGreatDoor
namespace Rows

/-- THE TIED CARD OF 'laws.FnPanelTexts'. -/
def fnPanelTextsCard : Claim7 := { stood := { row := fnPanelTextsRow, standIns := [], harness := (true, "f57907589075249e704462a060b014d011ad0a5bb0ab04aaee9cb055f3bff20a"), looks := true }, kinds := [], alts := [], laidByText := true, laidKinds := [.data, .data, .data, .data, .sentinel, .sentinel, .pinned], laidTests := true, laidLooks := .later }
def FnPanelTextsCardSaid : Prop := Claim7.holds Tryz.pinned (.plain (OpenSpec.ofChange fnPanelTextsSpec)) fnPanelTextsCard

/-- THE TIED CARD OF 'laws.FnExactReadRecord'. -/
def fnExactReadRecordCard : Claim7 := { stood := { row := fnExactReadRecordRow, standIns := [], harness := (true, "f57907589075249e704462a060b014d011ad0a5bb0ab04aaee9cb055f3bff20a"), looks := true }, kinds := [], alts := [], laidByText := true, laidKinds := [.data, .data, .data, .data, .sentinel, .sentinel, .pinned], laidTests := true, laidLooks := .later }
def FnExactReadRecordCardSaid : Prop := Claim7.holds Tryz.pinned (.plain (OpenSpec.ofChange fnExactReadRecordSpec)) fnExactReadRecordCard

/-- THE TIED CARD OF 'laws.FnRecordTexts'. -/
def fnRecordTextsCard : Claim7 := { stood := { row := fnRecordTextsRow, standIns := [], harness := (true, "f57907589075249e704462a060b014d011ad0a5bb0ab04aaee9cb055f3bff20a"), looks := true }, kinds := [], alts := [], laidByText := true, laidKinds := [.data, .data, .data, .data, .sentinel, .sentinel, .pinned], laidTests := true, laidLooks := .later }
def FnRecordTextsCardSaid : Prop := Claim7.holds Tryz.pinned (.plain (OpenSpec.ofChange fnRecordTextsSpec)) fnRecordTextsCard

/-- THE SECOND FORM's CARD OF 'laws.FnPanelTexts'. -/
def fnPanelTextsUptoCard : Claim7 := { stood := { row := fnPanelTextsUptoRow, standIns := [], harness := (true, "f57907589075249e704462a060b014d011ad0a5bb0ab04aaee9cb055f3bff20a"), looks := true }, kinds := [], alts := [], laidByText := true, laidKinds := [.data, .data, .data, .data, .sentinel, .sentinel, .pinned], laidTests := true, laidLooks := .later }
def FnPanelTextsUptoCardSaid : Prop := Claim7.holds Tryz.pinned (.plain (OpenSpec.upto fnPanelTextsSpec)) fnPanelTextsUptoCard

/-- THE SECOND FORM's CARD OF 'laws.FnExactReadRecord'. -/
def fnExactReadRecordUptoCard : Claim7 := { stood := { row := fnExactReadRecordUptoRow, standIns := [], harness := (true, "f57907589075249e704462a060b014d011ad0a5bb0ab04aaee9cb055f3bff20a"), looks := true }, kinds := [], alts := [], laidByText := true, laidKinds := [.data, .data, .data, .data, .sentinel, .sentinel, .pinned], laidTests := true, laidLooks := .later }
def FnExactReadRecordUptoCardSaid : Prop := Claim7.holds Tryz.pinned (.plain (OpenSpec.upto fnExactReadRecordSpec)) fnExactReadRecordUptoCard

/-- THE SECOND FORM's CARD OF 'laws.FnRecordTexts'. -/
def fnRecordTextsUptoCard : Claim7 := { stood := { row := fnRecordTextsUptoRow, standIns := [], harness := (true, "f57907589075249e704462a060b014d011ad0a5bb0ab04aaee9cb055f3bff20a"), looks := true }, kinds := [], alts := [], laidByText := true, laidKinds := [.data, .data, .data, .data, .sentinel, .sentinel, .pinned], laidTests := true, laidLooks := .later }
def FnRecordTextsUptoCardSaid : Prop := Claim7.holds Tryz.pinned (.plain (OpenSpec.upto fnRecordTextsSpec)) fnRecordTextsUptoCard
end Rows
end Go.Proofs.YtfojfndmaofahaaGreatDoor
