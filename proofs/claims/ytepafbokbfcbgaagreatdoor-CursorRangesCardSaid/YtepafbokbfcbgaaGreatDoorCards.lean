/-
  DERIVED. GIVEN WITH THE SEED: THE CARDS: each row of YtepafbokbfcbgaaGreatDoorRows.lean that lists a variable, with what it lists TIED to the program's text (the seventh form; the later family's looks); each row that meets fmt, with fmt's text TOLD by the authors' own Lean function (tested against real Go, not proved from fmt's source: count such statements apart). THE CARD IS WHAT COUNTS. Prove the row's statement (the work); the ties are given (YtepafbokbfcbgaaGreatDoorTie.lean); close each card by the builder's one call (the guide's Derived/Test/ToyasCard.lean, 'card_holds'). Laid BY PROGRAM, IN A SANDBOX (cutbox-door.mjs). By AI agents, Wed Nov 11 2026. No macro, syntax, notation, axiom, sorry.
-/
import Derived.Test.YtepafbokbfcbgaaGreatDoorRows
import GoSem.ClaimSeven
namespace Go.Proofs.YtepafbokbfcbgaaGreatDoor
namespace Rows

/-- THE TIED CARD OF 'scriniumlaw11.LookupWalks'. -/
def lookupWalksCard : Claim7 := { stood := { row := lookupWalksRow, standIns := [], harness := (true, "b1fed8aa70caee98556d0e079d77f5916c9e01db97527363a0fa0f91c1f5983e"), looks := true }, kinds := [], alts := [], laidByText := true, laidKinds := [.sentinel, .sentinel, .sentinel, .sentinel, .sentinel], laidTests := true, laidLooks := .later }
def LookupWalksCardSaid : Prop := Claim7.holds Tryz.pinned (.plain (OpenSpec.ofChange lookupWalksSpec)) lookupWalksCard

/-- THE TIED CARD OF 'scriniumlaw12.CursorFalls'. -/
def cursorFallsCard : Claim7 := { stood := { row := cursorFallsRow, standIns := [], harness := (true, "b1fed8aa70caee98556d0e079d77f5916c9e01db97527363a0fa0f91c1f5983e"), looks := true }, kinds := [], alts := [], laidByText := true, laidKinds := [.sentinel, .sentinel, .sentinel, .sentinel, .sentinel, .sentinel, .sentinel, .sentinel, .sentinel], laidTests := true, laidLooks := .later }
def CursorFallsCardSaid : Prop := Claim7.holds Tryz.pinned (.plain (OpenSpec.ofChange cursorFallsSpec)) cursorFallsCard

/-- THE TIED CARD OF 'scriniumlaw12.CursorBack'. -/
def cursorBackCard : Claim7 := { stood := { row := cursorBackRow, standIns := [], harness := (true, "b1fed8aa70caee98556d0e079d77f5916c9e01db97527363a0fa0f91c1f5983e"), looks := true }, kinds := [], alts := [], laidByText := true, laidKinds := [.sentinel, .sentinel, .sentinel, .sentinel, .sentinel, .sentinel, .sentinel, .sentinel, .sentinel], laidTests := true, laidLooks := .later }
def CursorBackCardSaid : Prop := Claim7.holds Tryz.pinned (.plain (OpenSpec.ofChange cursorBackSpec)) cursorBackCard

/-- THE TIED CARD OF 'scriniumlaw12.CursorPlays'. -/
def cursorPlaysCard : Claim7 := { stood := { row := cursorPlaysRow, standIns := [], harness := (true, "b1fed8aa70caee98556d0e079d77f5916c9e01db97527363a0fa0f91c1f5983e"), looks := true }, kinds := [], alts := [], laidByText := true, laidKinds := [.sentinel, .sentinel, .sentinel, .sentinel, .sentinel, .sentinel, .sentinel, .sentinel, .sentinel], laidTests := true, laidLooks := .later }
def CursorPlaysCardSaid : Prop := Claim7.holds Tryz.pinned (.plain (OpenSpec.ofChange cursorPlaysSpec)) cursorPlaysCard

/-- THE TIED CARD OF 'scriniumlaw12.CursorAll'. -/
def cursorAllCard : Claim7 := { stood := { row := cursorAllRow, standIns := [], harness := (true, "b1fed8aa70caee98556d0e079d77f5916c9e01db97527363a0fa0f91c1f5983e"), looks := true }, kinds := [], alts := [], laidByText := true, laidKinds := [.sentinel, .sentinel, .sentinel, .sentinel, .sentinel, .sentinel, .sentinel, .sentinel, .sentinel], laidTests := true, laidLooks := .later }
def CursorAllCardSaid : Prop := Claim7.holds Tryz.pinned (.plain (OpenSpec.ofChange cursorAllSpec)) cursorAllCard

/-- THE TIED CARD OF 'scriniumlaw12.CursorRanges'. -/
def cursorRangesCard : Claim7 := { stood := { row := cursorRangesRow, standIns := [], harness := (true, "b1fed8aa70caee98556d0e079d77f5916c9e01db97527363a0fa0f91c1f5983e"), looks := true }, kinds := [], alts := [], laidByText := true, laidKinds := [.sentinel, .sentinel, .sentinel, .sentinel, .sentinel, .sentinel, .sentinel, .sentinel, .sentinel], laidTests := true, laidLooks := .later }
def CursorRangesCardSaid : Prop := Claim7.holds Tryz.pinned (.plain (OpenSpec.ofChange cursorRangesSpec)) cursorRangesCard

/-- THE TIED CARD OF 'scriniumlaw12.CursorRefuses'. -/
def cursorRefusesCard : Claim7 := { stood := { row := cursorRefusesRow, standIns := [], harness := (true, "b1fed8aa70caee98556d0e079d77f5916c9e01db97527363a0fa0f91c1f5983e"), looks := true }, kinds := [], alts := [], laidByText := true, laidKinds := [.sentinel, .sentinel, .sentinel, .sentinel, .sentinel, .sentinel, .sentinel, .sentinel, .sentinel], laidTests := true, laidLooks := .later }
def CursorRefusesCardSaid : Prop := Claim7.holds Tryz.pinned (.plain (OpenSpec.ofChange cursorRefusesSpec)) cursorRefusesCard

/-- THE TIED CARD OF 'scriniumlaw11.LookupSpoilt'. -/
def lookupSpoiltCard : Claim7 := { stood := { row := lookupSpoiltRow, standIns := [], harness := (true, "b1fed8aa70caee98556d0e079d77f5916c9e01db97527363a0fa0f91c1f5983e"), looks := true }, kinds := [], alts := [], laidByText := true, laidKinds := [.sentinel, .sentinel, .sentinel, .sentinel, .sentinel, .sentinel, .sentinel, .sentinel, .sentinel], laidTests := true, laidLooks := .later }
def LookupSpoiltCardSaid : Prop := Claim7.holds Tryz.pinned (.plain (OpenSpec.ofChange lookupSpoiltSpec)) lookupSpoiltCard

/-- THE SECOND FORM's CARD OF 'scriniumlaw11.LookupWalks'. -/
def lookupWalksUptoCard : Claim7 := { stood := { row := lookupWalksUptoRow, standIns := [], harness := (true, "b1fed8aa70caee98556d0e079d77f5916c9e01db97527363a0fa0f91c1f5983e"), looks := true }, kinds := [], alts := [], laidByText := true, laidKinds := [.sentinel, .sentinel, .sentinel, .sentinel, .sentinel], laidTests := true, laidLooks := .later }
def LookupWalksUptoCardSaid : Prop := Claim7.holds Tryz.pinned (.plain (OpenSpec.upto lookupWalksSpec)) lookupWalksUptoCard

/-- THE SECOND FORM's CARD OF 'scriniumlaw12.CursorFalls'. -/
def cursorFallsUptoCard : Claim7 := { stood := { row := cursorFallsUptoRow, standIns := [], harness := (true, "b1fed8aa70caee98556d0e079d77f5916c9e01db97527363a0fa0f91c1f5983e"), looks := true }, kinds := [], alts := [], laidByText := true, laidKinds := [.sentinel, .sentinel, .sentinel, .sentinel, .sentinel, .sentinel, .sentinel, .sentinel, .sentinel], laidTests := true, laidLooks := .later }
def CursorFallsUptoCardSaid : Prop := Claim7.holds Tryz.pinned (.plain (OpenSpec.upto cursorFallsSpec)) cursorFallsUptoCard

/-- THE SECOND FORM's CARD OF 'scriniumlaw12.CursorBack'. -/
def cursorBackUptoCard : Claim7 := { stood := { row := cursorBackUptoRow, standIns := [], harness := (true, "b1fed8aa70caee98556d0e079d77f5916c9e01db97527363a0fa0f91c1f5983e"), looks := true }, kinds := [], alts := [], laidByText := true, laidKinds := [.sentinel, .sentinel, .sentinel, .sentinel, .sentinel, .sentinel, .sentinel, .sentinel, .sentinel], laidTests := true, laidLooks := .later }
def CursorBackUptoCardSaid : Prop := Claim7.holds Tryz.pinned (.plain (OpenSpec.upto cursorBackSpec)) cursorBackUptoCard

/-- THE SECOND FORM's CARD OF 'scriniumlaw12.CursorPlays'. -/
def cursorPlaysUptoCard : Claim7 := { stood := { row := cursorPlaysUptoRow, standIns := [], harness := (true, "b1fed8aa70caee98556d0e079d77f5916c9e01db97527363a0fa0f91c1f5983e"), looks := true }, kinds := [], alts := [], laidByText := true, laidKinds := [.sentinel, .sentinel, .sentinel, .sentinel, .sentinel, .sentinel, .sentinel, .sentinel, .sentinel], laidTests := true, laidLooks := .later }
def CursorPlaysUptoCardSaid : Prop := Claim7.holds Tryz.pinned (.plain (OpenSpec.upto cursorPlaysSpec)) cursorPlaysUptoCard

/-- THE SECOND FORM's CARD OF 'scriniumlaw12.CursorAll'. -/
def cursorAllUptoCard : Claim7 := { stood := { row := cursorAllUptoRow, standIns := [], harness := (true, "b1fed8aa70caee98556d0e079d77f5916c9e01db97527363a0fa0f91c1f5983e"), looks := true }, kinds := [], alts := [], laidByText := true, laidKinds := [.sentinel, .sentinel, .sentinel, .sentinel, .sentinel, .sentinel, .sentinel, .sentinel, .sentinel], laidTests := true, laidLooks := .later }
def CursorAllUptoCardSaid : Prop := Claim7.holds Tryz.pinned (.plain (OpenSpec.upto cursorAllSpec)) cursorAllUptoCard

/-- THE SECOND FORM's CARD OF 'scriniumlaw12.CursorRanges'. -/
def cursorRangesUptoCard : Claim7 := { stood := { row := cursorRangesUptoRow, standIns := [], harness := (true, "b1fed8aa70caee98556d0e079d77f5916c9e01db97527363a0fa0f91c1f5983e"), looks := true }, kinds := [], alts := [], laidByText := true, laidKinds := [.sentinel, .sentinel, .sentinel, .sentinel, .sentinel, .sentinel, .sentinel, .sentinel, .sentinel], laidTests := true, laidLooks := .later }
def CursorRangesUptoCardSaid : Prop := Claim7.holds Tryz.pinned (.plain (OpenSpec.upto cursorRangesSpec)) cursorRangesUptoCard

/-- THE SECOND FORM's CARD OF 'scriniumlaw12.CursorRefuses'. -/
def cursorRefusesUptoCard : Claim7 := { stood := { row := cursorRefusesUptoRow, standIns := [], harness := (true, "b1fed8aa70caee98556d0e079d77f5916c9e01db97527363a0fa0f91c1f5983e"), looks := true }, kinds := [], alts := [], laidByText := true, laidKinds := [.sentinel, .sentinel, .sentinel, .sentinel, .sentinel, .sentinel, .sentinel, .sentinel, .sentinel], laidTests := true, laidLooks := .later }
def CursorRefusesUptoCardSaid : Prop := Claim7.holds Tryz.pinned (.plain (OpenSpec.upto cursorRefusesSpec)) cursorRefusesUptoCard

/-- THE SECOND FORM's CARD OF 'scriniumlaw11.LookupSpoilt'. -/
def lookupSpoiltUptoCard : Claim7 := { stood := { row := lookupSpoiltUptoRow, standIns := [], harness := (true, "b1fed8aa70caee98556d0e079d77f5916c9e01db97527363a0fa0f91c1f5983e"), looks := true }, kinds := [], alts := [], laidByText := true, laidKinds := [.sentinel, .sentinel, .sentinel, .sentinel, .sentinel, .sentinel, .sentinel, .sentinel, .sentinel], laidTests := true, laidLooks := .later }
def LookupSpoiltUptoCardSaid : Prop := Claim7.holds Tryz.pinned (.plain (OpenSpec.upto lookupSpoiltSpec)) lookupSpoiltUptoCard
end Rows
end Go.Proofs.YtepafbokbfcbgaaGreatDoor
