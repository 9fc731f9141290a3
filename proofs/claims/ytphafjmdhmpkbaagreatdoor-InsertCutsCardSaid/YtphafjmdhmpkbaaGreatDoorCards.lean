/-
  DERIVED. GIVEN WITH THE SEED: THE CARDS: each row of YtphafjmdhmpkbaaGreatDoorRows.lean that lists a variable, with what it lists TIED to the program's text (the seventh form; the later family's looks); each row that meets fmt, with fmt's text TOLD by the authors' own Lean function (tested against real Go, not proved from fmt's source: count such statements apart). THE CARD IS WHAT COUNTS. Prove the row's statement (the work); the ties are given (YtphafjmdhmpkbaaGreatDoorTie.lean); close each card by the builder's one call (the guide's Derived/Test/ToyasCard.lean, 'card_holds'). Laid BY PROGRAM, IN A SANDBOX (cutbox-door.mjs). By AI agents, Wed Nov 11 2026. No macro, syntax, notation, axiom, sorry.
-/
import Derived.Test.YtphafjmdhmpkbaaGreatDoorRows
import GoSem.ClaimSeven
namespace Go.Proofs.YtphafjmdhmpkbaaGreatDoor
namespace Rows

/-- THE TIED CARD OF 'scriniumlaw13.InsertCuts'. -/
def insertCutsCard : Claim7 := { stood := { row := insertCutsRow, standIns := [], harness := (true, "d0c1b29c23f7dc5b8808e2dc009f8349b2d3b114472b8e6927c4fe7b3d261dbe"), looks := true }, kinds := [], alts := [], laidByText := true, laidKinds := [.sentinel, .sentinel, .sentinel, .sentinel, .sentinel, .sentinel], laidTests := true, laidLooks := .later }
def InsertCutsCardSaid : Prop := Claim7.holds Tryz.pinned (.plain (OpenSpec.ofChange insertCutsSpec)) insertCutsCard

/-- THE TIED CARD OF 'scriniumlaw15.BulkHeavy'. -/
def bulkHeavyCard : Claim7 := { stood := { row := bulkHeavyRow, standIns := [], harness := (true, "d0c1b29c23f7dc5b8808e2dc009f8349b2d3b114472b8e6927c4fe7b3d261dbe"), looks := true }, kinds := [], alts := [], laidByText := true, laidKinds := [.sentinel, .sentinel, .sentinel, .sentinel, .sentinel, .sentinel], laidTests := true, laidLooks := .later }
def BulkHeavyCardSaid : Prop := Claim7.holds Tryz.pinned (.plain (OpenSpec.ofChange bulkHeavySpec)) bulkHeavyCard

/-- THE TIED CARD OF 'scriniumlaw13.InsertPlays'. -/
def insertPlaysCard : Claim7 := { stood := { row := insertPlaysRow, standIns := [], harness := (true, "d0c1b29c23f7dc5b8808e2dc009f8349b2d3b114472b8e6927c4fe7b3d261dbe"), looks := true }, kinds := [], alts := [], laidByText := true, laidKinds := [.sentinel, .sentinel, .sentinel, .sentinel, .sentinel, .sentinel, .sentinel, .sentinel, .sentinel], laidTests := true, laidLooks := .later }
def InsertPlaysCardSaid : Prop := Claim7.holds Tryz.pinned (.plain (OpenSpec.ofChange insertPlaysSpec)) insertPlaysCard

/-- THE TIED CARD OF 'scriniumlaw15.BulkDiffs'. -/
def bulkDiffsCard : Claim7 := { stood := { row := bulkDiffsRow, standIns := [], harness := (true, "d0c1b29c23f7dc5b8808e2dc009f8349b2d3b114472b8e6927c4fe7b3d261dbe"), looks := true }, kinds := [], alts := [], laidByText := true, laidKinds := [.sentinel, .sentinel, .sentinel, .sentinel, .sentinel, .sentinel], laidTests := true, laidLooks := .later }
def BulkDiffsCardSaid : Prop := Claim7.holds Tryz.pinned (.plain (OpenSpec.ofChange bulkDiffsSpec)) bulkDiffsCard

/-- THE TIED CARD OF 'scriniumlaw13.InsertKeeps'. -/
def insertKeepsCard : Claim7 := { stood := { row := insertKeepsRow, standIns := [], harness := (true, "d0c1b29c23f7dc5b8808e2dc009f8349b2d3b114472b8e6927c4fe7b3d261dbe"), looks := true }, kinds := [], alts := [], laidByText := true, laidKinds := [.sentinel, .sentinel, .sentinel, .sentinel, .sentinel, .sentinel, .sentinel, .sentinel, .sentinel], laidTests := true, laidLooks := .later }
def InsertKeepsCardSaid : Prop := Claim7.holds Tryz.pinned (.plain (OpenSpec.ofChange insertKeepsSpec)) insertKeepsCard

/-- THE TIED CARD OF 'scriniumlaw13.InsertFull'. -/
def insertFullCard : Claim7 := { stood := { row := insertFullRow, standIns := [], harness := (true, "d0c1b29c23f7dc5b8808e2dc009f8349b2d3b114472b8e6927c4fe7b3d261dbe"), looks := true }, kinds := [], alts := [], laidByText := true, laidKinds := [.sentinel, .sentinel, .sentinel, .sentinel, .sentinel, .sentinel, .sentinel, .sentinel, .sentinel], laidTests := true, laidLooks := .later }
def InsertFullCardSaid : Prop := Claim7.holds Tryz.pinned (.plain (OpenSpec.ofChange insertFullSpec)) insertFullCard

/-- THE TIED CARD OF 'scriniumlaw15.BulkLoads'. -/
def bulkLoadsCard : Claim7 := { stood := { row := bulkLoadsRow, standIns := [], harness := (true, "d0c1b29c23f7dc5b8808e2dc009f8349b2d3b114472b8e6927c4fe7b3d261dbe"), looks := true }, kinds := [], alts := [], laidByText := true, laidKinds := [.sentinel, .sentinel, .sentinel, .sentinel, .sentinel, .sentinel], laidTests := true, laidLooks := .later }
def BulkLoadsCardSaid : Prop := Claim7.holds Tryz.pinned (.plain (OpenSpec.ofChange bulkLoadsSpec)) bulkLoadsCard

/-- THE TIED CARD OF 'scriniumlaw15.BulkCompacts'. -/
def bulkCompactsCard : Claim7 := { stood := { row := bulkCompactsRow, standIns := [], harness := (true, "d0c1b29c23f7dc5b8808e2dc009f8349b2d3b114472b8e6927c4fe7b3d261dbe"), looks := true }, kinds := [], alts := [], laidByText := true, laidKinds := [.sentinel, .sentinel, .sentinel, .sentinel, .sentinel, .sentinel], laidTests := true, laidLooks := .later }
def BulkCompactsCardSaid : Prop := Claim7.holds Tryz.pinned (.plain (OpenSpec.ofChange bulkCompactsSpec)) bulkCompactsCard

/-- THE TIED CARD OF 'scriniumlaw15.BulkRefuses'. -/
def bulkRefusesCard : Claim7 := { stood := { row := bulkRefusesRow, standIns := [], harness := (true, "d0c1b29c23f7dc5b8808e2dc009f8349b2d3b114472b8e6927c4fe7b3d261dbe"), looks := true }, kinds := [], alts := [], laidByText := true, laidKinds := [.sentinel, .sentinel, .sentinel, .sentinel, .sentinel, .sentinel, .sentinel, .sentinel, .sentinel], laidTests := true, laidLooks := .later }
def BulkRefusesCardSaid : Prop := Claim7.holds Tryz.pinned (.plain (OpenSpec.ofChange bulkRefusesSpec)) bulkRefusesCard

/-- THE SECOND FORM's CARD OF 'scriniumlaw13.InsertCuts'. -/
def insertCutsUptoCard : Claim7 := { stood := { row := insertCutsUptoRow, standIns := [], harness := (true, "d0c1b29c23f7dc5b8808e2dc009f8349b2d3b114472b8e6927c4fe7b3d261dbe"), looks := true }, kinds := [], alts := [], laidByText := true, laidKinds := [.sentinel, .sentinel, .sentinel, .sentinel, .sentinel, .sentinel], laidTests := true, laidLooks := .later }
def InsertCutsUptoCardSaid : Prop := Claim7.holds Tryz.pinned (.plain (OpenSpec.upto insertCutsSpec)) insertCutsUptoCard

/-- THE SECOND FORM's CARD OF 'scriniumlaw15.BulkHeavy'. -/
def bulkHeavyUptoCard : Claim7 := { stood := { row := bulkHeavyUptoRow, standIns := [], harness := (true, "d0c1b29c23f7dc5b8808e2dc009f8349b2d3b114472b8e6927c4fe7b3d261dbe"), looks := true }, kinds := [], alts := [], laidByText := true, laidKinds := [.sentinel, .sentinel, .sentinel, .sentinel, .sentinel, .sentinel], laidTests := true, laidLooks := .later }
def BulkHeavyUptoCardSaid : Prop := Claim7.holds Tryz.pinned (.plain (OpenSpec.upto bulkHeavySpec)) bulkHeavyUptoCard

/-- THE SECOND FORM's CARD OF 'scriniumlaw13.InsertPlays'. -/
def insertPlaysUptoCard : Claim7 := { stood := { row := insertPlaysUptoRow, standIns := [], harness := (true, "d0c1b29c23f7dc5b8808e2dc009f8349b2d3b114472b8e6927c4fe7b3d261dbe"), looks := true }, kinds := [], alts := [], laidByText := true, laidKinds := [.sentinel, .sentinel, .sentinel, .sentinel, .sentinel, .sentinel, .sentinel, .sentinel, .sentinel], laidTests := true, laidLooks := .later }
def InsertPlaysUptoCardSaid : Prop := Claim7.holds Tryz.pinned (.plain (OpenSpec.upto insertPlaysSpec)) insertPlaysUptoCard

/-- THE SECOND FORM's CARD OF 'scriniumlaw15.BulkDiffs'. -/
def bulkDiffsUptoCard : Claim7 := { stood := { row := bulkDiffsUptoRow, standIns := [], harness := (true, "d0c1b29c23f7dc5b8808e2dc009f8349b2d3b114472b8e6927c4fe7b3d261dbe"), looks := true }, kinds := [], alts := [], laidByText := true, laidKinds := [.sentinel, .sentinel, .sentinel, .sentinel, .sentinel, .sentinel], laidTests := true, laidLooks := .later }
def BulkDiffsUptoCardSaid : Prop := Claim7.holds Tryz.pinned (.plain (OpenSpec.upto bulkDiffsSpec)) bulkDiffsUptoCard

/-- THE SECOND FORM's CARD OF 'scriniumlaw13.InsertKeeps'. -/
def insertKeepsUptoCard : Claim7 := { stood := { row := insertKeepsUptoRow, standIns := [], harness := (true, "d0c1b29c23f7dc5b8808e2dc009f8349b2d3b114472b8e6927c4fe7b3d261dbe"), looks := true }, kinds := [], alts := [], laidByText := true, laidKinds := [.sentinel, .sentinel, .sentinel, .sentinel, .sentinel, .sentinel, .sentinel, .sentinel, .sentinel], laidTests := true, laidLooks := .later }
def InsertKeepsUptoCardSaid : Prop := Claim7.holds Tryz.pinned (.plain (OpenSpec.upto insertKeepsSpec)) insertKeepsUptoCard

/-- THE SECOND FORM's CARD OF 'scriniumlaw13.InsertFull'. -/
def insertFullUptoCard : Claim7 := { stood := { row := insertFullUptoRow, standIns := [], harness := (true, "d0c1b29c23f7dc5b8808e2dc009f8349b2d3b114472b8e6927c4fe7b3d261dbe"), looks := true }, kinds := [], alts := [], laidByText := true, laidKinds := [.sentinel, .sentinel, .sentinel, .sentinel, .sentinel, .sentinel, .sentinel, .sentinel, .sentinel], laidTests := true, laidLooks := .later }
def InsertFullUptoCardSaid : Prop := Claim7.holds Tryz.pinned (.plain (OpenSpec.upto insertFullSpec)) insertFullUptoCard

/-- THE SECOND FORM's CARD OF 'scriniumlaw15.BulkLoads'. -/
def bulkLoadsUptoCard : Claim7 := { stood := { row := bulkLoadsUptoRow, standIns := [], harness := (true, "d0c1b29c23f7dc5b8808e2dc009f8349b2d3b114472b8e6927c4fe7b3d261dbe"), looks := true }, kinds := [], alts := [], laidByText := true, laidKinds := [.sentinel, .sentinel, .sentinel, .sentinel, .sentinel, .sentinel], laidTests := true, laidLooks := .later }
def BulkLoadsUptoCardSaid : Prop := Claim7.holds Tryz.pinned (.plain (OpenSpec.upto bulkLoadsSpec)) bulkLoadsUptoCard

/-- THE SECOND FORM's CARD OF 'scriniumlaw15.BulkCompacts'. -/
def bulkCompactsUptoCard : Claim7 := { stood := { row := bulkCompactsUptoRow, standIns := [], harness := (true, "d0c1b29c23f7dc5b8808e2dc009f8349b2d3b114472b8e6927c4fe7b3d261dbe"), looks := true }, kinds := [], alts := [], laidByText := true, laidKinds := [.sentinel, .sentinel, .sentinel, .sentinel, .sentinel, .sentinel], laidTests := true, laidLooks := .later }
def BulkCompactsUptoCardSaid : Prop := Claim7.holds Tryz.pinned (.plain (OpenSpec.upto bulkCompactsSpec)) bulkCompactsUptoCard

/-- THE SECOND FORM's CARD OF 'scriniumlaw15.BulkRefuses'. -/
def bulkRefusesUptoCard : Claim7 := { stood := { row := bulkRefusesUptoRow, standIns := [], harness := (true, "d0c1b29c23f7dc5b8808e2dc009f8349b2d3b114472b8e6927c4fe7b3d261dbe"), looks := true }, kinds := [], alts := [], laidByText := true, laidKinds := [.sentinel, .sentinel, .sentinel, .sentinel, .sentinel, .sentinel, .sentinel, .sentinel, .sentinel], laidTests := true, laidLooks := .later }
def BulkRefusesUptoCardSaid : Prop := Claim7.holds Tryz.pinned (.plain (OpenSpec.upto bulkRefusesSpec)) bulkRefusesUptoCard
end Rows
end Go.Proofs.YtphafjmdhmpkbaaGreatDoor
