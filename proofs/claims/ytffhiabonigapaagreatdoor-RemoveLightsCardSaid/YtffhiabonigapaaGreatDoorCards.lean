/-
  DERIVED. GIVEN WITH THE SEED: THE CARDS: each row of YtffhiabonigapaaGreatDoorRows.lean that lists a variable, with what it lists TIED to the program's text (the seventh form; the later family's looks); each row that meets fmt, with fmt's text TOLD by the authors' own Lean function (tested against real Go, not proved from fmt's source: count such statements apart). THE CARD IS WHAT COUNTS. Prove the row's statement (the work); the ties are given (YtffhiabonigapaaGreatDoorTie.lean); close each card by the builder's one call (the guide's Derived/Test/ToyasCard.lean, 'card_holds'). Laid BY PROGRAM, IN A SANDBOX (cutbox-door.mjs). By AI agents, Wed Nov 11 2026. No macro, syntax, notation, axiom, sorry.
-/
import Derived.Test.YtffhiabonigapaaGreatDoorRows
import GoSem.ClaimSeven
namespace Go.Proofs.YtffhiabonigapaaGreatDoor
namespace Rows

/-- THE TIED CARD OF 'scriniumlaw13.InsertCuts'. -/
def insertCutsCard : Claim7 := { stood := { row := insertCutsRow, standIns := [], harness := (true, "216a836e78aede947db1fe6c37065ee05e54a316b1b016dbf012af4a05814dbd"), looks := true }, kinds := [], alts := [], laidByText := true, laidKinds := [.sentinel, .sentinel, .sentinel, .sentinel, .sentinel, .sentinel], laidTests := true, laidLooks := .later }
def InsertCutsCardSaid : Prop := Claim7.holds Tryz.pinned (.plain (OpenSpec.ofChange insertCutsSpec)) insertCutsCard

/-- THE TIED CARD OF 'scriniumlaw13.InsertRefuses'. -/
def insertRefusesCard : Claim7 := { stood := { row := insertRefusesRow, standIns := [], harness := (true, "216a836e78aede947db1fe6c37065ee05e54a316b1b016dbf012af4a05814dbd"), looks := true }, kinds := [], alts := [], laidByText := true, laidKinds := [.sentinel, .sentinel, .sentinel, .sentinel, .sentinel, .sentinel, .sentinel, .sentinel, .sentinel], laidTests := true, laidLooks := .later }
def InsertRefusesCardSaid : Prop := Claim7.holds Tryz.pinned (.plain (OpenSpec.ofChange insertRefusesSpec)) insertRefusesCard

/-- THE TIED CARD OF 'scriniumlaw13.InsertDowns'. -/
def insertDownsCard : Claim7 := { stood := { row := insertDownsRow, standIns := [], harness := (true, "216a836e78aede947db1fe6c37065ee05e54a316b1b016dbf012af4a05814dbd"), looks := true }, kinds := [], alts := [], laidByText := true, laidKinds := [.sentinel, .sentinel, .sentinel, .sentinel, .sentinel, .sentinel, .sentinel, .sentinel, .sentinel], laidTests := true, laidLooks := .later }
def InsertDownsCardSaid : Prop := Claim7.holds Tryz.pinned (.plain (OpenSpec.ofChange insertDownsSpec)) insertDownsCard

/-- THE TIED CARD OF 'scriniumlaw14.RemoveLights'. -/
def removeLightsCard : Claim7 := { stood := { row := removeLightsRow, standIns := [], harness := (true, "216a836e78aede947db1fe6c37065ee05e54a316b1b016dbf012af4a05814dbd"), looks := true }, kinds := [], alts := [], laidByText := true, laidKinds := [.sentinel, .sentinel, .sentinel, .sentinel, .sentinel, .sentinel], laidTests := true, laidLooks := .later }
def RemoveLightsCardSaid : Prop := Claim7.holds Tryz.pinned (.plain (OpenSpec.ofChange removeLightsSpec)) removeLightsCard

/-- THE TIED CARD OF 'scriniumlaw14.RemoveJoins'. -/
def removeJoinsCard : Claim7 := { stood := { row := removeJoinsRow, standIns := [], harness := (true, "216a836e78aede947db1fe6c37065ee05e54a316b1b016dbf012af4a05814dbd"), looks := true }, kinds := [], alts := [], laidByText := true, laidKinds := [.sentinel, .sentinel, .sentinel, .sentinel, .sentinel, .sentinel], laidTests := true, laidLooks := .later }
def RemoveJoinsCardSaid : Prop := Claim7.holds Tryz.pinned (.plain (OpenSpec.ofChange removeJoinsSpec)) removeJoinsCard

/-- THE TIED CARD OF 'scriniumlaw13.InsertPlays'. -/
def insertPlaysCard : Claim7 := { stood := { row := insertPlaysRow, standIns := [], harness := (true, "216a836e78aede947db1fe6c37065ee05e54a316b1b016dbf012af4a05814dbd"), looks := true }, kinds := [], alts := [], laidByText := true, laidKinds := [.sentinel, .sentinel, .sentinel, .sentinel, .sentinel, .sentinel, .sentinel, .sentinel, .sentinel], laidTests := true, laidLooks := .later }
def InsertPlaysCardSaid : Prop := Claim7.holds Tryz.pinned (.plain (OpenSpec.ofChange insertPlaysSpec)) insertPlaysCard

/-- THE TIED CARD OF 'scriniumlaw13.InsertKeeps'. -/
def insertKeepsCard : Claim7 := { stood := { row := insertKeepsRow, standIns := [], harness := (true, "216a836e78aede947db1fe6c37065ee05e54a316b1b016dbf012af4a05814dbd"), looks := true }, kinds := [], alts := [], laidByText := true, laidKinds := [.sentinel, .sentinel, .sentinel, .sentinel, .sentinel, .sentinel, .sentinel, .sentinel, .sentinel], laidTests := true, laidLooks := .later }
def InsertKeepsCardSaid : Prop := Claim7.holds Tryz.pinned (.plain (OpenSpec.ofChange insertKeepsSpec)) insertKeepsCard

/-- THE TIED CARD OF 'scriniumlaw13.InsertFull'. -/
def insertFullCard : Claim7 := { stood := { row := insertFullRow, standIns := [], harness := (true, "216a836e78aede947db1fe6c37065ee05e54a316b1b016dbf012af4a05814dbd"), looks := true }, kinds := [], alts := [], laidByText := true, laidKinds := [.sentinel, .sentinel, .sentinel, .sentinel, .sentinel, .sentinel, .sentinel, .sentinel, .sentinel], laidTests := true, laidLooks := .later }
def InsertFullCardSaid : Prop := Claim7.holds Tryz.pinned (.plain (OpenSpec.ofChange insertFullSpec)) insertFullCard

/-- THE TIED CARD OF 'scriniumlaw14.RemoveRefuses'. -/
def removeRefusesCard : Claim7 := { stood := { row := removeRefusesRow, standIns := [], harness := (true, "216a836e78aede947db1fe6c37065ee05e54a316b1b016dbf012af4a05814dbd"), looks := true }, kinds := [], alts := [], laidByText := true, laidKinds := [.sentinel, .sentinel, .sentinel, .sentinel, .sentinel, .sentinel, .sentinel, .sentinel, .sentinel], laidTests := true, laidLooks := .later }
def RemoveRefusesCardSaid : Prop := Claim7.holds Tryz.pinned (.plain (OpenSpec.ofChange removeRefusesSpec)) removeRefusesCard

/-- THE SECOND FORM's CARD OF 'scriniumlaw13.InsertCuts'. -/
def insertCutsUptoCard : Claim7 := { stood := { row := insertCutsUptoRow, standIns := [], harness := (true, "216a836e78aede947db1fe6c37065ee05e54a316b1b016dbf012af4a05814dbd"), looks := true }, kinds := [], alts := [], laidByText := true, laidKinds := [.sentinel, .sentinel, .sentinel, .sentinel, .sentinel, .sentinel], laidTests := true, laidLooks := .later }
def InsertCutsUptoCardSaid : Prop := Claim7.holds Tryz.pinned (.plain (OpenSpec.upto insertCutsSpec)) insertCutsUptoCard

/-- THE SECOND FORM's CARD OF 'scriniumlaw13.InsertRefuses'. -/
def insertRefusesUptoCard : Claim7 := { stood := { row := insertRefusesUptoRow, standIns := [], harness := (true, "216a836e78aede947db1fe6c37065ee05e54a316b1b016dbf012af4a05814dbd"), looks := true }, kinds := [], alts := [], laidByText := true, laidKinds := [.sentinel, .sentinel, .sentinel, .sentinel, .sentinel, .sentinel, .sentinel, .sentinel, .sentinel], laidTests := true, laidLooks := .later }
def InsertRefusesUptoCardSaid : Prop := Claim7.holds Tryz.pinned (.plain (OpenSpec.upto insertRefusesSpec)) insertRefusesUptoCard

/-- THE SECOND FORM's CARD OF 'scriniumlaw13.InsertDowns'. -/
def insertDownsUptoCard : Claim7 := { stood := { row := insertDownsUptoRow, standIns := [], harness := (true, "216a836e78aede947db1fe6c37065ee05e54a316b1b016dbf012af4a05814dbd"), looks := true }, kinds := [], alts := [], laidByText := true, laidKinds := [.sentinel, .sentinel, .sentinel, .sentinel, .sentinel, .sentinel, .sentinel, .sentinel, .sentinel], laidTests := true, laidLooks := .later }
def InsertDownsUptoCardSaid : Prop := Claim7.holds Tryz.pinned (.plain (OpenSpec.upto insertDownsSpec)) insertDownsUptoCard

/-- THE SECOND FORM's CARD OF 'scriniumlaw14.RemoveLights'. -/
def removeLightsUptoCard : Claim7 := { stood := { row := removeLightsUptoRow, standIns := [], harness := (true, "216a836e78aede947db1fe6c37065ee05e54a316b1b016dbf012af4a05814dbd"), looks := true }, kinds := [], alts := [], laidByText := true, laidKinds := [.sentinel, .sentinel, .sentinel, .sentinel, .sentinel, .sentinel], laidTests := true, laidLooks := .later }
def RemoveLightsUptoCardSaid : Prop := Claim7.holds Tryz.pinned (.plain (OpenSpec.upto removeLightsSpec)) removeLightsUptoCard

/-- THE SECOND FORM's CARD OF 'scriniumlaw14.RemoveJoins'. -/
def removeJoinsUptoCard : Claim7 := { stood := { row := removeJoinsUptoRow, standIns := [], harness := (true, "216a836e78aede947db1fe6c37065ee05e54a316b1b016dbf012af4a05814dbd"), looks := true }, kinds := [], alts := [], laidByText := true, laidKinds := [.sentinel, .sentinel, .sentinel, .sentinel, .sentinel, .sentinel], laidTests := true, laidLooks := .later }
def RemoveJoinsUptoCardSaid : Prop := Claim7.holds Tryz.pinned (.plain (OpenSpec.upto removeJoinsSpec)) removeJoinsUptoCard

/-- THE SECOND FORM's CARD OF 'scriniumlaw13.InsertPlays'. -/
def insertPlaysUptoCard : Claim7 := { stood := { row := insertPlaysUptoRow, standIns := [], harness := (true, "216a836e78aede947db1fe6c37065ee05e54a316b1b016dbf012af4a05814dbd"), looks := true }, kinds := [], alts := [], laidByText := true, laidKinds := [.sentinel, .sentinel, .sentinel, .sentinel, .sentinel, .sentinel, .sentinel, .sentinel, .sentinel], laidTests := true, laidLooks := .later }
def InsertPlaysUptoCardSaid : Prop := Claim7.holds Tryz.pinned (.plain (OpenSpec.upto insertPlaysSpec)) insertPlaysUptoCard

/-- THE SECOND FORM's CARD OF 'scriniumlaw13.InsertKeeps'. -/
def insertKeepsUptoCard : Claim7 := { stood := { row := insertKeepsUptoRow, standIns := [], harness := (true, "216a836e78aede947db1fe6c37065ee05e54a316b1b016dbf012af4a05814dbd"), looks := true }, kinds := [], alts := [], laidByText := true, laidKinds := [.sentinel, .sentinel, .sentinel, .sentinel, .sentinel, .sentinel, .sentinel, .sentinel, .sentinel], laidTests := true, laidLooks := .later }
def InsertKeepsUptoCardSaid : Prop := Claim7.holds Tryz.pinned (.plain (OpenSpec.upto insertKeepsSpec)) insertKeepsUptoCard

/-- THE SECOND FORM's CARD OF 'scriniumlaw13.InsertFull'. -/
def insertFullUptoCard : Claim7 := { stood := { row := insertFullUptoRow, standIns := [], harness := (true, "216a836e78aede947db1fe6c37065ee05e54a316b1b016dbf012af4a05814dbd"), looks := true }, kinds := [], alts := [], laidByText := true, laidKinds := [.sentinel, .sentinel, .sentinel, .sentinel, .sentinel, .sentinel, .sentinel, .sentinel, .sentinel], laidTests := true, laidLooks := .later }
def InsertFullUptoCardSaid : Prop := Claim7.holds Tryz.pinned (.plain (OpenSpec.upto insertFullSpec)) insertFullUptoCard

/-- THE SECOND FORM's CARD OF 'scriniumlaw14.RemoveRefuses'. -/
def removeRefusesUptoCard : Claim7 := { stood := { row := removeRefusesUptoRow, standIns := [], harness := (true, "216a836e78aede947db1fe6c37065ee05e54a316b1b016dbf012af4a05814dbd"), looks := true }, kinds := [], alts := [], laidByText := true, laidKinds := [.sentinel, .sentinel, .sentinel, .sentinel, .sentinel, .sentinel, .sentinel, .sentinel, .sentinel], laidTests := true, laidLooks := .later }
def RemoveRefusesUptoCardSaid : Prop := Claim7.holds Tryz.pinned (.plain (OpenSpec.upto removeRefusesSpec)) removeRefusesUptoCard
end Rows
end Go.Proofs.YtffhiabonigapaaGreatDoor
