/-
  DERIVED. GIVEN WITH THE SEED: THE CARDS: each row of YtchklfmggpconaaGreatDoorRows.lean that lists a variable, with what it lists TIED to the program's text (the seventh form; the later family's looks); each row that meets fmt, with fmt's text TOLD by the authors' own Lean function (tested against real Go, not proved from fmt's source: count such statements apart). THE CARD IS WHAT COUNTS. Prove the row's statement (the work); the ties are given (YtchklfmggpconaaGreatDoorTie.lean); close each card by the builder's one call (the guide's Derived/Test/ToyasCard.lean, 'card_holds'). Laid BY PROGRAM, IN A SANDBOX (cutbox-door.mjs). By AI agents, Wed Nov 11 2026. No macro, syntax, notation, axiom, sorry.
-/
import Derived.Test.YtchklfmggpconaaGreatDoorRows
import GoSem.ClaimSeven
namespace Go.Proofs.YtchklfmggpconaaGreatDoor
namespace Rows

/-- THE TIED CARD OF 'scriniumlaw15.BulkHeavy'. -/
def bulkHeavyCard : Claim7 := { stood := { row := bulkHeavyRow, standIns := [], harness := (true, "88401f4173a73beaf9de03722a10b4b6a49505872b212fc05b4d21728798130b"), looks := true }, kinds := [], alts := [], laidByText := true, laidKinds := [.sentinel, .sentinel, .sentinel, .sentinel, .sentinel, .sentinel], laidTests := true, laidLooks := .later }
def BulkHeavyCardSaid : Prop := Claim7.holds Tryz.pinned (.plain (OpenSpec.ofChange bulkHeavySpec)) bulkHeavyCard

/-- THE TIED CARD OF 'scriniumlaw15.BulkDiffs'. -/
def bulkDiffsCard : Claim7 := { stood := { row := bulkDiffsRow, standIns := [], harness := (true, "88401f4173a73beaf9de03722a10b4b6a49505872b212fc05b4d21728798130b"), looks := true }, kinds := [], alts := [], laidByText := true, laidKinds := [.sentinel, .sentinel, .sentinel, .sentinel, .sentinel, .sentinel], laidTests := true, laidLooks := .later }
def BulkDiffsCardSaid : Prop := Claim7.holds Tryz.pinned (.plain (OpenSpec.ofChange bulkDiffsSpec)) bulkDiffsCard

/-- THE TIED CARD OF 'scriniumlaw15.BulkLoads'. -/
def bulkLoadsCard : Claim7 := { stood := { row := bulkLoadsRow, standIns := [], harness := (true, "88401f4173a73beaf9de03722a10b4b6a49505872b212fc05b4d21728798130b"), looks := true }, kinds := [], alts := [], laidByText := true, laidKinds := [.sentinel, .sentinel, .sentinel, .sentinel, .sentinel, .sentinel], laidTests := true, laidLooks := .later }
def BulkLoadsCardSaid : Prop := Claim7.holds Tryz.pinned (.plain (OpenSpec.ofChange bulkLoadsSpec)) bulkLoadsCard

/-- THE TIED CARD OF 'scriniumlaw15.BulkCompacts'. -/
def bulkCompactsCard : Claim7 := { stood := { row := bulkCompactsRow, standIns := [], harness := (true, "88401f4173a73beaf9de03722a10b4b6a49505872b212fc05b4d21728798130b"), looks := true }, kinds := [], alts := [], laidByText := true, laidKinds := [.sentinel, .sentinel, .sentinel, .sentinel, .sentinel, .sentinel], laidTests := true, laidLooks := .later }
def BulkCompactsCardSaid : Prop := Claim7.holds Tryz.pinned (.plain (OpenSpec.ofChange bulkCompactsSpec)) bulkCompactsCard

/-- THE TIED CARD OF 'scriniumlaw15.BulkRefuses'. -/
def bulkRefusesCard : Claim7 := { stood := { row := bulkRefusesRow, standIns := [], harness := (true, "88401f4173a73beaf9de03722a10b4b6a49505872b212fc05b4d21728798130b"), looks := true }, kinds := [], alts := [], laidByText := true, laidKinds := [.sentinel, .sentinel, .sentinel, .sentinel, .sentinel, .sentinel, .sentinel, .sentinel, .sentinel], laidTests := true, laidLooks := .later }
def BulkRefusesCardSaid : Prop := Claim7.holds Tryz.pinned (.plain (OpenSpec.ofChange bulkRefusesSpec)) bulkRefusesCard

/-- THE SECOND FORM's CARD OF 'scriniumlaw15.BulkHeavy'. -/
def bulkHeavyUptoCard : Claim7 := { stood := { row := bulkHeavyUptoRow, standIns := [], harness := (true, "88401f4173a73beaf9de03722a10b4b6a49505872b212fc05b4d21728798130b"), looks := true }, kinds := [], alts := [], laidByText := true, laidKinds := [.sentinel, .sentinel, .sentinel, .sentinel, .sentinel, .sentinel], laidTests := true, laidLooks := .later }
def BulkHeavyUptoCardSaid : Prop := Claim7.holds Tryz.pinned (.plain (OpenSpec.upto bulkHeavySpec)) bulkHeavyUptoCard

/-- THE SECOND FORM's CARD OF 'scriniumlaw15.BulkDiffs'. -/
def bulkDiffsUptoCard : Claim7 := { stood := { row := bulkDiffsUptoRow, standIns := [], harness := (true, "88401f4173a73beaf9de03722a10b4b6a49505872b212fc05b4d21728798130b"), looks := true }, kinds := [], alts := [], laidByText := true, laidKinds := [.sentinel, .sentinel, .sentinel, .sentinel, .sentinel, .sentinel], laidTests := true, laidLooks := .later }
def BulkDiffsUptoCardSaid : Prop := Claim7.holds Tryz.pinned (.plain (OpenSpec.upto bulkDiffsSpec)) bulkDiffsUptoCard

/-- THE SECOND FORM's CARD OF 'scriniumlaw15.BulkLoads'. -/
def bulkLoadsUptoCard : Claim7 := { stood := { row := bulkLoadsUptoRow, standIns := [], harness := (true, "88401f4173a73beaf9de03722a10b4b6a49505872b212fc05b4d21728798130b"), looks := true }, kinds := [], alts := [], laidByText := true, laidKinds := [.sentinel, .sentinel, .sentinel, .sentinel, .sentinel, .sentinel], laidTests := true, laidLooks := .later }
def BulkLoadsUptoCardSaid : Prop := Claim7.holds Tryz.pinned (.plain (OpenSpec.upto bulkLoadsSpec)) bulkLoadsUptoCard

/-- THE SECOND FORM's CARD OF 'scriniumlaw15.BulkCompacts'. -/
def bulkCompactsUptoCard : Claim7 := { stood := { row := bulkCompactsUptoRow, standIns := [], harness := (true, "88401f4173a73beaf9de03722a10b4b6a49505872b212fc05b4d21728798130b"), looks := true }, kinds := [], alts := [], laidByText := true, laidKinds := [.sentinel, .sentinel, .sentinel, .sentinel, .sentinel, .sentinel], laidTests := true, laidLooks := .later }
def BulkCompactsUptoCardSaid : Prop := Claim7.holds Tryz.pinned (.plain (OpenSpec.upto bulkCompactsSpec)) bulkCompactsUptoCard

/-- THE SECOND FORM's CARD OF 'scriniumlaw15.BulkRefuses'. -/
def bulkRefusesUptoCard : Claim7 := { stood := { row := bulkRefusesUptoRow, standIns := [], harness := (true, "88401f4173a73beaf9de03722a10b4b6a49505872b212fc05b4d21728798130b"), looks := true }, kinds := [], alts := [], laidByText := true, laidKinds := [.sentinel, .sentinel, .sentinel, .sentinel, .sentinel, .sentinel, .sentinel, .sentinel, .sentinel], laidTests := true, laidLooks := .later }
def BulkRefusesUptoCardSaid : Prop := Claim7.holds Tryz.pinned (.plain (OpenSpec.upto bulkRefusesSpec)) bulkRefusesUptoCard
end Rows
end Go.Proofs.YtchklfmggpconaaGreatDoor
