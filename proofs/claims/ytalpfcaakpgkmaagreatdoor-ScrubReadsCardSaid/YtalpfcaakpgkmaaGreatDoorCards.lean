/-
  DERIVED. GIVEN WITH THE SEED: THE CARDS: each row of YtalpfcaakpgkmaaGreatDoorRows.lean that lists a variable, with what it lists TIED to the program's text (the seventh form; the later family's looks); each row that meets fmt, with fmt's text TOLD by the authors' own Lean function (tested against real Go, not proved from fmt's source: count such statements apart). THE CARD IS WHAT COUNTS. Prove the row's statement (the work); the ties are given (YtalpfcaakpgkmaaGreatDoorTie.lean); close each card by the builder's one call (the guide's Derived/Test/ToyasCard.lean, 'card_holds'). Laid BY PROGRAM, IN A SANDBOX (cutbox-door.mjs). By AI agents, Wed Nov 11 2026. No macro, syntax, notation, axiom, sorry.
-/
import Derived.Test.YtalpfcaakpgkmaaGreatDoorRows
import GoSem.ClaimSeven
namespace Go.Proofs.YtalpfcaakpgkmaaGreatDoor
namespace Rows

/-- THE TIED CARD OF 'scriniumlaw18.ScrubReads'. -/
def scrubReadsCard : Claim7 := { stood := { row := scrubReadsRow, standIns := [], harness := (true, "78a9a72e8f315bc84799e55762e75acec65992175b15127c51661ed6890d5ae5"), looks := true }, kinds := [], alts := [], laidByText := true, laidKinds := [.sentinel, .sentinel, .sentinel, .sentinel, .sentinel, .sentinel, .sentinel, .sentinel, .sentinel], laidTests := true, laidLooks := .later }
def ScrubReadsCardSaid : Prop := Claim7.holds Tryz.pinned (.plain (OpenSpec.ofChange scrubReadsSpec)) scrubReadsCard

/-- THE TIED CARD OF 'scriniumlaw18.ScrubFinds'. -/
def scrubFindsCard : Claim7 := { stood := { row := scrubFindsRow, standIns := [], harness := (true, "78a9a72e8f315bc84799e55762e75acec65992175b15127c51661ed6890d5ae5"), looks := true }, kinds := [], alts := [], laidByText := true, laidKinds := [.sentinel, .sentinel, .sentinel, .sentinel, .sentinel, .sentinel, .sentinel, .sentinel, .sentinel], laidTests := true, laidLooks := .later }
def ScrubFindsCardSaid : Prop := Claim7.holds Tryz.pinned (.plain (OpenSpec.ofChange scrubFindsSpec)) scrubFindsCard

/-- THE TIED CARD OF 'scriniumlaw18.ScrubHeals'. -/
def scrubHealsCard : Claim7 := { stood := { row := scrubHealsRow, standIns := [], harness := (true, "78a9a72e8f315bc84799e55762e75acec65992175b15127c51661ed6890d5ae5"), looks := true }, kinds := [], alts := [], laidByText := true, laidKinds := [.sentinel, .sentinel, .sentinel, .sentinel, .sentinel, .sentinel, .sentinel, .sentinel, .sentinel], laidTests := true, laidLooks := .later }
def ScrubHealsCardSaid : Prop := Claim7.holds Tryz.pinned (.plain (OpenSpec.ofChange scrubHealsSpec)) scrubHealsCard

/-- THE TIED CARD OF 'scriniumlaw20.BackupWholes'. -/
def backupWholesCard : Claim7 := { stood := { row := backupWholesRow, standIns := [], harness := (true, "78a9a72e8f315bc84799e55762e75acec65992175b15127c51661ed6890d5ae5"), looks := true }, kinds := [], alts := [], laidByText := true, laidKinds := [.sentinel, .sentinel, .sentinel, .sentinel, .sentinel, .sentinel, .sentinel, .sentinel, .sentinel], laidTests := true, laidLooks := .later }
def BackupWholesCardSaid : Prop := Claim7.holds Tryz.pinned (.plain (OpenSpec.ofChange backupWholesSpec)) backupWholesCard

/-- THE SECOND FORM's CARD OF 'scriniumlaw18.ScrubReads'. -/
def scrubReadsUptoCard : Claim7 := { stood := { row := scrubReadsUptoRow, standIns := [], harness := (true, "78a9a72e8f315bc84799e55762e75acec65992175b15127c51661ed6890d5ae5"), looks := true }, kinds := [], alts := [], laidByText := true, laidKinds := [.sentinel, .sentinel, .sentinel, .sentinel, .sentinel, .sentinel, .sentinel, .sentinel, .sentinel], laidTests := true, laidLooks := .later }
def ScrubReadsUptoCardSaid : Prop := Claim7.holds Tryz.pinned (.plain (OpenSpec.upto scrubReadsSpec)) scrubReadsUptoCard

/-- THE SECOND FORM's CARD OF 'scriniumlaw18.ScrubFinds'. -/
def scrubFindsUptoCard : Claim7 := { stood := { row := scrubFindsUptoRow, standIns := [], harness := (true, "78a9a72e8f315bc84799e55762e75acec65992175b15127c51661ed6890d5ae5"), looks := true }, kinds := [], alts := [], laidByText := true, laidKinds := [.sentinel, .sentinel, .sentinel, .sentinel, .sentinel, .sentinel, .sentinel, .sentinel, .sentinel], laidTests := true, laidLooks := .later }
def ScrubFindsUptoCardSaid : Prop := Claim7.holds Tryz.pinned (.plain (OpenSpec.upto scrubFindsSpec)) scrubFindsUptoCard

/-- THE SECOND FORM's CARD OF 'scriniumlaw18.ScrubHeals'. -/
def scrubHealsUptoCard : Claim7 := { stood := { row := scrubHealsUptoRow, standIns := [], harness := (true, "78a9a72e8f315bc84799e55762e75acec65992175b15127c51661ed6890d5ae5"), looks := true }, kinds := [], alts := [], laidByText := true, laidKinds := [.sentinel, .sentinel, .sentinel, .sentinel, .sentinel, .sentinel, .sentinel, .sentinel, .sentinel], laidTests := true, laidLooks := .later }
def ScrubHealsUptoCardSaid : Prop := Claim7.holds Tryz.pinned (.plain (OpenSpec.upto scrubHealsSpec)) scrubHealsUptoCard

/-- THE SECOND FORM's CARD OF 'scriniumlaw20.BackupWholes'. -/
def backupWholesUptoCard : Claim7 := { stood := { row := backupWholesUptoRow, standIns := [], harness := (true, "78a9a72e8f315bc84799e55762e75acec65992175b15127c51661ed6890d5ae5"), looks := true }, kinds := [], alts := [], laidByText := true, laidKinds := [.sentinel, .sentinel, .sentinel, .sentinel, .sentinel, .sentinel, .sentinel, .sentinel, .sentinel], laidTests := true, laidLooks := .later }
def BackupWholesUptoCardSaid : Prop := Claim7.holds Tryz.pinned (.plain (OpenSpec.upto backupWholesSpec)) backupWholesUptoCard
end Rows
end Go.Proofs.YtalpfcaakpgkmaaGreatDoor
