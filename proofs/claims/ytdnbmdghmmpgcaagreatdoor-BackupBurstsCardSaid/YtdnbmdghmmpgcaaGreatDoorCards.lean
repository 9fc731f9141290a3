/-
  DERIVED. GIVEN WITH THE SEED: THE CARDS: each row of YtdnbmdghmmpgcaaGreatDoorRows.lean that lists a variable, with what it lists TIED to the program's text (the seventh form; the later family's looks); each row that meets fmt, with fmt's text TOLD by the authors' own Lean function (tested against real Go, not proved from fmt's source: count such statements apart). THE CARD IS WHAT COUNTS. Prove the row's statement (the work); the ties are given (YtdnbmdghmmpgcaaGreatDoorTie.lean); close each card by the builder's one call (the guide's Derived/Test/ToyasCard.lean, 'card_holds'). Laid BY PROGRAM, IN A SANDBOX (cutbox-door.mjs). By AI agents, Wed Nov 11 2026. No macro, syntax, notation, axiom, sorry.
-/
import Derived.Test.YtdnbmdghmmpgcaaGreatDoorRows
import GoSem.ClaimSeven
namespace Go.Proofs.YtdnbmdghmmpgcaaGreatDoor
namespace Rows

/-- THE TIED CARD OF 'scriniumlaw20.BackupSinces'. -/
def backupSincesCard : Claim7 := { stood := { row := backupSincesRow, standIns := [], harness := (true, "448f099b893d9c165d8c686c171a9c8efd57172b3e59dea78aba448cd05bfc14"), looks := true }, kinds := [], alts := [], laidByText := true, laidKinds := [.sentinel, .sentinel, .sentinel, .sentinel, .sentinel, .sentinel, .sentinel, .sentinel, .sentinel], laidTests := true, laidLooks := .later }
def BackupSincesCardSaid : Prop := Claim7.holds Tryz.pinned (.plain (OpenSpec.ofChange backupSincesSpec)) backupSincesCard

/-- THE TIED CARD OF 'scriniumlaw20.BackupBursts'. -/
def backupBurstsCard : Claim7 := { stood := { row := backupBurstsRow, standIns := [], harness := (true, "448f099b893d9c165d8c686c171a9c8efd57172b3e59dea78aba448cd05bfc14"), looks := true }, kinds := [], alts := [], laidByText := true, laidKinds := [.sentinel, .sentinel, .sentinel, .sentinel, .sentinel, .sentinel, .sentinel, .sentinel, .sentinel], laidTests := true, laidLooks := .later }
def BackupBurstsCardSaid : Prop := Claim7.holds Tryz.pinned (.plain (OpenSpec.ofChange backupBurstsSpec)) backupBurstsCard

/-- THE TIED CARD OF 'scriniumlaw20.BackupChains'. -/
def backupChainsCard : Claim7 := { stood := { row := backupChainsRow, standIns := [], harness := (true, "448f099b893d9c165d8c686c171a9c8efd57172b3e59dea78aba448cd05bfc14"), looks := true }, kinds := [], alts := [], laidByText := true, laidKinds := [.sentinel, .sentinel, .sentinel, .sentinel, .sentinel, .sentinel, .sentinel, .sentinel, .sentinel], laidTests := true, laidLooks := .later }
def BackupChainsCardSaid : Prop := Claim7.holds Tryz.pinned (.plain (OpenSpec.ofChange backupChainsSpec)) backupChainsCard

/-- THE TIED CARD OF 'scriniumlaw20.BackupWholes'. -/
def backupWholesCard : Claim7 := { stood := { row := backupWholesRow, standIns := [], harness := (true, "448f099b893d9c165d8c686c171a9c8efd57172b3e59dea78aba448cd05bfc14"), looks := true }, kinds := [], alts := [], laidByText := true, laidKinds := [.sentinel, .sentinel, .sentinel, .sentinel, .sentinel, .sentinel, .sentinel, .sentinel, .sentinel], laidTests := true, laidLooks := .later }
def BackupWholesCardSaid : Prop := Claim7.holds Tryz.pinned (.plain (OpenSpec.ofChange backupWholesSpec)) backupWholesCard

/-- THE TIED CARD OF 'scriniumlaw20.BackupVerifies'. -/
def backupVerifiesCard : Claim7 := { stood := { row := backupVerifiesRow, standIns := [], harness := (true, "448f099b893d9c165d8c686c171a9c8efd57172b3e59dea78aba448cd05bfc14"), looks := true }, kinds := [], alts := [], laidByText := true, laidKinds := [.sentinel, .sentinel, .sentinel, .sentinel, .sentinel, .sentinel, .sentinel, .sentinel, .sentinel], laidTests := true, laidLooks := .later }
def BackupVerifiesCardSaid : Prop := Claim7.holds Tryz.pinned (.plain (OpenSpec.ofChange backupVerifiesSpec)) backupVerifiesCard

/-- THE TIED CARD OF 'scriniumlaw17.StoreRefuses'. -/
def storeRefusesCard : Claim7 := { stood := { row := storeRefusesRow, standIns := [], harness := (true, "448f099b893d9c165d8c686c171a9c8efd57172b3e59dea78aba448cd05bfc14"), looks := true }, kinds := [], alts := [], laidByText := true, laidKinds := [.sentinel, .sentinel, .sentinel, .sentinel, .sentinel, .sentinel, .sentinel, .sentinel, .sentinel], laidTests := true, laidLooks := .later }
def StoreRefusesCardSaid : Prop := Claim7.holds Tryz.pinned (.plain (OpenSpec.ofChange storeRefusesSpec)) storeRefusesCard

/-- THE TIED CARD OF 'scriniumlaw18.ScrubRefuses'. -/
def scrubRefusesCard : Claim7 := { stood := { row := scrubRefusesRow, standIns := [], harness := (true, "448f099b893d9c165d8c686c171a9c8efd57172b3e59dea78aba448cd05bfc14"), looks := true }, kinds := [], alts := [], laidByText := true, laidKinds := [.sentinel, .sentinel, .sentinel, .sentinel, .sentinel, .sentinel, .sentinel, .sentinel, .sentinel], laidTests := true, laidLooks := .later }
def ScrubRefusesCardSaid : Prop := Claim7.holds Tryz.pinned (.plain (OpenSpec.ofChange scrubRefusesSpec)) scrubRefusesCard

/-- THE SECOND FORM's CARD OF 'scriniumlaw20.BackupSinces'. -/
def backupSincesUptoCard : Claim7 := { stood := { row := backupSincesUptoRow, standIns := [], harness := (true, "448f099b893d9c165d8c686c171a9c8efd57172b3e59dea78aba448cd05bfc14"), looks := true }, kinds := [], alts := [], laidByText := true, laidKinds := [.sentinel, .sentinel, .sentinel, .sentinel, .sentinel, .sentinel, .sentinel, .sentinel, .sentinel], laidTests := true, laidLooks := .later }
def BackupSincesUptoCardSaid : Prop := Claim7.holds Tryz.pinned (.plain (OpenSpec.upto backupSincesSpec)) backupSincesUptoCard

/-- THE SECOND FORM's CARD OF 'scriniumlaw20.BackupBursts'. -/
def backupBurstsUptoCard : Claim7 := { stood := { row := backupBurstsUptoRow, standIns := [], harness := (true, "448f099b893d9c165d8c686c171a9c8efd57172b3e59dea78aba448cd05bfc14"), looks := true }, kinds := [], alts := [], laidByText := true, laidKinds := [.sentinel, .sentinel, .sentinel, .sentinel, .sentinel, .sentinel, .sentinel, .sentinel, .sentinel], laidTests := true, laidLooks := .later }
def BackupBurstsUptoCardSaid : Prop := Claim7.holds Tryz.pinned (.plain (OpenSpec.upto backupBurstsSpec)) backupBurstsUptoCard

/-- THE SECOND FORM's CARD OF 'scriniumlaw20.BackupChains'. -/
def backupChainsUptoCard : Claim7 := { stood := { row := backupChainsUptoRow, standIns := [], harness := (true, "448f099b893d9c165d8c686c171a9c8efd57172b3e59dea78aba448cd05bfc14"), looks := true }, kinds := [], alts := [], laidByText := true, laidKinds := [.sentinel, .sentinel, .sentinel, .sentinel, .sentinel, .sentinel, .sentinel, .sentinel, .sentinel], laidTests := true, laidLooks := .later }
def BackupChainsUptoCardSaid : Prop := Claim7.holds Tryz.pinned (.plain (OpenSpec.upto backupChainsSpec)) backupChainsUptoCard

/-- THE SECOND FORM's CARD OF 'scriniumlaw20.BackupWholes'. -/
def backupWholesUptoCard : Claim7 := { stood := { row := backupWholesUptoRow, standIns := [], harness := (true, "448f099b893d9c165d8c686c171a9c8efd57172b3e59dea78aba448cd05bfc14"), looks := true }, kinds := [], alts := [], laidByText := true, laidKinds := [.sentinel, .sentinel, .sentinel, .sentinel, .sentinel, .sentinel, .sentinel, .sentinel, .sentinel], laidTests := true, laidLooks := .later }
def BackupWholesUptoCardSaid : Prop := Claim7.holds Tryz.pinned (.plain (OpenSpec.upto backupWholesSpec)) backupWholesUptoCard

/-- THE SECOND FORM's CARD OF 'scriniumlaw20.BackupVerifies'. -/
def backupVerifiesUptoCard : Claim7 := { stood := { row := backupVerifiesUptoRow, standIns := [], harness := (true, "448f099b893d9c165d8c686c171a9c8efd57172b3e59dea78aba448cd05bfc14"), looks := true }, kinds := [], alts := [], laidByText := true, laidKinds := [.sentinel, .sentinel, .sentinel, .sentinel, .sentinel, .sentinel, .sentinel, .sentinel, .sentinel], laidTests := true, laidLooks := .later }
def BackupVerifiesUptoCardSaid : Prop := Claim7.holds Tryz.pinned (.plain (OpenSpec.upto backupVerifiesSpec)) backupVerifiesUptoCard

/-- THE SECOND FORM's CARD OF 'scriniumlaw17.StoreRefuses'. -/
def storeRefusesUptoCard : Claim7 := { stood := { row := storeRefusesUptoRow, standIns := [], harness := (true, "448f099b893d9c165d8c686c171a9c8efd57172b3e59dea78aba448cd05bfc14"), looks := true }, kinds := [], alts := [], laidByText := true, laidKinds := [.sentinel, .sentinel, .sentinel, .sentinel, .sentinel, .sentinel, .sentinel, .sentinel, .sentinel], laidTests := true, laidLooks := .later }
def StoreRefusesUptoCardSaid : Prop := Claim7.holds Tryz.pinned (.plain (OpenSpec.upto storeRefusesSpec)) storeRefusesUptoCard

/-- THE SECOND FORM's CARD OF 'scriniumlaw18.ScrubRefuses'. -/
def scrubRefusesUptoCard : Claim7 := { stood := { row := scrubRefusesUptoRow, standIns := [], harness := (true, "448f099b893d9c165d8c686c171a9c8efd57172b3e59dea78aba448cd05bfc14"), looks := true }, kinds := [], alts := [], laidByText := true, laidKinds := [.sentinel, .sentinel, .sentinel, .sentinel, .sentinel, .sentinel, .sentinel, .sentinel, .sentinel], laidTests := true, laidLooks := .later }
def ScrubRefusesUptoCardSaid : Prop := Claim7.holds Tryz.pinned (.plain (OpenSpec.upto scrubRefusesSpec)) scrubRefusesUptoCard
end Rows
end Go.Proofs.YtdnbmdghmmpgcaaGreatDoor
