/-
  DERIVED. GIVEN WITH THE SEED: THE CARDS: each row of YtgphfebjjedeaaaGreatDoorRows.lean that lists a variable, with what it lists TIED to the program's text (the seventh form; the later family's looks); each row that meets fmt, with fmt's text TOLD by the authors' own Lean function (tested against real Go, not proved from fmt's source: count such statements apart). THE CARD IS WHAT COUNTS. Prove the row's statement (the work); the ties are given (YtgphfebjjedeaaaGreatDoorTie.lean); close each card by the builder's one call (the guide's Derived/Test/ToyasCard.lean, 'card_holds'). Laid BY PROGRAM, IN A SANDBOX (cutbox-door.mjs). By AI agents, Wed Nov 11 2026. No macro, syntax, notation, axiom, sorry.
-/
import Derived.Test.YtgphfebjjedeaaaGreatDoorRows
import GoSem.ClaimSeven
namespace Go.Proofs.YtgphfebjjedeaaaGreatDoor
namespace Rows

/-- THE TIED CARD OF 'scriniumlaw20.BackupWholes'. -/
def backupWholesCard : Claim7 := { stood := { row := backupWholesRow, standIns := [], harness := (true, "fe7b02b8ef1d04e5b35afb2ef4102e102cf1da1078bcb88116e98ca7951a48c2"), looks := true }, kinds := [], alts := [], laidByText := true, laidKinds := [.sentinel, .sentinel, .sentinel, .sentinel, .sentinel, .sentinel, .sentinel, .sentinel, .sentinel], laidTests := true, laidLooks := .later }
def BackupWholesCardSaid : Prop := Claim7.holds Tryz.pinned (.plain (OpenSpec.ofChange backupWholesSpec)) backupWholesCard

/-- THE TIED CARD OF 'scriniumlaw20.BackupVerifies'. -/
def backupVerifiesCard : Claim7 := { stood := { row := backupVerifiesRow, standIns := [], harness := (true, "fe7b02b8ef1d04e5b35afb2ef4102e102cf1da1078bcb88116e98ca7951a48c2"), looks := true }, kinds := [], alts := [], laidByText := true, laidKinds := [.sentinel, .sentinel, .sentinel, .sentinel, .sentinel, .sentinel, .sentinel, .sentinel, .sentinel], laidTests := true, laidLooks := .later }
def BackupVerifiesCardSaid : Prop := Claim7.holds Tryz.pinned (.plain (OpenSpec.ofChange backupVerifiesSpec)) backupVerifiesCard

/-- THE TIED CARD OF 'scriniumlaw17.StoreRefuses'. -/
def storeRefusesCard : Claim7 := { stood := { row := storeRefusesRow, standIns := [], harness := (true, "fe7b02b8ef1d04e5b35afb2ef4102e102cf1da1078bcb88116e98ca7951a48c2"), looks := true }, kinds := [], alts := [], laidByText := true, laidKinds := [.sentinel, .sentinel, .sentinel, .sentinel, .sentinel, .sentinel, .sentinel, .sentinel, .sentinel], laidTests := true, laidLooks := .later }
def StoreRefusesCardSaid : Prop := Claim7.holds Tryz.pinned (.plain (OpenSpec.ofChange storeRefusesSpec)) storeRefusesCard

/-- THE TIED CARD OF 'scriniumlaw18.ScrubRefuses'. -/
def scrubRefusesCard : Claim7 := { stood := { row := scrubRefusesRow, standIns := [], harness := (true, "fe7b02b8ef1d04e5b35afb2ef4102e102cf1da1078bcb88116e98ca7951a48c2"), looks := true }, kinds := [], alts := [], laidByText := true, laidKinds := [.sentinel, .sentinel, .sentinel, .sentinel, .sentinel, .sentinel, .sentinel, .sentinel, .sentinel], laidTests := true, laidLooks := .later }
def ScrubRefusesCardSaid : Prop := Claim7.holds Tryz.pinned (.plain (OpenSpec.ofChange scrubRefusesSpec)) scrubRefusesCard

/-- THE TIED CARD OF 'scriniumlaw18.ScrubSound'. -/
def scrubSoundCard : Claim7 := { stood := { row := scrubSoundRow, standIns := [], harness := (true, "fe7b02b8ef1d04e5b35afb2ef4102e102cf1da1078bcb88116e98ca7951a48c2"), looks := true }, kinds := [], alts := [], laidByText := true, laidKinds := [.sentinel, .sentinel, .sentinel, .sentinel, .sentinel, .sentinel, .sentinel, .sentinel, .sentinel], laidTests := true, laidLooks := .later }
def ScrubSoundCardSaid : Prop := Claim7.holds Tryz.pinned (.plain (OpenSpec.ofChange scrubSoundSpec)) scrubSoundCard

/-- THE TIED CARD OF 'scriniumlaw18.ScrubFinds'. -/
def scrubFindsCard : Claim7 := { stood := { row := scrubFindsRow, standIns := [], harness := (true, "fe7b02b8ef1d04e5b35afb2ef4102e102cf1da1078bcb88116e98ca7951a48c2"), looks := true }, kinds := [], alts := [], laidByText := true, laidKinds := [.sentinel, .sentinel, .sentinel, .sentinel, .sentinel, .sentinel, .sentinel, .sentinel, .sentinel], laidTests := true, laidLooks := .later }
def ScrubFindsCardSaid : Prop := Claim7.holds Tryz.pinned (.plain (OpenSpec.ofChange scrubFindsSpec)) scrubFindsCard

/-- THE TIED CARD OF 'scriniumlaw18.ScrubReads'. -/
def scrubReadsCard : Claim7 := { stood := { row := scrubReadsRow, standIns := [], harness := (true, "fe7b02b8ef1d04e5b35afb2ef4102e102cf1da1078bcb88116e98ca7951a48c2"), looks := true }, kinds := [], alts := [], laidByText := true, laidKinds := [.sentinel, .sentinel, .sentinel, .sentinel, .sentinel, .sentinel, .sentinel, .sentinel, .sentinel], laidTests := true, laidLooks := .later }
def ScrubReadsCardSaid : Prop := Claim7.holds Tryz.pinned (.plain (OpenSpec.ofChange scrubReadsSpec)) scrubReadsCard

/-- THE TIED CARD OF 'scriniumlaw18.ScrubHeals'. -/
def scrubHealsCard : Claim7 := { stood := { row := scrubHealsRow, standIns := [], harness := (true, "fe7b02b8ef1d04e5b35afb2ef4102e102cf1da1078bcb88116e98ca7951a48c2"), looks := true }, kinds := [], alts := [], laidByText := true, laidKinds := [.sentinel, .sentinel, .sentinel, .sentinel, .sentinel, .sentinel, .sentinel, .sentinel, .sentinel], laidTests := true, laidLooks := .later }
def ScrubHealsCardSaid : Prop := Claim7.holds Tryz.pinned (.plain (OpenSpec.ofChange scrubHealsSpec)) scrubHealsCard

/-- THE TIED CARD OF 'scriniumlaw19.BoundSafe'. -/
def boundSafeCard : Claim7 := { stood := { row := boundSafeRow, standIns := [], harness := (true, "fe7b02b8ef1d04e5b35afb2ef4102e102cf1da1078bcb88116e98ca7951a48c2"), looks := true }, kinds := [], alts := [], laidByText := true, laidKinds := [.sentinel, .sentinel, .sentinel, .sentinel, .sentinel, .sentinel, .sentinel, .sentinel, .sentinel], laidTests := true, laidLooks := .later }
def BoundSafeCardSaid : Prop := Claim7.holds Tryz.pinned (.plain (OpenSpec.ofChange boundSafeSpec)) boundSafeCard

/-- THE SECOND FORM's CARD OF 'scriniumlaw20.BackupWholes'. -/
def backupWholesUptoCard : Claim7 := { stood := { row := backupWholesUptoRow, standIns := [], harness := (true, "fe7b02b8ef1d04e5b35afb2ef4102e102cf1da1078bcb88116e98ca7951a48c2"), looks := true }, kinds := [], alts := [], laidByText := true, laidKinds := [.sentinel, .sentinel, .sentinel, .sentinel, .sentinel, .sentinel, .sentinel, .sentinel, .sentinel], laidTests := true, laidLooks := .later }
def BackupWholesUptoCardSaid : Prop := Claim7.holds Tryz.pinned (.plain (OpenSpec.upto backupWholesSpec)) backupWholesUptoCard

/-- THE SECOND FORM's CARD OF 'scriniumlaw20.BackupVerifies'. -/
def backupVerifiesUptoCard : Claim7 := { stood := { row := backupVerifiesUptoRow, standIns := [], harness := (true, "fe7b02b8ef1d04e5b35afb2ef4102e102cf1da1078bcb88116e98ca7951a48c2"), looks := true }, kinds := [], alts := [], laidByText := true, laidKinds := [.sentinel, .sentinel, .sentinel, .sentinel, .sentinel, .sentinel, .sentinel, .sentinel, .sentinel], laidTests := true, laidLooks := .later }
def BackupVerifiesUptoCardSaid : Prop := Claim7.holds Tryz.pinned (.plain (OpenSpec.upto backupVerifiesSpec)) backupVerifiesUptoCard

/-- THE SECOND FORM's CARD OF 'scriniumlaw17.StoreRefuses'. -/
def storeRefusesUptoCard : Claim7 := { stood := { row := storeRefusesUptoRow, standIns := [], harness := (true, "fe7b02b8ef1d04e5b35afb2ef4102e102cf1da1078bcb88116e98ca7951a48c2"), looks := true }, kinds := [], alts := [], laidByText := true, laidKinds := [.sentinel, .sentinel, .sentinel, .sentinel, .sentinel, .sentinel, .sentinel, .sentinel, .sentinel], laidTests := true, laidLooks := .later }
def StoreRefusesUptoCardSaid : Prop := Claim7.holds Tryz.pinned (.plain (OpenSpec.upto storeRefusesSpec)) storeRefusesUptoCard

/-- THE SECOND FORM's CARD OF 'scriniumlaw18.ScrubRefuses'. -/
def scrubRefusesUptoCard : Claim7 := { stood := { row := scrubRefusesUptoRow, standIns := [], harness := (true, "fe7b02b8ef1d04e5b35afb2ef4102e102cf1da1078bcb88116e98ca7951a48c2"), looks := true }, kinds := [], alts := [], laidByText := true, laidKinds := [.sentinel, .sentinel, .sentinel, .sentinel, .sentinel, .sentinel, .sentinel, .sentinel, .sentinel], laidTests := true, laidLooks := .later }
def ScrubRefusesUptoCardSaid : Prop := Claim7.holds Tryz.pinned (.plain (OpenSpec.upto scrubRefusesSpec)) scrubRefusesUptoCard

/-- THE SECOND FORM's CARD OF 'scriniumlaw18.ScrubSound'. -/
def scrubSoundUptoCard : Claim7 := { stood := { row := scrubSoundUptoRow, standIns := [], harness := (true, "fe7b02b8ef1d04e5b35afb2ef4102e102cf1da1078bcb88116e98ca7951a48c2"), looks := true }, kinds := [], alts := [], laidByText := true, laidKinds := [.sentinel, .sentinel, .sentinel, .sentinel, .sentinel, .sentinel, .sentinel, .sentinel, .sentinel], laidTests := true, laidLooks := .later }
def ScrubSoundUptoCardSaid : Prop := Claim7.holds Tryz.pinned (.plain (OpenSpec.upto scrubSoundSpec)) scrubSoundUptoCard

/-- THE SECOND FORM's CARD OF 'scriniumlaw18.ScrubFinds'. -/
def scrubFindsUptoCard : Claim7 := { stood := { row := scrubFindsUptoRow, standIns := [], harness := (true, "fe7b02b8ef1d04e5b35afb2ef4102e102cf1da1078bcb88116e98ca7951a48c2"), looks := true }, kinds := [], alts := [], laidByText := true, laidKinds := [.sentinel, .sentinel, .sentinel, .sentinel, .sentinel, .sentinel, .sentinel, .sentinel, .sentinel], laidTests := true, laidLooks := .later }
def ScrubFindsUptoCardSaid : Prop := Claim7.holds Tryz.pinned (.plain (OpenSpec.upto scrubFindsSpec)) scrubFindsUptoCard

/-- THE SECOND FORM's CARD OF 'scriniumlaw18.ScrubReads'. -/
def scrubReadsUptoCard : Claim7 := { stood := { row := scrubReadsUptoRow, standIns := [], harness := (true, "fe7b02b8ef1d04e5b35afb2ef4102e102cf1da1078bcb88116e98ca7951a48c2"), looks := true }, kinds := [], alts := [], laidByText := true, laidKinds := [.sentinel, .sentinel, .sentinel, .sentinel, .sentinel, .sentinel, .sentinel, .sentinel, .sentinel], laidTests := true, laidLooks := .later }
def ScrubReadsUptoCardSaid : Prop := Claim7.holds Tryz.pinned (.plain (OpenSpec.upto scrubReadsSpec)) scrubReadsUptoCard

/-- THE SECOND FORM's CARD OF 'scriniumlaw18.ScrubHeals'. -/
def scrubHealsUptoCard : Claim7 := { stood := { row := scrubHealsUptoRow, standIns := [], harness := (true, "fe7b02b8ef1d04e5b35afb2ef4102e102cf1da1078bcb88116e98ca7951a48c2"), looks := true }, kinds := [], alts := [], laidByText := true, laidKinds := [.sentinel, .sentinel, .sentinel, .sentinel, .sentinel, .sentinel, .sentinel, .sentinel, .sentinel], laidTests := true, laidLooks := .later }
def ScrubHealsUptoCardSaid : Prop := Claim7.holds Tryz.pinned (.plain (OpenSpec.upto scrubHealsSpec)) scrubHealsUptoCard

/-- THE SECOND FORM's CARD OF 'scriniumlaw19.BoundSafe'. -/
def boundSafeUptoCard : Claim7 := { stood := { row := boundSafeUptoRow, standIns := [], harness := (true, "fe7b02b8ef1d04e5b35afb2ef4102e102cf1da1078bcb88116e98ca7951a48c2"), looks := true }, kinds := [], alts := [], laidByText := true, laidKinds := [.sentinel, .sentinel, .sentinel, .sentinel, .sentinel, .sentinel, .sentinel, .sentinel, .sentinel], laidTests := true, laidLooks := .later }
def BoundSafeUptoCardSaid : Prop := Claim7.holds Tryz.pinned (.plain (OpenSpec.upto boundSafeSpec)) boundSafeUptoCard
end Rows
end Go.Proofs.YtgphfebjjedeaaaGreatDoor
