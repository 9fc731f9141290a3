/-
  DERIVED. GIVEN WITH THE SEED: THE CARDS: each row of YtcjlbpmhkoidhaaDoorRows.lean that lists a variable, with what it lists TIED to the program's text (the seventh form; the later family's looks); each row that meets fmt, with fmt's text TOLD by the authors' own Lean function (tested against real Go, not proved from fmt's source: count such statements apart). THE CARD IS WHAT COUNTS. Prove the row's statement (the work); the ties are given (YtcjlbpmhkoidhaaDoorTie.lean); close each card by the builder's one call (the guide's Derived/Test/ToyasCard.lean, 'card_holds'). Laid BY PROGRAM, IN A SANDBOX (cutbox-door.mjs). By AI agents, Wed Nov 11 2026. No macro, syntax, notation, axiom, sorry.
-/
import Derived.Test.YtcjlbpmhkoidhaaDoorRows
import GoSem.ClaimSeven
namespace Go.Proofs.YtcjlbpmhkoidhaaDoor
namespace Rows

/-- THE TIED CARD OF 'scriniumlaw19.BoundMosts'. -/
def boundMostsCard : Claim7 := { stood := { row := boundMostsRow, standIns := [], harness := (true, "ccc77e6942193ef2571b7d5571d868beffed878cf48700d492d4e379312a5a54"), looks := true }, kinds := [], alts := [], laidByText := true, laidKinds := [.sentinel, .sentinel, .sentinel, .sentinel, .sentinel, .sentinel, .sentinel, .sentinel, .sentinel], laidTests := true, laidLooks := .later }
def BoundMostsCardSaid : Prop := Claim7.holds Tryd.pinned (.plain (OpenSpec.ofChange boundMostsSpec)) boundMostsCard

/-- THE TIED CARD OF 'scriniumlaw19.BoundBatches'. -/
def boundBatchesCard : Claim7 := { stood := { row := boundBatchesRow, standIns := [], harness := (true, "ccc77e6942193ef2571b7d5571d868beffed878cf48700d492d4e379312a5a54"), looks := true }, kinds := [], alts := [], laidByText := true, laidKinds := [.sentinel, .sentinel, .sentinel, .sentinel, .sentinel, .sentinel, .sentinel, .sentinel, .sentinel], laidTests := true, laidLooks := .later }
def BoundBatchesCardSaid : Prop := Claim7.holds Tryd.pinned (.plain (OpenSpec.ofChange boundBatchesSpec)) boundBatchesCard

/-- THE SECOND FORM's CARD OF 'scriniumlaw19.BoundMosts'. -/
def boundMostsUptoCard : Claim7 := { stood := { row := boundMostsUptoRow, standIns := [], harness := (true, "ccc77e6942193ef2571b7d5571d868beffed878cf48700d492d4e379312a5a54"), looks := true }, kinds := [], alts := [], laidByText := true, laidKinds := [.sentinel, .sentinel, .sentinel, .sentinel, .sentinel, .sentinel, .sentinel, .sentinel, .sentinel], laidTests := true, laidLooks := .later }
def BoundMostsUptoCardSaid : Prop := Claim7.holds Tryd.pinned (.plain (OpenSpec.upto boundMostsSpec)) boundMostsUptoCard

/-- THE SECOND FORM's CARD OF 'scriniumlaw19.BoundBatches'. -/
def boundBatchesUptoCard : Claim7 := { stood := { row := boundBatchesUptoRow, standIns := [], harness := (true, "ccc77e6942193ef2571b7d5571d868beffed878cf48700d492d4e379312a5a54"), looks := true }, kinds := [], alts := [], laidByText := true, laidKinds := [.sentinel, .sentinel, .sentinel, .sentinel, .sentinel, .sentinel, .sentinel, .sentinel, .sentinel], laidTests := true, laidLooks := .later }
def BoundBatchesUptoCardSaid : Prop := Claim7.holds Tryd.pinned (.plain (OpenSpec.upto boundBatchesSpec)) boundBatchesUptoCard
end Rows
end Go.Proofs.YtcjlbpmhkoidhaaDoor
