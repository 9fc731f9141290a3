/-
  DERIVED. GIVEN WITH THE SEED: THE PROGRAM's TIES (one call each: nine closed facts by the kernel) AND EACH ROW's TIE, after the 31st guide's Derived/Test/Toyas{Tie, Card}.lean. No idea stands in it: it is a product of the set-up. Laid BY PROGRAM, IN A SANDBOX (cutbox-door.mjs). By AI agents, Wed Nov 11 2026. No macro, syntax, notation, axiom, sorry.
-/
import Derived.Test.YtmgfneijcfjlfaaGreatDoorRows
import Derived.LaidByTextLater
import Derived.SevenTiedAt
import Derived.LaidSub
import Derived.LaidOnce
namespace Go.Proofs.YtmgfneijcfjlfaaGreatDoor
open Go
set_option maxRecDepth 100000
theorem seatTie1 : Tryz.prog.laidByTextLater [("errors.errorType", Rows.laid_errors_errorType), ("scrinium/api.ErrForm", Rows.laid_scrinium_api_ErrForm), ("scrinium/api.ErrRange", Rows.laid_scrinium_api_ErrRange), ("scrinium/api.ErrFull", Rows.laid_scrinium_api_ErrFull), ("scrinium/api.ErrNone", Rows.laid_scrinium_api_ErrNone), ("scrinium/api.ErrCorrupt", Rows.laid_scrinium_api_ErrCorrupt), ("scrinium/api.ErrFuel", Rows.laid_scrinium_api_ErrFuel), ("scrinium/api.ErrState", Rows.laid_scrinium_api_ErrState), ("scrinium/api.ErrLong", Rows.laid_scrinium_api_ErrLong), ("scrinium/api.ErrTwice", Rows.laid_scrinium_api_ErrTwice)] [.handle, .sentinel, .sentinel, .sentinel, .sentinel, .sentinel, .sentinel, .sentinel, .sentinel, .sentinel] true :=
  Program.laidByTextLater_by_one 187 8 2 (by kernel_rfl) (by kernel_rfl) (by kernel_rfl) (by kernel_rfl) (by kernel_rfl) (by kernel_rfl) (fun _ _ => by kernel_rfl)
theorem noOwnUnsafe : Tryz.pinned.checked.prog.headLifts.contains "ownunsafe" = false := by kernel_rfl
theorem tie : Tryz.prog.laidByTextLater [("scrinium/api.ErrForm", Rows.laid_scrinium_api_ErrForm), ("scrinium/api.ErrRange", Rows.laid_scrinium_api_ErrRange), ("scrinium/api.ErrFull", Rows.laid_scrinium_api_ErrFull), ("scrinium/api.ErrNone", Rows.laid_scrinium_api_ErrNone), ("scrinium/api.ErrCorrupt", Rows.laid_scrinium_api_ErrCorrupt), ("scrinium/api.ErrFuel", Rows.laid_scrinium_api_ErrFuel), ("scrinium/api.ErrState", Rows.laid_scrinium_api_ErrState), ("scrinium/api.ErrLong", Rows.laid_scrinium_api_ErrLong), ("scrinium/api.ErrTwice", Rows.laid_scrinium_api_ErrTwice)] [.sentinel, .sentinel, .sentinel, .sentinel, .sentinel, .sentinel, .sentinel, .sentinel, .sentinel] true :=
  Program.laidByTextLater.sub seatTie1 ["scrinium/api.ErrForm", "scrinium/api.ErrRange", "scrinium/api.ErrFull", "scrinium/api.ErrNone", "scrinium/api.ErrCorrupt", "scrinium/api.ErrFuel", "scrinium/api.ErrState", "scrinium/api.ErrLong", "scrinium/api.ErrTwice"] (by kernel_rfl) (by kernel_rfl)
theorem lookupGets_row_tie : Rows.lookupGetsRow.laidByTextAt .later Tryz.pinned [.sentinel, .sentinel, .sentinel, .sentinel, .sentinel, .sentinel, .sentinel, .sentinel, .sentinel] true :=
  OpenClaim.laidByTextAt_later rfl rfl tie noOwnUnsafe
theorem lookupPaths_row_tie : Rows.lookupPathsRow.laidByTextAt .later Tryz.pinned [.sentinel, .sentinel, .sentinel, .sentinel, .sentinel, .sentinel, .sentinel, .sentinel, .sentinel] true :=
  OpenClaim.laidByTextAt_later rfl rfl tie noOwnUnsafe
theorem lookupRefuses_row_tie : Rows.lookupRefusesRow.laidByTextAt .later Tryz.pinned [.sentinel, .sentinel, .sentinel, .sentinel, .sentinel, .sentinel, .sentinel, .sentinel, .sentinel] true :=
  OpenClaim.laidByTextAt_later rfl rfl tie noOwnUnsafe
theorem lookupSpoilt_row_tie : Rows.lookupSpoiltRow.laidByTextAt .later Tryz.pinned [.sentinel, .sentinel, .sentinel, .sentinel, .sentinel, .sentinel, .sentinel, .sentinel, .sentinel] true :=
  OpenClaim.laidByTextAt_later rfl rfl tie noOwnUnsafe
theorem tie2 : Tryz.prog.laidByTextLater [("scrinium/api.ErrForm", Rows.laid_scrinium_api_ErrForm), ("scrinium/api.ErrRange", Rows.laid_scrinium_api_ErrRange), ("scrinium/api.ErrFull", Rows.laid_scrinium_api_ErrFull), ("scrinium/api.ErrCorrupt", Rows.laid_scrinium_api_ErrCorrupt), ("scrinium/api.ErrState", Rows.laid_scrinium_api_ErrState)] [.sentinel, .sentinel, .sentinel, .sentinel, .sentinel] true :=
  Program.laidByTextLater.sub seatTie1 ["scrinium/api.ErrForm", "scrinium/api.ErrRange", "scrinium/api.ErrFull", "scrinium/api.ErrCorrupt", "scrinium/api.ErrState"] (by kernel_rfl) (by kernel_rfl)
theorem lookupWalks_row_tie : Rows.lookupWalksRow.laidByTextAt .later Tryz.pinned [.sentinel, .sentinel, .sentinel, .sentinel, .sentinel] true :=
  OpenClaim.laidByTextAt_later rfl rfl tie2 noOwnUnsafe
theorem tie3 : Tryz.prog.laidByTextLater [("errors.errorType", Rows.laid_errors_errorType), ("scrinium/api.ErrForm", Rows.laid_scrinium_api_ErrForm), ("scrinium/api.ErrRange", Rows.laid_scrinium_api_ErrRange), ("scrinium/api.ErrFull", Rows.laid_scrinium_api_ErrFull), ("scrinium/api.ErrNone", Rows.laid_scrinium_api_ErrNone), ("scrinium/api.ErrCorrupt", Rows.laid_scrinium_api_ErrCorrupt), ("scrinium/api.ErrFuel", Rows.laid_scrinium_api_ErrFuel), ("scrinium/api.ErrState", Rows.laid_scrinium_api_ErrState), ("scrinium/api.ErrLong", Rows.laid_scrinium_api_ErrLong), ("scrinium/api.ErrTwice", Rows.laid_scrinium_api_ErrTwice)] [.handle, .sentinel, .sentinel, .sentinel, .sentinel, .sentinel, .sentinel, .sentinel, .sentinel, .sentinel] true :=
  Program.laidByTextLater.sub seatTie1 ["errors.errorType", "scrinium/api.ErrForm", "scrinium/api.ErrRange", "scrinium/api.ErrFull", "scrinium/api.ErrNone", "scrinium/api.ErrCorrupt", "scrinium/api.ErrFuel", "scrinium/api.ErrState", "scrinium/api.ErrLong", "scrinium/api.ErrTwice"] (by kernel_rfl) (by kernel_rfl)
theorem lookupLoads_row_tie : Rows.lookupLoadsRow.laidByTextAt .later Tryz.pinned [.handle, .sentinel, .sentinel, .sentinel, .sentinel, .sentinel, .sentinel, .sentinel, .sentinel, .sentinel] true :=
  OpenClaim.laidByTextAt_later rfl rfl tie3 noOwnUnsafe
theorem lookupGetsUpto_row_tie : Rows.lookupGetsUptoRow.laidByTextAt .later Tryz.pinned [.sentinel, .sentinel, .sentinel, .sentinel, .sentinel, .sentinel, .sentinel, .sentinel, .sentinel] true :=
  OpenClaim.laidByTextAt_later rfl rfl tie noOwnUnsafe
theorem lookupPathsUpto_row_tie : Rows.lookupPathsUptoRow.laidByTextAt .later Tryz.pinned [.sentinel, .sentinel, .sentinel, .sentinel, .sentinel, .sentinel, .sentinel, .sentinel, .sentinel] true :=
  OpenClaim.laidByTextAt_later rfl rfl tie noOwnUnsafe
theorem lookupWalksUpto_row_tie : Rows.lookupWalksUptoRow.laidByTextAt .later Tryz.pinned [.sentinel, .sentinel, .sentinel, .sentinel, .sentinel] true :=
  OpenClaim.laidByTextAt_later rfl rfl tie2 noOwnUnsafe
theorem lookupRefusesUpto_row_tie : Rows.lookupRefusesUptoRow.laidByTextAt .later Tryz.pinned [.sentinel, .sentinel, .sentinel, .sentinel, .sentinel, .sentinel, .sentinel, .sentinel, .sentinel] true :=
  OpenClaim.laidByTextAt_later rfl rfl tie noOwnUnsafe
theorem lookupLoadsUpto_row_tie : Rows.lookupLoadsUptoRow.laidByTextAt .later Tryz.pinned [.handle, .sentinel, .sentinel, .sentinel, .sentinel, .sentinel, .sentinel, .sentinel, .sentinel, .sentinel] true :=
  OpenClaim.laidByTextAt_later rfl rfl tie3 noOwnUnsafe
theorem lookupSpoiltUpto_row_tie : Rows.lookupSpoiltUptoRow.laidByTextAt .later Tryz.pinned [.sentinel, .sentinel, .sentinel, .sentinel, .sentinel, .sentinel, .sentinel, .sentinel, .sentinel] true :=
  OpenClaim.laidByTextAt_later rfl rfl tie noOwnUnsafe
end Go.Proofs.YtmgfneijcfjlfaaGreatDoor
