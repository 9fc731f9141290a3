/- From a row of six laid errors. -/
import Derived.Test.YtpjpldedebddgaaGreatDoorK37
namespace Go.Proofs.YtpjpldedebddgaaGreatDoor
open Go.ChangeShapes Go.WideShapes Go.ChangeAt Go.RowKit
def laid6 : List (String × DataW Unit) := [("scrinium/api.ErrForm", Rows.laid_scrinium_api_ErrForm), ("scrinium/api.ErrRange", Rows.laid_scrinium_api_ErrRange), ("scrinium/api.ErrFull", Rows.laid_scrinium_api_ErrFull), ("scrinium/api.ErrCorrupt", Rows.laid_scrinium_api_ErrCorrupt), ("scrinium/api.ErrState", Rows.laid_scrinium_api_ErrState), ("scrinium/api.ErrLong", Rows.laid_scrinium_api_ErrLong)]
/-- six laid errors. -/
theorem env6 {W : World} (h : laidMet Tryz.prog laid6 W) : ∃ ad, Env NoB ad W := by
  unfold laid6 at h
  obtain ⟨a1, s1, c1, d1, t1, r1⟩ := laid_one h (by kernel_rfl) (by kernel_rfl) Tryz.underlying52 errRow Tryz.underlying339 Tryz.underlying362 rfl rfl Tryz.underlying9 errCells strCells
  replace h := h.tail
  obtain ⟨a2, s2, c2, d2, t2, r2⟩ := laid_one h (by kernel_rfl) (by kernel_rfl) Tryz.underlying52 errRow Tryz.underlying339 Tryz.underlying362 rfl rfl Tryz.underlying9 errCells strCells
  replace h := h.tail
  obtain ⟨a3, s3, c3, d3, t3, r3⟩ := laid_one h (by kernel_rfl) (by kernel_rfl) Tryz.underlying52 errRow Tryz.underlying339 Tryz.underlying362 rfl rfl Tryz.underlying9 errCells strCells
  replace h := h.tail
  obtain ⟨a5, s5, c5, d5, t5, r5⟩ := laid_one h (by kernel_rfl) (by kernel_rfl) Tryz.underlying52 errRow Tryz.underlying339 Tryz.underlying362 rfl rfl Tryz.underlying9 errCells strCells
  replace h := h.tail
  obtain ⟨a7, s7, c7, d7, t7, r7⟩ := laid_one h (by kernel_rfl) (by kernel_rfl) Tryz.underlying52 errRow Tryz.underlying339 Tryz.underlying362 rfl rfl Tryz.underlying9 errCells strCells
  have hn : ¬ Full (adOf 1 [a1, a2, a3, a1, a5, a1, a7, a1, a1] a1) := fun h => by cases h
  refine ⟨adOf 1 [a1, a2, a3, a1, a5, a1, a7, a1, a1] a1, ⟨c1, c2, c3, c5, c7, fun f => (hn f).elim, fun f => (hn f).elim, fun f => (hn f).elim, fun f => (hn f).elim, fun f => (hn f).elim, fun f => (hn f).elim, ?_, fun _ _ f => f, fun f => (hn f).elim, fun f => (hn f).elim, fun f => (hn f).elim, fun _ f => f.elim⟩⟩
  have z1 := cell_lt c1
  have z2 := cell_lt c2
  have z3 := cell_lt c3
  have z5 := cell_lt c5
  have z7 := cell_lt c7
  omega
end Go.Proofs.YtpjpldedebddgaaGreatDoor
