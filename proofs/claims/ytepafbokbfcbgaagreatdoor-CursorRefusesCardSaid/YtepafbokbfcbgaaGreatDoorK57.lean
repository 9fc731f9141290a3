/- A call that is asked for, as it is read. -/
import Derived.Test.YtepafbokbfcbgaaGreatDoorK52
namespace Go.Proofs.YtepafbokbfcbgaaGreatDoor
open Go.ChangeShapes Go.WideShapes Go.ChangeAt Go.RowKit
theorem Tryz.actCells2 : Tryz.prog.cellsOf 72 = 2 := by kernel_rfl
set_option maxRecDepth 100000 in
theorem read_act {H : Type} {enc : TypeId × Value → H} {W : World} {v : Value} {d : DataW H} {p : List MemPlace} {base : Nat}
    (hok : Value.okWide Tryz.prog W .any base 72 v) (h : DataW.Trod enc Tryz.prog W 0 (fun _ => true) true 72 v d p) :
    ∃ (k : Int) (s : ByteArray), v = .agg #[.int .i64 k, .string s] := by
  obtain ⟨c0, c1, y0, y1, k, rfl, rfl, rfl, hy0, hy1⟩ := Go.Joins.open_agg2 Tryz.underlying72 (by kernel_rfl) Tryz.actCells2 hok h
  obtain ⟨z0, e0, _⟩ := DataW.trod_int Tryz.underlying3 hy0
  obtain ⟨z1, e1, _⟩ := DataW.trod_string Tryz.underlying9 hy1
  simp only [List.cons.injEq, and_true] at e0 e1
  subst e0 e1
  exact ⟨z0, z1, rfl⟩
end Go.Proofs.YtepafbokbfcbgaaGreatDoor
