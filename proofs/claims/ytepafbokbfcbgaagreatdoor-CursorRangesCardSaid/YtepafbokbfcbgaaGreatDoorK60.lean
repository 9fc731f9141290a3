/- What a range is asked for, as it is read. -/
import Derived.Test.YtepafbokbfcbgaaGreatDoorK52
namespace Go.Proofs.YtepafbokbfcbgaaGreatDoor
open Go.ChangeShapes Go.WideShapes Go.ChangeAt Go.RowKit
theorem Tryz.askCells : Tryz.prog.cellsOf 52 = 3 := by kernel_rfl
set_option maxRecDepth 100000 in
theorem read_asked {H : Type} {enc : TypeId × Value → H} {W : World} {v : Value} {d : DataW H} {p : List MemPlace} {base : Nat}
    (hok : Value.okWide Tryz.prog W .any base 52 v) (h : DataW.Trod enc Tryz.prog W 0 (fun _ => true) true 52 v d p) :
    ∃ (a b : ByteArray) (k : Int), v = .agg #[.string a, .string b, .int .i64 k] := by
  obtain ⟨c0, c1, c2, y0, y1, y2, k, rfl, rfl, rfl, hy0, hy1, hy2⟩ := Go.Joins.open_agg3 Tryz.underlying52 (by kernel_rfl) Tryz.askCells hok h
  obtain ⟨z0, e0, _⟩ := DataW.trod_string Tryz.underlying9 hy0
  obtain ⟨z1, e1, _⟩ := DataW.trod_string Tryz.underlying9 hy1
  obtain ⟨z2, e2, _⟩ := DataW.trod_int Tryz.underlying3 hy2
  simp only [List.cons.injEq, and_true] at e0 e1 e2
  subst e0 e1 e2
  exact ⟨z0, z1, z2, rfl⟩
end Go.Proofs.YtepafbokbfcbgaaGreatDoor
