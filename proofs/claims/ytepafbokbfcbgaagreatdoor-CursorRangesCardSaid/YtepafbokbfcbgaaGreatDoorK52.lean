/- law12's shape, as it is read. -/
import Derived.Test.YtepafbokbfcbgaaGreatDoorK40
namespace Go.Proofs.YtepafbokbfcbgaaGreatDoor
open Go.ChangeShapes Go.WideShapes Go.ChangeAt Go.RowKit
theorem shape12Cells : Tryz.prog.cellsOf 50 = 3 := by kernel_rfl
set_option maxRecDepth 100000 in
theorem read_shape12 {H : Type} {enc : TypeId × Value → H} {W : World} {v : Value} {d : DataW H} {p : List MemPlace} {base : Nat} {ts : List TypeId} {ds : List (DataW H)} {j : Nat}
    (hok : Value.okWide Tryz.prog W .any base 50 v) (h : DataW.Trod enc Tryz.prog W 0 (fun _ => true) true 50 v d p)
    (hsz : (DataW.weightsEach Tryz.prog ts ds).all (· ≤ reachBytes) = true) (ht : ts[j]? = some 50) (hd : ds[j]? = some d) :
    ∃ (l : List (ByteArray × ByteArray)) (lv : Value) (E K : Nat), v = .agg #[lv, .int .u8 (E : Int), .int .u8 (K : Int)] ∧ Sl NoB W 2 encP lv l ∧ E < 256 ∧ K < 256 := by
  obtain ⟨c0, c1, c2, y0, y1, y2, k, rfl, rfl, rfl, hy0, hy1, hy2⟩ := Go.Joins.open_agg3 Tryz.underlying50 (by kernel_rfl) shape12Cells hok h
  obtain ⟨z1, e1, g1, wz1⟩ := DataW.trod_int Tryz.underlying5 hy1
  obtain ⟨z2, e2, g2, wz2⟩ := DataW.trod_int Tryz.underlying5 hy2
  simp only [List.cons.injEq, and_true] at e1 e2
  subst e1 e2
  have b1 := u8_range wz1
  have b2 := u8_range wz2
  obtain ⟨E, rfl⟩ : ∃ q : Nat, z1 = (q : Int) := ⟨z1.toNat, by omega⟩
  obtain ⟨K, rfl⟩ : ∃ q : Nat, z2 = (q : Int) := ⟨z2.toNat, by omega⟩
  obtain ⟨l, hl⟩ := read_pairs hy0 (fun elems spare he => by
    have hw : (elems.length + spare.length) * Tryz.prog.bytesOf 98 ∈ DataW.weightsEach Tryz.prog ts ds := DataW.weights_mem_each ht hd _ (by
      rw [he]
      simp only [DataW.weights, Tryz.underlying50, DataW.weightsEach, List.map_cons, List.map_nil, Tryz.underlying22]
      simp)
    have h2 := List.all_eq_true.1 hsz _ hw
    rw [Tryz.pairBytes] at h2
    have h3 := reachBytes_lt
    simp only [decide_eq_true_eq] at h2
    omega)
  exact ⟨l, c0, E, K, rfl, hl, by omega, by omega⟩
end Go.Proofs.YtepafbokbfcbgaaGreatDoor
