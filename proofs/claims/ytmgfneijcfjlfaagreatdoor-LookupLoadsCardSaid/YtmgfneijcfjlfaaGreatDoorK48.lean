/- A slice of bytes, and a page, as they are read. -/
import Derived.Test.YtmgfneijcfjlfaaGreatDoorK36
import Derived.Test.YtmgfneijcfjlfaaGreatDoorK29
import Derived.ChangeSlices
namespace Go.Proofs.YtmgfneijcfjlfaaGreatDoor
open Go.ChangeShapes Go.WideShapes Go.ChangeAt Go.RowKit
theorem byteCells : Tryz.prog.cellsOf 5 = 1 := by kernel_rfl
theorem u64_range {k : Int} (h : (Lit.int .u64 k).wf = true) : 0 ≤ k ∧ k ≤ 18446744073709551615 := (Lit.wf_int_iff .u64 k).1 h
set_option maxRecDepth 100000 in
theorem read_bytes {H : Type} {enc : TypeId × Value → H} {W : World} {v : Value} {fuel : Nat} {x : DataW H × List MemPlace}
    (h : DataW.trod enc Tryz.prog W 0 (fun _ => true) true fuel 73 [v] = some x)
    (hsz : ∀ (elems spare : List (DataW H)), x.1 = .slice elems spare → elems.length ≤ 140737488355328) : ∃ l : List UInt8, Sl NoB W 1 encB v l := by
  rcases open_ints Tryz.underlying73 Tryz.underlying5 byteCells h with ⟨hcs, _⟩ | ⟨a, len, cap, zs, hcs, _, hl, hm, hz, hx, hc, hwf⟩
  · have : v = .slice none 0 0 := by simpa using hcs
    rw [this]
    exact ⟨[], Sl.nil _ _ _ _⟩
  · have hv : v = .slice (some a) len cap := by simpa using hcs
    rw [hv]
    have hzl : len ≤ zs.length := by rw [hz]; split <;> omega
    have hlen : len ≤ 140737488355328 := by
      have := hsz _ _ (congrArg Prod.fst hx)
      simp [lits] at this
      omega
    have hb : ∀ i, i < len → ∃ u : UInt8, zs.getD i 0 = (u.toNat : Int) := fun i hi => u8_of (u8_range (hwf _ (by
      have : zs.getD i 0 = zs[i]'(by omega) := by simp [List.getD, show i < zs.length by omega]
      rw [this]; exact List.getElem_mem _)))
    have hb2 : ∀ i, ∃ u : UInt8, i < len → zs.getD i 0 = (u.toNat : Int) := fun i => by
      by_cases hi : i < len
      · obtain ⟨u, hu⟩ := hb i hi; exact ⟨u, fun _ => hu⟩
      · exact ⟨0, fun h => absurd h hi⟩
    obtain ⟨q, hq⟩ := Classical.axiomOfChoice hb2
    have hll : ((List.range len).map q).length = len := by simp
    refine ⟨(List.range len).map q, some a, cap, by rw [hll], by rw [hll]; exact hl, hm, by rw [hll]; exact hlen, ?_⟩
    by_cases h0 : len = 0
    · left; rw [h0]; rfl
    · right
      have hc0 := hc 0 (by omega)
      have hadd : a.add 0 = a := by simp [Addr.add]
      rw [hadd] at hc0
      obtain ⟨b, off, rfl⟩ := plain_of_cell hc0
      refine ⟨b, off, rfl, cell_lt hc0, fun f => f, fun i x hi j u hu => ?_⟩
      have hil : i < len := by have := (List.getElem?_eq_some_iff.1 hi).1; simpa using this
      have hci := hc i (by omega)
      rw [plain_add] at hci
      rw [List.getElem?_map, List.getElem?_range hil, Option.map_some] at hi
      injection hi with hi
      subst hi
      match j, hu with
      | 0, hu =>
        simp only [encB, List.getElem?_cons_zero, Option.some.injEq] at hu
        subst hu
        simp only [Nat.mul_one, Nat.add_zero]
        rw [hci, hq i hil]
      | j + 1, hu => simp [encB] at hu
theorem Tryz.byteBytes : Tryz.prog.bytesOf 5 = 1 := by kernel_rfl
theorem pageCells : Tryz.prog.cellsOf 75 = 4 := by kernel_rfl
set_option maxRecDepth 100000 in
theorem read_page {H : Type} {enc : TypeId × Value → H} {W : World} {v : Value} {d : DataW H} {p : List MemPlace} {base : Nat} {ts : List TypeId} {ds : List (DataW H)} {j : Nat}
    (hok : Value.okWide Tryz.prog W .any base 75 v) (h : DataW.Trod enc Tryz.prog W 0 (fun _ => true) true 75 v d p)
    (hsz : (DataW.weightsEach Tryz.prog ts ds).all (· ≤ reachBytes) = true) (ht : ts[j]? = some 75) (hd : ds[j]? = some d) :
    ∃ (kind id : Int) (gen : Nat) (bv : Value) (b : List UInt8), v = .agg #[.int .i64 kind, .int .i64 id, .int .u64 (gen : Int), bv] ∧ Sl NoB W 1 encB bv b ∧ gen < 18446744073709551616 := by
  obtain ⟨c0, c1, c2, c3, y0, y1, y2, y3, k, rfl, rfl, rfl, hy0, hy1, hy2, hy3⟩ := Go.Joins.open_agg4 Tryz.underlying75 (by kernel_rfl) pageCells hok h
  obtain ⟨z0, e0, g0, wz0⟩ := DataW.trod_int Tryz.underlying3 hy0
  obtain ⟨z1, e1, g1, wz1⟩ := DataW.trod_int Tryz.underlying3 hy1
  obtain ⟨z2, e2, g2, wz2⟩ := DataW.trod_int Tryz.underlying32 hy2
  simp only [List.cons.injEq, and_true] at e0 e1 e2
  subst e0 e1 e2
  have b2 := u64_range wz2
  obtain ⟨gen, rfl⟩ : ∃ q : Nat, z2 = (q : Int) := ⟨z2.toNat, by omega⟩
  obtain ⟨b, hb⟩ := read_bytes hy3 (fun elems spare he => by
    have hw : (elems.length + spare.length) * Tryz.prog.bytesOf 5 ∈ DataW.weightsEach Tryz.prog ts ds := DataW.weights_mem_each ht hd _ (by
      rw [he]
      simp only [DataW.weights, Tryz.underlying75, DataW.weightsEach, List.map_cons, List.map_nil, Tryz.underlying73]
      simp)
    have h2 := List.all_eq_true.1 hsz _ hw
    rw [Tryz.byteBytes] at h2
    have h3 := reachBytes_lt
    simp only [decide_eq_true_eq] at h2
    omega)
  exact ⟨z0, z1, gen, c3, b, rfl, hb, by omega⟩
end Go.Proofs.YtmgfneijcfjlfaaGreatDoor
