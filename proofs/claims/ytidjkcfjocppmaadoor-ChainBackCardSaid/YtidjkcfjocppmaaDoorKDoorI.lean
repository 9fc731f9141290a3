/- A slice of ints as it is read. -/
import Derived.Test.YtidjkcfjocppmaaDoorKDoorE
import Derived.ChangeSlices
namespace Go.Proofs.YtidjkcfjocppmaaDoor
open Go.ChangeShapes Go.WideShapes Go.ChangeAt Go.RowKit
theorem intCells : Tryd.prog.cellsOf 3 = 1 := by kernel_rfl
set_option maxRecDepth 100000 in
theorem read_ints {H : Type} {enc : TypeId × Value → H} {W : World} {v : Value} {d : DataW H} {ps : List MemPlace} {base : Nat}
    (hok : Value.okWide Tryd.prog W .any base 42 v) (h : DataW.Trod enc Tryd.prog W 0 (fun _ => true) true 42 v d ps)
    (hsz : ∀ (elems spare : List (DataW H)), d = .slice elems spare → elems.length ≤ 140737488355328) : ∃ l : List Int, Sl NoB W 1 encI v l := by
  obtain ⟨a0, len0, cap0, rfl⟩ := okWide_slice Tryd.underlying42 hok
  obtain ⟨fuel, hf⟩ := h
  rcases open_ints Tryd.underlying42 Tryd.underlying3 intCells hf with ⟨hcs, _⟩ | ⟨a, len, cap, zs, hcs, _, hl, hm, hz, hx, hc, _⟩
  · have : Value.slice a0 len0 cap0 = .slice none 0 0 := by simpa [Value.cells] using hcs
    rw [this]
    exact ⟨[], Sl.nil _ _ _ _⟩
  · have hv : Value.slice a0 len0 cap0 = .slice (some a) len cap := by simpa [Value.cells] using hcs
    rw [hv]
    have hzl : len ≤ zs.length := by rw [hz]; split <;> omega
    have hlen : len ≤ 140737488355328 := by
      have := hsz _ _ (congrArg Prod.fst hx)
      simp [lits] at this
      omega
    have htl : (zs.take len).length = len := by rw [List.length_take]; omega
    refine ⟨zs.take len, some a, cap, by rw [htl], by rw [htl]; exact hl, hm, by rw [htl]; exact hlen, ?_⟩
    by_cases h0 : len = 0
    · left; rw [h0]; rfl
    · right
      have hc0 := hc 0 (by omega)
      have hadd : a.add 0 = a := by simp [Addr.add]
      rw [hadd] at hc0
      have hspot : a.spot = none := by
        unfold World.cell? at hc0
        split at hc0
        · split at hc0
          · simp at hc0
          · rename_i hs; simpa using hs
        · simp at hc0
      obtain ⟨b, off, spot⟩ := a
      simp only at hspot
      subst hspot
      refine ⟨b, off, rfl, cell_lt hc0, fun f => f, fun i x hi j u hu => ?_⟩
      have hil : i < len := by have := (List.getElem?_eq_some_iff.1 hi).1; omega
      have hplain : (⟨b, off, none⟩ : Addr).add i = ⟨b, off + i, none⟩ := by unfold Addr.add; split <;> simp_all
      have hci := hc i (by omega)
      rw [hplain] at hci
      have hxi : x = zs.getD i 0 := by
        rw [List.getElem?_take_of_lt hil] at hi
        simp [List.getD, hi]
      match j, hu with
      | 0, hu =>
        simp only [encI, List.getElem?_cons_zero, Option.some.injEq] at hu
        subst hu
        simp only [Nat.mul_one, Nat.add_zero]
        rw [hxi]; exact hci
      | j + 1, hu => simp [encI] at hu
end Go.Proofs.YtidjkcfjocppmaaDoor
