/- A parameter that is an array of two bytes. -/
import Derived.Test.YtepafbokbfcbgaaGreatDoorK39
namespace Go.Proofs.YtepafbokbfcbgaaGreatDoor
open Go.ChangeShapes Go.WideShapes Go.ChangeAt Go.RowKit
theorem trod_array2 {H : Type} {enc : TypeId × Value → H} {P : Program} {w : World} {base : Nat} {spare : Nat → Bool} {held : Bool} {t e : TypeId} {fuel : Nat} {c0 c1 : Value} {x : DataW H × List MemPlace} (ht : P.underlying t = some (.array 2 e)) (hce : P.cellsOf e = 1)
    (h : DataW.trod enc P w base spare held fuel t [c0, c1] = some x) :
    ∃ y0 y1 n, x = (.agg [y0.1, y1.1], y0.2 ++ y1.2) ∧ DataW.trod enc P w base spare held n e [c0] = some y0 ∧ DataW.trod enc P w base spare held n e [c1] = some y1 := by
  cases fuel with
  | zero => simp [DataW.trod] at h
  | succ n =>
    unfold DataW.trod at h
    rw [ht] at h
    have r2 : List.range 2 = [0, 1] := rfl
    simp [r2, hce] at h
    obtain ⟨_, h⟩ := h
    cases h0 : DataW.trod enc P w base spare held n e [c0] with
    | none => simp [h0] at h
    | some y0 =>
      cases h1 : DataW.trod enc P w base spare held n e [c1] with
      | none => simp [h0, h1] at h
      | some y1 =>
        simp [h0, h1] at h
        exact ⟨y0, y1, n, h.symm, h0, h1⟩
theorem Tryz.arr2Cells : Tryz.prog.cellsOf 87 = 2 := by kernel_rfl
theorem Tryz.u8Cells : Tryz.prog.cellsOf 5 = 1 := by kernel_rfl
set_option maxRecDepth 100000 in
theorem read_arr2 {H : Type} {enc : TypeId × Value → H} {W : World} {v : Value} {d : DataW H} {p : List MemPlace} {base : Nat}
    (hok : Value.okWide Tryz.prog W .any base 87 v) (h : DataW.Trod enc Tryz.prog W 0 (fun _ => true) true 87 v d p) :
    ∃ (a b : Nat), v = .agg #[.int .u8 (a : Int), .int .u8 (b : Int)] ∧ a < 256 ∧ b < 256 := by
  obtain ⟨cs, rfl, hsz, _⟩ : ∃ cs, v = .agg cs ∧ cs.size = Tryz.prog.cellsOf 87 ∧ Row.okWide Tryz.prog W .any base 87 cs := by
    simp only [Value.okWide, Tryz.underlying87] at hok
    exact hok
  rw [Tryz.arr2Cells] at hsz
  obtain ⟨l⟩ := cs
  obtain ⟨c0, c1, rfl⟩ : ∃ c0 c1, l = [c0, c1] := by
    match l, hsz with
    | [c0, c1], _ => exact ⟨c0, c1, rfl⟩
  · obtain ⟨fuel, hf⟩ := h
    obtain ⟨y0, y1, m, hx, hy0, hy1⟩ := trod_array2 Tryz.underlying87 Tryz.u8Cells hf
    obtain ⟨x0, e0, g0, w0⟩ := DataW.trod_int Tryz.underlying5 hy0
    obtain ⟨x1, e1, g1, w1⟩ := DataW.trod_int Tryz.underlying5 hy1
    simp only [List.cons.injEq, and_true] at e0 e1
    subst e0 e1
    have b0 := u8_range w0
    have b1 := u8_range w1
    obtain ⟨a, rfl⟩ : ∃ a : Nat, x0 = (a : Int) := ⟨x0.toNat, by omega⟩
    obtain ⟨b, rfl⟩ : ∃ b : Nat, x1 = (b : Int) := ⟨x1.toNat, by omega⟩
    exact ⟨a, b, rfl, by omega, by omega⟩
theorem u32_range' {k : Int} (h : (Lit.int .u32 k).wf = true) : 0 ≤ k ∧ k ≤ 4294967295 := (Lit.wf_int_iff .u32 k).1 h
end Go.Proofs.YtepafbokbfcbgaaGreatDoor
