/- From the row's reading to the contracts, where a type's handle is listed besides the nine errors. -/
import Derived.Test.YtmgfneijcfjlfaaGreatDoorK35
import Derived.Test.YtmgfneijcfjlfaaGreatDoorK41
import Derived.LaidHandle
import Derived.Lib.SmallJoins
namespace Go.Proofs.YtmgfneijcfjlfaaGreatDoor
open Go.ChangeShapes Go.WideShapes Go.ChangeAt Go.RowKit
def laid10 : List (String × DataW Unit) := ("errors.errorType", Rows.laid_errors_errorType) :: laid9
theorem Tryz.et : Tryz.prog.globalNamed "errors.errorType" = some 9 := by kernel_rfl
theorem Tryz.rt : (Tryz.prog.cutTypes.find? (·.1 == "internal/reflectlite.rtype")).map (·.2) = some 212 := by kernel_rfl
theorem Tryz.oneRow : ((List.range Tryz.prog.types.size).filter fun t => Tryz.prog.rowNamed t [101, 114, 114, 111, 114]) = [38] := by kernel_rfl
theorem parts10 {W : World} (h : laidMetH Tryz.prog laid10 W) : laidMet Tryz.prog laid9 W ∧ handlesMet Tryz.prog [("errors.errorType", Rows.laid_errors_errorType)] W := h
/-- WHAT THE CONDITION GIVES A WALK: the variable's one cell. -/
theorem handle_of_laid {W : World} (h : laidMetH Tryz.prog laid10 W) : TypeLaid W := by
  obtain ⟨name, u, ty, e1, e2, e3, e4, e5⟩ := (parts10 h).2 _ (List.mem_singleton.2 rfl)
  have en : name = [101, 114, 114, 111, 114] := (Option.some.inj e1).symm
  subst en
  obtain rfl := Option.some.inj (Tryz.rt.symm.trans e2)
  have hm : ty ∈ (List.range Tryz.prog.types.size).filter fun t => Tryz.prog.rowNamed t [101, 114, 114, 111, 114] := List.mem_filter.2 ⟨List.mem_range.2 e3, e4⟩
  rw [Tryz.oneRow] at hm
  obtain rfl := List.mem_singleton.1 hm
  have hh : typeHandle Tryz.prog 38 = .pointer (some ⟨10, 38, none⟩) := by kernel_rfl
  rw [hh] at e5
  unfold TypeLaid
  simpa using World.var?_cell Tryz.et e5 0
noncomputable def base10 (os : Os) : World :=
  let w0 := World.holding Tryz.prog os ⟨#[], #[], []⟩
  { w0 with heap := w0.heap.modify 9 fun
      | .cells _ t frozen => .cells #[.iface 212 (.agg #[.pointer (some ⟨10, 38, none⟩)])] t frozen
      | o => o }
noncomputable def world10 (os : Os) : World := (base10 os).layVars Tryz.prog laid9
theorem world10_os (os : Os) : (world10 os).os = os := (World.layVars_os _ _ _).trans rfl
theorem world10_met (os : Os) (args : Array Value) : laidMetH Tryz.prog laid10 ((world10 os).forCall (fun _ _ => 0) ⟨#[], args, []⟩).memory := by
  refine laidMetH_of_parts (P := Tryz.prog) (l := laid10) ?_ (by kernel_rfl)
  have e0 : (laid10.filter fun x => x.2.handleName?.isNone) = laid9 := rfl
  rw [e0]
  have e1 : (laid9.filter fun x => (laid9.map (·.1)).contains x.1) = laid9 := List.filter_eq_self.2 fun x hx => List.contains_iff_mem.2 (List.mem_map.2 ⟨x, hx, rfl⟩)
  have e2 : (laid9.filter fun x => !(laid9.map (·.1)).contains x.1) = [] := List.filter_eq_nil_iff.2 fun x hx => by rw [List.contains_iff_mem.2 (List.mem_map.2 ⟨x, hx, rfl⟩)]; simp
  have h : laidMet Tryz.prog laid9 (world10 os) := laidMet_layVars (w0 := base10 os) (laid9.map (·.1)) [] (by rw [e1]; rfl) (by rw [e1]; kernel_rfl) (by rw [e1]; kernel_rfl) (by rw [e2]; exact LaidIn.none)
  exact h.of_heap (by simp [World.memory, World.forCall, Input.heap])
theorem u16_range {k : Int} (h : (Lit.int .u16 k).wf = true) : 0 ≤ k ∧ k ≤ 65535 := (Lit.wf_int_iff .u16 k).1 h
theorem u32_range {k : Int} (h : (Lit.int .u32 k).wf = true) : 0 ≤ k ∧ k ≤ 4294967295 := (Lit.wf_int_iff .u32 k).1 h
end Go.Proofs.YtmgfneijcfjlfaaGreatDoor
