/- errors.As at a *api.Fault: a sentinel is none; what turns. fault.Page, fault.Ops. -/
import Derived.Test.YtidjkcfjocppmaaDoorKAs
import Derived.Test.YtidjkcfjocppmaaDoorKBase1
namespace Go.Proofs.YtidjkcfjocppmaaDoor
open Go.RowKit Go.Extern.Stop Go.Stop Go.Extern
theorem Tryd.as_typeOfE (v : Value) (w : World) : (ReflectliteType.typeOf #[.iface 169 v]).run Tryd.prog w = .ok (.iface 152 (.agg #[.pointer (some ⟨10, 169, none⟩)])) w := by kernel_rfl
theorem Tryd.as_assignableE (w : World) : (ReflectliteType.relation "AssignableTo" ReflectliteType.assignableTo #[.agg #[.pointer (some ⟨10, 169, none⟩)], .iface 152 (.agg #[.pointer (some ⟨10, 107, none⟩)])]).run Tryd.prog w = .ok (.bool false) w := by kernel_rfl
theorem Tryd.noAsE (v : Value) (xT : TypeId) (w : World) : (Instr.typeAssert (.iface 169 v) xT 156 true).run Tryd.prog w = .ok (.tuple #[.nilIface, .bool false]) w := run_typeAssert_lacksB Tryd.underlying156 (by kernel_rfl) (by kernel_rfl) v xT w
set_option maxHeartbeats 4000000 in
theorem as_miss (e t : Addr) (w : World) (hg : w.cell? ⟨9, 0, none⟩ = some ( .iface 152 (.agg #[.pointer (some ⟨10, 34, none⟩)]))) :
    Calls Tryd.prog 56 #[.iface 169 (.pointer (some e)), .iface 109 (.pointer (some t))] w fun ev w' => ev = .returned (.bool false) ∧ Ext w w' := by
  have h6 := @run_callFunc_extern Tryd.prog 76 _ (fun args => ReflectliteValue.unpack (args.getD 0 (.tuple #[]))) Tryd.func76 (by kernel_rfl) (by kernel_rfl) (by kernel_rfl) (by kernel_rfl)
  have h7 := @run_callFunc_extern Tryd.prog 77 _ (ReflectliteValue.methodAny (ReflectliteValue.valueError "reflectlite.Value.Type" 0) (fun t _ _ _ => ReflectliteType.toType t)) Tryd.func77 (by kernel_rfl) (by kernel_rfl) (by kernel_rfl) (by kernel_rfl)
  have h8 := @run_callFunc_extern Tryd.prog 78 _ (ReflectliteValue.method (ReflectliteValue.valueError "reflectlite.Value.IsNil" 0) ReflectliteValue.isNil) Tryd.func78 (by kernel_rfl) (by kernel_rfl) (by kernel_rfl) (by kernel_rfl)
  have h27 := @run_callFunc_extern Tryd.prog 112 _ (ReflectliteType.abiMethod fun t => do pure (.int .u8 (← Rtype.kind t))) Tryd.func112 (by kernel_rfl) (by kernel_rfl) (by kernel_rfl) (by kernel_rfl)
  have h37 := @run_callFunc_extern Tryd.prog 125 _ (ReflectliteType.method ReflectliteType.elem) Tryd.func125 (by kernel_rfl) (by kernel_rfl) (by kernel_rfl) (by kernel_rfl)
  have h38 := @run_callFunc_extern Tryd.prog 126 _ (ReflectliteType.relation "Implements" ReflectliteType.implements_) Tryd.func126 (by kernel_rfl) (by kernel_rfl) (by kernel_rfl) (by kernel_rfl)
  have h10 := @run_callFunc_extern Tryd.prog 83 _ ReflectliteType.typeOf Tryd.func83 (by kernel_rfl) (by kernel_rfl) (by kernel_rfl) (by kernel_rfl)
  have h35 := @run_callFunc_extern Tryd.prog 123 _ (ReflectliteType.relation "AssignableTo" ReflectliteType.assignableTo) Tryd.func123 (by kernel_rfl) (by kernel_rfl) (by kernel_rfl) (by kernel_rfl)
  have h11 := @run_callFunc_extern Tryd.prog 89 _ (ReflectliteValue.method (ReflectliteValue.valueError "reflectlite.Value.Elem" 0) ReflectliteValue.elem) Tryd.func89 (by kernel_rfl) (by kernel_rfl) (by kernel_rfl) (by kernel_rfl)
  have h12 := @run_callFunc_extern Tryd.prog 90 _ ReflectliteValue.set Tryd.func90 (by kernel_rfl) (by kernel_rfl) (by kernel_rfl) (by kernel_rfl)
  have tO := Tryd.as_typeOfE
  have mA := Tryd.as_methodAssignableTo
  have a25 := Tryd.as_assignableE
  have nA := Tryd.noAsE
  have uE := Tryd.noUnwrapE
  have vE := Tryd.noUnwrapsE
  have f6 := Tryd.as_valueOf_27
  have f7 := Tryd.as_type_27
  have mK := Tryd.as_methodKind
  have mE := Tryd.as_methodElem
  have mI := Tryd.as_methodImplements
  have k27 := Tryd.as_kind_27
  have k25 := Tryd.as_kind_25
  have e27 := Tryd.as_elem_27
  have i25 := Tryd.as_implements_25
  have n8 := Tryd.as_isNil_27 ⟨w.heap.size, 0, none⟩ t ((w.alloc (.cells #[.pointer (some t)] 109)).alloc (.cells #[.pointer (some ⟨10, 109, none⟩), .pointer (some ⟨w.heap.size, 0, none⟩), .int .u64 150] 134)) (by simp)
  have hlt : 9 < w.heap.size := cell_lt hg
  have hg2 : ((w.alloc (.cells #[.pointer (some t)] 109)).alloc (.cells #[.pointer (some ⟨10, 109, none⟩), .pointer (some ⟨w.heap.size, 0, none⟩), .int .u64 150] 134)).cell? ⟨9, 0, none⟩ = some ( .iface 152 (.agg #[.pointer (some ⟨10, 34, none⟩)])) := by
    rw [World.cell?_alloc_lt _ _ ⟨9, 0, none⟩ (by simp; omega), World.cell?_alloc_lt _ _ ⟨9, 0, none⟩ hlt]; exact hg
  go_enter Tryd.func56, Tryd.ntmps56
  go_wp2
  refine wp_loop_rounds 1 ?_
  rw [rounds_succ]
  go_wp2
  go_ret
  exact ⟨rfl, (((Mods.refl _ w).alloc _).alloc _).alloc _⟩

theorem as_fault (b V : Nat) (old : Value) (w : World) (hg : w.cell? ⟨9, 0, none⟩ = some (.iface 152 (.agg #[.pointer (some ⟨10, 34, none⟩)]))) (hV : Blk w V #[old] 107) :
    Calls Tryd.prog 56 #[faultV b, .iface 109 (.pointer (some ⟨V, 0, none⟩))] w fun ev w' => ev = .returned (.bool true) ∧ Blk w' V #[.pointer (some ⟨b, 0, none⟩)] 107 ∧ Mods (fun k => k = V) w w' := by
  refine (as_hit ⟨b, 0, none⟩ ⟨V, 0, none⟩ old w hg (hV.cell (o := 0) rfl) (hV.frozen 0)).mono ?_
  rintro e w' ⟨rfl, rfl⟩
  refine ⟨rfl, ?_, (((((Mods.refl (fun k => k = V) w).alloc _).alloc _).alloc _).alloc _).setCell (p := ⟨V, 0, none⟩) (.inr rfl) _⟩
  have e1 : (#[.pointer (some ⟨b, 0, none⟩)] : Array Value) = (#[old] : Array Value).setIfInBounds 0 (.pointer (some ⟨b, 0, none⟩)) := rfl
  rw [e1]
  exact Blk.set ((((hV.alloc _).alloc _).alloc _).alloc _) 0 _
end Go.Proofs.YtidjkcfjocppmaaDoor
