/- errors.As at a *api.Fault: a sentinel is none; what turns. fault.Page, fault.Ops. -/
import Derived.Test.YtmgfneijcfjlfaaGreatDoorK39
import Derived.Test.YtmgfneijcfjlfaaGreatDoorK01
import Derived.Test.YtmgfneijcfjlfaaGreatDoorK05
namespace Go.Proofs.YtmgfneijcfjlfaaGreatDoor
open Go.RowKit Go.Extern.Stop Go.Stop Go.Extern
theorem Tryz.as_typeOfE (v : Value) (w : World) : (ReflectliteType.typeOf #[.iface 255 v]).run Tryz.prog w = .ok (.iface 212 (.agg #[.pointer (some ⟨10, 255, none⟩)])) w := by kernel_rfl
theorem Tryz.as_assignableE (w : World) : (ReflectliteType.relation "AssignableTo" ReflectliteType.assignableTo #[.agg #[.pointer (some ⟨10, 255, none⟩)], .iface 212 (.agg #[.pointer (some ⟨10, 128, none⟩)])]).run Tryz.prog w = .ok (.bool false) w := by kernel_rfl
theorem Tryz.noAsE (v : Value) (xT : TypeId) (w : World) : (Instr.typeAssert (.iface 255 v) xT 216 true).run Tryz.prog w = .ok (.tuple #[.nilIface, .bool false]) w := run_typeAssert_lacksB Tryz.underlying216 (by kernel_rfl) (by kernel_rfl) v xT w
set_option maxHeartbeats 4000000 in
theorem as_miss (e t : Addr) (w : World) (hg : w.cell? ⟨9, 0, none⟩ = some ( .iface 212 (.agg #[.pointer (some ⟨10, 38, none⟩)]))) :
    Calls Tryz.prog 54 #[.iface 255 (.pointer (some e)), .iface 130 (.pointer (some t))] w fun ev w' => ev = .returned (.bool false) ∧ Ext w w' := by
  have h6 := @run_callFunc_extern Tryz.prog 91 _ (fun args => ReflectliteValue.unpack (args.getD 0 (.tuple #[]))) Tryz.func91 (by kernel_rfl) (by kernel_rfl) (by kernel_rfl) (by kernel_rfl)
  have h7 := @run_callFunc_extern Tryz.prog 92 _ (ReflectliteValue.methodAny (ReflectliteValue.valueError "reflectlite.Value.Type" 0) (fun t _ _ _ => ReflectliteType.toType t)) Tryz.func92 (by kernel_rfl) (by kernel_rfl) (by kernel_rfl) (by kernel_rfl)
  have h8 := @run_callFunc_extern Tryz.prog 93 _ (ReflectliteValue.method (ReflectliteValue.valueError "reflectlite.Value.IsNil" 0) ReflectliteValue.isNil) Tryz.func93 (by kernel_rfl) (by kernel_rfl) (by kernel_rfl) (by kernel_rfl)
  have h27 := @run_callFunc_extern Tryz.prog 162 _ (ReflectliteType.abiMethod fun t => do pure (.int .u8 (← Rtype.kind t))) Tryz.func162 (by kernel_rfl) (by kernel_rfl) (by kernel_rfl) (by kernel_rfl)
  have h37 := @run_callFunc_extern Tryz.prog 175 _ (ReflectliteType.method ReflectliteType.elem) Tryz.func175 (by kernel_rfl) (by kernel_rfl) (by kernel_rfl) (by kernel_rfl)
  have h38 := @run_callFunc_extern Tryz.prog 176 _ (ReflectliteType.relation "Implements" ReflectliteType.implements_) Tryz.func176 (by kernel_rfl) (by kernel_rfl) (by kernel_rfl) (by kernel_rfl)
  have h10 := @run_callFunc_extern Tryz.prog 104 _ ReflectliteType.typeOf Tryz.func104 (by kernel_rfl) (by kernel_rfl) (by kernel_rfl) (by kernel_rfl)
  have h35 := @run_callFunc_extern Tryz.prog 173 _ (ReflectliteType.relation "AssignableTo" ReflectliteType.assignableTo) Tryz.func173 (by kernel_rfl) (by kernel_rfl) (by kernel_rfl) (by kernel_rfl)
  have h11 := @run_callFunc_extern Tryz.prog 115 _ (ReflectliteValue.method (ReflectliteValue.valueError "reflectlite.Value.Elem" 0) ReflectliteValue.elem) Tryz.func115 (by kernel_rfl) (by kernel_rfl) (by kernel_rfl) (by kernel_rfl)
  have h12 := @run_callFunc_extern Tryz.prog 116 _ ReflectliteValue.set Tryz.func116 (by kernel_rfl) (by kernel_rfl) (by kernel_rfl) (by kernel_rfl)
  have tO := Tryz.as_typeOfE
  have mA := Tryz.as_methodAssignableTo
  have a25 := Tryz.as_assignableE
  have nA := Tryz.noAsE
  have uE := Tryz.noUnwrapE
  have vE := Tryz.noUnwrapsE
  have f6 := Tryz.as_valueOf_27
  have f7 := Tryz.as_type_27
  have mK := Tryz.as_methodKind
  have mE := Tryz.as_methodElem
  have mI := Tryz.as_methodImplements
  have k27 := Tryz.as_kind_27
  have k25 := Tryz.as_kind_25
  have e27 := Tryz.as_elem_27
  have i25 := Tryz.as_implements_25
  have n8 := Tryz.as_isNil_27 ⟨w.heap.size, 0, none⟩ t ((w.alloc (.cells #[.pointer (some t)] 130)).alloc (.cells #[.pointer (some ⟨10, 130, none⟩), .pointer (some ⟨w.heap.size, 0, none⟩), .int .u64 150] 180)) (by simp)
  have hlt : 9 < w.heap.size := cell_lt hg
  have hg2 : ((w.alloc (.cells #[.pointer (some t)] 130)).alloc (.cells #[.pointer (some ⟨10, 130, none⟩), .pointer (some ⟨w.heap.size, 0, none⟩), .int .u64 150] 180)).cell? ⟨9, 0, none⟩ = some ( .iface 212 (.agg #[.pointer (some ⟨10, 38, none⟩)])) := by
    rw [World.cell?_alloc_lt _ _ ⟨9, 0, none⟩ (by simp; omega), World.cell?_alloc_lt _ _ ⟨9, 0, none⟩ hlt]; exact hg
  go_enter Tryz.func54, Tryz.ntmps54
  go_wp2
  refine wp_loop_rounds 1 ?_
  rw [rounds_succ]
  go_wp2
  go_ret
  exact ⟨rfl, (((Mods.refl _ w).alloc _).alloc _).alloc _⟩

theorem as_fault (b V : Nat) (old : Value) (w : World) (hg : w.cell? ⟨9, 0, none⟩ = some (.iface 212 (.agg #[.pointer (some ⟨10, 38, none⟩)]))) (hV : Blk w V #[old] 128) :
    Calls Tryz.prog 54 #[faultV b, .iface 130 (.pointer (some ⟨V, 0, none⟩))] w fun ev w' => ev = .returned (.bool true) ∧ Blk w' V #[.pointer (some ⟨b, 0, none⟩)] 128 ∧ Mods (fun k => k = V) w w' := by
  refine (as_hit ⟨b, 0, none⟩ ⟨V, 0, none⟩ old w hg (hV.cell (o := 0) rfl) (hV.frozen 0)).mono ?_
  rintro e w' ⟨rfl, rfl⟩
  refine ⟨rfl, ?_, (((((Mods.refl (fun k => k = V) w).alloc _).alloc _).alloc _).alloc _).setCell (p := ⟨V, 0, none⟩) (.inr rfl) _⟩
  have e1 : (#[.pointer (some ⟨b, 0, none⟩)] : Array Value) = (#[old] : Array Value).setIfInBounds 0 (.pointer (some ⟨b, 0, none⟩)) := rfl
  rw [e1]
  exact Blk.set ((((hV.alloc _).alloc _).alloc _).alloc _) 0 _
end Go.Proofs.YtmgfneijcfjlfaaGreatDoor
