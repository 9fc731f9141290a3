import Derived.Test.YteabpacpngaoaaaGreatDoorB44
namespace Go.Proofs.YteabpacpngaoaaaGreatDoor.lawBoundSafe
open Go.ChangeShapes Go.WideShapes Go.ChangeAt Go.RowKit
theorem jInPlace:(Rows.boundSafeRow.inPlace == (Tryz.pinned.checked.prog).inPlace 3)=true:=by kernel_rfl
theorem jUnfollowed:(Rows.boundSafeRow.unfollowed == (Tryz.pinned.checked.prog).unfollowed 3)=true:=by kernel_rfl
theorem jRecurses:(Rows.boundSafeRow.recurses == (Tryz.pinned.checked.prog).recurses 3)=true:=by kernel_rfl
theorem jNamed:(Rows.boundSafeRow.named == (Tryz.pinned.checked.prog).varsNamed 3)=true:=by kernel_rfl
theorem joined:joinedFacts (Tryz.pinned.checked.prog) 3 Tryz.f3 Rows.boundSafeSpec Rows.boundSafeRow=true:=by
 unfold joinedFacts;rw[jInPlace,jUnfollowed,jRecurses,jNamed];kernel_rfl
theorem plain(f:FuncId)(fn:Func)(hf:Tryz.pinned.checked.prog.funcNamed "scrinium/scriniumlaw19.BoundSafe" = some f)(hfn:Tryz.pinned.checked.prog.funcs[f]? = some fn) :
  true=Tryz.pinned.checked.prog.looks []∧∀(j:Nat) t,fn.params[j]? = some t→Tryz.pinned.checked.prog.wantsStandIn t=false:=by
 obtain rfl:f = 3:=Option.some.inj ((show Tryz.prog.funcNamed "scrinium/scriniumlaw19.BoundSafe" = some 3 by kernel_rfl).symm.trans hf) |>.symm
 obtain rfl:fn=Tryz.f3:=(Option.some.inj (Tryz.func3.symm.trans hfn)).symm;refine⟨by kernel_rfl,λj t ht=>?_⟩;rw[Tryz.params3] at ht;have hm:t∈[22,5]:=by simpa using Array.mem_of_getElem? ht
 have hall:([22,5].all λu=>!Tryz.prog.wantsStandIn u)=true:=by kernel_rfl
 exact (show Tryz.prog.wantsStandIn t=false by simpa using List.all_eq_true.1 hall t hm)
theorem cWf:OpenClaim.wfByText (OpenSpec.ofChange Rows.boundSafeSpec) Rows.boundSafeRow=true:=by kernel_rfl
theorem cMain:Tryz.pinned.checked.prog.mainIs=some (Rows.boundSafeCard.stood.harness.1,Rows.boundSafeCard.stood.harness.2.toList):=by kernel_rfl
theorem cGoes:false=Rows.boundSafeRow.goesBy Tryz.pinned.checked.prog:=by kernel_rfl
end Go.Proofs.YteabpacpngaoaaaGreatDoor.lawBoundSafe
