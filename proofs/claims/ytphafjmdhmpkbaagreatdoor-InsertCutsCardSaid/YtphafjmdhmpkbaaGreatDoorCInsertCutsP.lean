/- InsertCuts: for every node and every number the statement's function returns true, and leaves its arguments as they were. No condition beside the given row's. -/
import Derived.Test.YtphafjmdhmpkbaaGreatDoorC35
import Derived.Test.YtphafjmdhmpkbaaGreatDoorC33
import Derived.Test.YtphafjmdhmpkbaaGreatDoorC34
namespace Go.Proofs.YtphafjmdhmpkbaaGreatDoor.lawInsertCuts
open Go.ChangeShapes Go.WideShapes Go.ChangeAt Go.RowKit
set_option maxRecDepth 100000 in
theorem lifted (os:Os) (started:os.Started) (H:Type) (enc:TypeId × Value→H) :
    ReturnsInHanded {} Tryz.checked os 3 .any (fun w args=>(Rows.insertCutsSpec.pre enc Tryz.prog Tryz.f3 [] false w args∧laidMetH Tryz.prog laid6 w)∧sizedMet enc Tryz.prog Tryz.f3 (OpenSpec.ofChange Rows.insertCutsSpec) false w args)
      (Rows.insertCutsSpec.post enc Tryz.prog Tryz.f3 false true false false):=by
  refine returnsInHanded_of_change_and (C:=Tryz.checked) (X:=fun w _=>laidMetH Tryz.prog laid6 w) (fun _ _ _ hh h=>h.of_heap hh) Tryz.own started (by kernel_rfl) Tryz.func3
    (ChangeSpec.witness_shaped (enc:=enc) (C:=Tryz.checked) (os:=os) (X:=fun w _=>laidMetH Tryz.prog laid6 w) false (World.laidAll Tryz.prog os laid6) #[.agg #[.bool false,.slice none 0 0,.slice none 0 0,.slice none 0 0],.int .i64 0] 8 (World.laidAll_os _ _ _)
      (World.shaped_of_ZipB (by kernel_rfl) (by kernel_rfl)) (by kernel_rfl) (by kernel_rfl) (by kernel_rfl)
      (by rw [MakeChecks.laidMetH_plain _ _ _ (by kernel_rfl)];exact laidMet_laidAll _ (by kernel_rfl) (by kernel_rfl))) ?_
  intro W base args ds gs before hval0 hW _ hsz hX _
  have hval:∀ (j:Nat) t v,Tryz.f3.params[j]? = some t→args[j]? = some v→Value.okWide Tryz.prog W .any base t v:=hval0
  have hLaid:laidMet Tryz.prog laid6 W:=by
    have h:=hX
    change laidMetH Tryz.prog laid6 W at h
    rw [MakeChecks.laidMetH_plain _ _ _ (by kernel_rfl)] at h
    exact h
  obtain ⟨ad,hE⟩:=env6 hLaid
  have hW':=hW
  obtain ⟨p,q,hA0,hV,rfl,_,_⟩:=hW
  have hA:DataW.TrodAll enc Tryz.prog W 0 (fun _=>true) true Tryz.f3.params.toList args.toList ds p:=hA0
  have hA1:=hA
  rw [Tryz.params3] at hA hval
  obtain ⟨v0,v1,d0,d1,p0,p1,rfl,rfl,rfl,h0,h1⟩:=trodAll_two hA
  obtain ⟨rfl,rfl⟩:=trodVars_none hV
  obtain ⟨n0,ve0,vk0,vi0,rfl,s0,s1,s2⟩:=read_node (hval 0 26 v0 rfl rfl) h0 hsz (j:=0) rfl rfl
  obtain ⟨x1,rfl,rfl,rfl,wx1⟩:=open_int Tryz.underlying3 (hval 1 3 v1 rfl rfl) h1
  have r1:=int_range wx1
  simp only [List.append_nil] at hW'
  refine (InsertCuts_any hE n0 ve0 vk0 vi0 s0 s1 s2 x1 r1.1 r1.2).mono fun e W' ⟨he,hm⟩=>?_
  subst he
  have hb:=Mods.below hm
  have hargs:=trodAll_below Tryz.laidOut hb _ _ _ _ (by kernel_rfl) hA1 (fun y hy=>hW'.lt y (by simpa using hy))
  exact ⟨_,rfl,_,_,_,[],_,[],hW',trodAll_mk1 (shut_bool Tryz.underlying4 _),hargs,rfl,hb.frame _,fun h=>by cases h⟩

theorem jInPlace:(Rows.insertCutsRow.inPlace == (Tryz.pinned.checked.prog).inPlace 3)=true:=by kernel_rfl
theorem jUnfollowed:(Rows.insertCutsRow.unfollowed == (Tryz.pinned.checked.prog).unfollowed 3)=true:=by kernel_rfl
theorem jRecurses:(Rows.insertCutsRow.recurses == (Tryz.pinned.checked.prog).recurses 3)=true:=by kernel_rfl
theorem jNamed:(Rows.insertCutsRow.named == (Tryz.pinned.checked.prog).varsNamed 3)=true:=by kernel_rfl
theorem joined:joinedFacts (Tryz.pinned.checked.prog) 3 Tryz.f3 Rows.insertCutsSpec Rows.insertCutsRow=true:=by
  unfold joinedFacts
  rw [jInPlace,jUnfollowed,jRecurses,jNamed]
  kernel_rfl
theorem said:Rows.InsertCutsSaid :=
  OpenClaim.holds_of_wide 3 Tryz.f3 rfl rfl rfl rfl rfl rfl rfl ⟨rfl,rfl,rfl,rfl,rfl⟩ rfl rfl rfl rfl rfl (by kernel_rfl) Tryz.func3 joined
    (of_decide_eq_true (by kernel_rfl)) (by unfold Func.isWrapper;first | (rw [if_pos (by decide +kernel)];kernel_rfl) | (rw [if_neg (by decide +kernel)];exact ⟨rfl,rfl⟩))
    (fun os started H enc _=>lifted os started H enc)

theorem plain (f:FuncId) (fn:Func) (hf:Tryz.pinned.checked.prog.funcNamed "scrinium/scriniumlaw13.InsertCuts" = some f) (hfn:Tryz.pinned.checked.prog.funcs[f]? = some fn) :
    true=Tryz.pinned.checked.prog.looks []∧∀ (j:Nat) t,fn.params[j]? = some t→Tryz.pinned.checked.prog.wantsStandIn t=false:=by
  obtain rfl:f = 3:=Option.some.inj ((show Tryz.prog.funcNamed "scrinium/scriniumlaw13.InsertCuts" = some 3 by kernel_rfl).symm.trans hf) |>.symm
  obtain rfl:fn=Tryz.f3:=(Option.some.inj (Tryz.func3.symm.trans hfn)).symm
  refine ⟨by kernel_rfl,fun j t ht=>?_⟩
  rw [Tryz.params3] at ht
  have hm:t ∈ [26,3]:=by simpa using Array.mem_of_getElem? ht
  have hall:([26,3].all fun u=>!Tryz.prog.wantsStandIn u)=true:=by kernel_rfl
  exact (show Tryz.prog.wantsStandIn t=false by simpa using List.all_eq_true.1 hall t hm)

theorem card:Rows.InsertCutsCardSaid :=
  Claim7.holds_tied_plain_at .later [] _ _ _ _ said (fun _ h=>by cases h) (by kernel_rfl) (fun _ h=>by cases h) insertCuts_row_tie rfl ⟨rfl,rfl⟩ (by kernel_rfl) rfl plain (by kernel_rfl)
#print axioms card
end Go.Proofs.YtphafjmdhmpkbaaGreatDoor.lawInsertCuts
