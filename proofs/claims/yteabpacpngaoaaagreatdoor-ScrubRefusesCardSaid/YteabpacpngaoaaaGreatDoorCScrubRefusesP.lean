import Derived.Test.YteabpacpngaoaaaGreatDoorC43
import Derived.Test.YteabpacpngaoaaaGreatDoorC70
import Derived.Lib.SmallJoins
namespace Go.Proofs.YteabpacpngaoaaaGreatDoor.lawScrubRefuses
open Go.ChangeShapes Go.WideShapes Go.ChangeAt Go.RowKit
theorem burstCells:Tryz.prog.cellsOf 53 = 3:=by kernel_rfl
theorem u16_rangeB{x:Int}(h:(Lit.int .u16 x).wf=true):0<=x/\x<=65535:=(Lit.wf_int_iff .u16 x).1 h
theorem u32_rangeB{x:Int}(h:(Lit.int .u32 x).wf=true):0<=x/\x<=4294967295:=(Lit.wf_int_iff .u32 x).1 h
set_option maxRecDepth 100000 in
theorem lifted(os:Os)(started:os.Started)(H:Type)(enc:TypeId × Value->H) :
  ReturnsInHanded {} Tryz.checked os 6 .any (λw args=>(Rows.scrubRefusesSpec.pre enc Tryz.prog Tryz.f6 [] false w args/\laidMetH Tryz.prog zDO w)/\sizedMet enc Tryz.prog Tryz.f6 (OpenSpec.ofChange Rows.scrubRefusesSpec) false w args)
   (Rows.scrubRefusesSpec.post enc Tryz.prog Tryz.f6 false true false false):=by
 refine returnsInHanded_of_change_and (C:=Tryz.checked) (X:=λw _=>laidMetH Tryz.prog zDO w) (λ_ _ _ hh h=>h.of_heap hh) Tryz.own started (by kernel_rfl) Tryz.func6
  (ChangeSpec.witness_shaped (enc:=enc) (C:=Tryz.checked) (os:=os) (X:=λw _=>laidMetH Tryz.prog zDO w) false (World.laidAll Tryz.prog os zDO) #[.agg #[.int .u16 0,.int .u16 0,.int .u32 0]] 8 (World.laidAll_os _ _ _)
   (World.shaped_of_ZipB (by kernel_rfl) (by kernel_rfl)) (by kernel_rfl) (by kernel_rfl) (by kernel_rfl)
   (by rw[MakeChecks.laidMetH_plain _ _ _ (by kernel_rfl)];exact laidMet_laidAll _ (by kernel_rfl) (by kernel_rfl))) ?_
 intro W base args ds gs before hval0 hW _ hsz hX _;have hval:∀(j:Nat) t v,Tryz.f6.params[j]? = some t->args[j]? = some v->Value.okWide Tryz.prog W .any base t v:=hval0;have hLaid:laidMet Tryz.prog zDO W:=by
  have h:=hX;change laidMetH Tryz.prog zDO W at h
  rw[MakeChecks.laidMetH_plain _ _ _ (by kernel_rfl)] at h;exact h
 obtain⟨ad,hE,hF⟩:=zR9 hLaid;have hW':=hW;obtain⟨p,q,hA0,hV,rfl,_,_⟩:=hW;have hA:DataW.TrodAll enc Tryz.prog W 0 (λ_=>true) true Tryz.f6.params.toList args.toList ds p:=hA0;have hA1:=hA;rw[Tryz.params6] at hA hval;obtain⟨v0,d0,rfl,rfl,h0⟩:=trodAll_one hA;obtain⟨rfl,rfl⟩:=trodVars_none hV;obtain⟨c0,c1,c2,y0,y1,y2,k0,rfl,hd0,rfl,hy0,hy1,hy2⟩:=Go.Joins.open_agg3 Tryz.underlying53 (by kernel_rfl) burstCells (hval 0 53 v0 rfl rfl) h0;obtain⟨z0,e0,g0,wz0⟩:=DataW.trod_int Tryz.underlying50 hy0;obtain⟨z1,e1,g1,wz1⟩:=DataW.trod_int Tryz.underlying50 hy1;obtain⟨z2,e2,g2,wz2⟩:=DataW.trod_int Tryz.underlying51 hy2;simp only[List.cons.injEq,and_true] at e0 e1 e2;subst e0 e1 e2;have b0:=u16_rangeB wz0;have b1:=u16_rangeB wz1;have b2:=u32_rangeB wz2;obtain⟨bk,rfl⟩:∃p0:Nat,z0=(p0:Int):=⟨z0.toNat,by omega⟩;obtain⟨bt,rfl⟩:∃q0:Nat,z1=(q0:Int):=⟨z1.toNat,by omega⟩;obtain⟨mk,rfl⟩:∃m0:Nat,z2=(m0:Int):=⟨z2.toNat,by omega⟩;simp only[List.append_nil] at hW';refine (zGO hE hF bk bt mk (by omega) (by omega) (by omega)).mono λe W' ⟨he,hm⟩=>?_
 subst he;have hb:=zA.below hm;have hargs:=zDa Tryz.laidOut hb _ _ _ _ (by kernel_rfl) hA1 (λy hy=>hW'.lt y (by simpa using hy));exact⟨_,rfl,_,_,_,[],_,[],hW',trodAll_mk1 (shut_bool Tryz.underlying4 _),hargs,rfl,hb.frame _,λh=>by cases h⟩
theorem jInPlace:(Rows.scrubRefusesRow.inPlace == (Tryz.pinned.checked.prog).inPlace 6)=true:=by kernel_rfl
theorem jUnfollowed:(Rows.scrubRefusesRow.unfollowed == (Tryz.pinned.checked.prog).unfollowed 6)=true:=by kernel_rfl
theorem jRecurses:(Rows.scrubRefusesRow.recurses == (Tryz.pinned.checked.prog).recurses 6)=true:=by kernel_rfl
theorem jNamed:(Rows.scrubRefusesRow.named == (Tryz.pinned.checked.prog).varsNamed 6)=true:=by kernel_rfl
theorem joined:joinedFacts (Tryz.pinned.checked.prog) 6 Tryz.f6 Rows.scrubRefusesSpec Rows.scrubRefusesRow=true:=by
 unfold joinedFacts;rw[jInPlace,jUnfollowed,jRecurses,jNamed];kernel_rfl
theorem said:Rows.ScrubRefusesSaid :=
 OpenClaim.holds_of_wide 6 Tryz.f6 rfl rfl rfl rfl rfl rfl rfl ⟨rfl,rfl,rfl,rfl,rfl⟩ rfl rfl rfl rfl rfl (by kernel_rfl) Tryz.func6 joined
  (of_decide_eq_true (by kernel_rfl)) (by unfold Func.isWrapper;first|(rw[if_pos (by decide +kernel)];kernel_rfl)|(rw[if_neg (by decide +kernel)];exact⟨rfl,rfl⟩))
  (λos started H enc _=>lifted os started H enc)
theorem plain(f:FuncId)(fn:Func)(hf:Tryz.pinned.checked.prog.funcNamed "scrinium/scriniumlaw18.ScrubRefuses" = some f)(hfn:Tryz.pinned.checked.prog.funcs[f]? = some fn) :
  true=Tryz.pinned.checked.prog.looks []/\∀(j:Nat) t,fn.params[j]? = some t->Tryz.pinned.checked.prog.wantsStandIn t=false:=by
 obtain rfl:f = 6:=Option.some.inj ((show Tryz.prog.funcNamed "scrinium/scriniumlaw18.ScrubRefuses" = some 6 by kernel_rfl).symm.trans hf) |>.symm
 obtain rfl:fn=Tryz.f6:=(Option.some.inj (Tryz.func6.symm.trans hfn)).symm;refine⟨by kernel_rfl,λj t ht=>?_⟩;rw[Tryz.params6] at ht;have hm:t∈[53]:=by simpa using Array.mem_of_getElem? ht
 have hall:([53].all λu=>!Tryz.prog.wantsStandIn u)=true:=by kernel_rfl
 exact (show Tryz.prog.wantsStandIn t=false by simpa using List.all_eq_true.1 hall t hm)
theorem cWf:OpenClaim.wfByText (OpenSpec.ofChange Rows.scrubRefusesSpec) Rows.scrubRefusesRow=true:=by kernel_rfl
theorem cMain:Tryz.pinned.checked.prog.mainIs=some (Rows.scrubRefusesCard.stood.harness.1,Rows.scrubRefusesCard.stood.harness.2.toList):=by kernel_rfl
theorem cGoes:false=Rows.scrubRefusesRow.goesBy Tryz.pinned.checked.prog:=by kernel_rfl
theorem card:Rows.ScrubRefusesCardSaid :=
 Claim7.holds_tied_plain_at .later [] _ _ _ _ said (λ_ h=>by cases h) cWf (λ_ h=>by cases h) scrubRefuses_row_tie rfl ⟨rfl,rfl⟩ cMain rfl plain cGoes
#print axioms card
end Go.Proofs.YteabpacpngaoaaaGreatDoor.lawScrubRefuses
