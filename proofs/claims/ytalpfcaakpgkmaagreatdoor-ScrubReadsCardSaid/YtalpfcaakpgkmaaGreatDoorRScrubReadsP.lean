import Derived.Lib.SmallJoins
import Derived.Test.YtalpfcaakpgkmaaGreatDoorR50
import Derived.Test.YtalpfcaakpgkmaaGreatDoorR48
namespace Go.Proofs.YtalpfcaakpgkmaaGreatDoor.lawScrubReads
open Go.ChangeShapes Go.WideShapes Go.ChangeAt Go.RowKit
theorem burstCells:Tryz.prog.cellsOf 26 = 3:=by kernel_rfl
theorem u16_rangeB{x:Int}(h:(Lit.int .u16 x).wf=true):0<=x/\x<=65535:=(Lit.wf_int_iff .u16 x).1 h
theorem u32_rangeB{x:Int}(h:(Lit.int .u32 x).wf=true):0<=x/\x<=4294967295:=(Lit.wf_int_iff .u32 x).1 h
set_option maxRecDepth 100000 in
theorem lifted(os:Os)(started:os.Started)(H:Type)(enc:TypeId × Value->H) :
  ReturnsInHanded {} Tryz.checked os 3 .any (λw args=>(Rows.scrubReadsSpec.pre enc Tryz.prog Tryz.f3 [] false w args/\laidMetH Tryz.prog zHV w)/\sizedMet enc Tryz.prog Tryz.f3 (OpenSpec.ofChange Rows.scrubReadsSpec) false w args)
   (Rows.scrubReadsSpec.post enc Tryz.prog Tryz.f3 false true false false):=by
 refine returnsInHanded_of_change_and (C:=Tryz.checked) (X:=λw _=>laidMetH Tryz.prog zHV w) (λ_ _ _ hh h=>h.of_heap hh) Tryz.own started (by kernel_rfl) Tryz.func3
  (ChangeSpec.witness_shaped (enc:=enc) (C:=Tryz.checked) (os:=os) (X:=λw _=>laidMetH Tryz.prog zHV w) false (World.laidAll Tryz.prog os zHV) #[.slice none 0 0,.agg #[.int .u16 0,.int .u16 0,.int .u32 0]] 8 (World.laidAll_os _ _ _)
   (World.shaped_of_ZipB (by kernel_rfl) (by kernel_rfl)) (by kernel_rfl) (by kernel_rfl) (by kernel_rfl)
   (by rw[MakeChecks.laidMetH_plain _ _ _ (by kernel_rfl)];exact laidMet_laidAll _ (by kernel_rfl) (by kernel_rfl))) ?_
 intro W base args ds gs before A1 hW _ A4 hX _;have A0:∀(j:Nat) t v,Tryz.f3.params[j]? = some t->args[j]? = some v->Value.okWide Tryz.prog W .any base t v:=A1;have A2:laidMet Tryz.prog zHV W:=by
  have h:=hX;change laidMetH Tryz.prog zHV W at h
  rw[MakeChecks.laidMetH_plain _ _ _ (by kernel_rfl)] at h;exact h
 obtain⟨ad,hE,hF⟩:=zTT A2;have hW':=hW;obtain⟨p,q,A5,hV,rfl,_,_⟩:=hW;have hA:DataW.TrodAll enc Tryz.prog W 0 (λ_=>true) true Tryz.f3.params.toList args.toList ds p:=A5;have A6:=hA;rw[Tryz.params3] at hA A0;obtain⟨v0,v1,d0,d1,p0,p1,rfl,rfl,rfl,h0,h1⟩:=trodAll_two hA;obtain⟨rfl,rfl⟩:=trodVars_none hV;obtain⟨l0,s0⟩:=zMd (A0 0 22 v0 rfl rfl) h0 A4 (j:=0) rfl rfl;obtain⟨c0,c1,c2,y0,y1,y2,k1,rfl,Aa,rfl,A7,A8,A9⟩:=Go.Joins.open_agg3 Tryz.underlying26 (by kernel_rfl) burstCells (A0 1 26 v1 rfl rfl) h1;obtain⟨z0,e0,g0,wz0⟩:=DataW.trod_int Tryz.underlying23 A7;obtain⟨z1,e1,g1,wz1⟩:=DataW.trod_int Tryz.underlying23 A8;obtain⟨z2,e2,g2,wz2⟩:=DataW.trod_int Tryz.underlying24 A9;simp only[List.cons.injEq,and_true] at e0 e1 e2;subst e0 e1 e2;have b0:=u16_rangeB wz0;have b1:=u16_rangeB wz1;have b2:=u32_rangeB wz2;obtain⟨bk,rfl⟩:∃p0:Nat,z0=(p0:Int):=⟨z0.toNat,by omega⟩;obtain⟨bt,rfl⟩:∃q0:Nat,z1=(q0:Int):=⟨z1.toNat,by omega⟩;obtain⟨mk,rfl⟩:∃m0:Nat,z2=(m0:Int):=⟨z2.toNat,by omega⟩;simp only[wJ] at hW';refine (zI0 hE hF v0 l0 s0 bk bt mk (by omega) (by omega) (by omega)).mono λe W' ⟨he,hm⟩=>?_
 subst he;have hb:=zA.below hm;have A3:=zFa Tryz.laidOut hb _ _ _ _ (by kernel_rfl) A6 (λy hy=>hW'.lt y (by simpa using hy));exact⟨_,rfl,_,_,_,[],_,[],hW',trodAll_mk1 (shut_bool Tryz.underlying4 _),A3,rfl,hb.frame _,λh=>by cases h⟩
theorem jInPlace:(Rows.scrubReadsRow.inPlace == (Tryz.pinned.checked.prog).inPlace 3)=true:=by kernel_rfl
theorem jUnfollowed:(Rows.scrubReadsRow.unfollowed == (Tryz.pinned.checked.prog).unfollowed 3)=true:=by kernel_rfl
theorem jRecurses:(Rows.scrubReadsRow.recurses == (Tryz.pinned.checked.prog).recurses 3)=true:=by kernel_rfl
theorem jNamed:(Rows.scrubReadsRow.named == (Tryz.pinned.checked.prog).varsNamed 3)=true:=by kernel_rfl
theorem joined:joinedFacts (Tryz.pinned.checked.prog) 3 Tryz.f3 Rows.scrubReadsSpec Rows.scrubReadsRow=true:=by
 unfold joinedFacts;rw[jInPlace,jUnfollowed,jRecurses,jNamed];kernel_rfl
theorem said:Rows.ScrubReadsSaid :=
 OpenClaim.holds_of_wide 3 Tryz.f3 rfl rfl rfl rfl rfl rfl rfl ⟨rfl,rfl,rfl,rfl,rfl⟩ rfl rfl rfl rfl rfl (by kernel_rfl) Tryz.func3 joined
  (rR (by kernel_rfl)) (by unfold Func.isWrapper;first|(rw[if_pos (by decide +kernel)];kernel_rfl)|(rw[if_neg (by decide +kernel)];exact⟨rfl,rfl⟩))
  (λos started H enc _=>lifted os started H enc)
theorem plain(f:FuncId)(fn:Func)(hf:Tryz.pinned.checked.prog.funcNamed "scrinium/scriniumlaw18.ScrubReads" = some f)(hfn:Tryz.pinned.checked.prog.funcs[f]? = some fn) :
  true=Tryz.pinned.checked.prog.looks []/\∀(j:Nat) t,fn.params[j]? = some t->Tryz.pinned.checked.prog.wantsStandIn t=false:=by
 obtain rfl:f = 3:=Option.some.inj ((show Tryz.prog.funcNamed "scrinium/scriniumlaw18.ScrubReads" = some 3 by kernel_rfl).symm.trans hf) |>.symm
 obtain rfl:fn=Tryz.f3:=(Option.some.inj (Tryz.func3.symm.trans hfn)).symm;refine⟨by kernel_rfl,λj t ht=>?_⟩;rw[Tryz.params3] at ht;have hm:t∈[22,26]:=by simpa using Array.mem_of_getElem? ht
 have hall:([22,26].all λu=>!Tryz.prog.wantsStandIn u)=true:=by kernel_rfl
 exact (show Tryz.prog.wantsStandIn t=false by simpa using tA.1 hall t hm)
theorem cWf:OpenClaim.wfByText (OpenSpec.ofChange Rows.scrubReadsSpec) Rows.scrubReadsRow=true:=by kernel_rfl
theorem cMain:Tryz.pinned.checked.prog.mainIs=some (Rows.scrubReadsCard.stood.harness.1,Rows.scrubReadsCard.stood.harness.2.toList):=by kernel_rfl
theorem cGoes:false=Rows.scrubReadsRow.goesBy Tryz.pinned.checked.prog:=by kernel_rfl
theorem card:Rows.ScrubReadsCardSaid :=
 Claim7.holds_tied_plain_at .later [] _ _ _ _ said (λ_ h=>by cases h) cWf (λ_ h=>by cases h) scrubReads_row_tie rfl ⟨rfl,rfl⟩ cMain rfl plain cGoes
#print axioms card
end Go.Proofs.YtalpfcaakpgkmaaGreatDoor.lawScrubReads
