import Derived.Test.YtdnbmdghmmpgcaaGreatDoorQ45
import Derived.Test.YtdnbmdghmmpgcaaGreatDoorQ48
namespace Go.Proofs.YtdnbmdghmmpgcaaGreatDoor.lawBackupBursts
open Go.ChangeShapes Go.WideShapes Go.ChangeAt Go.RowKit
set_option maxRecDepth 100000 in
theorem lifted(os:Os)(started:os.Started)(H:Type)(enc:TypeId × Value->H) :
  ReturnsInHanded {} Tryz.checked os 4 .any (λw args=>(Rows.backupBurstsSpec.pre enc Tryz.prog Tryz.f4 [] false w args/\laidMetH Tryz.prog zDI w)/\sizedMet enc Tryz.prog Tryz.f4 (OpenSpec.ofChange Rows.backupBurstsSpec) false w args)
   (Rows.backupBurstsSpec.post enc Tryz.prog Tryz.f4 false true false false):=by
 refine returnsInHanded_of_change_and (C:=Tryz.checked) (X:=λw _=>laidMetH Tryz.prog zDI w) (λ_ _ _ hh h=>h.of_heap hh) Tryz.own started (by kernel_rfl) Tryz.func4
  (ChangeSpec.witness_shaped (enc:=enc) (C:=Tryz.checked) (os:=os) (X:=λw _=>laidMetH Tryz.prog zDI w) false (World.laidAll Tryz.prog os zDI) #[.slice none 0 0,.int .u16 0,.int .u32 0] 8 (World.laidAll_os _ _ _)
   (World.shaped_of_ZipB (by kernel_rfl) (by kernel_rfl)) (by kernel_rfl) (by kernel_rfl) (by kernel_rfl)
   (by rw[MakeChecks.laidMetH_plain _ _ _ (by kernel_rfl)];exact laidMet_laidAll _ (by kernel_rfl) (by kernel_rfl))) ?_
 intro W base args ds gs before hval0 hW _ hsz hX _;have hval:∀(j:Nat) t v,Tryz.f4.params[j]? = some t->args[j]? = some v->Value.okWide Tryz.prog W .any base t v:=hval0;have hLaid:laidMet Tryz.prog zDI W:=by
  have h:=hX;change laidMetH Tryz.prog zDI W at h
  rw[MakeChecks.laidMetH_plain _ _ _ (by kernel_rfl)] at h;exact h
 obtain⟨ad,hE,hF⟩:=zTB hLaid;have hW':=hW;obtain⟨p,q,hA0,hV,rfl,_,_⟩:=hW;have hA:DataW.TrodAll enc Tryz.prog W 0 (λ_=>true) true Tryz.f4.params.toList args.toList ds p:=hA0;have hA1:=hA;rw[Tryz.params4] at hA hval;obtain⟨v0,v1,v2,d0,d1,d2,p0,p1,p2,rfl,rfl,rfl,h0,h1,h2⟩:=trodAll_three hA;obtain⟨rfl,rfl⟩:=trodVars_none hV;obtain⟨l0,s0⟩:=zDJ (hval 0 22 v0 rfl rfl) h0 hsz (j:=0) rfl rfl;obtain⟨x1,rfl,rfl,rfl,wx1⟩:=open_int Tryz.underlying37 (hval 1 37 v1 rfl rfl) h1;have r1:0<=x1/\x1<=65535:=(Lit.wf_int_iff .u16 x1).1 wx1;obtain⟨y1,rfl⟩:∃y:Nat,x1=(y:Int):=⟨x1.toNat,by omega⟩;obtain⟨x2,rfl,rfl,rfl,wx2⟩:=open_int Tryz.underlying38 (hval 2 38 v2 rfl rfl) h2;have r2:0<=x2/\x2<=4294967295:=(Lit.wf_int_iff .u32 x2).1 wx2;obtain⟨y2,rfl⟩:∃y:Nat,x2=(y:Int):=⟨x2.toNat,by omega⟩;simp only[wH] at hW';refine (zGw hE l0 v0 s0 y1 y2 (by omega) (by omega)).mono λe W' ⟨he,hm⟩=>?_
 subst he;have hb:=zA.below hm;have hargs:=zDR Tryz.laidOut hb _ _ _ _ (by kernel_rfl) hA1 (λy hy=>hW'.lt y (by simpa using hy));exact⟨_,rfl,_,_,_,[],_,[],hW',trodAll_mk1 (shut_bool Tryz.underlying4 _),hargs,rfl,hb.frame _,λh=>by cases h⟩
theorem jInPlace:(Rows.backupBurstsRow.inPlace == (Tryz.pinned.checked.prog).inPlace 4)=true:=by kernel_rfl
theorem jUnfollowed:(Rows.backupBurstsRow.unfollowed == (Tryz.pinned.checked.prog).unfollowed 4)=true:=by kernel_rfl
theorem jRecurses:(Rows.backupBurstsRow.recurses == (Tryz.pinned.checked.prog).recurses 4)=true:=by kernel_rfl
theorem jNamed:(Rows.backupBurstsRow.named == (Tryz.pinned.checked.prog).varsNamed 4)=true:=by kernel_rfl
theorem joined:joinedFacts (Tryz.pinned.checked.prog) 4 Tryz.f4 Rows.backupBurstsSpec Rows.backupBurstsRow=true:=by
 unfold joinedFacts;rw[jInPlace,jUnfollowed,jRecurses,jNamed];kernel_rfl
theorem said:Rows.BackupBurstsSaid :=
 OpenClaim.holds_of_wide 4 Tryz.f4 rfl rfl rfl rfl rfl rfl rfl ⟨rfl,rfl,rfl,rfl,rfl⟩ rfl rfl rfl rfl rfl (by kernel_rfl) Tryz.func4 joined
  (rQ (by kernel_rfl)) (by unfold Func.isWrapper;first|(rw[if_pos (by decide +kernel)];kernel_rfl)|(rw[if_neg (by decide +kernel)];exact⟨rfl,rfl⟩))
  (λos started H enc _=>lifted os started H enc)
theorem plain(f:FuncId)(fn:Func)(hf:Tryz.pinned.checked.prog.funcNamed "scrinium/scriniumlaw20.BackupBursts" = some f)(hfn:Tryz.pinned.checked.prog.funcs[f]? = some fn) :
  true=Tryz.pinned.checked.prog.looks []/\∀(j:Nat) t,fn.params[j]? = some t->Tryz.pinned.checked.prog.wantsStandIn t=false:=by
 obtain rfl:f = 4:=Option.some.inj ((show Tryz.prog.funcNamed "scrinium/scriniumlaw20.BackupBursts" = some 4 by kernel_rfl).symm.trans hf) |>.symm
 obtain rfl:fn=Tryz.f4:=(Option.some.inj (Tryz.func4.symm.trans hfn)).symm;refine⟨by kernel_rfl,λj t ht=>?_⟩;rw[Tryz.params4] at ht;have hm:t∈[22,37,38]:=by simpa using Array.mem_of_getElem? ht
 have hall:([22,37,38].all λu=>!Tryz.prog.wantsStandIn u)=true:=by kernel_rfl
 exact (show Tryz.prog.wantsStandIn t=false by simpa using wY.1 hall t hm)
theorem card:Rows.BackupBurstsCardSaid :=
 Claim7.holds_tied_plain_at .later [] _ _ _ _ said (λ_ h=>by cases h) (by kernel_rfl) (λ_ h=>by cases h) backupBursts_row_tie rfl ⟨rfl,rfl⟩ (by kernel_rfl) rfl plain (by kernel_rfl)
#print axioms card
end Go.Proofs.YtdnbmdghmmpgcaaGreatDoor.lawBackupBursts
