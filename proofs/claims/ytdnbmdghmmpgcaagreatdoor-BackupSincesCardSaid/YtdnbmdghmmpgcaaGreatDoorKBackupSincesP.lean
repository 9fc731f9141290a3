import Derived.Test.YtdnbmdghmmpgcaaGreatDoorK44
import Derived.Test.YtdnbmdghmmpgcaaGreatDoorK42
import Derived.Lib.SmallJoins
namespace Go.Proofs.YtdnbmdghmmpgcaaGreatDoor.lawBackupSinces
open Go.ChangeShapes Go.WideShapes Go.ChangeAt Go.RowKit
theorem gensCells:Tryz.prog.cellsOf 25 = 2:=by kernel_rfl
set_option maxRecDepth 100000 in
theorem lifted(os:Os)(started:os.Started)(H:Type)(enc:TypeId × Value→H) :
  ReturnsInHanded {} Tryz.checked os 3 .any (λw args=>(Rows.backupSincesSpec.pre enc Tryz.prog Tryz.f3 [] false w args∧laidMetH Tryz.prog laid9 w)∧sizedMet enc Tryz.prog Tryz.f3 (OpenSpec.ofChange Rows.backupSincesSpec) false w args)
   (Rows.backupSincesSpec.post enc Tryz.prog Tryz.f3 false true false false):=by
 refine returnsInHanded_of_change_and (C:=Tryz.checked) (X:=λw _=>laidMetH Tryz.prog laid9 w) (λ_ _ _ hh h=>h.of_heap hh) Tryz.own started (by kernel_rfl) Tryz.func3
  (ChangeSpec.witness_shaped (enc:=enc) (C:=Tryz.checked) (os:=os) (X:=λw _=>laidMetH Tryz.prog laid9 w) false (World.laidAll Tryz.prog os laid9) #[.slice none 0 0,.slice none 0 0,.agg #[.int .u64 0,.int .u64 0]] 8 (World.laidAll_os _ _ _)
   (World.shaped_of_ZipB (by kernel_rfl) (by kernel_rfl)) (by kernel_rfl) (by kernel_rfl) (by kernel_rfl)
   (by rw[MakeChecks.laidMetH_plain _ _ _ (by kernel_rfl)];exact laidMet_laidAll _ (by kernel_rfl) (by kernel_rfl))) ?_
 intro W base args ds gs before hval0 hW _ hsz hX _;have hval:∀(j:Nat) t v,Tryz.f3.params[j]? = some t→args[j]? = some v→Value.okWide Tryz.prog W .any base t v:=hval0;have hLaid:laidMet Tryz.prog laid9 W:=by
  have h:=hX;change laidMetH Tryz.prog laid9 W at h
  rw[MakeChecks.laidMetH_plain _ _ _ (by kernel_rfl)] at h;exact h
 obtain⟨ad,hE,hF⟩:=env9 hLaid;have hW':=hW;obtain⟨p,q,hA0,hV,rfl,_,_⟩:=hW;have hA:DataW.TrodAll enc Tryz.prog W 0 (λ_=>true) true Tryz.f3.params.toList args.toList ds p:=hA0;have hA1:=hA;rw[Tryz.params3] at hA hval;obtain⟨v0,v1,v2,d0,d1,d2,p0,p1,p2,rfl,rfl,rfl,h0,h1,h2⟩:=trodAll_three hA;obtain⟨rfl,rfl⟩:=trodVars_none hV;obtain⟨l0,s0⟩:=read_pairsP (hval 0 22 v0 rfl rfl) h0 hsz (j:=0) rfl rfl;obtain⟨l1,s1⟩:=read_pairsP (hval 1 22 v1 rfl rfl) h1 hsz (j:=1) rfl rfl;obtain⟨c0,c1,y0,y1,k,rfl,hd,rfl,hy0,hy1⟩:=Go.Joins.open_agg2 Tryz.underlying25 (by kernel_rfl) gensCells (hval 2 25 v2 rfl rfl) h2;obtain⟨z0,e0,g0,wz0⟩:=DataW.trod_int Tryz.underlying23 hy0;obtain⟨z1,e1,g1,wz1⟩:=DataW.trod_int Tryz.underlying23 hy1;simp only[List.cons.injEq,and_true] at e0 e1;subst e0 e1;have b0:=(Lit.wf_int_iff .u64 z0).1 wz0;have b1:=(Lit.wf_int_iff .u64 z1).1 wz1;have b0':0≤z0∧z0≤18446744073709551615:=b0;have b1':0≤z1∧z1≤18446744073709551615:=b1;obtain⟨p0,rfl⟩:∃p0:Nat,z0=(p0:Int):=⟨z0.toNat,by omega⟩;obtain⟨q0,rfl⟩:∃q0:Nat,z1=(q0:Int):=⟨z1.toNat,by omega⟩;simp only[List.append_nil] at hW';refine (BackupSinces_any hE hF l0 l1 v0 v1 s0 s1 p0 q0 (by omega) (by omega)).mono λe W' ⟨he,hm⟩=>?_
 subst he;have hb:=Mods.below hm;have hargs:=trodAll_below Tryz.laidOut hb _ _ _ _ (by kernel_rfl) hA1 (λy hy=>hW'.lt y (by simpa using hy));exact⟨_,rfl,_,_,_,[],_,[],hW',trodAll_mk1 (shut_bool Tryz.underlying4 _),hargs,rfl,hb.frame _,λh=>by cases h⟩
theorem jInPlace:(Rows.backupSincesRow.inPlace == (Tryz.pinned.checked.prog).inPlace 3)=true:=by kernel_rfl
theorem jUnfollowed:(Rows.backupSincesRow.unfollowed == (Tryz.pinned.checked.prog).unfollowed 3)=true:=by kernel_rfl
theorem jRecurses:(Rows.backupSincesRow.recurses == (Tryz.pinned.checked.prog).recurses 3)=true:=by kernel_rfl
theorem jNamed:(Rows.backupSincesRow.named == (Tryz.pinned.checked.prog).varsNamed 3)=true:=by kernel_rfl
theorem joined:joinedFacts (Tryz.pinned.checked.prog) 3 Tryz.f3 Rows.backupSincesSpec Rows.backupSincesRow=true:=by
 unfold joinedFacts;rw[jInPlace,jUnfollowed,jRecurses,jNamed];kernel_rfl
theorem said:Rows.BackupSincesSaid :=
 OpenClaim.holds_of_wide 3 Tryz.f3 rfl rfl rfl rfl rfl rfl rfl ⟨rfl,rfl,rfl,rfl,rfl⟩ rfl rfl rfl rfl rfl (by kernel_rfl) Tryz.func3 joined
  (of_decide_eq_true (by kernel_rfl)) (by unfold Func.isWrapper;first|(rw[if_pos (by decide +kernel)];kernel_rfl)|(rw[if_neg (by decide +kernel)];exact⟨rfl,rfl⟩))
  (λos started H enc _=>lifted os started H enc)
theorem plain(f:FuncId)(fn:Func)(hf:Tryz.pinned.checked.prog.funcNamed "scrinium/scriniumlaw20.BackupSinces" = some f)(hfn:Tryz.pinned.checked.prog.funcs[f]? = some fn) :
  true=Tryz.pinned.checked.prog.looks []∧∀(j:Nat) t,fn.params[j]? = some t→Tryz.pinned.checked.prog.wantsStandIn t=false:=by
 obtain rfl:f = 3:=Option.some.inj ((show Tryz.prog.funcNamed "scrinium/scriniumlaw20.BackupSinces" = some 3 by kernel_rfl).symm.trans hf) |>.symm
 obtain rfl:fn=Tryz.f3:=(Option.some.inj (Tryz.func3.symm.trans hfn)).symm;refine⟨by kernel_rfl,λj t ht=>?_⟩;rw[Tryz.params3] at ht;have hm:t∈[22,22,25]:=by simpa using Array.mem_of_getElem? ht
 have hall:([22,22,25].all λu=>!Tryz.prog.wantsStandIn u)=true:=by kernel_rfl
 exact (show Tryz.prog.wantsStandIn t=false by simpa using List.all_eq_true.1 hall t hm)
theorem card:Rows.BackupSincesCardSaid :=
 Claim7.holds_tied_plain_at .later [] _ _ _ _ said (λ_ h=>by cases h) (by kernel_rfl) (λ_ h=>by cases h) backupSinces_row_tie rfl ⟨rfl,rfl⟩ (by kernel_rfl) rfl plain (by kernel_rfl)
#print axioms card
end Go.Proofs.YtdnbmdghmmpgcaaGreatDoor.lawBackupSinces
