import Derived.Test.YtgphfebjjedeaaaGreatDoorV45
import Derived.Test.YtgphfebjjedeaaaGreatDoorV42
namespace Go.Proofs.YtgphfebjjedeaaaGreatDoor.lawBackupVerifies
open Go.ChangeShapes Go.WideShapes Go.ChangeAt Go.RowKit
set_option maxRecDepth 100000 in
theorem j6(os:Os)(started:os.Started)(H:Type)(enc:TypeId × Value->H) :
  ReturnsInHanded {} Tryz.checked os 4 .any (λw args=>(Rows.backupVerifiesSpec.pre enc Tryz.prog Tryz.f4 [] false w args/\laidMetH Tryz.prog zHI w)/\sizedMet enc Tryz.prog Tryz.f4 (OpenSpec.ofChange Rows.backupVerifiesSpec) false w args)
   (Rows.backupVerifiesSpec.post enc Tryz.prog Tryz.f4 false true false false):=by
 refine returnsInHanded_of_change_and (C:=Tryz.checked) (X:=λw _=>laidMetH Tryz.prog zHI w) (λ_ _ _ hh h=>h.of_heap hh) Tryz.own started (by kernel_rfl) Tryz.func4
  (ChangeSpec.witness_shaped (enc:=enc) (C:=Tryz.checked) (os:=os) (X:=λw _=>laidMetH Tryz.prog zHI w) false (World.laidAll Tryz.prog os zHI) #[.slice none 0 0,.slice none 0 0,.slice none 0 0] 8 (World.laidAll_os _ _ _)
   (World.shaped_of_ZipB (by kernel_rfl) (by kernel_rfl)) (by kernel_rfl) (by kernel_rfl) (by kernel_rfl)
   (by rw[MakeChecks.laidMetH_plain _ _ _ (by kernel_rfl)];exact laidMet_laidAll _ (by kernel_rfl) (by kernel_rfl))) ?_
 intro W base args ds gs before A1 hW _ A4 hX _;have A0:∀(j:Nat) t v,Tryz.f4.params[j]? = some t->args[j]? = some v->Value.okWide Tryz.prog W .any base t v:=A1;have A2:laidMet Tryz.prog zHI W:=by
  have h:=hX;change laidMetH Tryz.prog zHI W at h
  rw[MakeChecks.laidMetH_plain _ _ _ (by kernel_rfl)] at h;exact h
 obtain⟨ad,hE,hF⟩:=zTj A2;have hW':=hW;obtain⟨p,q,A5,hV,rfl,_,_⟩:=hW;have hA:DataW.TrodAll enc Tryz.prog W 0 (λ_=>true) true Tryz.f4.params.toList args.toList ds p:=A5;have A6:=hA;rw[Tryz.params4] at hA A0;obtain⟨v0,v1,v2,d0,d1,d2,p0,p1,p2,rfl,rfl,rfl,h0,h1,h2⟩:=trodAll_three hA;obtain⟨rfl,rfl⟩:=trodVars_none hV;obtain⟨l0,s0⟩:=zHJ (A0 0 22 v0 rfl rfl) h0 A4 (j:=0) rfl rfl;obtain⟨l1,s1⟩:=zHJ (A0 1 22 v1 rfl rfl) h1 A4 (j:=1) rfl rfl;obtain⟨l2,s2⟩:=zMi (A0 2 27 v2 rfl rfl) h2 A4 (j:=2) rfl rfl;simp only[wJ] at hW';refine (zFi hE hF l0 l1 v0 v1 s0 s1 v2 l2 s2).mono λe W' ⟨he,hm⟩=>?_
 subst he;have hb:=zA.below hm;have A3:=zFH Tryz.laidOut hb _ _ _ _ (by kernel_rfl) A6 (λy hy=>hW'.lt y (by simpa using hy));exact⟨_,rfl,_,_,_,[],_,[],hW',trodAll_mk1 (shut_bool Tryz.underlying4 _),A3,rfl,hb.frame _,λh=>by cases h⟩
theorem j1:(Rows.backupVerifiesRow.inPlace == (Tryz.pinned.checked.prog).inPlace 4)=true:=by kernel_rfl
theorem j2:(Rows.backupVerifiesRow.unfollowed == (Tryz.pinned.checked.prog).unfollowed 4)=true:=by kernel_rfl
theorem j3:(Rows.backupVerifiesRow.recurses == (Tryz.pinned.checked.prog).recurses 4)=true:=by kernel_rfl
theorem j4:(Rows.backupVerifiesRow.named == (Tryz.pinned.checked.prog).varsNamed 4)=true:=by kernel_rfl
theorem j5:joinedFacts (Tryz.pinned.checked.prog) 4 Tryz.f4 Rows.backupVerifiesSpec Rows.backupVerifiesRow=true:=by
 unfold joinedFacts;rw[j1,j2,j3,j4];kernel_rfl
theorem said:Rows.BackupVerifiesSaid:=
 OpenClaim.holds_of_wide 4 Tryz.f4 rfl rfl rfl rfl rfl rfl rfl ⟨rfl,rfl,rfl,rfl,rfl⟩ rfl rfl rfl rfl rfl (by kernel_rfl) Tryz.func4 j5
  (pG (by kernel_rfl)) (by unfold Func.isWrapper;first|(rw[if_pos (by decide +kernel)];kernel_rfl)|(rw[if_neg (by decide +kernel)];exact⟨rfl,rfl⟩))
  (λos started H enc _=>j6 os started H enc)
theorem plain(f:FuncId)(fn:Func)(hf:Tryz.pinned.checked.prog.funcNamed "scrinium/scriniumlaw20.BackupVerifies" = some f)(hfn:Tryz.pinned.checked.prog.funcs[f]? = some fn) :
  true=Tryz.pinned.checked.prog.looks []/\∀(j:Nat) t,fn.params[j]? = some t->Tryz.pinned.checked.prog.wantsStandIn t=false:=by
 obtain rfl:f = 4:=Option.some.inj ((show Tryz.prog.funcNamed "scrinium/scriniumlaw20.BackupVerifies" = some 4 by kernel_rfl).symm.trans hf) |>.symm
 obtain rfl:fn=Tryz.f4:=(Option.some.inj (Tryz.func4.symm.trans hfn)).symm;refine⟨by kernel_rfl,λj t ht=>?_⟩;rw[Tryz.params4] at ht;have hm:t∈[22,22,27]:=by simpa using Array.mem_of_getElem? ht
 have hall:([22,22,27].all λu=>!Tryz.prog.wantsStandIn u)=true:=by kernel_rfl
 exact (show Tryz.prog.wantsStandIn t=false by simpa using tC.1 hall t hm)
theorem c1:OpenClaim.wfByText (OpenSpec.ofChange Rows.backupVerifiesSpec) Rows.backupVerifiesRow=true:=by kernel_rfl
theorem c2:Tryz.pinned.checked.prog.mainIs = some (Rows.backupVerifiesCard.stood.harness.1, Rows.backupVerifiesCard.stood.harness.2.toList):=by kernel_rfl
theorem c3:false = Rows.backupVerifiesRow.goesBy Tryz.pinned.checked.prog:=by kernel_rfl
theorem card:Rows.BackupVerifiesCardSaid:=
 Claim7.holds_tied_plain_at .later [] _ _ _ _ said (λ_ h=>by cases h) c1 (λ_ h=>by cases h) backupVerifies_row_tie rfl ⟨rfl,rfl⟩ c2 rfl plain c3
#print axioms card
end Go.Proofs.YtgphfebjjedeaaaGreatDoor.lawBackupVerifies
