import Derived.Test.YtchklfmggpconaaGreatDoorK49
import Derived.Test.YtchklfmggpconaaGreatDoorK47
namespace Go.Proofs.YtchklfmggpconaaGreatDoor.lawBulkCompacts
open Go.ChangeShapes Go.WideShapes Go.ChangeAt Go.RowKit
set_option maxRecDepth 100000 in
theorem lifted(os:Os)(started:os.Started)(H:Type)(enc:TypeId × Value->H) :
  ReturnsInHanded {} Tryz.checked os 6 .any (λw args=>(Rows.bulkCompactsSpec.pre enc Tryz.prog Tryz.f6 [] false w args/\laidMetH Tryz.prog zGw w)/\sizedMet enc Tryz.prog Tryz.f6 (OpenSpec.ofChange Rows.bulkCompactsSpec) false w args)
   (Rows.bulkCompactsSpec.post enc Tryz.prog Tryz.f6 false true false false):=by
 refine returnsInHanded_of_change_and (C:=Tryz.checked) (X:=λw _=>laidMetH Tryz.prog zGw w) (λ_ _ _ hh h=>h.of_heap hh) Tryz.own started (by kernel_rfl) Tryz.func6
  (ChangeSpec.witness_shaped (enc:=enc) (C:=Tryz.checked) (os:=os) (X:=λw _=>laidMetH Tryz.prog zGw w) false (World.laidAll Tryz.prog os zGw) #[.slice none 0 0] 8 (World.laidAll_os _ _ _)
   (World.shaped_of_ZipB (by kernel_rfl) (by kernel_rfl)) (by kernel_rfl) (by kernel_rfl) (by kernel_rfl)
   (by rw[MakeChecks.laidMetH_plain _ _ _ (by kernel_rfl)];exact laidMet_laidAll _ (by kernel_rfl) (by kernel_rfl))) ?_
 intro W base args ds gs before hval0 hW _ hsz hX _;have hval:∀(j:Nat) t v,Tryz.f6.params[j]? = some t->args[j]? = some v->Value.okWide Tryz.prog W .any base t v:=hval0;have hLaid:laidMet Tryz.prog zGw W:=by
  have h:=hX;change laidMetH Tryz.prog zGw W at h
  rw[MakeChecks.laidMetH_plain _ _ _ (by kernel_rfl)] at h;exact h
 obtain⟨ad,hE⟩:=zSP hLaid;have hW':=hW;obtain⟨p,q,hA0,hV,rfl,_,_⟩:=hW;have hA:DataW.TrodAll enc Tryz.prog W 0 (λ_=>true) true Tryz.f6.params.toList args.toList ds p:=hA0;have hA1:=hA;rw[Tryz.params6] at hA hval;obtain⟨v0,d0,rfl,rfl,h0⟩:=trodAll_one hA;obtain⟨rfl,rfl⟩:=trodVars_none hV;obtain⟨l0,s0⟩:=zL4 (hval 0 22 v0 rfl rfl) h0 hsz (j:=0) rfl rfl;simp only[wR] at hW';refine (zGY hE l0 v0 s0).mono λe W' ⟨he,hm⟩=>?_
 subst he;have hb:=zA.below hm;have hargs:=zEv Tryz.laidOut hb _ _ _ _ (by kernel_rfl) hA1 (λy hy=>hW'.lt y (by simpa using hy));exact⟨_,rfl,_,_,_,[],_,[],hW',trodAll_mk1 (shut_bool Tryz.underlying4 _),hargs,rfl,hb.frame _,λh=>by cases h⟩
theorem jInPlace:(Rows.bulkCompactsRow.inPlace == (Tryz.pinned.checked.prog).inPlace 6)=true:=by kernel_rfl
theorem jUnfollowed:(Rows.bulkCompactsRow.unfollowed == (Tryz.pinned.checked.prog).unfollowed 6)=true:=by kernel_rfl
theorem jRecurses:(Rows.bulkCompactsRow.recurses == (Tryz.pinned.checked.prog).recurses 6)=true:=by kernel_rfl
theorem jNamed:(Rows.bulkCompactsRow.named == (Tryz.pinned.checked.prog).varsNamed 6)=true:=by kernel_rfl
theorem joined:joinedFacts (Tryz.pinned.checked.prog) 6 Tryz.f6 Rows.bulkCompactsSpec Rows.bulkCompactsRow=true:=by
 unfold joinedFacts;rw[jInPlace,jUnfollowed,jRecurses,jNamed];kernel_rfl
theorem said:Rows.BulkCompactsSaid :=
 OpenClaim.holds_of_wide 6 Tryz.f6 rfl rfl rfl rfl rfl rfl rfl ⟨rfl,rfl,rfl,rfl,rfl⟩ rfl rfl rfl rfl rfl (by kernel_rfl) Tryz.func6 joined
  (rU (by kernel_rfl)) (by unfold Func.isWrapper;first|(rw[if_pos (by decide +kernel)];kernel_rfl)|(rw[if_neg (by decide +kernel)];exact⟨rfl,rfl⟩))
  (λos started H enc _=>lifted os started H enc)
theorem plain(f:FuncId)(fn:Func)(hf:Tryz.pinned.checked.prog.funcNamed "scrinium/scriniumlaw15.BulkCompacts" = some f)(hfn:Tryz.pinned.checked.prog.funcs[f]? = some fn) :
  true=Tryz.pinned.checked.prog.looks []/\∀(j:Nat) t,fn.params[j]? = some t->Tryz.pinned.checked.prog.wantsStandIn t=false:=by
 obtain rfl:f = 6:=Option.some.inj ((show Tryz.prog.funcNamed "scrinium/scriniumlaw15.BulkCompacts" = some 6 by kernel_rfl).symm.trans hf) |>.symm
 obtain rfl:fn=Tryz.f6:=(Option.some.inj (Tryz.func6.symm.trans hfn)).symm;refine⟨by kernel_rfl,λj t ht=>?_⟩;rw[Tryz.params6] at ht;have hm:t∈[22]:=by simpa using Array.mem_of_getElem? ht
 have hall:([22].all λu=>!Tryz.prog.wantsStandIn u)=true:=by kernel_rfl
 exact (show Tryz.prog.wantsStandIn t=false by simpa using tD.1 hall t hm)
theorem card:Rows.BulkCompactsCardSaid :=
 Claim7.holds_tied_plain_at .later [] _ _ _ _ said (λ_ h=>by cases h) (by kernel_rfl) (λ_ h=>by cases h) bulkCompacts_row_tie rfl ⟨rfl,rfl⟩ (by kernel_rfl) rfl plain (by kernel_rfl)
#print axioms card
end Go.Proofs.YtchklfmggpconaaGreatDoor.lawBulkCompacts
