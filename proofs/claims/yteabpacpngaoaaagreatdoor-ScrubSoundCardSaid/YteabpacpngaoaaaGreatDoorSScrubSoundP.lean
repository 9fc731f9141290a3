import Derived.Test.YteabpacpngaoaaaGreatDoorB44
import Derived.Test.YteabpacpngaoaaaGreatDoorS12
namespace Go.Proofs.YteabpacpngaoaaaGreatDoor.lawScrubSound
open Go.ChangeShapes Go.WideShapes Go.ChangeAt Go.RowKit
set_option maxRecDepth 100000 in
theorem lifted(os:Os)(started:os.Started)(H:Type)(enc:TypeId × Value->H) :
  ReturnsInHanded {} Tryz.checked os 5 .any (λw args=>(Rows.scrubSoundSpec.pre enc Tryz.prog Tryz.f5 [] false w args/\laidMetH Tryz.prog laid9 w)/\sizedMet enc Tryz.prog Tryz.f5 (OpenSpec.ofChange Rows.scrubSoundSpec) false w args)
   (Rows.scrubSoundSpec.post enc Tryz.prog Tryz.f5 false true false false):=by
 refine returnsInHanded_of_change_and (C:=Tryz.checked) (X:=λw _=>laidMetH Tryz.prog laid9 w) (λ_ _ _ hh h=>h.of_heap hh) Tryz.own started (by kernel_rfl) Tryz.func5
  (ChangeSpec.witness_shaped (enc:=enc) (C:=Tryz.checked) (os:=os) (X:=λw _=>laidMetH Tryz.prog laid9 w) false (World.laidAll Tryz.prog os laid9) #[.slice none 0 0] 8 (World.laidAll_os _ _ _)
   (World.shaped_of_ZipB (by kernel_rfl) (by kernel_rfl)) (by kernel_rfl) (by kernel_rfl) (by kernel_rfl)
   (by rw[MakeChecks.laidMetH_plain _ _ _ (by kernel_rfl)];exact laidMet_laidAll _ (by kernel_rfl) (by kernel_rfl))) ?_
 intro W base args ds gs before hval0 hW _ hsz hX _;have hval:∀(j:Nat) t v,Tryz.f5.params[j]? = some t->args[j]? = some v->Value.okWide Tryz.prog W .any base t v:=hval0;have hLaid:laidMet Tryz.prog laid9 W:=by
  have h:=hX;change laidMetH Tryz.prog laid9 W at h
  rw[MakeChecks.laidMetH_plain _ _ _ (by kernel_rfl)] at h;exact h
 obtain⟨ad,hE,hF⟩:=env9 hLaid;have hW':=hW;obtain⟨p,q,hA0,hV,rfl,_,_⟩:=hW;have hA:DataW.TrodAll enc Tryz.prog W 0 (λ_=>true) true Tryz.f5.params.toList args.toList ds p:=hA0;have hA1:=hA;rw[Tryz.params5] at hA hval;obtain⟨v0,d0,rfl,rfl,h0⟩:=trodAll_one hA;obtain⟨rfl,rfl⟩:=trodVars_none hV;obtain⟨l0,s0⟩:=read_pairsP (hval 0 22 v0 rfl rfl) h0 hsz (j:=0) rfl rfl;simp only[List.append_nil] at hW';refine (vO hE v0 l0 s0).mono λe W' ⟨he,hm⟩=>?_
 subst he;have hb:=Mods.below hm;have hargs:=trodAll_below Tryz.laidOut hb _ _ _ _ (by kernel_rfl) hA1 (λy hy=>hW'.lt y (by simpa using hy));exact⟨_,rfl,_,_,_,[],_,[],hW',trodAll_mk1 (shut_bool Tryz.underlying4 _),hargs,rfl,hb.frame _,λh=>by cases h⟩
theorem jInPlace:(Rows.scrubSoundRow.inPlace == (Tryz.pinned.checked.prog).inPlace 5)=true:=by kernel_rfl
theorem jUnfollowed:(Rows.scrubSoundRow.unfollowed == (Tryz.pinned.checked.prog).unfollowed 5)=true:=by kernel_rfl
theorem jRecurses:(Rows.scrubSoundRow.recurses == (Tryz.pinned.checked.prog).recurses 5)=true:=by kernel_rfl
theorem jNamed:(Rows.scrubSoundRow.named == (Tryz.pinned.checked.prog).varsNamed 5)=true:=by kernel_rfl
theorem joined:joinedFacts (Tryz.pinned.checked.prog) 5 Tryz.f5 Rows.scrubSoundSpec Rows.scrubSoundRow=true:=by
 unfold joinedFacts;rw[jInPlace,jUnfollowed,jRecurses,jNamed];kernel_rfl
theorem said:Rows.ScrubSoundSaid :=
 OpenClaim.holds_of_wide 5 Tryz.f5 rfl rfl rfl rfl rfl rfl rfl ⟨rfl,rfl,rfl,rfl,rfl⟩ rfl rfl rfl rfl rfl (by kernel_rfl) Tryz.func5 joined
  (wL (by kernel_rfl)) (by unfold Func.isWrapper;first|(rw[if_pos (by decide +kernel)];kernel_rfl)|(rw[if_neg (by decide +kernel)];exact⟨rfl,rfl⟩))
  (λos started H enc _=>lifted os started H enc)
theorem plain(f:FuncId)(fn:Func)(hf:Tryz.pinned.checked.prog.funcNamed "scrinium/scriniumlaw18.ScrubSound" = some f)(hfn:Tryz.pinned.checked.prog.funcs[f]? = some fn) :
  true=Tryz.pinned.checked.prog.looks []/\∀(j:Nat) t,fn.params[j]? = some t->Tryz.pinned.checked.prog.wantsStandIn t=false:=by
 obtain rfl:f = 5:=Option.some.inj ((show Tryz.prog.funcNamed "scrinium/scriniumlaw18.ScrubSound" = some 5 by kernel_rfl).symm.trans hf) |>.symm
 obtain rfl:fn=Tryz.f5:=(Option.some.inj (Tryz.func5.symm.trans hfn)).symm;refine⟨by kernel_rfl,λj t ht=>?_⟩;rw[Tryz.params5] at ht;have hm:t∈[22]:=by simpa using Array.mem_of_getElem? ht
 have hall:([22].all λu=>!Tryz.prog.wantsStandIn u)=true:=by kernel_rfl
 exact (show Tryz.prog.wantsStandIn t=false by simpa using List.all_eq_true.1 hall t hm)
theorem cWf:OpenClaim.wfByText (OpenSpec.ofChange Rows.scrubSoundSpec) Rows.scrubSoundRow=true:=by kernel_rfl
theorem cMain:Tryz.pinned.checked.prog.mainIs=some (Rows.scrubSoundCard.stood.harness.1,Rows.scrubSoundCard.stood.harness.2.toList):=by kernel_rfl
theorem cGoes:false=Rows.scrubSoundRow.goesBy Tryz.pinned.checked.prog:=by kernel_rfl
theorem card:Rows.ScrubSoundCardSaid :=
 Claim7.holds_tied_plain_at .later [] _ _ _ _ said (λ_ h=>by cases h) cWf (λ_ h=>by cases h) scrubSound_row_tie rfl ⟨rfl,rfl⟩ cMain rfl plain cGoes
#print axioms card
end Go.Proofs.YteabpacpngaoaaaGreatDoor.lawScrubSound
