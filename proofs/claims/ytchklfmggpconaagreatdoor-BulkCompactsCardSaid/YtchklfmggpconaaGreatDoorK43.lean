import Derived.Test.YtchklfmggpconaaGreatDoorK39
import Derived.DataShut
import Derived.Deep.RegionLawGrows
import Derived.BigQuiet
import Derived.Deep.DeepCutAuto
namespace Go.Proofs.YtchklfmggpconaaGreatDoor
open Lib renaming hid->oh
set_option maxHeartbeats 4000000
set_option maxRecDepth 100000
section
open Go.RowKit Go.Maps
attribute [local go_sem ↓] Go.wp_at_zero Go.wp_at_succ
section
variable {F P P' F' P1 F1:Nat->Prop}{ad:Nat->Addr}{w w' wr w0:World}{base c s gen kb mb:Nat}{G:GA}{l:List Nat}{pv kv pv' kv':Value}{st st':WkS}
def WkD(F P:Nat->Prop)(ad:Nat->Addr)(w:World)(base c s gen kb mb:Nat)(G:GA)(l:List Nat)(pv kv:Value)(r:WkS ⊕ Err)(e:Ending)(w':World):Prop :=
 ∃(P' F':Nat->Prop) (pv' kv':Value) (st':WkS),WkI F' P' ad w' base c s gen kb mb G l pv' kv' st'/\zR (wkQ P kb mb pv kv) (wkQ P' kb mb pv' kv') F F' ad w w' /\
  match r with
  | .inl st1=>e=.returned .nilIface/\st'=st1
  | .inr (el,ek)=>∃f,e=.returned (zQ f)/\qQ F' ad w' (zQ f) el ek
def zRJ(F P:Nat->Prop)(ad:Nat->Addr)(w:World)(base c s gen kb mb:Nat)(G:GA)(l:List Nat)(pv kv:Value)(iv:Value)(ids:List Int)(st':WkS)(wr:World):Prop :=
 ∃(P1 F1:Nat->Prop) (pv1:Value),WkI F1 P1 ad wr base c s gen kb mb G l pv1 kv st'/\zR (wkQ P kb mb pv kv) (wkQ P1 kb mb pv1 kv) F F1 ad w wr/\Sl (wkQ P1 kb mb pv1 kv) wr 1 yB iv ids
theorem Sl.keep{α:Type}{Q:Nat->Prop}{sz:Nat}{enc:α->List Value}{v:Value}{x:List α}(h:Sl P w sz enc v x)(hQ:∀k,v.ownBlock=some k->¬ P k->¬ Q k):Sl Q w sz enc v x:=by
 obtain⟨a,cap,rfl,h1,h2,h3,h4⟩:=h;refine⟨a,cap,rfl,h1,h2,h3,?_⟩;rcases h4 with h4|⟨b,off,rfl,hb,hF,hc⟩
 .exact .inl h4
 .exact .inr ⟨b,off,rfl,hb,hQ b rfl hF,hc⟩
theorem zGC.form {id n:Int} {P4 F4:Nat->Prop} {e:Ending} (h:(jY G id n=none/\∃iv,e=.returned (.tuple #[iv,.nilIface])/\Sl P4 w' 1 yB iv ((yY G n.toNat id n).1.map (·.1))/\∀g,iv.ownBlock=some g->w.heap.size<=g) \/
  (∃(er:Err) (f:Nat),jY G id n=some er/\e=.returned (.tuple #[.slice none 0 0,zQ f])/\qQ F4 ad w' (zQ f) er.1 er.2)):∃iv ev,e=.returned (.tuple #[iv,ev]):=by
 rcases h with ⟨_,iv,h,_⟩|⟨_,_,_,h,_⟩
 .exact⟨_,_,h⟩
 .exact⟨_,_,h⟩
theorem zNI(h:WkI F P ad w base c s gen kb mb G l pv kv st)(hi:zBA G st)(hb:G.blocks<=256)(ht:G.total)(e:zI)(he : -9223372036854775808<=e.chain/\e.chain<=9223372036854775807) :
  Calls Tryz.prog 117 #[.pointer (some ⟨kb,0,none⟩),.agg #[.string e.key,.string e.value,.int .i64 e.chain,.int .i64 e.size]] w (WkD F P ad w base c s gen kb mb G l pv kv (zAc G gen e st)):=by
 have m0:zJ w (w.alloc (.cells #[.string e.key,.string e.value,.int .i64 e.chain,.int .i64 e.size] 141)):=(zA.refl _ w).alloc _;obtain⟨h0,n0⟩:=h.ext m0;have H0:=oh h0;have N0:=oh n0;by_cases hz:e.chain=0
 .have hzb:(e.chain == 0)=true:=tU.2 hz;have HV:Hid (zAc G gen e st=.inl st):=oh (by unfold zAc;rw[if_pos hz]);clear h n0 h0 hz
  go_enter Tryz.func117, Tryz.ntmps117
  go_wp2_with fail;go_ret;refine⟨P,F,pv,kv,st,H0.out,N0.out,?_⟩;rw[HV.out];exact⟨rfl,rfl⟩
 .have hzb:(e.chain == 0)=false:=uV.2 hz;have k0:=h0.wk.blk.cell (o:=0) (v:=.pointer (some ⟨c,0,none⟩)) rfl;have k1:=h0.wk.blk.cell (o:=1) (v:=.pointer (some ⟨s,0,none⟩)) rfl;have k2:=h0.wk.blk.cell (o:=2) (v:=.int .u64 (gen:Int)) rfl;have hE:=zL.new w #[.string e.key,.string e.value,.int .i64 e.chain,.int .i64 e.size] 141;have e2:=hE.cell (o:=2) (v:=.int .i64 e.chain) rfl;have e3:=hE.cell (o:=3) (v:=.int .i64 e.size) rfl;have D0:=oh (h0.ext (zA.refl _ _).drew);have HCL:=oh (zGk D0.out.1.env D0.out.1.sub D0.out.1.pg gen e.chain e.size he (λ_ _=>ht.walk _ _ _));unfold qR at HCL;have HV:Hid (zAc G gen e st=match jY G e.chain e.size with|some er=>.inr er|none=>zC3 G gen ((yY G e.size.toNat e.chain e.size).1.map (·.1)) st):=oh (by unfold zAc;rw[if_neg hz];rfl);have HI:=oh hi;have HT:=oh ht;have HNB:Hid (¬ P kb/\¬ P w.heap.size):=oh ⟨(h0.wk.nP kb (.inl rfl)).2,λhp=>by have:=h.pg.bd _ hp;omega⟩;clear h n0 h0 hz hE hi ht
  go_enter Tryz.func117, Tryz.ntmps117
  go_wp2_with fail;go_region_held3 (λw'=>w'.cell? ⟨kb,0,none⟩=some (.pointer (some ⟨c,0,none⟩))/\w'.cell? ⟨kb,1,none⟩=some (.pointer (some ⟨s,0,none⟩))/\w'.cell? ⟨kb,2,none⟩=some (.int .u64 (gen:Int))/\w'.cell? ⟨w.heap.size,2,none⟩=some (.int .i64 e.chain)/\w'.cell? ⟨w.heap.size,3,none⟩=some (.int .i64 e.size))
   (first|(with_reducible exact⟨k0,k1,k2,e2,e3⟩)|(with_reducible exact⟨y0,y1,y2,y3,y4⟩)|go_keep)
   (first
    | (go_at_call 126;(with_reducible refine (HCL.out).mono ?_);rintro x w4 ⟨P4,F4,hG4,hN4,hres⟩;obtain⟨iv,ev,rfl⟩:=zGC.form hres;have y0:=zBp hN4.stp.mods k0 HNB.out.1;have y1:=zBp hN4.stp.mods k1 HNB.out.1;have y2:=zBp hN4.stp.mods k2 HNB.out.1;have y3:=zBp hN4.stp.mods e2 HNB.out.2;have y4:=zBp hN4.stp.mods e3 HNB.out.2)
    | fail)
  obtain⟨h4,n4⟩:=D0.out.1.pag hN4 hG4;have H4:=oh h4;have N4:=oh ((N0.out.trans D0.out.2).trans n4);clear hG4 hN4 h4 n4 k0 k1 k2 e2 e3 y0 y1 y2 y3 y4;rcases hres with ⟨hc,iv',hre,hsl,hfr⟩|⟨er,f,hc,hre,hE⟩
  .injection hre with hre;simp only[Value.tuple.injEq,Array.mk.injEq,List.cons.injEq,and_true] at hre;obtain⟨rfl,rfl⟩:=hre;have hids:∀i∈(yY G e.size.toNat e.chain e.size).1.map (·.1),zJL i:=λi hi=>by
    obtain⟨x,hx,rfl⟩:=wY.1 hi;exact (Lit.wf_int_iff .i64 _).2 (zIv G _ _ _ he x hx)
   have HIV:=oh (hsl.keep (Q:=wkQ P4 kb mb pv kv) (λk hk hn hq=>by
    rcases hq with hp|hw
    .exact hn hp
    .have:=D0.out.1.wk.lt k hw;have:=hfr k hk;omega))
   rw[hc] at HV;simp only at HV;obtain⟨ids,hi5⟩:∃ids,ids=(yY G e.size.toNat e.chain e.size).1.map (·.1):=⟨_,rfl⟩;rw[<- hi5] at hids HIV HV hsl;obtain⟨ia,ic,rfl,b1,b2,b3, -⟩:=_root_.id hsl;unfold maxLen at b2;have HIDS:=oh hids;have HS0:Hid (zRJ F P ad w base c s gen kb mb G l pv kv (.slice ia ids.length ic) ids st w4):=oh ⟨P4,F4,pv,H4.out,N4.out,HIV.out⟩;clear hids hc hsl hfr hi5;go_wp2_with fail;go_loopg [32] ids.length (λq v32 wr=>∃(k:Nat) (st':WkS),k+q=ids.length/\v32=.int .i64 (k:Int)/\Hid (zRJ F P ad w base c s gen kb mb G l pv kv (.slice ia ids.length ic) ids st' wr/\zC3 G gen (ids.drop k) st'=zC3 G gen ids st/\zBA G st'))
   case atStart=>exact⟨0,st,by omega,rfl,oh ⟨HS0.out,rfl,HI.out⟩⟩
   case round =>
    obtain⟨k,st',hkm,rfl,HQ⟩:=hrel;obtain⟨⟨P5,F5,pv5,h5,n5,hs5⟩,hq5,hi5⟩:=HQ.out;have H5:=oh h5;have N5:=oh n5;have HS5:=oh hs5;have HI5:=oh hi5;by_cases hlt:k<ids.length
    .obtain⟨_,_,hes,_,_,_,hss⟩:=HS5.out;injection hes with hes _ hec;subst hes hec;obtain⟨b5,off,rfl,hbb,hF,hc⟩:=Sl.at hss (zA.refl _ _) (λ_ _ f=>f) k hlt;obtain⟨i,hi⟩:∃i,i=ids[k]:=⟨_,rfl⟩;have d0:=hc 0 (.int .i64 i) (by rw[hi];rfl);simp only[wK,uO] at d0;have hok:zJL i:=HIDS.out i (by rw[hi];exact wH _);have HDR:Hid (ids.drop k=i :: ids.drop (k+1)):=oh (by rw[hi];exact wO hlt);have HSE:=oh (zNz h5.env h5.sub h5.bl h5.wk i hok (by have:=hi5.few;omega));have HQ5:=oh hq5;have i1:(0:Int)<=(k:Int):=by omega
     have i2:(k:Int)<(ids.length:Int):=by omega
     clear hc hi hok hss h5 n5 hs5 hi5 hq5;go_wp2_with fail;refine (HSE.out).mono ?_;rintro x w6 hd;unfold zQQ at hd;cases hsw:zFC st' i with
     | inr er =>
      obtain⟨el,ek⟩:=er;rw[hsw] at hd;obtain⟨f,rfl,hE,hm⟩:=hd;have HE:=oh hE;have HX:=oh (H5.out.ext hm);have HZ:Hid (zAc G gen e st=.inr (el,ek)):=oh (by
       rw[HV.out,<- HQ5.out,HDR.out,zC3,hsw])
      clear hE hm hsw d0;go_wp2_with fail;go_ret;refine⟨P5,F5,pv5,kv,st',HX.out.1,N5.out.trans HX.out.2,?_⟩;rw[HZ.out];exact⟨f,rfl,HE.out⟩
     | inl st1 =>
      rw[hsw] at hd;obtain⟨pv6,rfl,hw6,hm6,hat6⟩:=hd;obtain⟨h6,n6⟩:=H5.out.saw hw6 hm6 hat6;have H6:=oh h6;have N6:=oh n6;have HSW:=oh hsw;have HYC:=oh (zJM h6.env h6.sub h6.pg h6.wk.blk rfl rfl (h6.wk.nP kb (.inl rfl)).2 i (HT.out.knows i));clear hw6 hm6 hat6 h6 n6 hsw d0;go_wp2_with fail;refine (HYC.out).mono ?_;rintro x w7 ⟨P7,F7,hG7,hN7,hres⟩;obtain⟨h7,n7⟩:=H6.out.pag hN7 hG7;have H7:=oh h7;have N7:=oh ((N5.out.trans N6.out).trans n7);have HS7:=oh ((HS5.out.step N6.out.stp.mods (λk hk hn hp=>hn (N6.out.stp.old k hk hp))).step n7.stp.mods (λk hk hn hp=>hn (n7.stp.old k hk hp)));clear hG7 hN7 h7 n7;cases hyw:zAb G gen i with
      | inl p =>
       rw[hyw] at hres;obtain⟨a7,c7,rfl,hs7,_⟩:=hres;have HINV:=oh (HI5.out.see HSW.out hyw);have HST:Hid (zC3 G gen (ids.drop (k+1)) st1=zC3 G gen ids st):=oh (by
        rw[<- HQ5.out,HDR.out];conv=>rhs;rw[zC3,HSW.out]
        simp only[hyw])
       have m8:zJ w7 (w7.alloc (.cells #[.int .i64 p.kind,.int .i64 p.id,.int .u64 (p.gen:Int),.slice a7 p.body.length c7] 167)):=(zA.refl _ w7).alloc _;have H8:=oh (H7.out.ext m8);have HS8:=oh (HS7.out.ext m8);clear hs7 hyw m8;go_wp2_with fail;go_roundg (gk-1)
       case measure=>omega
       case rel=>exact⟨k+1,st1,by omega,by go_num,oh ⟨⟨P7,F7,pv6,H8.out.1,N7.out.trans H8.out.2,HS8.out⟩,HST.out,HINV.out⟩⟩
      | inr er =>
       obtain⟨el,ek⟩:=er;rw[hyw] at hres;obtain⟨x0,x1,x2,a7,n8,c7,f,rfl,hE⟩:=hres;have HE:=oh hE;have HZ:Hid (zAc G gen e st=.inr (el,ek)):=oh (by
        rw[HV.out,<- HQ5.out,HDR.out,zC3,HSW.out];simp only[hyw])
       have m8:zJ w7 (w7.alloc (.cells #[.int .i64 x0,.int .i64 x1,.int .u64 x2,.slice a7 n8 c7] 167)):=(zA.refl _ w7).alloc _;have H8:=oh (H7.out.ext m8);have HM8:=oh m8;clear hE hyw m8;go_wp2_with fail;go_ret;refine⟨P7,F7,pv6,kv,st1,H8.out.1,N7.out.trans H8.out.2,?_⟩;rw[HZ.out];exact⟨f,rfl,HE.out.mods HM8.out.ext⟩
    .have HQ5:=oh hq5;clear h5 n5 hs5 hi5 hq5;go_wp2_with fail;go_ret;refine⟨P5,F5,pv5,kv,st',H5.out,N5.out,?_⟩;have hz:=HQ5.out;rw[tG (by omega),zC3] at hz;rw[HV.out,<- hz];exact⟨rfl,rfl⟩
  .obtain⟨el,ek⟩:=er;injection hre with hre;simp only[Value.tuple.injEq,Array.mk.injEq,List.cons.injEq,and_true] at hre;obtain⟨rfl,rfl⟩:=hre;rw[hc] at HV;have HE:=oh hE;clear hc hE;go_wp2_with fail;go_ret;refine⟨P4,F4,pv,kv,st,H4.out,N4.out,?_⟩;rw[HV.out];exact⟨f,rfl,HE.out⟩
end
end
section
open Go.RowKit Go.Maps
section
variable {F P P' F' P1 F1:Nat->Prop}{ad:Nat->Addr}{w w' w0 w4:World}{base c s gen kb mb:Nat}{G:GA}{l:List Nat}{pv kv pv' kv':Value}{st st':WkS}
theorem WkI.turn(h:WkI F P ad w base c s gen kb mb G l pv kv st)(hw:WkR F' P w' base c s gen kb mb pv' kv' st')(m:zA (WkB kb mb pv kv) w w')(hF:∀k,F k->F' k)(hN:∀k,k<w.heap.size->F' k->F k)
  (hlt:∀k,F' k->k<w'.heap.size) (hB:∀k,k<w.heap.size->WkB kb mb pv' kv' k->WkB kb mb pv kv k) :
  WkI F' P ad w' base c s gen kb mb G l pv' kv' st'/\zR (wkQ P kb mb pv kv) (wkQ P kb mb pv' kv') F F' ad w w':=by
 have hnew:∀k,k<w.heap.size->¬ F k->¬ F' k:=λk hk hn hf=>hn (hN k hk hf)
 have hE:yW F' ad w':=h.env.step (m.mono (λk hk=>(h.wk.nP k hk).1)) hnew hlt;have hI:WkI F' P ad w' base c s gen kb mb G l pv' kv' st' :=
  ⟨hE,λk hk=>hF k (h.sub k hk),h.pg.plus m (λk hk hq=>(h.wk.nP k hq).2 hk) (λk hk=>(h.wk.nP k hk).1) hnew,hw,uM h.bl m.size⟩
 refine⟨hI,⟨⟨m.mono (λk hk=>.inr hk),?_,hI.bd⟩,hI.subQ,hF,hN,hE⟩⟩;rintro k hk (hp|hp)
 .exact .inl hp
 .exact .inr (hB k hk hp)
theorem WkI.deep(h:WkI F P ad w base c s gen kb mb G l pv kv st)(d:Nat) :
  WkI F P ad (w.setCell ⟨kb,6,none⟩ (.int .i64 (d:Int))) base c s gen kb mb G l pv kv { st with depth:=d }/\zR (wkQ P kb mb pv kv) (wkQ P kb mb pv kv) F F ad w (w.setCell ⟨kb,6,none⟩ (.int .i64 (d:Int))):=by
 have m:zA (λk=>k=kb) w (w.setCell ⟨kb,6,none⟩ (.int .i64 (d:Int))):=zA.setCell (F:=λk=>k=kb) (p:=⟨kb,6,none⟩) (zA.refl _ w) (.inr rfl) _;refine h.turn ⟨h.wk.blk.set 6 _,h.wk.seen.mods m (λe=>zL.notM h.wk.blk h.wk.seen e.symm),h.wk.rp.mods m (λg hg e=>zU.notB h.wk.rp h.wk.blk (by decide) g hg e),h.wk.rk.mods m (λg hg e=>zU.notB h.wk.rk h.wk.blk (by decide) g hg e),h.wk.nP,h.wk.few⟩
  (m.mono (λk e=>.inl e)) (λ_ h=>h) (λ_ _ h=>h) (λk hk=>uH (h.env.lt k hk) m.size) (λ_ _ h=>h)
theorem WkI.push(h:WkI F P ad w base c s gen kb mb G l pv kv st)(key:ByteArray)(hown:zU (λ_=>False) w4 base 9 1 qK kv' (st.keys++[key]))(m4:zA (λk=>kv.ownBlock=some k) ((w.setCell ⟨kb,7,none⟩ (.string key)).alloc (.cells #[.string key] 9)) w4)
  {K:Nat} (hat:kv'.ownBlock=kv.ownBlock\/kv'.ownBlock=some K) (hK:w.heap.size<=K) (hfew:st.keys.length+1<=1000000) :
  WkI (zAA F kv') P ad (w4.setCell ⟨kb,5,none⟩ kv') base c s gen kb mb G l pv kv' { st with keys:=st.keys++[key] }/\zR (wkQ P kb mb pv kv) (wkQ P kb mb pv kv') F (zAA F kv') ad w (w4.setCell ⟨kb,5,none⟩ kv'):=by
 have m7:zA (λk=>k=kb) w (w.setCell ⟨kb,7,none⟩ (.string key)):=zA.setCell (F:=λk=>k=kb) (p:=⟨kb,7,none⟩) (zA.refl _ w) (.inr rfl) _;have m5:zA (λk=>k=kb) w4 (w4.setCell ⟨kb,5,none⟩ kv'):=zA.setCell (F:=λk=>k=kb) (p:=⟨kb,5,none⟩) (zA.refl _ w4) (.inr rfl) _;have b7:=(h.wk.blk.set 7 (.string key)).alloc (.cells #[.string key] 9);have rk7:=(h.wk.rk.mods m7 (λg hg e=>zU.notB h.wk.rk h.wk.blk (by decide) g hg e)).ext ((zA.refl _ _).alloc (.cells #[.string key] 9));have rp7:=(h.wk.rp.mods m7 (λg hg e=>zU.notB h.wk.rp h.wk.blk (by decide) g hg e)).ext ((zA.refl _ _).alloc (.cells #[.string key] 9));have b4:=b7.mods m4 (λe=>zU.notB rk7 b7 (by decide) _ e rfl);have rp4:=rp7.mods m4 (λg hg e=>zU.notO h.wk.rp h.wk.rk (by decide) g hg e);have mA:zA (WkB kb mb pv kv) w w4:=((m7.mono (λk e=>.inl e)).alloc (.cells #[.string key] 9)).trans (m4.mono (λk e=>.inr (.inr (.inr e))));have mB:zA (WkB kb mb pv kv) w (w4.setCell ⟨kb,5,none⟩ kv'):=mA.setCell (p:=⟨kb,5,none⟩) (.inr (.inl rfl)) _;have mS:zA (λk=>k=kb\/kv.ownBlock=some k) w (w4.setCell ⟨kb,5,none⟩ kv'):=(((m7.mono (λk e=>.inl e)).alloc (.cells #[.string key] 9)).trans (m4.mono (λk e=>.inr e))).setCell (p:=⟨kb,5,none⟩) (.inr (.inl rfl)) _;have hl:({ st with keys:=st.keys++[key] }:WkS).last=key:=by simp[WkS.last]
 refine h.turn ⟨?_,h.wk.seen.mods mS ?_,rp4.mods m5 (λg hg e=>zU.notB rp4 b4 (by decide) g hg e),hown.mods m5 (λg hg e=>zU.notB hown b4 (by decide) g hg e),?_,?_⟩ mB (λ_ h=>.inl h) ?_ ?_ ?_
 .rw[hl];exact b4.set 5 kv'
 .rintro (e|e)
  .exact zL.notM h.wk.blk h.wk.seen e.symm
  .exact zU.notM h.wk.rk h.wk.seen _ e rfl
 .rintro k (e|e|e|e)
  .exact⟨.inl (h.wk.nP k (.inl e)).1,(h.wk.nP k (.inl e)).2⟩
  .exact⟨.inl (h.wk.nP k (.inr (.inl e))).1,(h.wk.nP k (.inr (.inl e))).2⟩
  .exact⟨.inl (h.wk.nP k (.inr (.inr (.inl e)))).1,(h.wk.nP k (.inr (.inr (.inl e)))).2⟩
  .refine⟨.inr e,λhp=>?_⟩;rcases hat with h5|h5
   .exact (h.wk.nP k (.inr (.inr (.inr (h5 ▸ e))))).2 hp
   .rw[h5] at e;injection e with e;have:=h.env.lt k (h.sub k hp);omega
 .refine⟨h.wk.few.1,?_⟩;show (st.keys++[key]).length<=_;simp only[uC,uD,uE];omega
 .rintro k hk (hf|hf)
  .exact hf
  .rcases hat with h5|h5
   .exact (h.wk.nP k (.inr (.inr (.inr (h5 ▸ hf))))).1
   .rw[h5] at hf;injection hf with hf;omega
 .rintro k (hf|hf)
  .exact uH (h.env.lt k hf) mB.size
  .exact uH (hown.lt k hf).2 m5.size
 .rintro k hk (e|e|e|e)
  .exact .inl e
  .exact .inr (.inl e)
  .exact .inr (.inr (.inl e))
  .rcases hat with h5|h5
   .exact .inr (.inr (.inr (h5 ▸ e)))
   .rw[h5] at e;injection e with e;omega
end
end
section
open Go.RowKit Go.Maps
attribute [local go_sem ↓] Go.wp_at_zero Go.wp_at_succ
section
variable {F P P' F' P1 F1:Nat->Prop}{ad:Nat->Addr}{w w' wr w0:World}{base c s gen kb mb:Nat}{G:GA}{l:List Nat}{pv kv pv' kv':Value}{st st':WkS}
abbrev zNJ(a:zAW):Value:=.agg #[.int .i64 a.id,.int .i64 (a.depth:Int),.string a.lo,.string a.hi]
structure zF3(F P:Nat->Prop)(ad:Nat->Addr)(w:World)(base c s gen kb mb:Nat)(G:GA)(l:List Nat)(pv kv:Value)(n:zF)(a:zAW)(ea ka ia:Option Addr)(ec kc ic:Nat)(st':WkS)(F1 P1:Nat->Prop)(pv1 kv1:Value)(wr:World):Prop where
 st:WkI F1 P1 ad wr base c s gen kb mb G l pv1 kv1 st'
 nx:zR (wkQ P kb mb pv kv) (wkQ P1 kb mb pv1 kv1) F F1 ad w wr
 nd:zL wr w.heap.size #[.bool n.leaf,.slice ea n.entries.length ec,.slice ka n.keys.length kc,.slice ia n.kids.length ic] 118
 pl:zL wr (w.heap.size+1) #[.int .i64 a.id,.int .i64 (a.depth:Int),.string a.lo,.string a.hi] 105
 es:Sl F1 wr 4 vA (.slice ea n.entries.length ec) n.entries
 nq:¬ wkQ P1 kb mb pv1 kv1 w.heap.size/\¬ wkQ P1 kb mb pv1 kv1 (w.heap.size+1)
theorem zF3.nxt{n:zF}{a:zAW}{ea ka ia:Option Addr}{ec kc ic:Nat}{st1 st2:WkS}{F1 P1 F2 P2:Nat->Prop}{pv1 kv1 pv2 kv2:Value}{w2:World}
  (h:zF3 F P ad w base c s gen kb mb G l pv kv n a ea ka ia ec kc ic st1 F1 P1 pv1 kv1 wr) (hi:WkI F2 P2 ad w2 base c s gen kb mb G l pv2 kv2 st2) (nx:zR (wkQ P1 kb mb pv1 kv1) (wkQ P2 kb mb pv2 kv2) F1 F2 ad wr w2) :
  zF3 F P ad w base c s gen kb mb G l pv kv n a ea ka ia ec kc ic st2 F2 P2 pv2 kv2 w2 :=
 ⟨hi,h.nx.trans nx,nx.blk h.nd h.nq.1,nx.blk h.pl h.nq.2,h.es.step (nx.stp.mods.mono h.st.subQ) (λk hk hn hf=>hn (nx.oldF k hk hf)),nx.not h.nd.lt h.nq.1,nx.not h.pl.lt h.nq.2⟩
theorem zQ5(h:WkI F P ad w base c s gen kb mb G l pv kv st)(hi:zBA G st)(hb:G.blocks<=256)(ht:G.total)(n:zF)(hn:n.entries.length<=1000)(hch:∀x∈n.entries, -9223372036854775808<=x.chain/\x.chain<=9223372036854775807)(a:zAW)(hkeys:st.keys.length+n.entries.length<=1000000)
  (ea ka ia:Option Addr) (ec kc ic:Nat) (hes:Sl F w 4 vA (.slice ea n.entries.length ec) n.entries) :
  Calls Tryz.prog 81 #[.pointer (some ⟨kb,0,none⟩),.agg #[.bool n.leaf,.slice ea n.entries.length ec,.slice ka n.keys.length kc,.slice ia n.kids.length ic],zNJ a] w (WkD F P ad w base c s gen kb mb G l pv kv (zDv G gen n a st)):=by
 have m0:zJ w ((w.alloc (.cells #[.bool n.leaf,.slice ea n.entries.length ec,.slice ka n.keys.length kc,.slice ia n.kids.length ic] 118)).alloc (.cells #[.int .i64 a.id,.int .i64 (a.depth:Int),.string a.lo,.string a.hi] 105)):=((zA.refl _ w).alloc _).alloc _;obtain⟨h0,n0⟩:=h.ext m0;have HL:Hid (zF3 F P ad w base c s gen kb mb G l pv kv n a ea ka ia ec kc ic st F P pv kv ((w.alloc (.cells #[.bool n.leaf,.slice ea n.entries.length ec,.slice ka n.keys.length kc,.slice ia n.kids.length ic] 118)).alloc (.cells #[.int .i64 a.id,.int .i64 (a.depth:Int),.string a.lo,.string a.hi] 105))):=oh
  ⟨h0,n0,(zL.new w _ _).alloc _,zK (by simp),hes.ext m0,λhp=>by have:=h.bd _ hp;omega,λhp=>by have:=h.bd _ hp;omega⟩
 have k6:=h0.wk.blk.cell (o:=6) (v:=.int .i64 (st.depth:Int)) rfl;have kf:=h0.wk.blk.frozen;have p1:=HL.out.pl.cell (o:=1) (v:=.int .i64 (a.depth:Int)) rfl;obtain⟨b1,b2,b3⟩:n.entries.length<=ec/\ec<=maxLen/\n.entries.length<=140737488355328:=by
  obtain⟨_,_,e,h1,h2,h3,_⟩:=hes;injection e with _ _ e;subst e;exact⟨h1,h2,h3⟩
 unfold maxLen at b2;have HI:=oh hi;have HT:=oh ht;have HBL:=oh hb;have HC:=oh hch;clear h h0 n0 m0 hes hi ht hch
 go_enter Tryz.func81, Tryz.ntmps81
 go_upto_if 15 with fail
 go_cut [] (λwx=>Hid (zF3 F P ad w base c s gen kb mb G l pv kv n a ea ka ia ec kc ic (zAk a st) F P pv kv wx))
 case first =>
  by_cases hd:st.depth=0
  .have hdb:((st.depth:Int) == 0)=true:=by rw[hd];rfl
   have HD:Hid (zAk a st = { st with depth:=a.depth }):=oh (by unfold zAk;rw[if_pos hd]);clear hd;go_wp2_with fail;go_meet;exact oh (by rw[HD.out];exact HL.out.nxt (HL.out.st.deep a.depth).1 (HL.out.st.deep a.depth).2)
  .have hdb:((st.depth:Int) == 0)=false:=uV.2 (by omega);have HD:Hid (zAk a st=st):=oh (by unfold zAk;rw[if_neg hd]);clear hd;go_wp2_with fail;go_meet;exact oh (by rw[HD.out];exact HL.out)
 case rest =>
  clear k6 kf p1;obtain⟨s1,hs1⟩:∃s1,s1=zAk a st:=⟨_,rfl⟩;rw[<- hs1] at hcut;have HLV:Hid (zDv G gen n a st=if a.depth≠s1.depth\/(n.entries=[]/\1<a.depth) then .inr (zCE a.id) else zBq G gen a n.entries s1):=oh (by rw[hs1];rfl);have HIV:Hid (zBA G s1/\s1.keys=st.keys):=oh (by
   rw[hs1];unfold zAk;split
   .exact⟨HI.out,rfl⟩
   .exact⟨HI.out,rfl⟩)
  have k6:=hcut.out.st.wk.blk.cell (o:=6) (v:=.int .i64 (s1.depth:Int)) rfl;have p0:=hcut.out.pl.cell (o:=0) (v:=.int .i64 a.id) rfl;have p1:=hcut.out.pl.cell (o:=1) (v:=.int .i64 (a.depth:Int)) rfl;have d1:=hcut.out.nd.cell (o:=1) (v:=.slice ea n.entries.length ec) rfl;have HX:Hid (∀q,WkI F P ad (wc.drewN q) base c s gen kb mb G l pv kv s1/\zR (wkQ P kb mb pv kv) (wkQ P kb mb pv kv) F F ad wc (wc.drewN q)):=oh (λq=>hcut.out.st.ext ((zA.refl _ wc).drewN q));have HCR:Hid (∀q,Calls Tryz.prog 77 #[.int .i64 a.id] (wc.drewN q) λe w'=>∃b,e=.returned (zQ b)/\qQ F ad w' (zQ b) (zCE a.id).1 (zCE a.id).2/\zJ (wc.drewN q) w'):=oh (λq=>zBX (HX.out q).1.env a.id);clear hs1 HL HI;obtain⟨D,hD⟩:∃D,D=s1.depth:=⟨_,rfl⟩;rw[<- hD] at k6 HLV;clear hD;by_cases hd:a.depth=D
  .subst hd;obtain⟨z,hz⟩:∃z,((n.entries.length:Int) == 0)=z:=⟨_,rfl⟩;obtain⟨y,hy⟩:∃y,decide ((1:Int)<(a.depth:Int))=y:=⟨_,rfl⟩;have HZ:=oh hz;have HY:=oh hy;cases z <;> cases y
   case true.true =>
    have hy2:(1:Int)<(a.depth:Int):=rU hy;have HB:Hid (zDv G gen n a st=.inr (zCE a.id)):=oh (by
     rw[HLV.out,if_pos (.inr ⟨tB (by have:=tU.1 hz;omega),by omega⟩)])
    clear hy;go_wp2_with fail;go_quiet (fail)
    go_wp2_with fail;refine (HCR.out _).mono ?_;rintro x w6 ⟨f,rfl,hE,hm⟩;have HE:=oh hE;have HM:=oh hm;clear hE hm;go_wp2_with fail;go_ret;have hw:=(HX.out nq).1.ext HM.out;refine⟨P,F,pv,kv,s1,hw.1,(hcut.out.nx.trans (HX.out nq).2).trans hw.2,?_⟩;rw[HB.out];exact⟨f,rfl,HE.out⟩
   all_goals
    have HGO:Hid (zDv G gen n a st=zBq G gen a n.entries s1):=oh (by
     rw[HLV.out,if_neg];rintro (h|⟨h1,h2⟩)
     .exact h rfl
     .have a1:=HZ.out;have a2:=HY.out;have a3:(1:Int)<(a.depth:Int):=by omega
      rw[h1] at a1;revert a1 a2
      simp[a3])
    have HS0:Hid (∃(F1 P1:Nat->Prop) (pv1 kv1:Value),zF3 F P ad w base c s gen kb mb G l pv kv n a ea ka ia ec kc ic s1 F1 P1 pv1 kv1 wc):=oh ⟨_,_,_,_,hcut.out⟩;go_wp2_with fail;go_quiet (fail)
    go_wp2_with fail;clear hz hy k6 p0 p1 d1;go_loopg [47] n.entries.length (λq v47 wr=>∃(k:Nat) (s':WkS),k+q=n.entries.length/\v47=.int .i64 (k:Int)/\Hid ((∃(F1 P1:Nat->Prop) (pv1 kv1:Value),zF3 F P ad w base c s gen kb mb G l pv kv n a ea ka ia ec kc ic s' F1 P1 pv1 kv1 wr)/\zBq G gen a (n.entries.drop k) s'=zBq G gen a n.entries s1/\zBA G s'/\s'.keys.length+(n.entries.length-k)<=1000000))
    case atStart=>exact⟨0,s1,by omega,rfl,oh ⟨⟨F,P,pv,kv,hcut.out.nxt (HX.out nq).1 (HX.out nq).2⟩,rfl,HIV.out.1,by rw[HIV.out.2];omega⟩⟩
    case round =>
     obtain⟨k,s',hkm,rfl,HQ⟩:=hrel;obtain⟨⟨F5,P5,pv5,kv5,h5⟩,hq5,hi5,hk5⟩:=HQ.out;obtain⟨ka5,kc5,rfl, -, -⟩:=_root_.id h5.st.wk.rk.form;have HK5:=oh hk5;have H5:=oh h5;have HQ5:=oh hq5;have HI5:=oh hi5;by_cases hlt:k<n.entries.length
     .obtain⟨_,_,hes,_,_,_,hss⟩:=H5.out.es;injection hes with hes _ hec;subst hes hec;obtain⟨b5,off,rfl,hbb,hF,hc⟩:=Sl.at hss (zA.refl _ _) (λ_ _ f=>f) k hlt;obtain⟨x,hx⟩:∃x,x=n.entries[k]:=⟨_,rfl⟩;rw[<- hx] at hc;have HXM:Hid (n.entries[k]? = some x):=oh (by rw[hx];exact uA hlt);have c0:=hc 0 _ rfl;simp only[uO] at c0;have c1:=hc 1 _ rfl;have c2:=hc 2 _ rfl;have c3:=hc 3 _ rfl;have m8:zJ wr (wr.alloc (.cells #[.string x.key,.string x.value,.int .i64 x.chain,.int .i64 x.size] 141)):=(zA.refl _ wr).alloc _;have H8:Hid (zF3 F P ad w base c s gen kb mb G l pv kv n a (some ⟨b5,off,none⟩) ka ia ec kc ic s' F5 P5 pv5 (.slice ka5 s'.keys.length kc5) (wr.alloc (.cells #[.string x.key,.string x.value,.int .i64 x.chain,.int .i64 x.size] 141))):=oh (H5.out.nxt (H5.out.st.ext m8).1 (H5.out.st.ext m8).2);have HX8:Hid (∀q,zF3 F P ad w base c s gen kb mb G l pv kv n a (some ⟨b5,off,none⟩) ka ia ec kc ic s' F5 P5 pv5 (.slice ka5 s'.keys.length kc5) ((wr.alloc (.cells #[.string x.key,.string x.value,.int .i64 x.chain,.int .i64 x.size] 141)).drewN q)):=oh (λq=>H8.out.nxt (H8.out.st.ext ((zA.refl _ _).drewN q)).1 (H8.out.st.ext ((zA.refl _ _).drewN q)).2);have HEB:Hid (∀q,zL ((wr.alloc (.cells #[.string x.key,.string x.value,.int .i64 x.chain,.int .i64 x.size] 141)).drewN q) wr.heap.size #[.string x.key,.string x.value,.int .i64 x.chain,.int .i64 x.size] 141):=oh (λ_=>zL.new wr _ _);have HCR5:=oh (λq=>zBX (HX8.out q).st.env a.id);have k7:=H8.out.st.wk.blk.cell (o:=7) (v:=.string s'.last) rfl;have p0:=H8.out.pl.cell (o:=0) (v:=.int .i64 a.id) rfl;have p2:=H8.out.pl.cell (o:=2) (v:=.string a.lo) rfl;have p3:=H8.out.pl.cell (o:=3) (v:=.string a.hi) rfl;have i1:(0:Int)<=(k:Int):=by omega
      have i2:(k:Int)<(n.entries.length:Int):=by omega
      have HDR:Hid (n.entries.drop k=x :: n.entries.drop (k+1)):=oh (by rw[hx];exact wO hlt);obtain⟨q1,e1⟩:∃q,(Op.bytesLess x.key.toList s'.last.toList || x.key.toList == s'.last.toList)=q:=⟨_,rfl⟩;obtain⟨q2,e2⟩:∃q,Op.bytesLess x.key.toList a.lo.toList=q:=⟨_,rfl⟩;obtain⟨q3,e3⟩:∃q,(a.hi.toList == [])=q:=⟨_,rfl⟩;have e5:a.hi.toList.isEmpty=q3:=by rw[<- e3];cases a.hi.toList <;> rfl
      obtain⟨q4,e4⟩:∃q,(!Op.bytesLess x.key.toList a.hi.toList)=q:=⟨_,rfl⟩;have HQB:Hid (zGH a s' x=(q1 || q2 || (!q3 && q4))):=oh (by
       have f1:leS x.key s'.last=q1:=e1;have f2:qJ x.key a.lo=q2:=e2;have f4:leS a.hi x.key=q4:=by
        rw[<- e4];unfold leS;rcases zJY a.hi.toList x.key.toList with h|h|h
        .have h2:Op.bytesLess x.key.toList a.hi.toList=false:=by
          cases hb2:Op.bytesLess x.key.toList a.hi.toList with
          | false=>rfl
          | true=>have h3:=zDD _ _ _ h hb2;rw[zAq] at h3;cases h3
         rw[h,h2];rfl
        .rw[h,zAq];simp
        .rw[h];have h2:Op.bytesLess a.hi.toList x.key.toList=false:=by
          cases hb2:Op.bytesLess a.hi.toList x.key.toList with
          | false=>rfl
          | true=>have h3:=zDD _ _ _ h hb2;rw[zAq] at h3;cases h3
         have h4:(a.hi.toList == x.key.toList)=false:=by
          rw[uV];intro e;rw[e,zAq] at h;cases h
         rw[h2,h4];rfl
       have f3:decide (a.hi≠e0) = !q3:=by
        cases q3 with
        | true =>
         have:a.hi=e0:=toList_inj (by rw[tU.1 e3];simp[ByteArray.toList_eq]);simp[this]
        | false =>
         have:a.hi≠e0:=λh=>by rw[h] at e3;simp[ByteArray.toList_eq] at e3
         simp[this]
       unfold zGH;rw[f1,f2,f3,f4])
      clear hc hx hss h5 hq5 hi5;cases q1
      focus
       cases q2
       focus
        cases q3
        focus
         cases q4
        rotate_left 2
      iterate 2
       .go_wp2_with fail;go_quiet (fail)
        have HXQ:=oh (HX8.out nq);have HEQ:=oh (HEB.out nq);obtain⟨W0,hW0⟩:∃W0,(wr.alloc (.cells #[.string x.key,.string x.value,.int .i64 x.chain,.int .i64 x.size] 141)).drewN nq=W0:=⟨_,rfl⟩;rw[hW0] at HXQ HEQ ⊢;have kf:=HXQ.out.st.wk.blk.frozen;have k7:=HXQ.out.st.wk.blk.cell (o:=7) (v:=.string s'.last) rfl;have y0:=HEQ.out.cell (o:=0) (v:=.string x.key) rfl;have hne:wr.heap.size≠kb:=λe=>by have:=H5.out.st.wk.blk.lt;omega
        have hne2:kb≠wr.heap.size:=λe=>hne e.symm
        have HNE:=oh hne;have m7:zA (λk=>k=kb) W0 (W0.setCell ⟨kb,7,none⟩ (.string x.key)):=zA.setCell (F:=λk=>k=kb) (p:=⟨kb,7,none⟩) (zA.refl _ W0) (.inr rfl) _;have HOW:Hid (zU (λ_=>False) ((W0.setCell ⟨kb,7,none⟩ (.string x.key)).drew.alloc (.cells #[.string x.key] 9)) base 9 1 qK (.slice ka5 s'.keys.length kc5) s'.keys):=oh (((HXQ.out.st.wk.rk.mods m7 (λg hg e=>zU.notB HXQ.out.st.wk.rk HXQ.out.st.wk.blk (by decide) g hg e)).ext (zA.refl _ _).drew).ext ((zA.refl _ _).alloc (.cells #[.string x.key] 9)));have HB10:Hid (zL ((W0.setCell ⟨kb,7,none⟩ (.string x.key)).drew.alloc (.cells #[.string x.key] 9)) kb #[.pointer (some ⟨c,0,none⟩),.pointer (some ⟨s,0,none⟩),.int .u64 (gen:Int),.map (some mb),pv5,.slice ka5 s'.keys.length kc5,.int .i64 (s'.depth:Int),.string x.key] 102):=oh (((HXQ.out.st.wk.blk.set 7 (.string x.key)).drew).alloc _);have hb10:base<=W0.heap.size:=HXQ.out.st.bl;have hk10:s'.keys.length<=1000000:=by have:=HK5.out;omega
        have HHB:=oh hb10;clear p0 p2 p3 c0 c1 c2 c3 m7 hW0 HX8 HEB HCR5 hb10;go_wp2_with fail;obtain⟨W1,hW1⟩:∃W1,W0.setCell ⟨kb,7,none⟩ (.string x.key)=W1:=⟨_,rfl⟩;have HY0:=oh ((HEQ.out.set_other (p:=⟨kb,7,none⟩) (λe=>HNE.out e) (.string x.key)));rw[hW1] at HOW HB10 HY0 ⊢;have HW1:=oh hW1;have hBB:zL W1 kb #[.pointer (some ⟨c,0,none⟩),.pointer (some ⟨s,0,none⟩),.int .u64 (gen:Int),.map (some mb),pv5,.slice ka5 s'.keys.length kc5,.int .i64 (s'.depth:Int),.string x.key] 102:=by rw[<- hW1];exact HXQ.out.st.wk.blk.set 7 (.string x.key)
        have k5:=hBB.cell (o:=5) (v:=.slice ka5 s'.keys.length kc5) rfl;have y0:=HY0.out.cell (o:=0) (v:=.string x.key) rfl;have k5b:=λo=>zC ((zA.refl _ _).alloc o) k5
        have kf:=hBB.frozen 5;have hbs:base<=W1.heap.size:=by rw[<- hW1];simpa using HHB.out
        clear hW1 hBB k7;go_region_law
         (first
          | (refine yT Tryz.elS yV (by rfl) _ _ (by rfl) base (.slice ka5 s'.keys.length kc5) _ s'.keys [x.key] (by rfl) (by rfl) HOW.out (Sl.one (F:=λ_=>False) (zK (by simp)) (λf=>f)) (by simp only[uD,uE];omega) (by simp;omega) (λf=>f) ?_;simp only[uD,uE,uR];intro a11 c11 w11 hO11 hm11 hat11;have hB11:=HB10.out.mods hm11 (λe=>zU.notB HOW.out HB10.out (by decide) _ e rfl);have z5:=hB11.cell (o:=5) (v:=.slice ka5 s'.keys.length kc5) rfl;have zf:=hB11.frozen 5;clear hB11)
          | fail)
        all_goals
         have HXD:=oh (HXQ.out.nxt (HXQ.out.st.ext (zA.refl _ W0).drew).1 (HXQ.out.st.ext (zA.refl _ W0).drew).2);have hm11':zA (λk=>(Value.slice ka5 s'.keys.length kc5).ownBlock=some k) ((W0.drew.setCell ⟨kb,7,none⟩ (.string x.key)).alloc (.cells #[.string x.key] 9)) w11:=by
          have e:=HW1.out;rw[<- e] at hm11;exact hm11
         have HP:=oh (HXD.out.st.push x.key hO11 hm11' (hat11.imp id id) (by have e:=HW1.out;subst e;simp) (by have:=HK5.out;omega));have H11:=oh (HXD.out.nxt HP.out.1 HP.out.2);have hE11:=HP.out.2.blk (HEQ.out.drew) (λhp=>by
          rcases hp with hp|hp
          .have:=H5.out.st.pg.bd _ hp;omega
          .have:=H5.out.st.wk.lt _ hp;omega)
         have e0:=hE11.cell (o:=0) (v:=.string x.key) rfl;have e1':=hE11.cell (o:=1) (v:=.string x.value) rfl;have e2':=hE11.cell (o:=2) (v:=.int .i64 x.chain) rfl;have e3':=hE11.cell (o:=3) (v:=.int .i64 x.size) rfl;have HCH:=oh (zNI H11.out.st (G:=G) HI5.out HBL.out HT.out x (HC.out x (wM HXM.out)));clear hO11 hm11 hm11' hat11 z5 zf hE11 y0 k5 k5b kf;go_wp2_with fail;refine (HCH.out).mono ?_;rintro y w12 hd;have HEF:Hid (zGH a s' x=false):=oh (by rw[HQB.out];rfl);cases hk:zAc G gen x { s' with keys:=s'.keys++[x.key] } with
         | inl s2 =>
          rw[hk] at hd;obtain⟨P6,F6,pv6,kv6,st6,h6,n6,rfl,rfl⟩:=hd;have H6:=oh (H11.out.nxt h6 n6);obtain⟨v1,v2,v3⟩:=zFm (st:={ s' with keys:=s'.keys++[x.key] }) HI5.out hk;have HV6:Hid (zBA G st6/\st6.keys.length=s'.keys.length+1):=oh ⟨v1,by rw[v2];simp⟩;have HST:Hid (zBq G gen a (n.entries.drop (k+1)) st6=zBq G gen a n.entries s1):=oh (by
           rw[<- HQ5.out,HDR.out];conv=>rhs;rw[zBq,HEF.out]
           rw[if_neg (by simp),hk])
          clear h6 n6 hk v1 v2 v3;go_wp2_with fail;go_roundg (gk-1)
          case measure=>omega
          case rel=>exact⟨k+1,st6,by omega,by go_num,oh ⟨⟨F6,P6,pv6,kv6,H6.out⟩,HST.out,HV6.out.1,by have:=HV6.out.2;have:=HK5.out;omega⟩⟩
         | inr er =>
          obtain⟨el,ek⟩:=er;rw[hk] at hd;obtain⟨P6,F6,pv6,kv6,st6,h6,n6,fe,rfl,hE⟩:=hd;have H6:=oh (H11.out.nxt h6 n6);have HE:=oh hE;have HB2:Hid (zDv G gen n a st=.inr (el,ek)):=oh (by
           rw[HGO.out,<- HQ5.out,HDR.out,zBq,HEF.out,if_neg (by simp),hk])
          clear h6 n6 hk hE;go_wp2_with fail;go_ret;refine⟨P6,F6,pv6,kv6,st6,H6.out.st,H6.out.nx,?_⟩;rw[HB2.out];exact⟨fe,rfl,HE.out⟩
      all_goals
       have HB:Hid (zDv G gen n a st=.inr (zCE a.id)):=oh (by
        rw[HGO.out,<- HQ5.out,HDR.out,zBq,if_pos (by rw[HQB.out];rfl)])
       go_wp2_with fail;go_quiet (fail)
       have p0:=(HX8.out nq).pl.cell (o:=0) (v:=.int .i64 a.id) rfl;go_wp2_with fail;refine (HCR5.out _).mono ?_;rintro y w6 ⟨f,rfl,hE,hm⟩;have HE:=oh hE;have HM:=oh hm;clear hE hm;go_wp2_with fail;go_ret;have hw:=(HX8.out nq).st.ext HM.out;refine⟨P5,F5,pv5,_,s',hw.1,(HX8.out nq).nx.trans hw.2,?_⟩;rw[HB.out];exact⟨f,rfl,HE.out⟩
     .clear h5 hq5 hi5;go_wp2_with fail;go_ret;refine⟨P5,F5,pv5,_,s',H5.out.st,H5.out.nx,?_⟩;have hz:=HQ5.out;rw[tG (by omega),zBq] at hz;rw[HGO.out,<- hz];exact⟨rfl,rfl⟩
  .have hdb:((a.depth:Int) == (D:Int))=false:=uV.2 (by omega);have hdn:((a.depth:Int) != (D:Int))=true:=by rw[bne,hdb];rfl
   have HB:Hid (zDv G gen n a st=.inr (zCE a.id)):=oh (by rw[HLV.out,if_pos (.inl hd)]);clear hd hdb;go_wp2_with fail;go_quiet (fail)
   go_wp2_with fail;refine (HCR.out _).mono ?_;rintro x w6 ⟨f,rfl,hE,hm⟩;have HE:=oh hE;have HM:=oh hm;clear hE hm;go_wp2_with fail;go_ret;have hw:=(HX.out nq).1.ext HM.out;refine⟨P,F,pv,kv,s1,hw.1,(hcut.out.nx.trans (HX.out nq).2).trans hw.2,?_⟩;rw[HB.out];exact⟨f,rfl,HE.out⟩
end
section
variable {F P P' F' P1 F1:Nat->Prop}{ad:Nat->Addr}{w w' wr w0:World}{base c s gen kb mb:Nat}{G:GA}{l:List Nat}{pv kv pv' kv':Value}{st st':WkS}
theorem WkD.form{r:WkS ⊕ Err}{e:Ending}(h:WkD F P ad w base c s gen kb mb G l pv kv r e w'):∃v,e=.returned v:=by
 obtain⟨P',F',pv',kv',st',_,_,h⟩:=h;cases r with
 | inl s1=>exact⟨_,h.1⟩
 | inr er=>obtain⟨el,ek⟩:=er;obtain⟨f,h,_⟩:=h;exact⟨_,h⟩
theorem WkD.pre{r:WkS ⊕ Err}{e:Ending}(n:zR (wkQ P kb mb pv kv) (wkQ P1 kb mb pv' kv') F F1 ad w w0)(h:WkD F1 P1 ad w0 base c s gen kb mb G l pv' kv' r e w'):WkD F P ad w base c s gen kb mb G l pv kv r e w':=by
 obtain⟨P2,F2,pv2,kv2,st2,h1,h2,h3⟩:=h;exact⟨P2,F2,pv2,kv2,st2,h1,n.trans h2,h3⟩
theorem WkD.bad{er:Err}{f:Nat}(h:WkI F1 P1 ad w' base c s gen kb mb G l pv' kv' st')(n:zR (wkQ P kb mb pv kv) (wkQ P1 kb mb pv' kv') F F1 ad w w')(hE:qQ F1 ad w' (zQ f) er.1 er.2){r:WkS ⊕ Err}(hr:r=.inr er) :
  WkD F P ad w base c s gen kb mb G l pv kv r (.returned (zQ f)) w':=by
 subst hr;exact⟨P1,F1,pv',kv',st',h,n,f,rfl,hE⟩
theorem WkD.good{st1:WkS}(h:WkI F1 P1 ad w' base c s gen kb mb G l pv' kv' st1)(n:zR (wkQ P kb mb pv kv) (wkQ P1 kb mb pv' kv') F F1 ad w w'){r:WkS ⊕ Err}(hr:r=.inl st1) :
  WkD F P ad w base c s gen kb mb G l pv kv r (.returned .nilIface) w':=by
 subst hr;exact⟨P1,F1,pv',kv',st1,h,n,rfl,rfl⟩
structure InS(F P:Nat->Prop)(ad:Nat->Addr)(w:World)(base c s gen kb mb:Nat)(G:GA)(l:List Nat)(pv kv:Value)(n:zF)(a:zAW)(ea ka ia:Option Addr)(ec kc ic:Nat)(st':WkS)(F1 P1:Nat->Prop)(pv1 kv1:Value)(wr:World):Prop where
 st:WkI F1 P1 ad wr base c s gen kb mb G l pv1 kv1 st'
 nx:zR (wkQ P kb mb pv kv) (wkQ P1 kb mb pv1 kv1) F F1 ad w wr
 nd:zL wr w.heap.size #[.bool n.leaf,.slice ea n.entries.length ec,.slice ka n.keys.length kc,.slice ia n.kids.length ic] 118
 pl:zL wr (w.heap.size+1) #[.int .i64 a.id,.int .i64 (a.depth:Int),.string a.lo,.string a.hi] 105
 ks:Sl F1 wr 1 qK (.slice ka n.keys.length kc) n.keys
 is:Sl F1 wr 1 yB (.slice ia n.kids.length ic) n.kids
 nq:¬ wkQ P1 kb mb pv1 kv1 w.heap.size/\¬ wkQ P1 kb mb pv1 kv1 (w.heap.size+1)
theorem InS.nxt{n:zF}{a:zAW}{ea ka ia:Option Addr}{ec kc ic:Nat}{st1 st2:WkS}{F1 P1 F2 P2:Nat->Prop}{pv1 kv1 pv2 kv2:Value}{w2:World}
  (h:InS F P ad w base c s gen kb mb G l pv kv n a ea ka ia ec kc ic st1 F1 P1 pv1 kv1 wr) (hi:WkI F2 P2 ad w2 base c s gen kb mb G l pv2 kv2 st2) (nx:zR (wkQ P1 kb mb pv1 kv1) (wkQ P2 kb mb pv2 kv2) F1 F2 ad wr w2) :
  InS F P ad w base c s gen kb mb G l pv kv n a ea ka ia ec kc ic st2 F2 P2 pv2 kv2 w2 :=
 ⟨hi,h.nx.trans nx,nx.blk h.nd h.nq.1,nx.blk h.pl h.nq.2,h.ks.step (nx.stp.mods.mono h.st.subQ) (λk hk hn hf=>hn (nx.oldF k hk hf)),h.is.step (nx.stp.mods.mono h.st.subQ) (λk hk hn hf=>hn (nx.oldF k hk hf)),nx.not h.nd.lt h.nq.1,nx.not h.pl.lt h.nq.2⟩
theorem InS.ext{n:zF}{a:zAW}{ea ka ia:Option Addr}{ec kc ic:Nat}{st1:WkS}{F1 P1:Nat->Prop}{pv1 kv1:Value}{w2:World}
  (h:InS F P ad w base c s gen kb mb G l pv kv n a ea ka ia ec kc ic st1 F1 P1 pv1 kv1 wr) (m:zJ wr w2) :
  InS F P ad w base c s gen kb mb G l pv kv n a ea ka ia ec kc ic st1 F1 P1 pv1 kv1 w2:=h.nxt (h.st.ext m).1 (h.st.ext m).2
def zLt(ad:Nat->Addr)(base c s gen kb mb:Nat)(G:GA)(l:List Nat)(f:Nat):Prop :=
 ∀(F P:Nat->Prop) (w:World) (pv kv:Value) (st:WkS) (a:zAW),WkI F P ad w base c s gen kb mb G l pv kv st->zBO G st->a.depth+f=17->zJL a.id ->
  Calls Tryz.prog 48 #[.pointer (some ⟨kb,0,none⟩),zNJ a] w (WkD F P ad w base c s gen kb mb G l pv kv (zAB G gen f a st))
theorem zQV{f:Nat}(hrec:zLt ad base c s gen kb mb G l f)(hG:zLE G)(h:WkI F P ad w base c s gen kb mb G l pv kv st)(hi:zBO G st)(n:zF)(hr:zM n=true)(hl:n.leaf=false)(a:zAW)(hdep:a.depth+1+f=17)
  (ea ka ia:Option Addr) (ec kc ic:Nat) (hks:Sl F w 1 qK (.slice ka n.keys.length kc) n.keys) (his:Sl F w 1 yB (.slice ia n.kids.length ic) n.kids) :
  Calls Tryz.prog 82 #[.pointer (some ⟨kb,0,none⟩),.agg #[.bool n.leaf,.slice ea n.entries.length ec,.slice ka n.keys.length kc,.slice ia n.kids.length ic],zNJ a] w (WkD F P ad w base c s gen kb mb G l pv kv (zBg (zAB G gen f) n a n.kids 0 st)):=by
 have m0:zJ w ((w.alloc (.cells #[.bool n.leaf,.slice ea n.entries.length ec,.slice ka n.keys.length kc,.slice ia n.kids.length ic] 118)).alloc (.cells #[.int .i64 a.id,.int .i64 (a.depth:Int),.string a.lo,.string a.hi] 105)):=((zA.refl _ w).alloc _).alloc _;obtain⟨h0,n0⟩:=h.ext m0;have HL:Hid (InS F P ad w base c s gen kb mb G l pv kv n a ea ka ia ec kc ic st F P pv kv ((w.alloc (.cells #[.bool n.leaf,.slice ea n.entries.length ec,.slice ka n.keys.length kc,.slice ia n.kids.length ic] 118)).alloc (.cells #[.int .i64 a.id,.int .i64 (a.depth:Int),.string a.lo,.string a.hi] 105))):=oh
  ⟨h0,n0,(zL.new w _ _).alloc _,zK (by simp),hks.ext m0,his.ext m0,λhp=>by have:=h.bd _ hp;omega,λhp=>by have:=h.bd _ hp;omega⟩
 obtain⟨b1,b2,b3⟩:n.kids.length<=ic/\ic<=maxLen/\n.kids.length<=140737488355328:=by
  obtain⟨_,_,e,h1,h2,h3,_⟩:=his;injection e with _ _ e;subst e;exact⟨h1,h2,h3⟩
 obtain⟨c1,c2,c3⟩:n.keys.length<=kc/\kc<=maxLen/\n.keys.length<=140737488355328:=by
  obtain⟨_,_,e,h1,h2,h3,_⟩:=hks;injection e with _ _ e;subst e;exact⟨h1,h2,h3⟩
 unfold maxLen at b2 c2;obtain⟨_,hkl,hk2⟩:=jC hr hl;have HKL:=oh hkl;have HK2:=oh hk2;have HI:=oh hi;have HG:=oh hG;have HREC:=oh hrec;have hd1:a.depth<=16:=by omega
 have HDEP:=oh hdep;have d3:=HL.out.nd.cell (o:=3) (v:=.slice ia n.kids.length ic) rfl;have hnk:n.kids.length=n.keys.length+1:=hkl;obtain⟨nk,hnk2⟩:∃nk,nk=n.kids.length:=⟨_,rfl⟩;clear h h0 n0 m0 hks his hi hr hl hk2 hkl hG hrec hdep hnk
 go_enter Tryz.func82, Tryz.ntmps82
 go_wp2_with fail;clear d3;go_loopg [14] n.kids.length (λq v14 wr=>∃(k:Nat) (s':WkS),k+q=n.kids.length/\v14=.int .i64 (k:Int)/\Hid ((∃(F1 P1:Nat->Prop) (pv1 kv1:Value),InS F P ad w base c s gen kb mb G l pv kv n a ea ka ia ec kc ic s' F1 P1 pv1 kv1 wr)/\zBg (zAB G gen f) n a (n.kids.drop k) k s'=zBg (zAB G gen f) n a n.kids 0 st/\zBO G s'))
 case atStart=>exact⟨0,st,by omega,rfl,oh ⟨⟨F,P,pv,kv,HL.out⟩,rfl,HI.out⟩⟩
 case round =>
  obtain⟨k,s',hkm,rfl,HQ⟩:=hrel;obtain⟨⟨F5,P5,pv5,kv5,h5⟩,hq5,hi5⟩:=HQ.out;have H5:=oh h5;have HQ5:=oh hq5;have HI5:=oh hi5;by_cases hlt:k<n.kids.length
  .obtain⟨kid,hkid⟩:∃kid,kid=n.kids[k]:=⟨_,rfl⟩;obtain⟨ib,ioff,hia,hic⟩:=h5.is.elem hlt (zA.refl _ _);have d0:=hic 0 (.int .i64 kid) (by rw[hkid];rfl);simp only[wK,uO] at d0;have HDR:Hid (n.kids.drop k=kid :: n.kids.drop (k+1)):=oh (by rw[hkid];exact wO hlt);have hkr:=HK2.out kid (by rw[hkid];exact wH hlt);have hkb : -9223372036854775808<=kid/\kid<=9223372036854775807:=by omega
   have hkok:zJL kid:=(Lit.wf_int_iff .i64 _).2 hkb;have HKOK:=oh hkok;obtain⟨b,hb⟩:∃b,b=vD n a k kid:=⟨_,rfl⟩;have HB:=oh hb;have p1:=H5.out.pl.cell (o:=1) (v:=.int .i64 (a.depth:Int)) rfl;have p2:=H5.out.pl.cell (o:=2) (v:=.string a.lo) rfl;have p3:=H5.out.pl.cell (o:=3) (v:=.string a.hi) rfl;have d2b:=λo=>zC ((zA.refl _ _).alloc o) (H5.out.nd.cell (o:=2) (v:=.slice ka n.keys.length kc) rfl)
   have i1:(0:Int)<=(k:Int):=by omega
   have i2:(k:Int)<(n.kids.length:Int):=by omega
   have hnw:wr.heap.size≠w.heap.size:=λe=>by have:=H5.out.nd.lt;omega
   have hnw1:wr.heap.size≠w.heap.size+1:=λe=>by have:=H5.out.pl.lt;omega
   subst hia;clear h5 hq5 hi5 hic hkid hkr hkok hb hkb;go_upto_if 29 with fail
   go_cut [] (λwx=>wx=wr.alloc (.cells #[.int .i64 kid,.int .i64 ((a.depth:Int)+1),.string b.lo,.string a.hi] 105))
   case first =>
    by_cases h0:k=0
    .subst h0;have HLO:Hid (b.lo=a.lo):=oh (by rw[HB.out];rfl);go_wp2_with fail;go_meet;exact (by rw[HLO.out])
    .obtain⟨j,rfl⟩:∃j,k=j+1:=⟨k-1,by omega⟩;have hjk:j<n.keys.length:=by have:=HKL.out;omega
     obtain⟨xb,xoff,hxa,hxc⟩:=H5.out.ks.elem hjk (zA.refl _ _);obtain⟨x,hx⟩:∃x,x=n.keys[j]:=⟨_,rfl⟩;have e0:=hxc 0 (.string x) (by rw[hx];rfl);simp only[wK,uO] at e0;have e0b:=λo=>zC ((zA.refl _ _).alloc o) e0
     have HLO:Hid (b.lo=x):=oh (by rw[HB.out,hx];unfold vD;simp[List.getD,hjk]);have j1:(0:Int)<=(j:Int):=by omega
     have j2:(j:Int)<(n.keys.length:Int):=by omega
     have j3:(0:Int)<((j+1:Nat):Int):=by omega
     have j4:((j+1:Nat):Int)-1=(j:Int):=by omega
     subst hxa;clear hxc hx e0;go_wp2_with fail;go_meet;exact (by rw[HLO.out])
   case rest =>
    subst hcut;go_upto_if 41 with fail
    go_cut [] (λwx=>Hid (InS F P ad w base c s gen kb mb G l pv kv n a ea ka (some ⟨ib,ioff,none⟩) ec kc ic s' F5 P5 pv5 kv5 wx/\zL wx wr.heap.size #[.int .i64 b.id,.int .i64 (b.depth:Int),.string b.lo,.string b.hi] 105))
    case first =>
     have FIN:Hid (∀(hi:ByteArray),hi=b.hi->Hid (InS F P ad w base c s gen kb mb G l pv kv n a ea ka (some ⟨ib,ioff,none⟩) ec kc ic s' F5 P5 pv5 kv5 (wr.alloc (.cells #[.int .i64 kid,.int .i64 ((a.depth:Int)+1),.string b.lo,.string hi] 105))/\zL (wr.alloc (.cells #[.int .i64 kid,.int .i64 ((a.depth:Int)+1),.string b.lo,.string hi] 105)) wr.heap.size #[.int .i64 b.id,.int .i64 (b.depth:Int),.string b.lo,.string b.hi] 105)):=oh (λhi e2=>oh (by
      subst e2;refine⟨H5.out.ext ((zA.refl _ wr).alloc _),?_⟩;have hid:b.id=kid:=by rw[HB.out];rfl
      have hdp:(b.depth:Int)=(a.depth:Int)+1:=by rw[HB.out];show ((a.depth+1:Nat):Int)=_;omega
      rw[hid,hdp];exact zL.new wr _ _))
     by_cases hlast:k<n.keys.length
     .obtain⟨yb,yoff,hya,hyc⟩:=H5.out.ks.elem hlast (zA.refl _ _);obtain⟨y,hy⟩:∃y,y=n.keys[k]:=⟨_,rfl⟩;have f0:=hyc 0 (.string y) (by rw[hy];rfl);simp only[wK,uO] at f0;have f0b:=λo=>zC ((zA.refl _ _).alloc o) f0
      have HHI:Hid (y=b.hi):=oh (by rw[HB.out,hy];unfold vD;simp only[if_pos hlast];simp[List.getD,hlast]);have l2:(k:Int)<(n.keys.length:Int):=by omega
      subst hya;clear hyc hy f0;go_wp2_with fail;go_meet;exact FIN.out _ HHI.out
     .have HHI:Hid (a.hi=b.hi):=oh (by rw[HB.out];unfold vD;simp only[if_neg hlast]);have l2:¬ (k:Int)<(n.keys.length:Int):=by omega
      go_wp2_with fail;go_meet;exact FIN.out _ HHI.out
    case rest =>
     clear p1 p2 p3 d0 d2b;have p0:=hcut.out.1.pl.cell (o:=0) (v:=.int .i64 a.id) rfl;have p2:=hcut.out.1.pl.cell (o:=2) (v:=.string a.lo) rfl;have p3:=hcut.out.1.pl.cell (o:=3) (v:=.string a.hi) rfl;have t0:=hcut.out.2.cell (o:=0) (v:=.int .i64 b.id) rfl;have t1:=hcut.out.2.cell (o:=1) (v:=.int .i64 (b.depth:Int)) rfl;have t2:=hcut.out.2.cell (o:=2) (v:=.string b.lo) rfl;have t3:=hcut.out.2.cell (o:=3) (v:=.string b.hi) rfl;have HCR:=oh (zBX hcut.out.1.st.env a.id);have HNC:=oh (HREC.out F5 P5 _ pv5 kv5 s' b hcut.out.1.st HI5.out (by rw[HB.out];have:=HDEP.out;show a.depth+1+f=17;omega) (by rw[HB.out];exact HKOK.out));obtain⟨q1,e1⟩:∃q,Op.bytesLess b.lo.toList a.lo.toList=q:=⟨_,rfl⟩;obtain⟨q2,e2⟩:∃q,(a.hi.toList == [])=q:=⟨_,rfl⟩;have e5:a.hi.toList.isEmpty=q2:=by rw[<- e2];cases a.hi.toList <;> rfl
     obtain⟨r1,e3⟩:∃q,Op.bytesLess b.hi.toList a.hi.toList=q:=⟨_,rfl⟩;obtain⟨r2,e4⟩:∃q,(b.hi.toList == a.hi.toList)=q:=⟨_,rfl⟩;have HQB:Hid (zFD a b=(q1 || (!q2 && (!r1 && !r2)))):=oh (by
      have f1:qJ b.lo a.lo=q1:=e1;have f3:qJ a.hi b.hi=(!r1 && !r2):=by
       rw[<- e3,<- e4];rcases zJY a.hi.toList b.hi.toList with h|h|h
       .have h1:Op.bytesLess b.hi.toList a.hi.toList=false:=by
         cases hb2:Op.bytesLess b.hi.toList a.hi.toList with
         | false=>rfl
         | true=>have h3:=zDD _ _ _ h hb2;rw[zAq] at h3;cases h3
        have h2:(b.hi.toList == a.hi.toList)=false:=by
         rw[uV];intro e;rw[e,zAq] at h;cases h
        rw[h1,h2];exact h
       .unfold qJ;rw[h,zAq];simp
       .have h1:Op.bytesLess a.hi.toList b.hi.toList=false:=by
         cases hb2:Op.bytesLess a.hi.toList b.hi.toList with
         | false=>rfl
         | true=>have h3:=zDD _ _ _ h hb2;rw[zAq] at h3;cases h3
        unfold qJ;rw[h,h1];rfl
      have f2:decide (a.hi≠e0) = !q2:=by
       cases q2 with
       | true =>
        have:a.hi=e0:=toList_inj (by rw[tU.1 e2];simp[ByteArray.toList_eq]);simp[this]
       | false =>
        have:a.hi≠e0:=λh=>by rw[h] at e2;simp[ByteArray.toList_eq] at e2
        simp[this]
      unfold zFD;rw[f1,f2,f3])
     cases q1
     focus
      cases q2
      focus
       cases r1
       focus
        cases r2
        rotate_left
       rotate_left
      rotate_left
     iterate 3
      .have HGD:Hid (zFD a b=false):=oh (by rw[HQB.out];rfl);go_wp2_with fail;refine (HNC.out).mono ?_;rintro y w6 hd;cases hk:zAB G gen f b s' with
       | inl s1 =>
        rw[hk] at hd;obtain⟨P6,F6,pv6,kv6,st6,h6,n6,rfl,rfl⟩:=hd;have H6:=oh (hcut.out.1.nxt h6 n6);have HK:=oh hk;have HI6:=oh (zI4 HG.out f b s' st6 HI5.out hk);have HST:Hid (zBg (zAB G gen f) n a (n.kids.drop (k+1)) (k+1) st6=zBg (zAB G gen f) n a n.kids 0 st):=oh (by
         rw[<- HQ5.out,HDR.out];conv=>rhs;rw[zBg,<- HB.out,HGD.out]
         rw[if_neg (by simp),HK.out])
        clear h6 n6 hk;go_wp2_with fail;go_roundg (gk-1)
        case measure=>omega
        case rel=>exact⟨k+1,st6,by omega,by go_num,oh ⟨⟨F6,P6,pv6,kv6,H6.out⟩,HST.out,HI6.out⟩⟩
       | inr er =>
        obtain⟨el,ek⟩:=er;rw[hk] at hd;obtain⟨P6,F6,pv6,kv6,st6,h6,n6,fe,rfl,hE⟩:=hd;have H6:=oh (hcut.out.1.nxt h6 n6);have HE:=oh hE;have HB2:Hid (zBg (zAB G gen f) n a n.kids 0 st=.inr (el,ek)):=oh (by
         rw[<- HQ5.out,HDR.out,zBg,<- HB.out,HGD.out,if_neg (by simp),hk])
        clear h6 n6 hk hE;go_wp2_with fail;go_ret;exact WkD.bad H6.out.st H6.out.nx HE.out HB2.out
     all_goals
      have HB2:Hid (zBg (zAB G gen f) n a n.kids 0 st=.inr (zCE a.id)):=oh (by
       rw[<- HQ5.out,HDR.out,zBg,<- HB.out,if_pos (by rw[HQB.out];rfl)])
      go_wp2_with fail;refine (HCR.out).mono ?_;rintro y w6 ⟨fe,rfl,hE,hm⟩;have HE:=oh hE;have HM:=oh hm;clear hE hm;go_wp2_with fail;go_ret;have hw:=hcut.out.1.ext HM.out;exact WkD.bad hw.st hw.nx HE.out HB2.out
  .clear h5 hq5 hi5;go_wp2_with fail;go_ret;have hz:=HQ5.out;rw[tG (by omega),zBg] at hz;exact WkD.good H5.out.st H5.out.nx hz.symm
end
end
end Go.Proofs.YtchklfmggpconaaGreatDoor
