import Derived.Test.YtgphfebjjedeaaaGreatDoorS30
import Derived.BigQuiet
import Derived.IntWalk
import Derived.Deep.RegionLawGrows
import Derived.Deep.RegionHeld3
import Derived.Deep.CutBlock
import Derived.Deep.DeepCutAuto
namespace Go.Proofs.YtgphfebjjedeaaaGreatDoor
open Lib renaming hid->oh
set_option maxHeartbeats 4000000
set_option maxRecDepth 100000
section
open Go.RowKit
attribute [local go_sem ↓] Go.wp_at_zero Go.wp_at_succ
def zHn(F:NP)(ad:Nat->Addr)(w':World)(r:ByteArray ⊕ Err)(e:Ending):Prop :=
 match r with
 | .inl v=>e=.returned (.tuple #[.string v,.nilIface])
 | .inr (l,k)=>∃f,e=.returned (.tuple #[.string ⟨#[]⟩,zD f])/\yG F ad w' (zD f) l k
def zIH(F:NP)(ad:Nat->Addr)(w':World)(r:Option ByteArray ⊕ Err)(e:Ending):Prop :=
 match r with
 | .inl (some v)=>e=.returned (.tuple #[.string v,.bool true,.nilIface])
 | .inl none=>e=.returned (.tuple #[.string ⟨#[]⟩,.bool false,.nilIface])
 | .inr (l,k)=>∃f,e=.returned (.tuple #[.string ⟨#[]⟩,.bool false,zD f])/\yG F ad w' (zD f) l k
section
variable {P P' P1 P2 F F' F1 F2 Q:NP}{ad:Nat->Addr}{w w' wr w2:World}{c s:Nat}{G:GA}{l:List Nat}{v v':Value}{gen:Nat}
theorem zJF(hL:zZ F ad w)(hP:∀k,P k->F k)(h:jC F w P c s G l)(gen:Nat)(e:zS)(hid : -9223372036854775808<=e.chain/\e.chain<=9223372036854775807)(hok:zCT G e) :
  Calls Tryz.prog 182 #[pgV c s gen,.agg #[.string e.key,.string e.value,.int .i64 e.chain,.int .i64 e.size]] w (zAl F P ad w c s G l (λF' w' ed=>zHn F' ad w' (zAn G e) ed)):=by
 obtain⟨key,value,chain,size⟩:=e;simp only at hid;have m0:zF w ((w.alloc (gP c s gen)).alloc (.cells #[.string key,.string value,.int .i64 chain,.int .i64 size] 289)):=((zss w).alloc _).alloc _;have HN0:=oh (zR.ext hL hP m0);have HG0:=oh (h.at m0);have HOK:=oh hok;by_cases hz:chain=0
 .have hzb:(chain == 0)=true:=tL.2 hz;have HV:Hid (zAn G ⟨key,value,chain,size⟩=.inl value):=oh (by unfold zAn;rw[if_pos hz]);clear hL hP h m0 hok hz;unfold pgV
  go_enter Tryz.func182, Tryz.ntmps182
  go_wp2_with fail;go_ret2
  exact⟨P,F,HG0.out,HN0.out,by rw[HV.out];rfl⟩
 .have hzb:(chain == 0)=false:=uO.2 hz;have HRD:=oh (zHM HN0.out.env HN0.out.sub HG0.out gen chain size hid (hok hz));have HV:Hid (zAn G ⟨key,value,chain,size⟩=match zCD G chain size with|none=>.inl ⟨((vQ G size.toNat chain size).1.flatMap (·.2)).toArray⟩|some (l,k)=>.inr (-1 :: l,k)):=oh (by unfold zAn;rw[if_neg hz];rfl);clear hL hP h m0 hok hz;unfold pgV at HRD ⊢
  go_enter Tryz.func182, Tryz.ntmps182
  go_wp2_with fail;refine (HRD.out).mono ?_;rintro e w2 ⟨P2,F2,hG2,hN2,⟨hc,rfl⟩|⟨⟨el,ek⟩,f,hc,rfl,hE⟩⟩
  .have HG2:=oh hG2;have HN2:=oh hN2;have HC:=oh hc;clear hG2 hN2 hc;go_wp2_with fail;refine (wrap_nil _ _).mono ?_;rintro e w3 ⟨rfl,rfl⟩;go_wp2_with fail;go_ret2
   exact⟨P2,F2,HG2.out,HN0.out.trans HN2.out,by rw[HV.out,HC.out];rfl⟩
  .have HG2:=oh hG2;have HN2:=oh hN2;have HC:=oh hc;have HE:=oh hE;clear hG2 hN2 hc hE;go_wp2_with fail;refine (wrap_any HN2.out.env _ _ _ _ HE.out).mono ?_;rintro e w3 ⟨f3,rfl,hE3,hm3⟩;have HE3:=oh hE3;have HM3:=oh hm3;clear hE3 hm3;go_wp2_with fail;go_ret2
   exact⟨P2,F2,HG2.out.at HM3.out,(HN0.out.trans HN2.out).trans (zR.ext HN2.out.env HN2.out.sub HM3.out),by rw[HV.out,HC.out];exact⟨f3,rfl,HE3.out⟩⟩
end
theorem zHn.form{F:NP}{ad:Nat->Addr}{w:World}{r:ByteArray ⊕ Err}{e:Ending}(h:zHn F ad w r e):∃v ev,e=.returned (.tuple #[.string v,ev]):=by
 rcases r with v|⟨l,k⟩
 .exact⟨v,_,h⟩
 .obtain⟨f,h,_⟩:=h;exact⟨_,_,h⟩
section
variable {P P' P1 P2 F F' F1 F2 Q:NP}{ad:Nat->Addr}{w w' wr w2:World}{c s:Nat}{G:GA}{l:List Nat}{v v':Value}{gen:Nat}
theorem zKU(hL:zZ F ad w)(hP:∀k,P k->F k)(h:jC F w P c s G l)(gen:Nat)(root:Int)(key:ByteArray)(hk:zJ6 G root key) :
  Calls Tryz.prog 112 #[pgV c s gen,.int .i64 root,.string key] w (zAl F P ad w c s G l (λF' w' e=>zIH F' ad w' (zAr G root key) e)):=by
 have m0:zF w (w.alloc (gP c s gen)):=(zss w).alloc _;have HN0:=oh (zR.ext hL hP m0);have HG0:=oh (h.at m0);have HB0:=oh (zJ.new w (gP c s gen) 140);have HK:=oh hk;have HBP:Hid (¬ P w.heap.size):=oh (λhp=>by have:=h.bd _ hp;omega);clear hL hP h hk m0;have HCK:=λop=>zGe (c:=c) (s:=s) HN0.out.env op gen key
 have HFD:=λ(F1 P1:NP) (wr:World) (h1:zZ F1 ad wr) (h2:∀k,P1 k->F1 k) (h3:jC F1 wr P1 c s G l)=>zKT h1 h2 h3 gen root key HK.out.1
 unfold pgV at HCK HFD ⊢;have HCK:=oh HCK;have HFD:=oh HFD
 go_enter Tryz.func112, Tryz.ntmps112
 go_wp2_with fail;refine (HCK.out _).mono ?_;rintro e w1 ⟨ev,rfl,hE,hm1⟩;have hB1:=HB0.out.ext hm1;have b0:=hB1.d 0 (.pointer (some ⟨c,0,none⟩)) rfl;have b1:=hB1.d 1 (.pointer (some ⟨s,0,none⟩)) rfl;have b2:=hB1.d 2 (.int .u64 (gen:Int)) rfl;have HN1:=oh (HN0.out.trans (zR.ext HN0.out.env HN0.out.sub hm1));have HB1:=oh hB1;have HG1:=oh (HG0.out.at hm1);clear hm1 hB1;cases hc:zAc key with
 | some er =>
  obtain⟨el,ek⟩:=er;rw[hc] at hE;obtain⟨f,rfl,hE⟩:=hE;have HE:=oh hE;have HV:Hid (zAr G root key=.inr (el,ek)):=oh (by unfold zAr;rw[hc]);clear hE hc;go_wp2_with fail;refine bodyPost_ret (v:=.tuple #[.string ⟨#[]⟩,.bool false,zD f]) (by simp[results,Tryz.results112,go_sem]) rfl ?_;exact⟨P,F,HG1.out,HN1.out,by rw[HV.out];exact⟨f,rfl,HE.out⟩⟩
 | none =>
  rw[hc] at hE;cases hE
  by_cases hr:root=0
  .have hrb:(root == 0)=true:=tL.2 hr;have HV:Hid (zAr G root key=.inl none):=oh (by unfold zAr;rw[hc];simp only[if_pos hr]);clear hc hr;go_wp2_with fail;refine bodyPost_ret (v:=.tuple #[.string ⟨#[]⟩,.bool false,.nilIface]) (by simp[results,Tryz.results112,go_sem]) rfl ?_;exact⟨P,F,HG1.out,HN1.out,by rw[HV.out];rfl⟩
  .have hrb:(root == 0)=false:=uO.2 hr;have HV:Hid (zAr G root key=match findA G key 16 [] root with | .inr (l,k)=>.inr (-1 :: l,k) | .inl (_,n)=>(match n.entries[(jD n key).1]? with|none=>.inl none|some e=>if (jD n key).2=true then (match zAn G e with | .inl v=>.inl (some v) | .inr (l,k)=>.inr (-1 :: l,k)) else .inl none)):=oh (by unfold zAr;rw[hc];simp only[if_neg hr];rfl);clear hc hr;go_wp2_with fail;refine (HFD.out F P _ HN1.out.env HN1.out.sub HG1.out).mono ?_;rintro e w2 ⟨P2,F2,hG2,hN2,hres⟩;have HG2:=oh hG2;have HN2:=oh hN2;clear hG2 hN2;generalize hfa:findA G key 16 [] root=r at hres
   have HFA:=oh hfa;clear hfa;rcases r with ⟨st,n⟩|⟨el,ek⟩
   .obtain⟨sv,ve,vk,vi,rfl,hss,hse,hsk,hsi⟩:=hres;obtain⟨sa,sc,rfl,_,_,_,_⟩:=hss;obtain⟨ea,ec,rfl,hec1,hec2,hec3,hee⟩:=_root_.id hse;obtain⟨ka,kc,rfl,_,_,_,_⟩:=_root_.id hsk;obtain⟨ia,ic,rfl,_,_,_,_⟩:=hsi;unfold maxLen at hec2;have m2:zF w2 (w2.alloc (.cells #[.bool n.leaf,.slice ea n.entries.length ec,.slice ka n.keys.length kc,.slice ia n.kids.length ic] 277)):=(zss w2).alloc _;have HND:=oh (zBl n key _ _ (.slice ia n.kids.length ic) (hse.ext m2) (hsk.ext m2));have HX2:=oh (zJ.new w2 #[.bool n.leaf,.slice ea n.entries.length ec,.slice ka n.keys.length kc,.slice ia n.kids.length ic] 277);have HEE:=oh hee;have HM2:=oh m2;have HB2:=oh (HN2.out.blk HB1.out HBP.out);obtain⟨at_,isb,hfn⟩:∃a b,jD n key=(a,b):=⟨_,_,rfl⟩;have HFN:=oh hfn;rw[hfn] at HND;have HV2:Hid (zAr G root key=match n.entries[at_]? with|none=>.inl none|some e=>if isb=true then (match zAn G e with | .inl v=>.inl (some v) | .inr (l,k)=>.inr (-1 :: l,k)) else .inl none):=oh (by rw[HV.out,HFA.out];simp only[hfn]);have hisb:isb=true->at_<n.entries.length:=by
     intro hb;unfold jD at hfn;split at hfn
     .simp only[Prod.mk.injEq] at hfn;obtain⟨h1,h2⟩:=hfn;rw[h1,hb] at h2;split at h2
      .rename_i e he;exact (uB.1 he).1
      .cases h2
     .simp only[Prod.mk.injEq] at hfn;rw[hb] at hfn;cases hfn.2
    have HIS:=oh hisb;clear hse hsk m2 hee hfn hisb;go_wp2_with fail;refine (HND.out).mono ?_;rintro e w3 ⟨rfl,hm3⟩;have HM3:=oh (HM2.out.trans hm3);have HX3:=oh (HX2.out.ext hm3);clear hm3;cases isb
    .have HVN:Hid (zAr G root key=.inl none):=oh (by
      rw[HV2.out];split
      .rfl
      .rfl)
     go_wp2_with fail;refine bodyPost_ret (v:=.tuple #[.string ⟨#[]⟩,.bool false,.nilIface]) (by simp[results,Tryz.results112,go_sem]) rfl ?_;exact⟨P2,F2,HG2.out.at HM3.out,(HN1.out.trans HN2.out).trans (zR.ext HN2.out.env HN2.out.sub HM3.out),by rw[HVN.out];rfl⟩
    .have hat:=HIS.out rfl;have HAT:=oh hat;obtain⟨eb,eoff,rfl,_,hebF,hc4⟩:=Sl.at HEE.out HM3.out (λ_ _ f=>f.elim) at_ hat
     obtain⟨en,hen⟩:∃en,en=n.entries[at_]:=⟨_,rfl⟩;have HEN:Hid (n.entries[at_]? = some en):=oh (by rw[hen];exact uA hat);have hc4:∀j u,(zAA en)[j]? = some u->w3.cell? ⟨eb,eoff+at_ * 4+j,none⟩=some u:=by rw[hen];exact hc4
     have c0:=hc4 0 _ rfl;simp only[uS] at c0;have c1:=hc4 1 _ rfl;have c2:=hc4 2 _ rfl;have c3:=hc4 3 _ rfl;have HVE:Hid (zAr G root key=match zAn G en with | .inl v=>.inl (some v) | .inr (l,k)=>.inr (-1 :: l,k)):=oh (by rw[HV2.out,HEN.out];simp only[rE]);have HVO:Hid (zCT G en):=oh (HK.out.2 st n en HFA.out (by rw[HFN.out];exact HEN.out));have HRG:Hid (-9223372036854775808<=en.chain/\en.chain<=9223372036854775807):=oh (by
      obtain⟨k1,k2⟩:=zDr 16 [] root HFA.out;have h3:=zCI k2 k1 HEN.out;unfold vI at h3;simp only[uF] at h3;have h4:=h3.2;split at h4
      .omega
      .simp only[uF,uM,zA9] at h4;omega)
     have HNB:=oh (HN2.out.not HB1.out.lt HBP.out);have HNX:Hid (¬ P2 w2.heap.size):=oh (λhp=>by have:=HN2.out.stp.bd _ hp;omega);have HNE:Hid (¬ P2 eb):=oh (λhp=>hebF (HN2.out.sub _ hp));have hB3:=HB2.out.ext HM3.out;have p0:=hB3.d 0 (.pointer (some ⟨c,0,none⟩)) rfl;have p1:=hB3.d 1 (.pointer (some ⟨s,0,none⟩)) rfl;have p2:=hB3.d 2 (.int .u64 (gen:Int)) rfl;have x1:=HX3.out.d 1 (.slice (some ⟨eb,eoff,none⟩) n.entries.length ec) rfl;have i0:(0:Int)<=(at_:Int):=by omega
     have i1:(at_:Int)<(n.entries.length:Int):=by omega
     have HVC:=oh (zJF (HN2.out.env.mods HM3.out.drew.ext) HN2.out.sub (HG2.out.at HM3.out.drew) gen en HRG.out HVO.out);unfold pgV at HVC;clear hen hc4 hB3;go_wp2_with fail;go_region_held3 (λw'=>w'.cell? ⟨w.heap.size,0,none⟩=some (.pointer (some ⟨c,0,none⟩))/\w'.cell? ⟨w.heap.size,1,none⟩=some (.pointer (some ⟨s,0,none⟩))/\w'.cell? ⟨w.heap.size,2,none⟩=some (.int .u64 (gen:Int))/\w'.cell? ⟨w2.heap.size,1,none⟩=some (.slice (some ⟨eb,eoff,none⟩) n.entries.length ec) /\
       w'.cell? ⟨eb,eoff+at_ * 4,none⟩=some (.string en.key)/\w'.cell? ⟨eb,eoff+at_ * 4+1,none⟩=some (.string en.value)/\w'.cell? ⟨eb,eoff+at_ * 4+2,none⟩=some (.int .i64 en.chain)/\w'.cell? ⟨eb,eoff+at_ * 4+3,none⟩=some (.int .i64 en.size))
      (first|(with_reducible exact⟨p0,p1,p2,x1,c0,c1,c2,c3⟩)|(with_reducible exact⟨y0,y1,y2,y3,z0,z1,z2,z3⟩)|go_keep)
      (first
       | (go_at_call 182;(with_reducible refine (HVC.out).mono ?_);rintro e w4 ⟨P4,F4,hG4,hN4,hres⟩;obtain⟨vs,ev,rfl⟩:=hres.form;have y0:=zDq (w:=w3.drew) hN4.stp.mods p0 HNB.out;have y1:=zDq (w:=w3.drew) hN4.stp.mods p1 HNB.out;have y2:=zDq (w:=w3.drew) hN4.stp.mods p2 HNB.out;have y3:=zDq (w:=w3.drew) hN4.stp.mods x1 HNX.out;have z0:=zDq (w:=w3.drew) hN4.stp.mods c0 HNE.out;have z1:=zDq (w:=w3.drew) hN4.stp.mods c1 HNE.out;have z2:=zDq (w:=w3.drew) hN4.stp.mods c2 HNE.out;have z3:=zDq (w:=w3.drew) hN4.stp.mods c3 HNE.out)
       | fail)
     have HG4:=oh hG4;have HN4:=oh (((HN1.out.trans HN2.out).trans (zR.ext HN2.out.env HN2.out.sub HM3.out.drew)).trans hN4);clear p0 p1 p2 x1 c0 c1 c2 c3 y0 y1 y2 y3 z0 z1 z2 z3 hG4 hN4;generalize hva:zAn G en=r at hres
     have HVA:=oh hva;clear hva;rcases r with vv|⟨el,ek⟩
     .have hre:Ending.returned (.tuple #[.string vs,ev])=.returned (.tuple #[.string vv,.nilIface]):=hres;injection hre with hre;simp only[Value.tuple.injEq,Array.mk.injEq,List.cons.injEq,Value.string.injEq,and_true] at hre;obtain⟨rfl,rfl⟩:=hre;clear hres;have HVF:Hid (zAr G root key=.inl (some vs)):=oh (by rw[HVE.out,HVA.out]);go_wp2_with fail;go_region_held3 (λ_=>True) (trivial)
       (first
        | (go_at_call 64;(with_reducible refine (wrap_nil _ _).mono ?_);rintro e w5 ⟨rfl,rfl⟩)
        | fail)
      all_goals
       go_wp2_with fail;refine bodyPost_ret (v:=.tuple #[.string vs,.bool true,.nilIface]) (by simp[results,Tryz.results112,go_sem]) rfl ?_;exact⟨P4,F4,HG4.out.at (zss w4).drew,HN4.out.trans (zR.ext HN4.out.env HN4.out.sub (zss w4).drew),by rw[HVF.out];rfl⟩
     .obtain⟨f,hre,hE⟩:=hres;injection hre with hre;simp only[Value.tuple.injEq,Array.mk.injEq,List.cons.injEq,Value.string.injEq,and_true] at hre;obtain⟨rfl,rfl⟩:=hre;have HE:=oh hE;clear hE;have HVF:Hid (zAr G root key=.inr (-1 :: el,ek)):=oh (by rw[HVE.out,HVA.out]);go_wp2_with fail;go_region_held3 (λ_=>True) (trivial)
       (first
        | (go_at_call 64;(with_reducible refine (wrap_any (HN4.out.env.mods (zss w4).drew) _ _ _ _ (HE.out.mods (zss w4).drew)).mono ?_);rintro e w5 ⟨f5,rfl,hE5,hm5⟩)
        | fail)
      all_goals
       have HE5:=oh hE5;have HM5:=oh (((zA.refl (λ_=>False) w4).drew).trans hm5);clear hE5 hm5;go_wp2_with fail;refine bodyPost_ret (v:=.tuple #[.string ⟨#[]⟩,.bool false,zD f5]) (by simp[results,Tryz.results112,go_sem]) rfl ?_;exact⟨P4,F4,HG4.out.at HM5.out,HN4.out.trans (zR.ext HN4.out.env HN4.out.sub HM5.out),by rw[HVF.out];exact⟨f5,rfl,HE5.out⟩⟩
   .obtain⟨f,rfl,hE⟩:=hres;have HE:=oh hE;clear hE;have m2:zF w2 (w2.alloc gB):=(zss w2).alloc _;have HM2:=oh m2;clear m2;go_wp2_with fail;refine (wrap_any (HN2.out.env.mods HM2.out.ext) _ _ _ _ (HE.out.mods HM2.out.ext)).mono ?_;rintro e w3 ⟨f3,rfl,hE3,hm3⟩;have HE3:=oh hE3;have HM3:=oh (HM2.out.trans hm3);clear hE3 hm3;go_wp2_with fail;refine bodyPost_ret (v:=.tuple #[.string ⟨#[]⟩,.bool false,zD f3]) (by simp[results,Tryz.results112,go_sem]) rfl ?_;exact⟨P2,F2,HG2.out.at HM3.out,(HN1.out.trans HN2.out).trans (zR.ext HN2.out.env HN2.out.sub HM3.out),by rw[HV.out,HFA.out];exact⟨f3,rfl,HE3.out⟩⟩
end
end
section
open Go.RowKit
theorem zHo{G:GA}(h:G.total)(l:List Nat)(gen:Nat)(n:zK):(yW G l gen 0 n).total:=by
 unfold yW;split
 .exact h
 .unfold qE;rw[if_pos (.inl rfl)];exact zIz h _
theorem zJG{G:GA}{l:List Nat}{gen i:Nat}{n:zK}(hd:vG G l 0 n=some i)(hi:i<G.blocks):(yW G l gen 0 n).node i=some n:=by
 have hr:=(zKN hd).1;have hv:(yW G l gen 0 n).view i=some (.inl ⟨zBM n,(i:Int),gen,zT n⟩):=by
  unfold yW;rw[hd];simp only;rw[zAk,if_pos (by simp)]
 unfold GA.node;rw[(zJB G l gen 0 n).2.1,if_pos hi,hv];simp only;have hdec:jN ⟨zBM n,(i:Int),gen,zT n⟩=.inl n:=by
  unfold jN zBM;cases hl:n.leaf with
  | true =>
   have:=(zGM true (zT n) n).2 ⟨hr,hl,rfl⟩;simp[this]
  | false =>
   have:=(zGM false (zT n) n).2 ⟨hr,hl,rfl⟩;simp[this]
 rw[hdec]
theorem zHp{G:GA}{l:List Nat}{i:Nat}{key v:ByteArray}(hk:zAK key=true)(hv:v.size<=24)(hs:256<=G.size)(hi:qG l=some i):vG G l 0 (jK key v)=some i:=by
 have h1:=zDJ hk hv;unfold vG;rw[if_pos ⟨zBO hk hv,by omega⟩];unfold vO;rw[if_neg (by simp)];exact hi
abbrev PgE:=zX × (Option Addr × Nat × Nat)
structure FrE where
 node:zK
 at_:Int
 ea:Option Addr
 ka:Option Addr
 ia:Option Addr
 ec:Nat
 kc:Nat
 ic:Nat
end
section
open Go.RowKit
attribute [local go_sem ↓] Go.wp_at_zero Go.wp_at_succ
section
variable {P P' F F':NP}{ad:Nat->Addr}{w w':World}{d:Nat}{D:zH}
theorem zE6(hL:zZ F ad w)(h:jL w P d D)(ho:D.off=false)(hs0:qA (D.look 0) 0=none)(hs1:qA (D.look 1) 1=none)(ha0:∃r,zW (D.look 0) ((0:Nat):Int)=.inr r)(ha1:∃r,zW (D.look 1) ((1:Nat):Int)=.inr r)(hl0:(D.look 0).length=D.size)(hl1:(D.look 1).length=D.size)
  (S:Nat) (hPS:¬ P S) (hFS:F S) (cv sv il:Value) (s0:qD) (h0 root keys:Int) (dead:Bool) (hB:zJ w S (stC d cv sv s0 h0 root keys il dead) 149) :
  Calls Tryz.prog 91 #[.pointer (some ⟨S,0,none⟩)] w λe w'=>∃f,e=.returned (zD f)/\yG F ad w' (zD f) [-1] 5/\zA (λj=>j=S) w w':=by
 obtain⟨q1,q2,q3,q4,q5,q6⟩:=h.lim;have HL:Hid (∀w',zA F w w'->zZ F ad w'):=oh (λw' k=>hL.mods k);have HFS:=oh hFS;have HBT:=oh (zF4 hL h ho 0 1 (by omega) (by omega));have hf:∀{g:Nat},w.heap.size<g->¬ F g:=λhg f=>by have:=hL.lt _ f;omega
 have HROW:Hid (∀{W:World} {v:Value} {l:List UInt8},l.length=D.size->qI w.heap.size D.size W v l->Sl F W 1 zM v l):=oh (λhlen ⟨g,h1,h2,h3⟩=>by rw[h1];exact zB9 h3 hlen (hf h2) (by omega));clear hf;have HCH:Hid (∀W,zA F w W->∀av bv,qI w.heap.size D.size W av (D.look 0)->qI w.heap.size D.size W bv (D.look 1) -> Calls Tryz.prog 148 #[av,bv] W λe w'=>∃f,e=.returned (.tuple #[.agg #[.int .u64 0,.int .i64 0,.int .i64 0,.int .i64 0,.int .i64 0],.int .i64 0,zD f])/\yG F ad w' (zD f) [-1] 5/\zF W w'):=oh (λW m av bv ha hbv=>by
  refine (zEN (HL.out W m) av bv _ _ (HROW.out hl0 ha) (HROW.out hl1 hbv) (by omega) (by omega) (by omega) (by omega) (λ_=>ha0) (λ_=>ha1) hs0 hs1).mono ?_;rintro e w' ⟨ev,h1,⟨f,h2,h3⟩,h4⟩;subst h2;exact⟨f,h1,h3,h4⟩)
 have HD:=oh h;obtain⟨DZ,hDZ⟩:∃n,n=D.size:=⟨_,rfl⟩;rw[<- hDZ] at HBT HROW HCH;clear hDZ;have hS:=hB.lt;have c0:=hB.d 0 (.pointer (some ⟨d,0,none⟩)) rfl;have HB:=oh hB;have HPS:=oh hPS;clear hFS hL h ho hs0 hs1 ha0 ha1 hl0 hl1 hB hPS q1 q2 q3 q4 q5 q6
 go_enter Tryz.func91, Tryz.ntmps91
 go_wp2_with fail;refine HBT.out.mono ?_;rintro e w1 ⟨v0,v1,rfl,hv0,hv1,m1⟩;obtain⟨a0,rfl, -, -⟩:=_root_.id hv0;obtain⟨a1,rfl, -, -⟩:=_root_.id hv1;have HV0:=oh hv0;have HV1:=oh hv1;simp only[qZ] at HV0 HV1 ⊢;have HM1:=oh m1;have HB1:=oh (HB.out.ext m1);have hz1:S<w1.heap.size:=HB1.out.lt;clear m1 c0 hv0 hv1;go_upto_if 16 with fail
 obtain⟨W2,hW2⟩:∃W,W=w1.alloc (.cells #[.slice (some ⟨a0,0,none⟩) DZ DZ,.slice (some ⟨a1,0,none⟩) DZ DZ] 239):=⟨_,rfl⟩;have m2:zF w1 W2:=by rw[hW2];exact (zss w1).alloc _
 have hY2:zJ W2 w1.heap.size #[.slice (some ⟨a0,0,none⟩) DZ DZ,.slice (some ⟨a1,0,none⟩) DZ DZ] 239:=by rw[hW2];exact zJ.new w1 _ _
 obtain⟨Y,hY⟩:∃Y,Y=w1.heap.size:=⟨_,rfl⟩;rw[<- hY] at hY2 hz1;rw[<- hW2,<- hY];have HM2:=oh (HM1.out.trans m2);have HB2:=oh (HB1.out.ext m2);have HV02:=oh (qI.mods HV0.out m2 (λ_ _ _ f=>f));have HV12:=oh (qI.mods HV1.out m2 (λ_ _ _ f=>f));have HY2:=oh hY2;have y0:=hY2.k 0 rfl;have y1:=hY2.k 1 rfl;clear m2 hY2 hW2 hY HM1 HB1 HV0 HV1;go_wp2_with fail;refine (HCH.out _ HM2.out.ext _ _ HV02.out HV12.out).mono ?_;rintro e w3 ⟨f,rfl,hE,m3⟩;have HE:=oh hE;have HM3:=oh (HM2.out.trans m3);have hB3:=HB2.out.ext m3;have s3:=hB3.k 3 rfl;have s4:=hB3.k 4 rfl;have s5:=hB3.k 5 rfl;have s6:=hB3.k 6 rfl;have s7:=hB3.k 7 rfl;have s8:=hB3.k 8 rfl;have sf:=hB3.frozen;unfold zD;clear m3 hB3 y0 y1 HM2 HB2 HV02 HV12 HY2 hE;go_wp2_with fail;go_ret;have m4:=zDs (W:=w3) (S:=S) (g:=0) (b:=0) (z:=0) (r:=0) (k:=0) (home:=0);exact⟨f,rfl,HE.out.mods (m4.mono (λj h=>by have h':j=S:=h;rw[h'];exact HFS.out)),HM3.out.ext.trans m4⟩
end
section
variable {P P' F F':NP}{ad:Nat->Addr}{w w':World}{d:Nat}{D:zH}
def zK1(F P:NP)(ad:Nat->Addr)(w:World)(d:Nat)(D:zH)(e:Ending)(w':World):Prop :=
 ∃f el F',e=.returned (.tuple #[.pointer none,zD f])/\yG F' ad w' (zD f) el 5/\jL w' P d D/\zR P P F F' ad w w'
theorem zHq(hL:zZ F ad w)(hP:∀k,P k->F k)(h:jL w P d D)(hD:zBw D)(hs0:qA (D.look 0) 0=none)(hs1:qA (D.look 1) 1=none)(ha0:∃r,zW (D.look 0) ((0:Nat):Int)=.inr r)(ha1:∃r,zW (D.look 1) ((1:Nat):Int)=.inr r)(q:Nat)(h3:3<=q)(h64:q<=64) :
  Calls Tryz.prog 29 #[.pointer (some ⟨d,0,none⟩),.int .i64 (q:Int)] w (zK1 F P ad w d D):=by
 have HCK:=oh (λop=>zBV h hD.off op q h3 h64);have HNS:=oh (And.intro hs0 (And.intro hs1 (And.intro ha0 ha1)));have HDR:=oh hD;have HQ:=oh (And.intro h3 h64);obtain⟨W0,hW0⟩:∃W0,W0=w.alloc (.cells (stZ d) 149):=⟨_,rfl⟩;have hM0:zF w W0:=by rw[hW0];exact (zss w).alloc _
 have hB0:zJ W0 w.heap.size (stZ d) 149:=by rw[hW0];exact zJ.new w _ _
 obtain⟨S,hS⟩:∃S,S=w.heap.size:=⟨_,rfl⟩;have hE0:zZ (yJ F w.heap.size) ad W0:=hL.withR hM0 (by rw[hW0];simp);rw[<- hS] at hB0 hE0;have hPS:¬ P S:=λf=>by have:=hL.lt _ (hP _ f);omega
 have HNW:=oh (zGW hE0 (λk hk=>.inl (hP k hk)) (h.at hM0) q h3 h64);have HM0:=oh hM0;have HB0:=oh hB0;have HPS:=oh hPS;have HSW:Hid (S=w.heap.size):=oh hS;have HLP:=oh (And.intro hL hP);clear hL hP h hD hs0 hs1 ha0 ha1 h3 h64 hM0 hB0 hE0 hPS
 go_enter Tryz.func29, Tryz.ntmps29
 go_wp2_with fail;refine (HCK.out _).mono ?_;rintro e w0 ⟨rfl,rfl⟩;go_wp2_with fail;rw[<- hS];have e0:w.alloc (.cells #[.pointer (some ⟨d,0,none⟩),.pointer none,.pointer none,.int .u64 0,.int .i64 0,.int .i64 0,.int .i64 0,.int .i64 0,.int .i64 0,.int .i64 0,.int .i64 0,.slice none 0 0,.bool false] 149)=W0:=hW0.symm;rw[e0];clear hS e0 hW0;refine HNW.out.mono ?_;rintro e w1 ⟨c,sb,bvs,F1,rfl,hC,n1⟩;have hCS:¬ qW c sb P S:=n1.not HB0.out.lt HPS.out;have hB1:=n1.blk HB0.out HPS.out;have s1:=hB1.d 1 (.pointer none) rfl;have sf:=hB1.frozen;have HC1:=oh hC;have HN1:=oh n1;have HB1:=oh hB1;have HCS:=oh hCS;have HFS:Hid (F1 S):=oh (n1.grow S (.inr rfl));clear hC n1 hB1 hCS;go_upto_if 31 with fail
 obtain⟨W2,hW2⟩:∃W,W=w1.setCell ⟨S,1,none⟩ (.pointer (some ⟨c,0,none⟩)):=⟨_,rfl⟩;have m2:zA (λj=>j=S) w1 W2:=by rw[hW2];exact zA.setCell (F:=λj=>j=S) (zss w1) (p:=⟨S,1,none⟩) (.inr rfl) _
 have hB2:zJ W2 S (stC d (.pointer (some ⟨c,0,none⟩)) (.pointer none) ⟨0,0,0,0,0⟩ 0 0 0 (.slice none 0 0) false) 149:=by rw[hW2];simpa[stC,stZ] using HB1.out.set 1 (.pointer (some ⟨c,0,none⟩))
 rw[<- hW2];have mF:zA F1 w1 W2:=m2.mono (λj hj=>by have h':j=S:=hj;rw[h'];exact HFS.out);have HC2:=oh (HC1.out.plus (F':=F1) m2 (λj hj h=>by have h':j=S:=h;rw[h'] at hj;exact HCS.out hj) (λj hj=>by have h':j=S:=hj;rw[h'];exact HFS.out) (λ_ _ h=>h));have HE2:=oh (HN1.out.env.mods mF);have HB2:=oh hB2;have HX2:Hid (zA (λj=>qW c sb P j\/j=S) W0 W2/\W0.heap.size<=W2.heap.size):=oh ⟨(HN1.out.stp.mods.mono (λj hj=>.inl (.inl hj))).trans (m2.mono (λj hj=>.inr hj)),uQ HN1.out.stp.mods.size m2.size⟩;clear m2 hB2 hW2 mF s1 sf HB1 HC1;have HG2:=oh (HC2.out.disk.geo);have gf:=Tryz.geoField0;go_wp2_with fail;refine HG2.out.mono ?_;rintro e wg ⟨rfl,mg⟩;have HMG:=oh mg;have HBG:=oh (HB2.out.ext mg);have HPS2:Hid (¬ P S):=HPS;clear mg;go_wp2_with fail;refine (zFB D.blocks HDR.out.b8 HDR.out.b256).mono ?_;rintro e w3 ⟨sp,b2,rfl,hSP,hsp1,hsp2,m3⟩;have hB3:=HBG.out.ext m3;have s2:=hB3.d 2 (.pointer none) rfl;have sf:=hB3.frozen;have HB3:=oh hB3;have hsS:∀k,spF sp b2 k->k≠S:=λk hk e=>by
  have hb:=HBG.out.lt;rcases hk with rfl|rfl <;> omega
 have HSS:=oh hsS;have HSP3:=oh hSP;have HMG3:=oh (HMG.out.trans m3);have hcsp:∀k,qW c sb P k->¬ spF sp b2 k:=λk hk hs=>by
  have h1:k<W2.heap.size:=HC2.out.bdP k hk;have h2:=HMG.out.size;rcases hs with rfl|rfl <;> omega
 have HCSP:=oh hcsp;have hlo:∀k,spF sp b2 k->W2.heap.size<=k:=λk hk=>by
  have h2:=HMG.out.size;rcases hk with rfl|rfl <;> omega
 have HLO:=oh hlo;clear hB3 hSP hsp1 hsp2 m3 hsS hcsp hlo gf HG2;go_upto_if 43 with fail
 obtain⟨W4,hW4⟩:∃W,W=w3.setCell ⟨S,2,none⟩ (.pointer (some ⟨sp,0,none⟩)):=⟨_,rfl⟩;have m4:zA (λj=>j=S) w3 W4:=by rw[hW4];exact zA.setCell (F:=λj=>j=S) (zss w3) (p:=⟨S,2,none⟩) (.inr rfl) _
 have hB4:zJ W4 S (stC d (.pointer (some ⟨c,0,none⟩)) (.pointer (some ⟨sp,0,none⟩)) ⟨0,0,0,0,0⟩ 0 0 0 (.slice none 0 0) false) 149:=by rw[hW4];simpa[stC] using HB3.out.set 2 (.pointer (some ⟨sp,0,none⟩))
 rw[<- hW4];have m24:zA (λj=>j=S) W2 W4:=HMG3.out.ext.trans m4;have mF:zA F1 W2 W4:=m24.mono (λj hj=>by have h':j=S:=hj;rw[h'];exact HFS.out);have HC4:=oh (HC2.out.plus (F':=F1) m24 (λj hj h=>by have h':j=S:=h;rw[h'] at hj;exact HCS.out hj) (λj hj=>by have h':j=S:=hj;rw[h'];exact HFS.out) (λ_ _ h=>h));have HE4:=oh (HE2.out.mods mF);have HB4:=oh hB4;have HSP4:=oh (HSP3.out.mods m4 (λh=>HSS.out sp (.inl rfl) h) (λh=>HSS.out b2 (.inr rfl) h));have HX4:Hid (zA (λj=>qW c sb P j\/j=S) W0 W4/\W0.heap.size<=W2.heap.size/\W2.heap.size<=W4.heap.size/\zA (λj=>j=S) W2 W4):=oh ⟨HX2.out.1.trans (m24.mono (λj hj=>.inr hj)),HX2.out.2,m24.size,m24⟩;clear m4 hB4 hW4 mF m24 s2 sf HB3 HSP3 HB2 HBG HMG HMG3;have HCHO:=oh (zE6 HE4.out (P:=P) HC4.out.disk HDR.out.off HNS.out.1 HNS.out.2.1 HNS.out.2.2.1 HNS.out.2.2.2 (by have:=HDR.out;exact this.len 0 (by have:=this.b8;omega)) (by have:=HDR.out;exact this.len 1 (by have:=this.b8;omega)) S HPS.out HFS.out _ _ _ _ _ _ _ _ HB4.out);go_wp2_with fail;refine HCHO.out.mono ?_;rintro e w5 ⟨f,rfl,hE5,m5⟩;have HE5:=oh hE5;have HX5:Hid (zA (λj=>qW c sb P j\/j=S) W0 w5):=oh (HX4.out.1.trans (m5.mono (λj hj=>.inr hj)));have mF:zA F1 W4 w5:=m5.mono (λj hj=>by have h':j=S:=hj;rw[h'];exact HFS.out);have HL5:=oh (HE4.out.mods mF);have HD5:=oh (HC4.out.disk.far m5 (λj hj h=>HPS.out (by have h':j=S:=h;rw[h'] at hj;exact hj)));unfold zD;clear m5 hE5 mF;go_wp2_with fail;obtain⟨R,hR⟩:∃R,R=w5.heap.size:=⟨_,rfl⟩;obtain⟨W6,hW6⟩:∃W,W=w5.alloc (.cells #[.int .i64 2,.int .i64 3,.int .i64 4,.int .i64 5] 3):=⟨_,rfl⟩;have m6:zF w5 W6:=by rw[hW6];exact (zss w5).alloc _
 have hB6:zJ W6 R #[.int .i64 2,.int .i64 3,.int .i64 4,.int .i64 5] 3:=by rw[hW6,hR];exact zJ.new w5 _ _
 rw[<- hW6,<- hR];have HROW:Hid (∀k,k<4->∃v:Int,W6.cell? ⟨R,k,none⟩=some (.int .i64 v)):=oh (λk hk=>by
  match k,hk with
  | 0,_=>exact⟨2,hB6.cell rfl⟩
  | 1,_=>exact⟨3,hB6.cell rfl⟩
  | 2,_=>exact⟨4,hB6.cell rfl⟩
  | 3,_=>exact⟨5,hB6.cell rfl⟩)
 have HM6:=oh m6;clear hR hW6 m6 hB6;go_loopg [8,57] 4 (λr v8 v57 wr=>∃k:Nat,k+r=4/\v8=zD f/\v57=.int .i64 (k:Int)/\Hid (wr=W6))
 case atStart=>exact⟨0,rfl,rfl,rfl,oh rfl⟩
 case round =>
  obtain⟨k,hk,rfl,rfl,HW⟩:=hrel;have hwr:=HW.out;subst hwr;unfold zD;by_cases hlt:k<4
  .obtain⟨v,hv⟩:=HROW.out k hlt;have i1:(0:Int)<=(k:Int):=by omega
   have i2:(k:Int)<4:=by omega
   go_wp2_with fail;go_roundg (gk-1)
   case measure=>omega
   case rel=>exact⟨k+1,by omega,rfl,by go_num,oh rfl⟩
  .obtain rfl:k=4:=by omega
   have HWR:=oh (wrap_any (HL5.out.mods HM6.out.ext) ⟨#[115,116,111,114,101,46,77,111,117,110,116]⟩ _ _ _ (HE5.out.mods HM6.out.ext));unfold zD at HWR;go_wp2_with fail;refine HWR.out.mono ?_;rintro e w9 ⟨f2,rfl,hE9,m9⟩;have HE9:=oh hE9;have HM9:=oh (HM6.out.trans m9);clear hE9 m9;go_wp2_with fail;go_ret2
   have hsw:=HSW.out;have zw:w.heap.size<=W0.heap.size:=HM0.out.size;refine⟨f2,_,F1,rfl,HE9.out,HD5.out.at HM9.out,⟨⟨?_,λk _ h=>h,λk h=>?_⟩,?_,λk h=>HN1.out.grow k (.inl h),λk hk h=>?_,HL5.out.mods HM9.out.ext⟩⟩
   .refine HM0.out.ext.trans' (HX5.out.trans HM9.out.ext) (λi hi h=>?_);rcases h with h|h
    .exact HN1.out.stp.old i (by omega) h
    .omega
   .exact uD (HLP.out.1.lt k (HLP.out.2 k h)) (uQ (uQ zw HX5.out.size) HM9.out.size)
   .exact λk h=>HN1.out.grow k (.inl (HLP.out.2 k h))
   .rcases HN1.out.oldF k (by omega) h with h|h
    .exact h
    .omega
end
section
variable {P P' F F':NP}{ad:Nat->Addr}{w w':World}{d:Nat}{D:zH}
theorem offC(c9:w.cell? ⟨d,9,none⟩=some (.bool true)) : Calls Tryz.prog 146 #[.pointer (some ⟨d,0,none⟩)] w λe w'=>e=.returned (.bool true)/\w=w':=by
 go_enter Tryz.func146, Tryz.ntmps146
 go_wp2_with fail;go_ret;exact⟨rfl,rfl⟩
theorem zLz(hL:zZ F ad w)(op:ByteArray)(q:Int) :
  Calls Tryz.prog 87 #[.string op,.pointer none,.int .i64 q] w λe w'=>∃f,e=.returned (zD f)/\yG F ad w' (zD f) [-1] 7/\zF w w':=by
 have g7:=hL.c7;have HL:=oh hL;clear hL
 go_enter Tryz.func87, Tryz.ntmps87
 go_wp2_with fail;refine (yD HL.out _ _ _ 7 (.sent 7 (by decide) (by decide))).mono ?_;rintro e w2 ⟨f,rfl,hE,hm⟩;have HE:=oh hE;have HM:=oh hm;clear hE hm;go_wp2_with fail;go_ret;exact⟨f,rfl,HE.out,HM.out⟩
theorem zL0(hL:zZ F ad w)(c9:w.cell? ⟨d,9,none⟩=some (.bool true))(op:ByteArray)(q:Int) :
  Calls Tryz.prog 87 #[.string op,.pointer (some ⟨d,0,none⟩),.int .i64 q] w λe w'=>∃f,e=.returned (zD f)/\yG F ad w' (zD f) [-1] 7/\zF w w':=by
 have HO:=oh (offC c9);have g7:=hL.c7;have HL:=oh hL;clear hL c9
 go_enter Tryz.func87, Tryz.ntmps87
 go_wp2_with fail;refine HO.out.mono ?_;rintro e w1 ⟨rfl,rfl⟩;go_wp2_with fail;refine (yD HL.out _ _ _ 7 (.sent 7 (by decide) (by decide))).mono ?_;rintro e w2 ⟨f,rfl,hE,hm⟩;have HE:=oh hE;have HM:=oh hm;clear hE hm;go_wp2_with fail;go_ret;exact⟨f,rfl,HE.out,HM.out⟩
theorem zL1(hL:zZ F ad w)(h:jL w P d D)(ho:D.off=false)(op:ByteArray)(q:Int)(hq:q<3\/64<q) :
  Calls Tryz.prog 87 #[.string op,.pointer (some ⟨d,0,none⟩),.int .i64 q] w λe w'=>∃f,e=.returned (zD f)/\yG F ad w' (zD f) [-1] 2/\zF w w':=by
 have HO:=oh h.off;rw[ho] at HO;have g2:=hL.c2;have HL:=oh hL;have hc:(decide (q<3)=true)\/(decide (q<3)=false/\decide (64<q)=true):=by
  rcases hq with h1|h1
  .exact .inl (by simpa using h1)
  .exact .inr ⟨by simp;omega,by simpa using h1⟩
 clear hL h ho hq;rcases hc with h1|⟨h1,h2⟩
 all_goals
  go_enter Tryz.func87, Tryz.ntmps87
  go_wp2_with fail;refine HO.out.mono ?_;rintro e w1 ⟨rfl,rfl⟩;go_wp2_with fail;refine (yD HL.out _ _ _ 2 (.sent 2 (by decide) (by decide))).mono ?_;rintro e w2 ⟨f,rfl,hE,hm⟩;have HE:=oh hE;have HM:=oh hm;clear hE hm;go_wp2_with fail;go_ret;exact⟨f,rfl,HE.out,HM.out⟩
def zII(F:NP)(ad:Nat->Addr)(k:Nat)(w:World)(e:Ending)(w':World):Prop :=
 ∃f,e=.returned (.tuple #[.pointer none,zD f])/\yG F ad w' (zD f) [-1] k/\zF w w'
theorem zLD{dv:Value}{q:Int}{k:Nat}(HC:Hid (∀op,Calls Tryz.prog 87 #[.string op,dv,.int .i64 q] w λe w'=>∃f,e=.returned (zD f)/\yG F ad w' (zD f) [-1] k/\zF w w')) :
  Calls Tryz.prog 30 #[dv,.int .i64 q] w (zII F ad k w):=by
 go_enter Tryz.func30, Tryz.ntmps30
 go_wp2_with fail;refine (HC.out _).mono ?_;rintro e w1 ⟨f,rfl,hE,hm⟩;have HE:=oh hE;have HM:=oh hm;clear hE hm;unfold zD;go_wp2_with fail;go_ret2
 exact⟨f,rfl,HE.out,HM.out⟩
theorem zL2{dv:Value}{q:Int}{k:Nat}(HC:Hid (∀op,Calls Tryz.prog 87 #[.string op,dv,.int .i64 q] w λe w'=>∃f,e=.returned (zD f)/\yG F ad w' (zD f) [-1] k/\zF w w')) :
  Calls Tryz.prog 29 #[dv,.int .i64 q] w (zII F ad k w):=by
 go_enter Tryz.func29, Tryz.ntmps29
 go_wp2_with fail;refine (HC.out _).mono ?_;rintro e w1 ⟨f,rfl,hE,hm⟩;have HE:=oh hE;have HM:=oh hm;clear hE hm;unfold zD;go_wp2_with fail;go_ret2
 exact⟨f,rfl,HE.out,HM.out⟩
end
section
variable {F:NP}{ad:Nat->Addr}{w w':World}{v:Value}
def zCx(w:World)(v:Value):Prop:=v=.pointer none\/∃S,v=.pointer (some ⟨S,0,none⟩)/\w.cell? ⟨S,12,none⟩=some (.bool true)
theorem zCx.ext(h:zCx w v)(m:zF w w'):zCx w' v:=by
 rcases h with h|⟨S,h1,h2⟩
 .exact .inl h
 .exact .inr ⟨S,h1,(m.cell (zQ h2) (λf=>f)).trans h2⟩
theorem zBs(hL:zZ F ad w)(h:zCx w v)(op:ByteArray) : Calls Tryz.prog 76 #[v,.string op] w λe w'=>∃f,e=.returned (zD f)/\yG F ad w' (zD f) [-1] 7/\zF w w':=by
 have g7:=hL.c7;have HL:=oh hL;clear hL;rcases h with rfl|⟨S,rfl,c12⟩
 all_goals
  go_enter Tryz.func76, Tryz.ntmps76
  go_wp2_with fail;refine (yD HL.out _ _ [] 7 (.sent 7 (by decide) (by decide))).mono ?_;rintro e w1 ⟨f,rfl,hE,hm⟩;have HE:=oh hE;have HM:=oh hm;clear hE hm;go_wp2_with fail;go_ret;exact⟨f,rfl,HE.out,HM.out⟩
theorem zK2(hL:zZ F ad w)(h:zCx w v)(a b:ByteArray)(n:Int) : Calls Tryz.prog 19 #[v,.string a,.string b,.int .i64 n] w λe w'=>∃f,e=.returned (.tuple #[.slice none 0 0,zD f])/\yG F ad w' (zD f) [-1] 7/\zF w w':=by
 have HA:=oh (λop=>zBs hL h op);clear hL h
 go_enter Tryz.func19, Tryz.ntmps19
 go_wp2_with fail;refine (HA.out _).mono ?_;rintro e w1 ⟨f,rfl,hE,hm⟩;have HE:=oh hE;have HM:=oh hm;clear hE hm;unfold zD;go_wp2_with fail;go_ret2
 exact⟨f,rfl,HE.out,HM.out⟩
end
section
variable {F:NP}{ad:Nat->Addr}{w w':World}{v:Value}
theorem zL3(hL:zZ F ad w)(h:zCx w v)(k:ByteArray) : Calls Tryz.prog 52 #[v,.string k] w λe w'=>∃f,e=.returned (.tuple #[.string ⟨#[]⟩,.bool false,zD f])/\yG F ad w' (zD f) [-1] 7/\zF w w':=by
 have HA:=oh (λop=>zBs hL h op);clear hL h
 go_enter Tryz.func52, Tryz.ntmps52
 go_wp2_with fail;refine (HA.out _).mono ?_;rintro e w1 ⟨f,rfl,hE,hm⟩;have HE:=oh hE;have HM:=oh hm;clear hE hm;unfold zD;go_wp2_with fail;go_ret3
 exact⟨f,rfl,HE.out,HM.out⟩
theorem zL4(hL:zZ F ad w)(h:zCx w v)(k x:ByteArray) : Calls Tryz.prog 60 #[v,.string k,.string x] w λe w'=>∃f,e=.returned (.tuple #[.bool false,zD f])/\yG F ad w' (zD f) [-1] 7/\zF w w':=by
 have HA:=oh (λop=>zBs hL h op);clear hL h
 go_enter Tryz.func60, Tryz.ntmps60
 go_wp2_with fail;refine (HA.out _).mono ?_;rintro e w1 ⟨f,rfl,hE,hm⟩;have HE:=oh hE;have HM:=oh hm;clear hE hm;unfold zD;go_wp2_with fail;go_ret2
 exact⟨f,rfl,HE.out,HM.out⟩
theorem zKV(hL:zZ F ad w)(h:zCx w v)(k:ByteArray) : Calls Tryz.prog 97 #[v,.string k] w λe w'=>∃f,e=.returned (.tuple #[.bool false,zD f])/\yG F ad w' (zD f) [-1] 7/\zF w w':=by
 have HA:=oh (λop=>zBs hL h op);clear hL h
 go_enter Tryz.func97, Tryz.ntmps97
 go_wp2_with fail;refine (HA.out _).mono ?_;rintro e w1 ⟨f,rfl,hE,hm⟩;have HE:=oh hE;have HM:=oh hm;clear hE hm;unfold zD;go_wp2_with fail;go_ret2
 exact⟨f,rfl,HE.out,HM.out⟩
theorem zKW(hL:zZ F ad w)(h:zCx w v) : Calls Tryz.prog 37 #[v] w λe w'=>∃f,e=.returned (zD f)/\yG F ad w' (zD f) [-1] 7/\zF w w':=by
 have HA:=oh (λop=>zBs hL h op);clear hL h
 go_enter Tryz.func37, Tryz.ntmps37
 go_wp2_with fail;refine (HA.out _).mono ?_;rintro e w1 ⟨f,rfl,hE,hm⟩;have HE:=oh hE;have HM:=oh hm;clear hE hm;unfold zD;go_wp2_with fail;go_ret;exact⟨f,rfl,HE.out,HM.out⟩
theorem zHr(hL:zZ F ad w)(h:zCx w v) : Calls Tryz.prog 35 #[v] w λe w'=>∃f,e=.returned (zD f)/\yG F ad w' (zD f) [-1] 7/\zF w w':=by
 have HA:=oh (λop=>zBs hL h op);clear hL h
 go_enter Tryz.func35, Tryz.ntmps35
 go_wp2_with fail;refine (HA.out _).mono ?_;rintro e w1 ⟨f,rfl,hE,hm⟩;have HE:=oh hE;have HM:=oh hm;clear hE hm;unfold zD;go_wp2_with fail;go_ret;exact⟨f,rfl,HE.out,HM.out⟩
theorem zLa(hL:zZ F ad w)(h:zCx w v)(a b:Int) : Calls Tryz.prog 34 #[v,.int .i64 a,.int .i64 b] w λe w'=>∃f,e=.returned (zD f)/\yG F ad w' (zD f) [-1] 7/\zF w w':=by
 have HA:=oh (λop=>zBs hL h op);clear hL h
 go_enter Tryz.func34, Tryz.ntmps34
 go_wp2_with fail;refine (HA.out _).mono ?_;rintro e w1 ⟨f,rfl,hE,hm⟩;have HE:=oh hE;have HM:=oh hm;clear hE hm;unfold zD;go_wp2_with fail;go_ret;exact⟨f,rfl,HE.out,HM.out⟩
theorem zHs(h:zCx w v) : Calls Tryz.prog 38 #[v] w λe w'=>e=.returned (.bool true)/\w=w':=by
 rcases h with rfl|⟨S,rfl,c12⟩
 all_goals
  go_enter Tryz.func38, Tryz.ntmps38
  go_wp2_with fail;go_ret;exact⟨rfl,rfl⟩
theorem zK3(h:zCx w v) : Calls Tryz.prog 74 #[v] w λe w'=>e=.returned (.tuple #[.agg #[.pointer none,.pointer none,.int .u64 0],.int .i64 0])/\zF w w':=by
 have HD:=oh (λW (m:zF w W)=>zHs (h.ext m));have m0:zF w (w.alloc (.cells #[.pointer none,.pointer none,.int .u64 0] 140)):=(zss w).alloc _;have HB:=oh (zJ.new w #[.pointer none,.pointer none,.int .u64 0] 140);have M0:=oh m0;clear h m0
 go_enter Tryz.func74, Tryz.ntmps74
 go_wp2_with fail;refine (HD.out _ M0.out).mono ?_;rintro e w1 ⟨rfl,rfl⟩;go_wp2_with fail;refine bodyPost_ret (zG rfl _ _ w.heap.size 140 #[.pointer none,.pointer none,.int .u64 0] _ rfl HB.out Tryz.underlying140 rfl Tryz.stPgSize) rfl ?_;exact⟨rfl,M0.out⟩
end
section
variable {F:NP}{ad:Nat->Addr}{w w':World}{v:Value}
theorem zCy(hL:zZ F ad w)(hfu:zBZ ad)(h:zCx w v)(kd:Int)(key val:ByteArray) :
  Calls Tryz.prog 32 #[v,.agg #[.int .i64 kd,.string key,.string val]] w λe w'=>e=.returned (.bool true)/\zF w w':=by
 have m0:zF w (w.alloc (.cells #[.int .i64 kd,.string key,.string val] 64)):=(zss w).alloc _;have HB:=oh (zJ.new w #[.int .i64 kd,.string key,.string val] 64);have HR:=oh (h.ext m0);have HL:=oh (hL.mods m0.ext);have M0:=oh m0;have HFU:=oh hfu;obtain⟨w0,hw0⟩:∃w0,w0=w.alloc (.cells #[.int .i64 kd,.string key,.string val] 64):=⟨_,rfl⟩;have HT:Hid (∀W f el,zF w0 W->yG F ad W (zD f) el 7->∀W',zF W W' -> Calls Tryz.prog 31 #[zD f,.int .i64 7] W' λe w'=>e=.returned (.bool true)/\W'=w'):=oh λW f el m hE W' m'=>by
  have:=zCF ((HL.out.mods (by rw[<- hw0];exact m.ext)).mods m'.ext) hfu (hE.mods m'.ext) 7 (by omega) rfl;rw[show ((7:Nat):Int)=7 from rfl] at this;exact this
 have HG:=oh (λW (m:zF w0 W)=>zL3 (HL.out.mods (by rw[<- hw0];exact m.ext)) (HR.out.ext (by rw[<- hw0];exact m)) key);have HP:=oh (λW (m:zF w0 W)=>zL4 (HL.out.mods (by rw[<- hw0];exact m.ext)) (HR.out.ext (by rw[<- hw0];exact m)) key val);have HD:=oh (λW (m:zF w0 W)=>zKV (HL.out.mods (by rw[<- hw0];exact m.ext)) (HR.out.ext (by rw[<- hw0];exact m)) key);have HRG:=oh (λW (m:zF w0 W)=>zK2 (HL.out.mods (by rw[<- hw0];exact m.ext)) (HR.out.ext (by rw[<- hw0];exact m)) ⟨#[]⟩ ⟨#[]⟩ 1);have HPG:=oh (λW (m:zF w0 W)=>zK3 (HR.out.ext (by rw[<- hw0];exact m)));have HCM:=oh (λW (m:zF w0 W)=>zKW (HL.out.mods (by rw[<- hw0];exact m.ext)) (HR.out.ext (by rw[<- hw0];exact m)));have HRB:=oh (λW (m:zF w0 W)=>zHr (HL.out.mods (by rw[<- hw0];exact m.ext)) (HR.out.ext (by rw[<- hw0];exact m)));have HRT:=oh (λW (m:zF w0 W)=>zLa (HL.out.mods (by rw[<- hw0];exact m.ext)) (HR.out.ext (by rw[<- hw0];exact m)) 0 0);have HDD:=oh (λW (m:zF w0 W)=>zHs (HR.out.ext (by rw[<- hw0];exact m)));have HW0:=oh hw0;have hb:=HB.out;have c1:=hb.d 1 (.string key) rfl;have HBX:Hid (∀W,zF w0 W->W.cell? ⟨w.heap.size,1,none⟩=some (.string key)/\W.cell? ⟨w.heap.size,2,none⟩=some (.string val)):=oh λW m=>⟨(HB.out.ext (by rw[<- hw0];exact m)).cell rfl,(HB.out.ext (by rw[<- hw0];exact m)).cell rfl⟩
 clear hL hfu h m0 hb hw0
 go_enter Tryz.func32, Tryz.ntmps32
 go_wp2_with fail;rw[<- HW0.out];refine (HG.out _ zr).mono ?_;rintro e w1 ⟨f1,rfl,hE1,hm1⟩;have X1:=oh hm1;have T1:=oh (HT.out w1 f1 _ hm1 hE1);obtain⟨c1,c2⟩:=HBX.out _ hm1;clear hE1 hm1;unfold zD at T1 ⊢;go_wp2_with fail;refine (HP.out _ X1.out).mono ?_;rintro e w2 ⟨f2,rfl,hE2,hm2⟩;have X2:=oh (X1.out.trans hm2);have T2:=oh (HT.out w2 f2 _ X2.out hE2);have Y12:=oh hm2;obtain⟨c1,c2⟩:=HBX.out _ X2.out;clear hE2 hm2;unfold zD at T2 ⊢;go_wp2_with fail;refine (HD.out _ X2.out).mono ?_;rintro e w3 ⟨f3,rfl,hE3,hm3⟩;have X3:=oh (X2.out.trans hm3);have T3:=oh (HT.out w3 f3 _ X3.out hE3);have Y13:=oh hm3;clear hE3 hm3;unfold zD at T3 ⊢;go_wp2_with fail;refine (HRG.out _ X3.out).mono ?_;rintro e w4 ⟨f4,rfl,hE4,hm4⟩;have X4:=oh (X3.out.trans hm4);have T4:=oh (HT.out w4 f4 _ X4.out hE4);have Y34:=oh hm4;clear hE4 hm4;unfold zD at T4 ⊢;go_wp2_with fail;refine (HPG.out _ X4.out).mono ?_;rintro e w5 ⟨rfl,hm5⟩;have Y45:=oh (hm5.alloc (.cells #[.pointer none,.pointer none,.int .u64 0] 140));have X5:=oh (X4.out.trans Y45.out);have hP:=zJ.new w5 #[.pointer none,.pointer none,.int .u64 0] 140;have HPB:=oh hP;clear hm5 hP;obtain⟨W5,hW5⟩:∃W5,W5=w5.alloc (.cells #[.pointer none,.pointer none,.int .u64 0] 140):=⟨_,rfl⟩;rw[<- hW5] at Y45 X5 HPB;have HW5:=oh hW5;have Y35:=oh (Y34.out.trans Y45.out);have Y25:=oh (Y13.out.trans Y35.out);clear hW5;go_wp2_with fail;rw[<- HW5.out];refine (T1.out _ (Y12.out.trans Y25.out)).mono ?_;rintro e w6 ⟨rfl,rfl⟩;go_wp2_with fail;refine (T2.out _ Y25.out).mono ?_;rintro e w6 ⟨rfl,rfl⟩;go_wp2_with fail;refine (T3.out _ Y35.out).mono ?_;rintro e w6 ⟨rfl,rfl⟩;go_wp2_with fail;refine (T4.out _ Y45.out).mono ?_;rintro e w6 ⟨rfl,rfl⟩;go_wp2_with fail;refine (HCM.out _ X5.out).mono ?_;rintro e w6 ⟨f6,rfl,hE6,hm6⟩;have X6:=oh (X5.out.trans hm6);have T6:=oh (HT.out w6 f6 _ X6.out hE6);have P6:=oh (HPB.out.ext hm6);clear hE6 hm6;unfold zD at T6 ⊢;go_wp2_with fail;refine (T6.out _ zr).mono ?_;rintro e w7 ⟨rfl,rfl⟩;go_wp2_with fail;refine (HRB.out _ X6.out).mono ?_;rintro e w7 ⟨f7,rfl,hE7,hm7⟩;have X7:=oh (X6.out.trans hm7);have T7:=oh (HT.out w7 f7 _ X7.out hE7);have P7:=oh (P6.out.ext hm7);clear hE7 hm7;unfold zD at T7 ⊢;go_wp2_with fail;refine (T7.out _ zr).mono ?_;rintro e w8 ⟨rfl,rfl⟩;go_wp2_with fail;refine (HRT.out _ X7.out).mono ?_;rintro e w8 ⟨f8,rfl,hE8,hm8⟩;have X8:=oh (X7.out.trans hm8);have T8:=oh (HT.out w8 f8 _ X8.out hE8);have P8:=P7.out.ext hm8;have p0:=P8.d 0 (.pointer none) rfl;clear hE8 hm8 P8;unfold zD at T8 ⊢;go_wp2_with fail;refine (T8.out _ zr).mono ?_;rintro e w9 ⟨rfl,rfl⟩;go_wp2_with fail;refine (HDD.out _ X8.out).mono ?_;rintro e w9 ⟨rfl,rfl⟩;go_wp2_with fail;go_ret;exact⟨rfl,by have h:=X8.out;rw[HW0.out] at h;exact M0.out.trans h⟩
end
end
end Go.Proofs.YtgphfebjjedeaaaGreatDoor
