import Derived.Test.YtchklfmggpconaaGreatDoorK32
import Derived.BigQuiet
import Derived.Deep.RegionHeld3
import Derived.IntWalk
import Derived.Deep.RegionLawGrows
import Derived.Deep.CutBlock
import Derived.Deep.DeepCutAuto
namespace Go.Proofs.YtchklfmggpconaaGreatDoor
open Lib renaming hid->oh
set_option maxRecDepth 100000
section
open Go.RowKit
attribute [local go_sem ↓] Go.wp_at_zero Go.wp_at_succ
def zR5(w:World)(n:zF)(e:Ending)(w':World):Prop :=
 zJ w w'/\((∃x va vb,zDX n=some x/\e=.returned (.tuple #[va,.string x.2.1,vb,.bool true])/\zDP w' w.heap.size va x.1/\zDP w' w.heap.size vb x.2.2) \/
  (zDX n=none/\e=.returned (.tuple #[.agg zP,.string ⟨#[]⟩,.agg zP,.bool false])))
section
variable {F:Nat->Prop}{ad:Nat->Addr}{w w':World}
theorem zO4(n:zF)(hf:zAo n)(ve vk vi:Value)(hve:Sl F w 4 vA ve n.entries)(hvk:Sl F w 1 qK vk n.keys)(hvi:Sl F w 1 yB vi n.kids)(a:Nat)(hp:zBD n a)(hb1:n.entries.length<=100000)(hb2:n.kids.length<=100000)(b:Bool)(hb:n.leaf=b) :
  Calls Tryz.prog 169 #[.agg #[.bool b,ve,vk,vi],.int .i64 (a:Int)] w (zGO w (zS n a)):=by
 subst hb;cases hl:n.leaf with
 | true=>exact zMq n hl ve vk vi hve a (hp.leaf hl) hb1
 | false =>
  have:n.kids.length=n.keys.length+1:=by unfold zAo at hf;rw[if_neg (by rw[hl];simp)] at hf;exact hf.2
  exact zMy n hl ve vk vi hvk hvi a (hp.inner hl) this hb2
theorem zNs(n:zF){base:Nat}{v:Value}(h:zDP w base v n)(h1:n.entries.length<=100000)(h2:n.keys.length<=100000)(hb:zD n<=100000)(W:World)(m:zJ w W) :
  Calls Tryz.prog 132 #[v] W λe w'=>e=.returned (.int .i64 (zD n))/\zJ W w':=by
 obtain⟨ve,vk,vi,rfl,o1,o2,o3⟩:=h;exact zE3 (F:=λ_=>False) (vi:=vi) n ve vk W ((o1.ext m).sl yU.len (by omega)) ((o2.ext m).sl yV.len (by omega)) (by omega)
end
theorem zO5{n:zF}(hr:zM n=true)(hm:0<qZ n):zDX n=some (zS n (yX (zAN n) (qA n) (qA n) (qZ n))):=by
 unfold zDX;rw[if_pos ⟨hr,hm⟩]
theorem zO6{n:zF}(h:¬ (zM n=true/\0<qZ n)):zDX n=none:=by
 unfold zDX;rw[if_neg h]
theorem zM0(n:zF)(a:Nat):(zS n a).1.entries.length<=n.entries.length/\(zS n a).1.keys.length<=n.keys.length/\(zS n a).2.2.entries.length<=n.entries.length/\(zS n a).2.2.keys.length<=n.keys.length:=by
 unfold zS;split <;> simp only[uP,u0,uE] <;> omega
section
variable {F:Nat->Prop}{ad:Nat->Addr}{w w':World}
set_option maxHeartbeats 4000000 in
theorem zNt(hL:yW F ad w)(n:zF)(ve vk vi:Value)(hve:Sl F w 4 vA ve n.entries)(hvk:Sl F w 1 qK vk n.keys)(hvi:Sl F w 1 yB vi n.kids)(hlen:zM n=true->(zZ n).length<=100000)(hb1:n.entries.length<=100000)(hb2:n.kids.length<=100000)(hb5:n.keys.length<=100000) :
  Calls Tryz.prog 128 #[.agg #[.bool n.leaf,ve,vk,vi]] w (zR5 w n):=by
 have HCK:=oh (λW (m:zJ w W)=>zEq (hL.mods m.ext) n ve vk vi (hve.ext m) (hvk.ext m) (hvi.ext m));have HVE:=oh hve;have HVK:=oh hvk;have HVI:=oh hvi;obtain⟨ea,ec,rfl,he1,he2,he3,_⟩:=hve;obtain⟨ka,kc,rfl,_,_,_,_⟩:=hvk;obtain⟨ia,ic,rfl,hi1,hi2,hi3,_⟩:=hvi;unfold maxLen at he2 hi2;obtain⟨fr,hfr⟩:∃fr,fr=qA n:=⟨_,rfl⟩;obtain⟨M,hM⟩:∃M,M=qZ n:=⟨_,rfl⟩;have HFR:=oh hfr;have HM:=oh hM;have HLEN:=oh hlen;obtain⟨lf,hlf⟩:∃lf,n.leaf=lf:=⟨_,rfl⟩;rw[hlf] at HCK ⊢;have HLF:=oh hlf;obtain⟨w0,hw0⟩:∃w0,w0=((w.alloc (.cells #[.bool lf,.slice ea n.entries.length ec,.slice ka n.keys.length kc,.slice ia n.kids.length ic] 118)).alloc (.cells zP 118)).alloc (.cells zP 118):=⟨_,rfl⟩;have HM0:Hid (zJ w w0):=oh (by rw[hw0];exact (((zA.refl _ w).alloc _).alloc _).alloc _);have HB0:Hid (zL w0 w.heap.size #[.bool lf,.slice ea n.entries.length ec,.slice ka n.keys.length kc,.slice ia n.kids.length ic] 118):=oh (by rw[hw0];exact ((zL.new w _ _).alloc _).alloc _);have HR1:Hid (zL w0 (w.heap.size+1) zP 118):=oh (by rw[hw0];exact (show zL ((w.alloc _).alloc (.cells zP 118)) (w.heap.size+1) zP 118 from zK (by simp)).alloc _);have HR2:Hid (zL w0 (w.heap.size+1+1) zP 118):=oh (by rw[hw0];exact zK (by simp));have HFM:Hid ((lf=true->fr=1/\M=n.entries.length-1)/\(lf=false->fr=2/\M=n.kids.length-3)):=oh (by
  rw[hfr,hM];unfold qA qZ;rw[hlf];exact⟨λh=>by rw[h];exact⟨rfl,rfl⟩,λh=>by rw[h];exact⟨rfl,rfl⟩⟩)
 have b0:=HB0.out.cell (o:=0) rfl;have b1:=HB0.out.cell (o:=1) rfl;have b2:=HB0.out.cell (o:=2) rfl;have b3:=HB0.out.cell (o:=3) rfl;have u1:IntKind.i64.wrap ((n.entries.length:Int)-1)=(n.entries.length:Int)-1:=by rw[IntWalk.i64_in _ (by omega)]
 have u2:IntKind.i64.wrap ((n.kids.length:Int)-2)=(n.kids.length:Int)-2:=by rw[IntWalk.i64_in _ (by omega)]
 have HW0:=oh hw0;clear hfr hM hlen hL hlf hw0;obtain⟨T,hT⟩:∃T:Int,(M=0->T<(fr:Int))/\(0<M->T=(fr:Int)+(M:Int)-1)/\T=(if lf=true then (n.entries.length:Int)-1 else (n.kids.length:Int)-2):=⟨_,by
  have:=HFM.out;cases lf
  .obtain⟨h1,h2⟩:=this.2 rfl;simp only[wG,tP];omega
  .obtain⟨h1,h2⟩:=this.1 rfl;simp only[t8];omega,by
  have:=HFM.out;cases lf
  .obtain⟨h1,h2⟩:=this.2 rfl;simp only[wG,tP];omega
  .obtain⟨h1,h2⟩:=this.1 rfl;simp only[t8];omega,rfl⟩
 have HT:=oh hT;clear hT
 go_enter Tryz.func128, Tryz.ntmps128
 go_wp2_with fail;rw[<- HW0.out];go_quiet (fail)
 go_upto_if 24 with fail
 go_cut [6,7] (λv6 v7 wx=>v6=.int .i64 (fr:Int)/\v7=.int .i64 T/\Hid (zJ w0 wx))
 case first =>
  cases lf
  .have HTT:=HT.out.2.2;have HF:=HFM.out.2 rfl;simp only[wG,tP] at HTT;go_wp2_with fail;go_quiet (fail)
   go_wp2_with fail;go_meet;exact⟨by rw[HF.1];rfl,by rw[HTT],oh (((zA.refl _ _).drewN _).drewN _)⟩
  .have HTT:=HT.out.2.2;have HF:=HFM.out.1 rfl;simp only[t8] at HTT;go_wp2_with fail;go_meet;exact⟨by rw[HF.1];rfl,by rw[HTT],oh ((zA.refl _ _).drewN _)⟩
 obtain⟨rfl,rfl,HX⟩:=hcut;have b0:=(HB0.out.ext HX.out).cell (o:=0) rfl;have b1:=(HB0.out.ext HX.out).cell (o:=1) rfl;have b2:=(HB0.out.ext HX.out).cell (o:=2) rfl;have b3:=(HB0.out.ext HX.out).cell (o:=3) rfl;go_wp2_with fail;refine (HCK.out _ (HM0.out.trans HX.out)).mono ?_;rintro e w1 ⟨ev,rfl,hE,hm1⟩;have HX1:=oh (HX.out.trans hm1);have hR1:=HR1.out.ext HX1.out;have hR2:=HR2.out.ext HX1.out;clear hm1 b0 b1 b2 b3;by_cases hcut:zM n=true/\0<M
 .obtain⟨hr,hMp⟩:=hcut;have hev:ev=.nilIface:=by
   have:zBz n=none:=by unfold zBz;rw[if_pos hr]
   rw[this] at hE;exact hE
  subst hev;have HR:=oh hr;have hform:=qD hr;have HFO:=oh hform;have HWN:Hid (zD n<=100000):=oh (by rw[vW hform];have:=HLEN.out hr;omega);have hT:=HT.out.2.1 hMp;have hfr2:fr<=2:=by
   have:=HFM.out;cases lf
   .have:=(this.2 rfl).1;omega
   .have:=(this.1 rfl).1;omega
  have hM2:M<=100000:=by
   have:=HFM.out;cases lf
   .have:=(this.2 rfl).2;omega
   .have:=(this.1 rfl).2;omega
  have hgo:(fr:Int)<=T:=by omega
  have HPL:Hid (∀p,fr<=p->p<fr+M->zBD n p):=oh (λp h1 h2=>zLH (by rw[<- HFR.out];exact h1) (by rw[<- HFR.out,<- HM.out];exact h2));have HUB:Hid (∀p,zBD n p->zD (zS n p).1<=100000/\zD (zS n p).2.2<=100000/\2<=zD (zS n p).1/\2<=zD (zS n p).2.2):=oh (λp _=>by
   have:=zJ3 (n:=n) (a:=p);have:=HWN.out;have:=zFE (zS n p).1;have:=zFE (zS n p).2.2;omega)
  have HAP:Hid (∀W,zJ w0 W->∀p,zBD n p -> Calls Tryz.prog 169 #[.agg #[.bool lf,.slice ea n.entries.length ec,.slice ka n.keys.length kc,.slice ia n.kids.length ic],.int .i64 (p:Int)] W (zGO W (zS n p))):=oh (λW m p hp =>
   zO4 n HFO.out _ _ _ (HVE.out.ext (HM0.out.trans m)) (HVK.out.ext (HM0.out.trans m)) (HVI.out.ext (HM0.out.trans m)) p hp hb1 hb2 lf HLF.out)
  clear hE hr hform hR1 hR2;go_wp2_with fail;go_loopg [8,9,10] M (λm v8 v9 v10 wr=>∃(j b:Nat) (z:Int),j+m=M/\v10=.int .i64 (((fr+j:Nat):Int))/\v8=.int .i64 (b:Int)/\v9=.int .i64 z/\fr<=b/\b<fr+M/\z<=100000/\Hid ((j=0->z = -1/\b=fr)/\(0<j->z=(zAN n b:Int))/\yX (zAN n) b (fr+j) m=yX (zAN n) fr fr M)/\Hid (zJ w0 wr))
  case atStart=>exact⟨0,fr, -1,by omega,rfl,rfl,rfl,by omega,by omega,by omega,oh ⟨λ_=>⟨rfl,rfl⟩,λh=>by omega,rfl⟩,HX1⟩
  case round =>
   obtain⟨j,b,z,hjm,rfl,rfl,rfl,hb3,hb4,hz,HQ,HXR⟩:=hrel;have b0:=(HB0.out.ext HXR.out).cell (o:=0) rfl;have b1:=(HB0.out.ext HXR.out).cell (o:=1) rfl;have b2:=(HB0.out.ext HXR.out).cell (o:=2) rfl;have b3:=(HB0.out.ext HXR.out).cell (o:=3) rfl;by_cases hlt:j<M
   .have hp:=HPL.out (fr+j) (by omega) (by omega);have hle:((fr+j:Nat):Int)<=T:=by omega
    go_wp2_with fail;refine (HAP.out _ HXR.out (fr+j) hp).mono ?_;have HUQ:=HUB.out _ hp;have HUE:=zEb HFO.out hp;have HLE:=zM0 n (fr+j);generalize zS n (fr+j)=x at HUQ HUE HLE
    obtain⟨A,kx,B⟩:=x;rintro e w2 ⟨va,vb,rfl,hA,hB,hm2⟩;simp only at hA hB HUQ HUE HLE;have HWA0:=λW (m:zJ w2 W)=>zNs A hA (by omega) (by omega) HUQ.1 W m
    have HWB0:=λW (m:zJ w2 W)=>zNs B hB (by omega) (by omega) HUQ.2.1 W m
    obtain⟨e1,k1,i1,rfl,oe1,ok1,oi1⟩:=hA;obtain⟨e2,k2,i2,rfl,oe2,ok2,oi2⟩:=hB;obtain⟨ea1,ec1,rfl,_,_⟩:=oe1.form;obtain⟨ka1,kc1,rfl,_,_⟩:=ok1.form;obtain⟨ia1,ic1,rfl,_,_⟩:=oi1.form;obtain⟨ea2,ec2,rfl,_,_⟩:=oe2.form;obtain⟨ka2,kc2,rfl,_,_⟩:=ok2.form;obtain⟨ia2,ic2,rfl,_,_⟩:=oi2.form;obtain⟨wa,hwa⟩:∃wa,wa=zD A:=⟨_,rfl⟩;obtain⟨wb,hwb⟩:∃wb,wb=zD B:=⟨_,rfl⟩;rw[<- hwa] at HWA0 HUQ HUE;rw[<- hwb] at HWB0 HUQ HUE;have HWA:=oh HWA0;have HWB:=oh HWB0;obtain⟨D,hD⟩:∃D:Int,D=(zAN n (fr+j):Int):=⟨_,rfl⟩;rw[<- hD] at HUE;have HD:=oh hD;have hq1:=HUQ.1;have hq2:=HUQ.2.1;have hq3:=HUQ.2.2.1;have hq4:=HUQ.2.2.2;have HUE2:=oh HUE;obtain⟨w3,hw3⟩:∃w3,w3=(w2.alloc (.cells #[.bool A.leaf,.slice ea1 A.entries.length ec1,.slice ka1 A.keys.length kc1,.slice ia1 A.kids.length ic1] 118)).alloc (.cells #[.bool B.leaf,.slice ea2 B.entries.length ec2,.slice ka2 B.keys.length kc2,.slice ia2 B.kids.length ic2] 118):=⟨_,rfl⟩;have HM3:Hid (zJ w2 w3):=oh (by rw[hw3];exact ((zA.refl _ _).alloc _).alloc _);have hxa:zL w3 w2.heap.size #[.bool A.leaf,.slice ea1 A.entries.length ec1,.slice ka1 A.keys.length kc1,.slice ia1 A.kids.length ic1] 118:=by rw[hw3];exact (zL.new w2 _ _).alloc _
    have hxb:zL w3 (w2.heap.size+1) #[.bool B.leaf,.slice ea2 B.entries.length ec2,.slice ka2 B.keys.length kc2,.slice ia2 B.kids.length ic2] 118:=by rw[hw3];exact zK (by simp)
    have p0:=hxa.cell (o:=0) rfl;have p1:=hxa.cell (o:=1) rfl;have p2:=hxa.cell (o:=2) rfl;have p3:=hxa.cell (o:=3) rfl;have q0:=hxb.cell (o:=0) rfl;have q1:=hxb.cell (o:=1) rfl;have q2:=hxb.cell (o:=2) rfl;have q3:=hxb.cell (o:=3) rfl;have HXR3:=oh (HXR.out.trans (hm2.trans HM3.out));have HW3:=oh hw3;have xm:=(zA.refl (λ_=>False) w3).drew;have u3:IntKind.i64.wrap (wa-wb)=wa-wb:=by rw[IntWalk.i64_in _ (by omega)]
    clear HWA0 HWB0 hwa hwb HUQ HUE HLE hw3 hxa hxb hm2 oe1 ok1 oi1 oe2 ok2 oi2 hD;go_wp2_with fail;rw[<- HW3.out];go_cut [14] (λv14 wx=>v14=.int .i64 (wa-wb)/\Hid (zJ w3 wx))
    case first =>
     go_region_held3 (λw'=>w'.cell? ⟨w2.heap.size,0,none⟩=some (.bool A.leaf)/\w'.cell? ⟨w2.heap.size,1,none⟩=some (.slice ea1 A.entries.length ec1)/\w'.cell? ⟨w2.heap.size,2,none⟩=some (.slice ka1 A.keys.length kc1)/\w'.cell? ⟨w2.heap.size,3,none⟩=some (.slice ia1 A.kids.length ic1) /\
       w'.cell? ⟨w2.heap.size+1,0,none⟩=some (.bool B.leaf)/\w'.cell? ⟨w2.heap.size+1,1,none⟩=some (.slice ea2 B.entries.length ec2)/\w'.cell? ⟨w2.heap.size+1,2,none⟩=some (.slice ka2 B.keys.length kc2)/\w'.cell? ⟨w2.heap.size+1,3,none⟩=some (.slice ia2 B.kids.length ic2))
      (first|(with_reducible exact⟨p0,p1,p2,p3,q0,q1,q2,q3⟩)|go_keep)
      (first
       | (go_at_call 132;(with_reducible refine (HWA.out _ (HM3.out.trans xm)).mono ?_);rintro e wz ⟨rfl,hmz⟩;have p0:=zC hmz p0;have p1:=zC hmz p1;have p2:=zC hmz p2;have p3:=zC hmz p3;have q0:=zC hmz q0;have q1:=zC hmz q1;have q2:=zC hmz q2;have q3:=zC hmz q3;have xm:=xm.trans hmz)
       | (go_at_call 132;(with_reducible refine (HWB.out _ (HM3.out.trans xm)).mono ?_);rintro e wz ⟨rfl,hmz⟩;have p0:=zC hmz p0;have p1:=zC hmz p1;have p2:=zC hmz p2;have p3:=zC hmz p3;have q0:=zC hmz q0;have q1:=zC hmz q1;have q2:=zC hmz q2;have q3:=zC hmz q3;have xm:=xm.trans hmz)
       | fail)
     all_goals
      go_wp2_with fail;go_meet;exact⟨rfl,oh xm⟩
    obtain⟨rfl,HXC⟩:=hcut;have HXC:=oh (HXR3.out.trans HXC.out);clear xm p0 p1 p2 p3 q0 q1 q2 q3;go_upto_if 59 with fail
    go_cut [14] (λv14 wx=>v14=.int .i64 D/\Hid (wx=wc))
    case first =>
     by_cases hd:wa-wb<0
     .go_wp2_with fail;go_meet;exact⟨by have:=HUE2.out;rw[if_pos hd] at this;rw[this],oh rfl⟩
     .go_wp2_with fail;go_meet;exact⟨by have:=HUE2.out;rw[if_neg (by omega)] at this;rw[this],oh rfl⟩
    obtain⟨rfl,HE⟩:=hcut;obtain rfl:=HE.out;have hDn:0<=D/\D<=100000:=by have:=HUE2.out;split at this <;> omega
    obtain⟨hDn1,hDn2⟩:=hDn;obtain⟨m,rfl⟩:∃m,gk=m+1:=⟨gk-1,by omega⟩;by_cases hz0:z<0
    .have HJ:Hid (j=0/\b=fr):=oh (by
      obtain⟨h1,h2,_⟩:=HQ.out;rcases rJ j with h|h
      .exact⟨h,(h1 h).2⟩
      .have:=h2 h;omega)
     go_wp2_with fail;go_roundg m
     case measure=>omega
     case rel=>exact⟨j+1,fr+j,D,by omega,by go_num,by go_num,rfl,by omega,by omega,by omega,oh ⟨λh=>by omega,λ_=>HD.out,by
      have:=HQ.out.2.2;rw[HJ.out.2,HJ.out.1,uO,zIK] at this;rw[HJ.out.1,uO,uR];exact this⟩,HXC⟩
    .have hj0:0<j:=by
      rcases rJ j with h|h
      .have:=(HQ.out.1 h).1;omega
      .exact h
     have HZ:Hid (z=(zAN n b:Int)):=oh (HQ.out.2.1 hj0);by_cases hdz:D<z
     .go_wp2_with fail;go_roundg m
      case measure=>omega
      case rel=>exact⟨j+1,fr+j,D,by omega,by go_num,by go_num,rfl,by omega,by omega,by omega,oh ⟨λh=>by omega,λ_=>HD.out,by
       have:=HQ.out.2.2;rw[yX,if_pos (by have:=HD.out;have:=HZ.out;omega)] at this;exact this⟩,HXC⟩
     .go_wp2_with fail;go_roundg m
      case measure=>omega
      case rel=>exact⟨j+1,b,z,by omega,by go_num,rfl,rfl,by omega,by omega,by omega,oh ⟨λh=>by omega,λ_=>HZ.out,by
       have:=HQ.out.2.2;rw[yX,if_neg (by have:=HD.out;have:=HZ.out;omega)] at this;exact this⟩,HXC⟩
   .have hle:¬ ((fr+j:Nat):Int)<=T:=by omega
    have hp:=HPL.out b hb3 hb4;go_wp2_with fail;refine (HAP.out _ HXR.out b hp).mono ?_;have HBB:Hid (zDX n=some (zS n b)):=oh (by
     rw[zO5 HR.out (by rw[<- HM.out];exact hMp),<- HFR.out,<- HM.out,<- HQ.out.2.2,show gk=0 by omega,yX])
    generalize zS n b=x at HBB
    obtain⟨A,kx,B⟩:=x;rintro e w2 ⟨va,vb,rfl,hA,hB,hm2⟩;simp only at hA hB;obtain⟨e1,k1,i1,rfl,oe1,ok1,oi1⟩:=hA;obtain⟨e2,k2,i2,rfl,oe2,ok2,oi2⟩:=hB;obtain⟨ea1,ec1,rfl,_,_⟩:=oe1.form;obtain⟨ka1,kc1,rfl,_,_⟩:=ok1.form;obtain⟨ia1,ic1,rfl,_,_⟩:=oi1.form;obtain⟨ea2,ec2,rfl,_,_⟩:=oe2.form;obtain⟨ka2,kc2,rfl,_,_⟩:=ok2.form;obtain⟨ia2,ic2,rfl,_,_⟩:=oi2.form;obtain⟨w3,hw3⟩:∃w3,w3=(w2.alloc (.cells #[.bool A.leaf,.slice ea1 A.entries.length ec1,.slice ka1 A.keys.length kc1,.slice ia1 A.kids.length ic1] 118)).alloc (.cells #[.bool B.leaf,.slice ea2 B.entries.length ec2,.slice ka2 B.keys.length kc2,.slice ia2 B.kids.length ic2] 118):=⟨_,rfl⟩;have hm3:zJ w2 w3:=by rw[hw3];exact ((zA.refl _ _).alloc _).alloc _
    have hxa:zL w3 w2.heap.size #[.bool A.leaf,.slice ea1 A.entries.length ec1,.slice ka1 A.keys.length kc1,.slice ia1 A.kids.length ic1] 118:=by rw[hw3];exact (zL.new w2 _ _).alloc _
    have hxb:zL w3 (w2.heap.size+1) #[.bool B.leaf,.slice ea2 B.entries.length ec2,.slice ka2 B.keys.length kc2,.slice ia2 B.kids.length ic2] 118:=by rw[hw3];exact zK (by simp)
    have HXW:=HXR.out.trans (hm2.trans hm3);have HMM:=oh (HM0.out.trans HXW);have hR1:=HR1.out.ext HXW;have hR2:=HR2.out.ext HXW;have o1:=oe1.ext hm3;have o2:=ok1.ext hm3;have o3:=oi1.ext hm3;have o4:=oe2.ext hm3;have o5:=ok2.ext hm3;have o6:=oi2.ext hm3;have p0:=hxa.cell (o:=0) rfl;have p1:=hxa.cell (o:=1) rfl;have p2:=hxa.cell (o:=2) rfl;have p3:=hxa.cell (o:=3) rfl;have q0:=hxb.cell (o:=0) rfl;have q1:=hxb.cell (o:=1) rfl;have q2:=hxb.cell (o:=2) rfl;have q3:=hxb.cell (o:=3) rfl;have r0:=hR1.cell (o:=0) rfl;have r1:=hR1.cell (o:=1) rfl;have r2:=hR1.cell (o:=2) rfl;have r3:=hR1.cell (o:=3) rfl;have rf:=hR1.frozen;have s0:=hR2.cell (o:=0) rfl;have s1:=hR2.cell (o:=1) rfl;have s2:=hR2.cell (o:=2) rfl;have s3:=hR2.cell (o:=3) rfl;have sf:=hR2.frozen;have hz0:w.heap.size+1+1<w0.heap.size:=HR2.out.lt;have hz1:w.heap.size+1+1<wr.heap.size:=uH hz0 HXR.out.size;have hz2:wr.heap.size<=w2.heap.size:=hm2.size;have hz3:w2.heap.size≠w.heap.size+1:=by omega
    have hz4:w2.heap.size≠w.heap.size+1+1:=by omega
    have hz5:w2.heap.size+1≠w.heap.size+1:=by omega
    have hz6:w2.heap.size+1≠w.heap.size+1+1:=by omega
    have HRA:=oh hR1;have HRB:=oh hR2;have HO:=oh (And.intro o1 (And.intro o2 (And.intro o3 (And.intro o4 (And.intro o5 o6)))));have HW3:=oh hw3;clear hR1 hR2 hxa hxb hm2 hm3 HXW o1 o2 o3 o4 o5 o6 oe1 ok1 oi1 oe2 ok2 oi2 hw3;go_wp2_with fail;rw[<- HW3.out];go_region
    go_wp2_with fail;have mA:=zA.set4 (F:=λk=>k=w.heap.size+1) (zA.refl _ w3) (R:=w.heap.size+1) (.inr rfl) (.bool A.leaf) (.slice ea1 A.entries.length ec1) (.slice ka1 A.keys.length kc1) (.slice ia1 A.kids.length ic1);have hA:=HRA.out.set4 (.bool A.leaf) (.slice ea1 A.entries.length ec1) (.slice ka1 A.keys.length kc1) (.slice ia1 A.kids.length ic1);have hB0:=HRB.out.mods mA (by omega);have hB:=hB0.set4 (.bool B.leaf) (.slice ea2 B.entries.length ec2) (.slice ka2 B.keys.length kc2) (.slice ia2 B.kids.length ic2);have mB:=zA.set4 (F:=λk=>k=w.heap.size+1+1) (zA.refl _ ((((w3.setCell ⟨w.heap.size+1,0,none⟩ (.bool A.leaf)).setCell ⟨w.heap.size+1,1,none⟩ (.slice ea1 A.entries.length ec1)).setCell ⟨w.heap.size+1,2,none⟩ (.slice ka1 A.keys.length kc1)).setCell ⟨w.heap.size+1,3,none⟩ (.slice ia1 A.kids.length ic1))) (R:=w.heap.size+1+1) (.inr rfl) (.bool B.leaf) (.slice ea2 B.entries.length ec2) (.slice ka2 B.keys.length kc2) (.slice ia2 B.kids.length ic2);have hA2:=hA.mods mB (by omega);have hx:=(zA.set4 (zA.set4 HMM.out (R:=w.heap.size+1) (.inl (by omega)) (.bool A.leaf) (.slice ea1 A.entries.length ec1) (.slice ka1 A.keys.length kc1) (.slice ia1 A.kids.length ic1)) (R:=w.heap.size+1+1) (.inl (by omega)) (.bool B.leaf) (.slice ea2 B.entries.length ec2) (.slice ka2 B.keys.length kc2) (.slice ia2 B.kids.length ic2)).drew;obtain⟨o1,o2,o3,o4,o5,o6⟩:=HO.out;have f1:=λg hg=>(o1.lt g hg).1
    have f2:=λg hg=>(o2.lt g hg).1
    have f3:=λg hg=>(o3.lt g hg).1
    have f4:=λg hg=>(o4.lt g hg).1
    have f5:=λg hg=>(o5.lt g hg).1
    have f6:=λg hg=>(o6.lt g hg).1
    have o1:=(((o1.mods mA (λg hg=>by have:=f1 g hg;omega)).mods mB (λg hg=>by have:=f1 g hg;omega)).rebase (base':=w.heap.size) (by omega)).ext (zA.refl _ _).drew;have o2:=(((o2.mods mA (λg hg=>by have:=f2 g hg;omega)).mods mB (λg hg=>by have:=f2 g hg;omega)).rebase (base':=w.heap.size) (by omega)).ext (zA.refl _ _).drew;have o3:=(((o3.mods mA (λg hg=>by have:=f3 g hg;omega)).mods mB (λg hg=>by have:=f3 g hg;omega)).rebase (base':=w.heap.size) (by omega)).ext (zA.refl _ _).drew;have o4:=(((o4.mods mA (λg hg=>by have:=f4 g hg;omega)).mods mB (λg hg=>by have:=f4 g hg;omega)).rebase (base':=w.heap.size) (by omega)).ext (zA.refl _ _).drew;have o5:=(((o5.mods mA (λg hg=>by have:=f5 g hg;omega)).mods mB (λg hg=>by have:=f5 g hg;omega)).rebase (base':=w.heap.size) (by omega)).ext (zA.refl _ _).drew;have o6:=(((o6.mods mA (λg hg=>by have:=f6 g hg;omega)).mods mB (λg hg=>by have:=f6 g hg;omega)).rebase (base':=w.heap.size) (by omega)).ext (zA.refl _ _).drew;refine bodyPost_ret (zAZ rfl _ _ (w.heap.size+1) (w.heap.size+1+1) 118 118 _ _ _ rfl hA2.drew rfl hB.drew rfl Tryz.underlying118 rfl Tryz.nodeSz rfl) rfl ?_;exact⟨hx,.inl ⟨_,_,_,HBB.out,rfl,⟨_,_,_,rfl,o1,o2,o3⟩,⟨_,_,_,rfl,o4,o5,o6⟩⟩⟩
 .have HN:Hid (zDX n=none):=oh (zO6 (by rw[<- HM.out];exact hcut));have r0:=hR1.cell (o:=0) rfl;have r1:=hR1.cell (o:=1) rfl;have r2:=hR1.cell (o:=2) rfl;have r3:=hR1.cell (o:=3) rfl;have rf:=hR1.frozen;have s0:=hR2.cell (o:=0) rfl;have s1:=hR2.cell (o:=1) rfl;have s2:=hR2.cell (o:=2) rfl;have s3:=hR2.cell (o:=3) rfl;have sf:=hR2.frozen;have hA:=hR1.set4 (.bool false) (.slice none 0 0) (.slice none 0 0) (.slice none 0 0);have mA:=zA.set4 (F:=λk=>k=w.heap.size+1) (zA.refl _ w1) (R:=w.heap.size+1) (.inr rfl) (.bool false) (.slice none 0 0) (.slice none 0 0) (.slice none 0 0);have hB:=(hR2.mods mA (by omega)).set4 (.bool false) (.slice none 0 0) (.slice none 0 0) (.slice none 0 0);have mB:=zA.set4 (F:=λk=>k=w.heap.size+1+1) (zA.refl _ ((((w1.setCell ⟨w.heap.size+1,0,none⟩ (.bool false)).setCell ⟨w.heap.size+1,1,none⟩ (.slice none 0 0)).setCell ⟨w.heap.size+1,2,none⟩ (.slice none 0 0)).setCell ⟨w.heap.size+1,3,none⟩ (.slice none 0 0))) (R:=w.heap.size+1+1) (.inr rfl) (.bool false) (.slice none 0 0) (.slice none 0 0) (.slice none 0 0);have HA2:=oh (hA.mods mB (by omega));have HB2:=oh hB;have HX2:=oh (zA.set4 (zA.set4 (HM0.out.trans HX1.out) (R:=w.heap.size+1) (.inl (by omega)) (.bool false) (.slice none 0 0) (.slice none 0 0) (.slice none 0 0)) (R:=w.heap.size+1+1) (.inl (by omega)) (.bool false) (.slice none 0 0) (.slice none 0 0) (.slice none 0 0));clear hR1 hR2 hA mA hB mB;by_cases hr:zM n=true
  .have hev:ev=.nilIface:=by
    have:zBz n=none:=by unfold zBz;rw[if_pos hr]
    rw[this] at hE;exact hE
   subst hev;have hM0:M=0:=by
    rcases rJ M with h|h
    .exact h
    .exact absurd ⟨hr,h⟩ hcut
   have hgo:=HT.out.1 hM0;clear hE hcut hr;go_wp2_with fail;refine bodyPost_ret (zAZ rfl _ _ (w.heap.size+1) (w.heap.size+1+1) 118 118 _ _ _ rfl HA2.out rfl HB2.out rfl Tryz.underlying118 rfl Tryz.nodeSz rfl) rfl ?_;exact⟨HX2.out,.inr ⟨HN.out,rfl⟩⟩
  .have hev:zBz n=some ([-1],1):=by unfold zBz;rw[if_neg hr]
   rw[hev] at hE;obtain⟨fb,rfl,_⟩:=hE;clear hcut hr hev;go_wp2_with fail;refine bodyPost_ret (zAZ rfl _ _ (w.heap.size+1) (w.heap.size+1+1) 118 118 _ _ _ rfl HA2.out rfl HB2.out rfl Tryz.underlying118 rfl Tryz.nodeSz rfl) rfl ?_;exact⟨HX2.out,.inr ⟨HN.out,rfl⟩⟩
end
section
variable {F:Nat->Prop}{w w':World}
theorem zO7(n:zF)(ve vk vi:Value)(hve:Sl F w 4 vA ve n.entries)(hvk:Sl F w 1 qK vk n.keys)(hvi:Sl F w 1 yB vi n.kids)(hb:zD n<=1000000000)(z:Int)(hz:0<=z)(hz2:z<=100000)(lf:Bool)(hlf:n.leaf=lf)(r:Bool)(hr:zAT n z=r) :
  Calls Tryz.prog 178 #[.agg #[.bool lf,ve,vk,vi],.int .i64 z] w λe w'=>e=.returned (.bool r)/\zJ w w':=by
 have m0:zJ w (w.alloc (.cells #[.bool lf,ve,vk,vi] 118)):=(zA.refl _ w).alloc _;have HW:=zE3 (vi:=vi) n ve vk _ (hve.ext m0) (hvk.ext m0) (by omega);rw[hlf] at HW;have hw2:=zFE n;obtain⟨W,hW⟩:∃W,W=zD n:=⟨_,rfl⟩;obtain⟨ea,ec,rfl,e1,e2,e3,_⟩:=hve;obtain⟨ka,kc,rfl,_,_,_,_⟩:=hvk;obtain⟨ia,ic,rfl,i1,i2,i3,_⟩:=hvi;unfold maxLen at e2 i2;rw[<- hW] at hb HW hw2;have HR:Hid (r=((lf && decide ((n.entries.length:Int)=0)) || (!lf && decide ((n.kids.length:Int)<2)) || decide (3 * W<z-24))):=oh (by rw[<- hr];unfold zAT;rw[hlf,hW]);obtain⟨ne,hne⟩:∃ne,ne=n.entries.length:=⟨_,rfl⟩;obtain⟨ni,hni⟩:∃ni,ni=n.kids.length:=⟨_,rfl⟩;rw[<- hne] at HR HW m0 e1 e3 ⊢;rw[<- hni] at HR HW m0 i1 i3 ⊢;have HM0:=oh m0;have HW:=oh HW;have u1:IntKind.i64.wrap (3 * W)=3 * W:=by rw[IntWalk.i64_in _ (by omega)]
 have u2:IntKind.i64.wrap (z-24)=z-24:=by rw[IntWalk.i64_in _ (by omega)]
 clear hlf hr hW hne hni m0;cases lf with
 | true =>
  by_cases h0:(ne:Int)=0
  .go_enter Tryz.func178, Tryz.ntmps178
   go_wp2_with fail;go_ret;exact⟨by rw[HR.out,wC h0];rfl,HM0.out⟩
  .go_enter Tryz.func178, Tryz.ntmps178
   go_wp2_with fail;refine HW.out.mono ?_;rintro e w1 ⟨rfl,hm⟩;have HM:=oh (HM0.out.trans hm);clear hm;go_wp2_with fail;go_ret;exact⟨by rw[HR.out,uX h0];rfl,HM.out⟩
 | false =>
  by_cases h0:(ni:Int)<2
  .go_enter Tryz.func178, Tryz.ntmps178
   go_wp2_with fail;go_ret;exact⟨by rw[HR.out,wC h0];rfl,HM0.out⟩
  .go_enter Tryz.func178, Tryz.ntmps178
   go_wp2_with fail;refine HW.out.mono ?_;rintro e w1 ⟨rfl,hm⟩;have HM:=oh (HM0.out.trans hm);clear hm;go_wp2_with fail;go_ret;exact⟨by rw[HR.out,uX (show ¬ (ni:Int)<2 by omega)];rfl,HM.out⟩
end
end
section
open Go.RowKit
attribute [local go_sem ↓] Go.wp_at_zero Go.wp_at_succ
theorem zAX:zBo zAL 2:=⟨λ_=>rfl,by intro x u hu;simp[zAL] at hu;rcases hu with rfl|rfl <;> rfl⟩
theorem zU.some{α:Type}{F:Nat->Prop}{w:World}{base:Nat}{e:TypeId}{sz:Nat}{enc:α->List Value}{v:Value}{l:List α}(h:zU F w base e sz enc v l)(hl:l≠[]):∃g c,v=.slice (Option.some ⟨g,0,none⟩) l.length c/\l.length<=c/\c<=maxLen/\base<=g/\g<w.heap.size/\∀o,w.frozen? ⟨g,o,none⟩=false:=by
 rcases h.1.2 with ⟨_,h0⟩|⟨g,cap,cur,rfl,hb,hg,h1,h2,_⟩
 .exact absurd (tB h0) hl
 .refine⟨g,cap,rfl,h1,h2,hb,(tH.1 hg).1,λo=>?_⟩;exact zL.frozen (c:=cur) (t:=e) hg o
theorem Sl.cellsAt{α:Type}{F:Nat->Prop}{w:World}{sz:Nat}{enc:α->List Value}{b off n c:Nat}{l:List α}(h:Sl F w sz enc (.slice (Option.some ⟨b,off,none⟩) n c) l){j:Nat}{x:α}(hx:l[j]? = Option.some x):∀i u,(enc x)[i]? = Option.some u->w.cell? ⟨b,off+j * sz+i,none⟩=Option.some u:=by
 obtain⟨a',c',e1,_,_,_,e5⟩:=h;injection e1 with e1 _ _;subst e1;rcases e5 with rfl|⟨b',off',e,_,_,hc⟩
 .simp at hx
 .injection e with e;injection e with e1 e2;subst e1 e2;exact hc j x hx
end
end Go.Proofs.YtchklfmggpconaaGreatDoor
