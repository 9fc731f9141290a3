import Derived.Test.YtalpfcaakpgkmaaGreatDoorR26
import Derived.Deep.RegionHeld3
import Derived.Deep.RegionLawGrows
import Derived.Deep.CutBlock
import Derived.Deep.DeepCutAuto
namespace Go.Proofs.YtalpfcaakpgkmaaGreatDoor
open Lib renaming hid->oh
set_option maxHeartbeats 8000000
set_option maxRecDepth 100000
section
open Go.RowKit
attribute [local go_sem ↓] Go.wp_at_zero Go.wp_at_succ
section
variable {F:NP}{ad:Nat->Addr}{w wr w2:World}
theorem zKk(hL:yH F ad w)(bv:Value)(b:List UInt8)(hb:Sl F w 1 zZ bv b)(Aa:b.length<=1000) :
  Calls Tryz.prog 156 #[.bool false,bv] w (zKi F ad w false b):=by
 have HL:=oh hL;have Cu:Hid (jI F ad w (((w.alloc gB).alloc (.cells #[bv,.int .i64 0,.bool false] 369)).alloc gB) false bv b ⟨0,false⟩ [] [] [] (.slice none 0 0) (.slice none 0 0) (.slice none 0 0) (.slice none 0 0) (.slice none 0 0) (.slice none 0 0)):=oh
  ⟨(((zss w).alloc _).alloc _).alloc _,hL,hb,by
   have:=(zG.new (w.alloc gB) #[bv,.int .i64 0,.bool false] 369).alloc gB;simpa using this,by
   have:=zG.new ((w.alloc gB).alloc (.cells #[bv,.int .i64 0,.bool false] 369)) gB 200;simpa using this,yC.nil _ _ _ _ _ _,yC.nil _ _ _ _ _ _,yC.nil _ _ _ _ _ _,((zG.new w _ _).alloc _).alloc _⟩
 have HB:=oh hb;obtain⟨mny,r0,hx⟩:∃n r1,vM b ⟨0,false⟩ 2=(n,r1):=⟨_,_,rfl⟩;have Dn:mny<=65535:=by have:=zJm b ⟨0,false⟩;rw[hx] at this;exact this
 have Cv:r0.at_=2:=by have:=zCf b ⟨0,false⟩ 2;rw[hx] at this;exact this
 obtain⟨kd,r1,Bj⟩:∃n r1,vM b r0 4=(n,r1):=⟨_,_,rfl⟩;have Cc:r1.at_=6:=by have:=zCf b r0 4;rw[Bj] at this;simp only at this;omega
 have Ag:Hid (0<=r0.at_/\r0.at_<=1000000000000):=oh (by omega);have B6:=oh Cc;have HX:=oh hx;have Cw:=oh Bj;obtain⟨M,hM⟩:∃M,M=mny-1:=⟨_,rfl⟩;have HM:=oh hM;have Cx:Hid (zAR false b=(⟨false,[],(zBn b M r1 [] [(kd:Int)]).1,(zBn b M r1 [] [(kd:Int)]).2.1⟩,(zBn b M r1 [] [(kd:Int)]).2.2)):=oh (by unfold zAR;simp only[hx,Bj,hM];rfl);have Cd:=oh Aa;obtain⟨ab,cb,rfl,Do,Cy,Dp,_⟩:=hb;clear hL hx Cv Bj Cc hM;unfold maxLen at Cy
 go_enter Tryz.func156, Tryz.ntmps156
 go_wp2_with fail;refine (Cu.out.num 2 (.inr (.inl rfl)) (Int.le_refl 0) (show (0:Int)<=1000000000000 by omega) mny HX.out).mono ?_;rintro e w1 ⟨rfl,Ce,_⟩;have Cf:=oh Ce;clear Ce;have n3:=Cf.out.nd.d 3 (.slice none 0 0) rfl;go_wp2_with fail;go_cut [] (λwx=>∃(a2:Option Addr) (c2:Nat),Hid (jI F ad w wx false (.slice ab b.length cb) b r1 [] [] [(kd:Int)] (.slice none 0 0) (.slice none 0 0) (.slice a2 1 c2) (.slice none 0 0) (.slice none 0 0) (.slice a2 1 c2)))
 case first =>
  go_region_law
   (first
    | (go_simp;go_at_call 241;(refine (Cf.out.drew.num 4 (.inr (.inr rfl)) Ag.out.1 Ag.out.2 kd Cw.out).mono ?_);rintro e w2 ⟨rfl,Ac,Ad⟩;have y3:=Ac.nd.d 3 (.slice none 0 0) rfl;have y3b:=λo=>(Ac.step (zr.alloc o)).nd.d 3 (.slice none 0 0) rfl)
    | (refine zFC Tryz.elI vH (by rfl) _ _ (by rfl) (w.heap.size+3) (.slice none 0 0) _ [] [(kd:Int)] (by rfl) (by rfl) (Ac.oi.ext (zr.alloc _)) (Sl.one (F:=NoF) (zS (by simp)) (λf=>f)) (by simp) (by have:=Ac.base;simp at this ⊢;omega) (λf=>f) ?_;simp only[uG,uL,wG,wP];intro a2 c2 w5 B7 B8 Av;have Ah:=(Ac.step (zr.alloc _)).appI B8 B7;have z3:=Ah.nd.d 3 (.slice none 0 0) rfl;have zf:=Ah.nd.frozen 3)
    | fail)
  all_goals
   have Ai:=oh (Ah.put 3 (.slice a2 1 c2) (.slice none 0 0) (.slice none 0 0) (.slice a2 1 c2) rfl);clear Ah B7 B8 Av Ac Ad y3 y3b z3 zf n3;go_wp2_with fail;go_meet;exact⟨a2,c2,Ai⟩
 obtain⟨a2,c2,Ai⟩:=hcut;go_wp2_with fail;go_loopg [9] M (λm i wr=>∃(k:Nat) (at_:Int) (bd:Bool) (ks:List ByteArray) (is:List Int) (vk vi:Value),k+m=M/\i=.int .i64 k/\Hid (zBn b m ⟨at_,bd⟩ ks is=zBn b M r1 [] [(kd:Int)])/\Hid (jI F ad w wr false (.slice ab b.length cb) b ⟨at_,bd⟩ [] ks is (.slice none 0 0) vk vi (.slice none 0 0) vk vi)/\ks.length<=k/\is.length<=k+1/\0<=at_/\at_<=1020+10 * (k:Int))
 case atStart=>exact⟨0,r1.at_,r1.bad,[],[(kd:Int)],_,_,by omega,rfl,oh rfl,Ai,uD 0,by simp,by have:=B6.out;omega,by have:=B6.out;omega⟩
 case round =>
  obtain⟨k,at_,bd,ks,is,vk,vi,Dq,rfl,HZ,HS,Cz,D0,D1,Dr⟩:=hrel;have b2:=HS.out.box.d 2 (.bool bd) rfl;have Cg:M+1=mny\/(M=0/\mny=0):=by have:=HM.out;omega
  by_cases Bk:k<M/\bd=false
  .obtain⟨Bt,rfl⟩:=Bk;obtain⟨m,rfl⟩:∃m,gk=m+1:=⟨gk-1,by omega⟩;have hi:(k:Int)<(mny:Int)-1:=by omega
   obtain⟨key,q1,hk⟩:∃s r1,jW b ⟨at_,false⟩=(s,r1):=⟨_,_,rfl⟩;have Bu:=zFB b ⟨at_,false⟩;rw[hk] at Bu;obtain⟨q,q2,hq⟩:∃n r2,vM b q1 4=(n,r2):=⟨_,_,rfl⟩;have Bv:=zED b q1 4 (.inr (.inr rfl));rw[hq] at Bv;simp only at Bu Bv;have HK:=oh hk;have HQ:=oh hq;have Bl:Hid (0<=q1.at_/\q1.at_<=1000000/\0<=q2.at_/\q2.at_<=1020+10 * ((k+1:Nat):Int)):=oh (by have:=Cd.out;omega);have D2:Hid (zBn b m q2 (ks++[key]) (is++[(q:Int)])=zBn b M r1 [] [(kd:Int)]):=oh (by
    have:=HZ.out;rw[zBn] at this;simp only[wI,tX,hk,hq] at this;exact this)
   clear HZ hk hq Bu Bv Cg;go_wp2_with fail;refine (HS.out.text D1 (show at_<=1000000000000 by omega) key HK.out).mono ?_;rintro e w2 ⟨rfl,Ac,_⟩;have Bw:=oh Ac;have n2:=Ac.nd.d 2 vk rfl;have n3:=Ac.nd.d 3 vi rfl;have n2b:=λo=>(Ac.step (zr.alloc o)).nd.d 2 vk rfl
   have n3b:=λo=>(Ac.step (zr.alloc o)).nd.d 3 vi rfl
   clear Ac;have D3:=oh Cz;have D4:=oh D0;go_wp2_with fail;go_region_law
    (first
     | (go_simp;go_at_call 241;(refine (Bx.num 4 (.inr (.inr rfl)) Bl.out.1 (by have:=Bl.out;omega) q HQ.out).mono ?_);rintro e w6 ⟨rfl,Ah,D5⟩;have y3:=Ah.nd.d 3 vi rfl;have y3b:=λo=>(Ah.step (zr.alloc o)).nd.d 3 vi rfl)
     | (refine zFC Tryz.elS zBm (by rfl) _ _ (by rfl) (w.heap.size+3) vk _ ks [key] (by rfl) (by rfl) (Bw.out.drew.ok.ext (zr.alloc _)) (Sl.one (F:=NoF) (zS (by simp)) (λf=>f)) (by have:=D3.out;simp only[uG,uL];omega) (by have:=Bw.out.base;simp at this ⊢;omega) (λf=>f) ?_;simp only[uG,uL,wG];intro a5 c5 w5 B7 B8 Av;have Bx:=(Bw.out.drew.step (zr.alloc _)).appK B8 B7;have y3:=Bx.nd.d 3 vi rfl)
     | (refine zFC Tryz.elI vH (by rfl) _ _ (by rfl) (w.heap.size+3) vi _ is [(q:Int)] (by rfl) (by rfl) (Ah.oi.ext (zr.alloc _)) (Sl.one (F:=NoF) (zS (by simp)) (λf=>f)) (by have:=D4.out;simp only[uG,uL];omega) (by have:=Ah.base;simp at this ⊢;omega) (λf=>f) ?_;simp only[uG,uL,wG];intro a7 c7 w7 Ch Ab By;have A0:=(Ah.step (zr.alloc _)).appI Ab Ch;have z2:=A0.nd.d 2 vk rfl;have z3:=A0.nd.d 3 vi rfl;have zf:=A0.nd.frozen)
     | fail)
   all_goals
    have A7:=oh ((A0.put 2 (.slice a5 (ks.length+1) c5) (.slice none 0 0) (.slice a5 (ks.length+1) c5) vi rfl).put 3 (.slice a7 (is.length+1) c7) (.slice none 0 0) (.slice a5 (ks.length+1) c5) (.slice a7 (is.length+1) c7) rfl);clear A0 Ch Ab By Ah D5 Bx B7 B8 Av n2 n3 n2b n3b z2 z3 zf y3 y3b;go_wp2_with fail;go_roundg m
    case measure=>omega
    case rel=>exact⟨k+1,q2.at_,q2.bad,ks++[key],is++[(q:Int)],_,_,by omega,by go_num,D2,A7,by rw[uC,uG,uL];omega,by rw[uC,uG,uL];omega,Bl.out.2.2.1,Bl.out.2.2.2⟩
  .have B9:Hid (zBn b M r1 [] [(kd:Int)]=(ks,is,⟨at_,bd⟩)):=oh (by
    rw[<- HZ.out];cases gk with
    | zero=>rfl
    | succ m =>
     rw[zBn];have:bd=true:=by
      cases bd
      .exact absurd ⟨by omega,rfl⟩ Bk
      .rfl
     rw[this];rfl)
   have Ci:Hid (zAR false b=(⟨false,[],ks,is⟩,⟨at_,bd⟩)):=oh (by rw[Cx.out,B9.out]);have A9:Hid (zEk false b=if bd=false/\zO ⟨false,[],ks,is⟩=true/\yE ⟨false,[],ks,is⟩=b then some ⟨false,[],ks,is⟩ else none):=oh (by unfold zEk;simp only[Ci.out]);obtain⟨pk,kc,rfl,D6,Bz⟩:=HS.out.ok.form;obtain⟨pi,ic,rfl,D7,C0⟩:=HS.out.oi.form;unfold maxLen at Bz C0;have Ae:zO ⟨false,[],ks,is⟩=true->(yE ⟨false,[],ks,is⟩).length<=100000:=λhr=>by
    have:=zGD false b Cd.out;rw[Ci.out] at this;exact this hr
   have Aw:=oh (zEx (F:=GB F w) HS.out.env ⟨false,[],ks,is⟩ (.slice none 0 0) (.slice pk ks.length kc) (.slice pi is.length ic) (Sl.nil _ _ _ _) (HS.out.slK HS.out.gb (by omega)) (HS.out.slI HS.out.gb (by omega)) Ae);have n0:=HS.out.nd.d 0 (.bool false) rfl;have n1:=HS.out.nd.d 1 (.slice none 0 0) rfl;have n2:=HS.out.nd.d 2 (.slice pk ks.length kc) rfl;have n3:=HS.out.nd.d 3 (.slice pi is.length ic) rfl;have Ba:((k:Int)<(mny:Int)-1/\bd=true)\/(¬ ((k:Int)<(mny:Int)-1)/\bd=true)\/(¬ ((k:Int)<(mny:Int)-1)/\bd=false):=by
    by_cases h1:(k:Int)<(mny:Int)-1
    .cases bd
     .exact absurd ⟨by omega,rfl⟩ Bk
     .exact .inl ⟨h1,rfl⟩
    .cases bd
     .exact .inr (.inr ⟨h1,rfl⟩)
     .exact .inr (.inl ⟨h1,rfl⟩)
   have C1:=oh Ae;have D8:ks.length<=70000/\is.length<=70000:=by omega
   obtain⟨D9,Da⟩:=D8;clear HZ B9 Ae Bk Cg;rcases Ba with ⟨Bt,rfl⟩|⟨Bt,rfl⟩|⟨Bt,rfl⟩
   .go_wp2_with fail;refine (Aw.out).mono ?_;rintro e w6 hP;obtain⟨At,hP⟩:=hP;have A6:=oh (HS.out.step At);clear At;rcases hP with ⟨_,a6,c6,rfl,_⟩|⟨_,f6,rfl,_⟩
    all_goals
     have b2c:=A6.out.box.d 2 (.bool true) rfl;have g1:=A6.out.env.c1;go_wp2_with fail;refine (vI A6.out.env _ _ [] 1 (.sent 1 (by decide) (by decide))).mono ?_;rintro e w7 ⟨f7,rfl,Aj,Ab⟩;have A0:=A6.out.step Ab;have r0:=A0.res.d 0 (.bool false) rfl;have r1:=A0.res.d 1 (.slice none 0 0) rfl;have r2:=A0.res.d 2 (.slice none 0 0) rfl;have r3:=A0.res.d 3 (.slice none 0 0) rfl;have rf:=A0.res.frozen;have Ai:=oh A0;have Ax:=oh Aj;have A3:=oh (A0.res.set4 (.bool false) (.slice none 0 0) (.slice none 0 0) (.slice none 0 0));clear A0 Aj Ab;go_wp2_with fail;refine bodyPost_ret (zC rfl _ _ w.heap.size 200 gB _ rfl A3.out Tryz.underlying200 rfl Tryz.nodeSize) rfl ?_;exact⟨zA.set4 Ai.out.ext (.inl (uD _)) _ _ _ _,.inr ⟨by rw[A9.out];exact if_neg (λh=>by have:=h.1;cases this),f7,rfl,Ax.out.step (zA.set4 (zss w7) (.inr (.inr ⟨uD _,by omega⟩)) _ _ _ _) (λk _ hn hf=>hn (.inl hf))⟩⟩
   .go_wp2_with fail;refine (Aw.out).mono ?_;rintro e w6 hP;obtain⟨At,hP⟩:=hP;have A6:=oh (HS.out.step At);clear At;rcases hP with ⟨_,a6,c6,rfl,_⟩|⟨_,f6,rfl,_⟩
    all_goals
     have b2c:=A6.out.box.d 2 (.bool true) rfl;have g1:=A6.out.env.c1;go_wp2_with fail;refine (vI A6.out.env _ _ [] 1 (.sent 1 (by decide) (by decide))).mono ?_;rintro e w7 ⟨f7,rfl,Aj,Ab⟩;have A0:=A6.out.step Ab;have r0:=A0.res.d 0 (.bool false) rfl;have r1:=A0.res.d 1 (.slice none 0 0) rfl;have r2:=A0.res.d 2 (.slice none 0 0) rfl;have r3:=A0.res.d 3 (.slice none 0 0) rfl;have rf:=A0.res.frozen;have Ai:=oh A0;have Ax:=oh Aj;have A3:=oh (A0.res.set4 (.bool false) (.slice none 0 0) (.slice none 0 0) (.slice none 0 0));clear A0 Aj Ab;go_wp2_with fail;refine bodyPost_ret (zC rfl _ _ w.heap.size 200 gB _ rfl A3.out Tryz.underlying200 rfl Tryz.nodeSize) rfl ?_;exact⟨zA.set4 Ai.out.ext (.inl (uD _)) _ _ _ _,.inr ⟨by rw[A9.out];exact if_neg (λh=>by have:=h.1;cases this),f7,rfl,Ax.out.step (zA.set4 (zss w7) (.inr (.inr ⟨uD _,by omega⟩)) _ _ _ _) (λk _ hn hf=>hn (.inl hf))⟩⟩
   .have Ae:=C1.out;go_wp2_with fail;refine (Aw.out).mono ?_;rintro e w6 hP;obtain⟨At,hP⟩:=hP;have A6:=oh (HS.out.step At);clear At;rcases hP with ⟨B3,a6,c6,rfl,Cj⟩|⟨B3,f6,rfl,Db⟩
    .have Bm:=oh B3;have C2:=oh (yC.sl (F:=NoF) Cj jN.len (by have:=Ae B3;omega));clear B3 Cj Ae;have b2b:=A6.out.box.d 2 (.bool false) rfl;go_wp2_with fail;refine (zDJ (F:=NoF) (G:=F) _ _ _ b C2.out (HB.out.ext A6.out.ext)).mono ?_;rintro e w8 ⟨rfl,Ck⟩;have A7:=oh (A6.out.step Ck);clear Ck;by_cases B4:yE ⟨false,[],ks,is⟩=b
     .rw[wL B4];have Bn:=oh B4;clear B4;have n0:=A7.out.nd.d 0 (.bool false) rfl;have n1:=A7.out.nd.d 1 (.slice none 0 0) rfl;have n2:=A7.out.nd.d 2 (.slice pk ks.length kc) rfl;have n3:=A7.out.nd.d 3 (.slice pi is.length ic) rfl;have r0:=A7.out.res.d 0 (.bool false) rfl;have r1:=A7.out.res.d 1 (.slice none 0 0) rfl;have r2:=A7.out.res.d 2 (.slice none 0 0) rfl;have r3:=A7.out.res.d 3 (.slice none 0 0) rfl;have rf:=A7.out.res.frozen;have A3:=oh (A7.out.res.set4 (.bool false) (.slice none 0 0) (.slice pk ks.length kc) (.slice pi is.length ic));have A2:=oh (zA.set4 (F:=λk=>k=w.heap.size) (zss w8) (.inr rfl) (.bool false) (.slice none 0 0) (.slice pk ks.length kc) (.slice pi is.length ic));go_wp2_with fail;refine bodyPost_ret (zC rfl _ _ w.heap.size 200 #[.bool false,.slice none 0 0,.slice pk ks.length kc,.slice pi is.length ic] _ rfl A3.out Tryz.underlying200 rfl Tryz.nodeSize) rfl ?_;refine⟨zA.set4 A7.out.ext (.inl (uD _)) _ _ _ _,.inl ⟨⟨false,[],ks,is⟩,.slice none 0 0,.slice pk ks.length kc,.slice pi is.length ic,by rw[A9.out];exact if_pos (by first|exact⟨rfl,Bm.out,Bn.out⟩|exact⟨trivial,Bm.out,Bn.out⟩),rfl,?_,?_,?_⟩⟩
      .exact (A7.out.slE (G:=GB F w) A7.out.gb (by simp)).step (A2.out.mono (λk (hk:k=w.heap.size)=>.inr ⟨by omega,by omega⟩)) (λk _ hn hf=>hn (.inl hf))
      .exact (A7.out.slK (G:=GB F w) A7.out.gb (by omega)).step (A2.out.mono (λk (hk:k=w.heap.size)=>.inr ⟨by omega,by omega⟩)) (λk _ hn hf=>hn (.inl hf))
      .exact (A7.out.slI (G:=GB F w) A7.out.gb (by omega)).step (A2.out.mono (λk (hk:k=w.heap.size)=>.inr ⟨by omega,by omega⟩)) (λk _ hn hf=>hn (.inl hf))
     .rw[wM B4];have Bn:=oh B4;clear B4;have A6:=A7;have b2c:=A6.out.box.d 2 (.bool false) rfl;have g1:=A6.out.env.c1;go_wp2_with fail;refine (vI A6.out.env _ _ [] 1 (.sent 1 (by decide) (by decide))).mono ?_;rintro e w7 ⟨f7,rfl,Aj,Ab⟩;have A0:=A6.out.step Ab;have r0:=A0.res.d 0 (.bool false) rfl;have r1:=A0.res.d 1 (.slice none 0 0) rfl;have r2:=A0.res.d 2 (.slice none 0 0) rfl;have r3:=A0.res.d 3 (.slice none 0 0) rfl;have rf:=A0.res.frozen;have Ai:=oh A0;have Ax:=oh Aj;have A3:=oh (A0.res.set4 (.bool false) (.slice none 0 0) (.slice none 0 0) (.slice none 0 0));clear A0 Aj Ab;go_wp2_with fail;refine bodyPost_ret (zC rfl _ _ w.heap.size 200 gB _ rfl A3.out Tryz.underlying200 rfl Tryz.nodeSize) rfl ?_;exact⟨zA.set4 Ai.out.ext (.inl (uD _)) _ _ _ _,.inr ⟨by rw[A9.out];exact if_neg (λh=>Bn.out h.2.2),f7,rfl,Ax.out.step (zA.set4 (zss w7) (.inr (.inr ⟨uD _,by omega⟩)) _ _ _ _) (λk _ hn hf=>hn (.inl hf))⟩⟩
    .have Bm:=oh B3;clear B3 Db;have b2c:=A6.out.box.d 2 (.bool false) rfl;have g1:=A6.out.env.c1;go_wp2_with fail;refine (vI A6.out.env _ _ [] 1 (.sent 1 (by decide) (by decide))).mono ?_;rintro e w7 ⟨f7,rfl,Aj,Ab⟩;have A0:=A6.out.step Ab;have r0:=A0.res.d 0 (.bool false) rfl;have r1:=A0.res.d 1 (.slice none 0 0) rfl;have r2:=A0.res.d 2 (.slice none 0 0) rfl;have r3:=A0.res.d 3 (.slice none 0 0) rfl;have rf:=A0.res.frozen;have Ai:=oh A0;have Ax:=oh Aj;have A3:=oh (A0.res.set4 (.bool false) (.slice none 0 0) (.slice none 0 0) (.slice none 0 0));clear A0 Aj Ab;go_wp2_with fail;refine bodyPost_ret (zC rfl _ _ w.heap.size 200 gB _ rfl A3.out Tryz.underlying200 rfl Tryz.nodeSize) rfl ?_;exact⟨zA.set4 Ai.out.ext (.inl (uD _)) _ _ _ _,.inr ⟨by rw[A9.out];exact if_neg (λh=>by have:=h.2.1;rw[Bm.out] at this;cases this),f7,rfl,Ax.out.step (zA.set4 (zss w7) (.inr (.inr ⟨uD _,by omega⟩)) _ _ _ _) (λk _ hn hf=>hn (.inl hf))⟩⟩
end
end
section
open Go.RowKit
abbrev zSD:Value:=.agg gB
def zOB(F:NP)(ad:Nat->Addr)(w':World)(r:zI ⊕ Err)(e:Ending):Prop :=
 match r with
 | .inl n=>∃ve vk vi,e=.returned (.tuple #[.agg #[.bool n.leaf,ve,vk,vi],.nilIface])/\Sl F w' 4 zAQ ve n.entries/\Sl F w' 1 vW vk n.keys/\Sl F w' 1 yI vi n.kids
 | .inr (l,k)=>∃f,e=.returned (.tuple #[zSD,zP f])/\vN F ad w' (zP f) l k
section
variable {F G:NP}{ad:Nat->Addr}{w w':World}
theorem yH.plusX(h:yH F ad w)(m:zF w w'){X:Nat}(h1:w.heap.size<=X)(h2:X<w'.heap.size):yH (qB F X) ad w' :=
 h.step m.ext (λk hk hn hg=>hg.elim hn (λe=>by omega)) (λk hg=>hg.elim (λhf=>uF (h.lt k hf) m.size) (λe=>by omega))
theorem Sl.plusX{α:Type}{sz:Nat}{enc:α->List Value}{v:Value}{l:List α}(h:Sl F w sz enc v l)(m:zF w w'){X:Nat}(h1:w.heap.size<=X):Sl (qB F X) w' sz enc v l :=
 h.step m.ext (λk hk hn hg=>hg.elim hn (λe=>by omega))
theorem zHH(hL:yH F ad w)(lf:Bool)(bv:Value)(b:List UInt8)(hb:Sl F w 1 zZ bv b)(Aa:b.length<=1000) :
  Calls Tryz.prog 156 #[.bool lf,bv] w (zKi F ad w lf b):=by
 cases lf
 .exact zKk hL bv b hb Aa
 .exact zKj hL bv b hb Aa
theorem zJs{lf:Bool}{b:List UInt8}{n:zI}(h:zEk lf b=some n):n.leaf=lf:=by
 unfold zEk at h;simp only at h;split at h
 .injection h with h;subst h;exact zHE lf b
 .cases h
theorem zNJ(hL:yH F ad w)(p:zY)(bv:Value)(hb:Sl F w 1 zZ bv p.body)(hl:p.body.length<=1000) :
  Calls Tryz.prog 247 #[qC p bv] w λe w'=>zOB F ad w' (qJ p) e/\zF w w':=by
 obtain⟨pk,pi,pg,body⟩:=p;simp only at hb hl;unfold qC;have m0:zF w ((w.alloc (.cells #[.int .i64 pk,.int .i64 pi,.int .u64 (pg:Int),bv] 221)).alloc gB):=((zss w).alloc _).alloc _;have HL:=oh (hL.plusX m0 (X:=w.heap.size+1) (by omega) (by simp));have HS:=oh (hb.plusX m0 (X:=w.heap.size+1) (by omega));have C3:=oh ((zG.new w #[.int .i64 pk,.int .i64 pi,.int .u64 (pg:Int),bv] 221).alloc gB);have Ag:Hid (zG ((w.alloc (.cells #[.int .i64 pk,.int .i64 pi,.int .u64 (pg:Int),bv] 221)).alloc gB) (w.heap.size+1) gB 200):=oh (zS (by simp));have Ay:=oh m0;obtain⟨ba,bc,rfl,_,_,_,_⟩:=hb;clear hL m0;by_cases h3:pk=3\/pk=2
 .obtain⟨lf,C4⟩:∃lf,lf=decide (pk=3):=⟨_,rfl⟩;have HD:Hid (qJ ⟨pk,pi,pg,body⟩=match zEk lf body with|some n=>.inl n|none=>.inr ([zBz pi],5)):=oh (by unfold qJ;simp only[if_pos h3,C4];rfl);have HG:=oh (zHH HL.out lf _ body HS.out hl);have Bo:pk=if lf then 3 else 2:=by
   rcases h3 with rfl|rfl <;> (subst C4;rfl)
  clear h3 C4;cases lf
  .simp only[tX,wI] at Bo;subst Bo
   go_enter Tryz.func247, Tryz.ntmps247
   go_wp2_with fail;refine (HG.out).mono ?_;rintro e w1 ⟨A4,⟨n,ve,vk,vi,Ak,rfl,Al,Am,An⟩|⟨Ak,f,rfl,hE⟩⟩
   .have A9:=oh Ak;obtain⟨ea,ec,rfl,_,_,_,_⟩:=_root_.id Al;obtain⟨ka,kc,rfl,_,_,_,_⟩:=_root_.id Am;obtain⟨ia,ic,rfl,_,_,_,_⟩:=_root_.id An;have Bb:=oh Al;have Bc:=oh Am;have Bd:=oh An;have Aq:=oh A4;have A1:=(Ag.out.ext A4).alloc (.cells #[.bool false,.slice ea n.entries.length ec,.slice ka n.keys.length kc,.slice ia n.kids.length ic] 200);have r0:=A1.d 0 (.bool false) rfl;have r1:=A1.d 1 (.slice none 0 0) rfl;have r2:=A1.d 2 (.slice none 0 0) rfl;have r3:=A1.d 3 (.slice none 0 0) rfl;have rf:=A1.frozen;have A3:=oh (A1.set4 (.bool false) (.slice ea n.entries.length ec) (.slice ka n.keys.length kc) (.slice ia n.kids.length ic));have A2:=oh (zA.set4 (F:=qB F (w.heap.size+1)) ((zss w1).alloc (.cells #[.bool false,.slice ea n.entries.length ec,.slice ka n.keys.length kc,.slice ia n.kids.length ic] 200)) (R:=w.heap.size+1) (.inr (.inr rfl)) (.bool false) (.slice ea n.entries.length ec) (.slice ka n.keys.length kc) (.slice ia n.kids.length ic));have As:=oh (zA.set4 (((Ay.out.trans A4)).alloc (.cells #[.bool false,.slice ea n.entries.length ec,.slice ka n.keys.length kc,.slice ia n.kids.length ic] 200)) (R:=w.heap.size+1) (.inl (by omega)) (.bool false) (.slice ea n.entries.length ec) (.slice ka n.keys.length kc) (.slice ia n.kids.length ic));clear Ak Al Am An A4 A1;go_wp2_with fail;refine bodyPost_ret (zC rfl _ _ (w.heap.size+1) 200 #[.bool false,.slice ea n.entries.length ec,.slice ka n.keys.length kc,.slice ia n.kids.length ic] _ rfl A3.out Tryz.underlying200 rfl Tryz.nodeSize) rfl ?_;refine⟨?_,As.out⟩;rw[HD.out,A9.out];exact⟨_,_,_,by rw[zJs A9.out];rfl,Bb.out.unR A2.out,Bc.out.unR A2.out,Bd.out.unR A2.out⟩
   .have A9:=oh Ak;have Be:=(C3.out.ext A4).alloc gB;have p1:=Be.d 1 (.int .i64 pi) rfl;have Az:=HL.out.mods (A4.alloc gB).ext;have g5:=Az.c5;have C5:=oh Az;have Aq:=oh (A4.alloc gB);clear Ak hE Be Az A4;go_wp2_with fail;refine (zAF C5.out _ pi _ [] 5 (.sent 5 (by decide) (by decide))).mono ?_;rintro e w2 ⟨f2,rfl,Au,Ad⟩;have Bf:=oh Au;have A1:=Ag.out.ext (Aq.out.trans Ad);have r0:=A1.d 0 (.bool false) rfl;have r1:=A1.d 1 (.slice none 0 0) rfl;have r2:=A1.d 2 (.slice none 0 0) rfl;have r3:=A1.d 3 (.slice none 0 0) rfl;have rf:=A1.frozen;have A3:=oh (A1.set4 (.bool false) (.slice none 0 0) (.slice none 0 0) (.slice none 0 0));have A2:=oh (zA.set4 (F:=qB F (w.heap.size+1)) (zss w2) (R:=w.heap.size+1) (.inr (.inr rfl)) (.bool false) (.slice none 0 0) (.slice none 0 0) (.slice none 0 0));have As:=oh (zA.set4 (Ay.out.trans (Aq.out.trans Ad)) (R:=w.heap.size+1) (.inl (by omega)) (.bool false) (.slice none 0 0) (.slice none 0 0) (.slice none 0 0));clear Au Ad A1;go_wp2_with fail;refine bodyPost_ret (zC rfl _ _ (w.heap.size+1) 200 gB _ rfl A3.out Tryz.underlying200 rfl Tryz.nodeSize) rfl ?_;refine⟨?_,As.out⟩;rw[HD.out,A9.out];exact⟨f2,rfl,Bf.out.unR A2.out⟩
  .simp only[tU] at Bo;subst Bo
   go_enter Tryz.func247, Tryz.ntmps247
   go_wp2_with fail;refine (HG.out).mono ?_;rintro e w1 ⟨A4,⟨n,ve,vk,vi,Ak,rfl,Al,Am,An⟩|⟨Ak,f,rfl,hE⟩⟩
   .have A9:=oh Ak;obtain⟨ea,ec,rfl,_,_,_,_⟩:=_root_.id Al;obtain⟨ka,kc,rfl,_,_,_,_⟩:=_root_.id Am;obtain⟨ia,ic,rfl,_,_,_,_⟩:=_root_.id An;have Bb:=oh Al;have Bc:=oh Am;have Bd:=oh An;have Aq:=oh A4;have A1:=(Ag.out.ext A4).alloc (.cells #[.bool true,.slice ea n.entries.length ec,.slice ka n.keys.length kc,.slice ia n.kids.length ic] 200);have r0:=A1.d 0 (.bool false) rfl;have r1:=A1.d 1 (.slice none 0 0) rfl;have r2:=A1.d 2 (.slice none 0 0) rfl;have r3:=A1.d 3 (.slice none 0 0) rfl;have rf:=A1.frozen;have A3:=oh (A1.set4 (.bool true) (.slice ea n.entries.length ec) (.slice ka n.keys.length kc) (.slice ia n.kids.length ic));have A2:=oh (zA.set4 (F:=qB F (w.heap.size+1)) ((zss w1).alloc (.cells #[.bool true,.slice ea n.entries.length ec,.slice ka n.keys.length kc,.slice ia n.kids.length ic] 200)) (R:=w.heap.size+1) (.inr (.inr rfl)) (.bool true) (.slice ea n.entries.length ec) (.slice ka n.keys.length kc) (.slice ia n.kids.length ic));have As:=oh (zA.set4 (((Ay.out.trans A4)).alloc (.cells #[.bool true,.slice ea n.entries.length ec,.slice ka n.keys.length kc,.slice ia n.kids.length ic] 200)) (R:=w.heap.size+1) (.inl (by omega)) (.bool true) (.slice ea n.entries.length ec) (.slice ka n.keys.length kc) (.slice ia n.kids.length ic));clear Ak Al Am An A4 A1;go_wp2_with fail;refine bodyPost_ret (zC rfl _ _ (w.heap.size+1) 200 #[.bool true,.slice ea n.entries.length ec,.slice ka n.keys.length kc,.slice ia n.kids.length ic] _ rfl A3.out Tryz.underlying200 rfl Tryz.nodeSize) rfl ?_;refine⟨?_,As.out⟩;rw[HD.out,A9.out];exact⟨_,_,_,by rw[zJs A9.out];rfl,Bb.out.unR A2.out,Bc.out.unR A2.out,Bd.out.unR A2.out⟩
   .have A9:=oh Ak;have Be:=(C3.out.ext A4).alloc gB;have p1:=Be.d 1 (.int .i64 pi) rfl;have Az:=HL.out.mods (A4.alloc gB).ext;have g5:=Az.c5;have C5:=oh Az;have Aq:=oh (A4.alloc gB);clear Ak hE Be Az A4;go_wp2_with fail;refine (zAF C5.out _ pi _ [] 5 (.sent 5 (by decide) (by decide))).mono ?_;rintro e w2 ⟨f2,rfl,Au,Ad⟩;have Bf:=oh Au;have A1:=Ag.out.ext (Aq.out.trans Ad);have r0:=A1.d 0 (.bool false) rfl;have r1:=A1.d 1 (.slice none 0 0) rfl;have r2:=A1.d 2 (.slice none 0 0) rfl;have r3:=A1.d 3 (.slice none 0 0) rfl;have rf:=A1.frozen;have A3:=oh (A1.set4 (.bool false) (.slice none 0 0) (.slice none 0 0) (.slice none 0 0));have A2:=oh (zA.set4 (F:=qB F (w.heap.size+1)) (zss w2) (R:=w.heap.size+1) (.inr (.inr rfl)) (.bool false) (.slice none 0 0) (.slice none 0 0) (.slice none 0 0));have As:=oh (zA.set4 (Ay.out.trans (Aq.out.trans Ad)) (R:=w.heap.size+1) (.inl (by omega)) (.bool false) (.slice none 0 0) (.slice none 0 0) (.slice none 0 0));clear Au Ad A1;go_wp2_with fail;refine bodyPost_ret (zC rfl _ _ (w.heap.size+1) 200 gB _ rfl A3.out Tryz.underlying200 rfl Tryz.nodeSize) rfl ?_;refine⟨?_,As.out⟩;rw[HD.out,A9.out];exact⟨f2,rfl,Bf.out.unR A2.out⟩
 .have HD:Hid (qJ ⟨pk,pi,pg,body⟩=.inr ([zBz pi],5)):=oh (by unfold qJ;rw[if_neg h3]);have Ds:(pk != 3)=true:=bne_iff_ne.2 (λe=>h3 (.inl e));have Dt:(pk != 2)=true:=bne_iff_ne.2 (λe=>h3 (.inr e));have p1:=C3.out.d 1 (.int .i64 pi) rfl;have g5:=HL.out.c5;clear h3
  go_enter Tryz.func247, Tryz.ntmps247
  go_wp2_with fail;refine (zAF HL.out _ pi _ [] 5 (.sent 5 (by decide) (by decide))).mono ?_;rintro e w2 ⟨f2,rfl,Au,Ad⟩;have Bf:=oh Au;have A1:=Ag.out.ext (Ad);have r0:=A1.d 0 (.bool false) rfl;have r1:=A1.d 1 (.slice none 0 0) rfl;have r2:=A1.d 2 (.slice none 0 0) rfl;have r3:=A1.d 3 (.slice none 0 0) rfl;have rf:=A1.frozen;have A3:=oh (A1.set4 (.bool false) (.slice none 0 0) (.slice none 0 0) (.slice none 0 0));have A2:=oh (zA.set4 (F:=qB F (w.heap.size+1)) (zss w2) (R:=w.heap.size+1) (.inr (.inr rfl)) (.bool false) (.slice none 0 0) (.slice none 0 0) (.slice none 0 0));have As:=oh (zA.set4 (Ay.out.trans (Ad)) (R:=w.heap.size+1) (.inl (by omega)) (.bool false) (.slice none 0 0) (.slice none 0 0) (.slice none 0 0));clear Au Ad A1;go_wp2_with fail;refine bodyPost_ret (zC rfl _ _ (w.heap.size+1) 200 gB _ rfl A3.out Tryz.underlying200 rfl Tryz.nodeSize) rfl ?_;refine⟨?_,As.out⟩;rw[HD.out];exact⟨f2,rfl,Bf.out.unR A2.out⟩
end
end
section
open Go.RowKit
attribute [local go_sem ↓] Go.wp_at_zero Go.wp_at_succ
section
variable {P P' F F':NP}{ad:Nat->Addr}{w w' w2:World}{c s:Nat}{G:GA}{l:List Nat}
theorem jK.res[zQ](h:jK F w P c s G l){R:Nat}(m:zA (λk=>k=R) w w')(hR:¬ P R)(hF:F R):jK F w' P c s G l :=
 h.plus m (λ_ hk e=>hR (e ▸ hk)) (λ_ e=>e ▸ hF) (λ_ _ h=>h)
theorem zLy[zQ](hL:yH F ad w)(hP:∀k,P k->F k)(h:jK F w P c s G l)(gen:Nat)(id:Int)(hk:G.knows id) :
  Calls Tryz.prog 176 #[pgV c s gen,.int .i64 id] w (zCH F P ad w c s G l (λF' w' e=>zOB F' ad w' (G.load id) e)):=by
 have m0:zF w ((w.alloc (gP c s gen)).alloc gB):=((zss w).alloc _).alloc _;have Dc:=oh ((zG.new w (gP c s gen) 117).alloc gB);have Ag:Hid (zG ((w.alloc (gP c s gen)).alloc gB) (w.heap.size+1) gB 200):=oh (zS (by simp));have Ay:=oh m0;have HL:=oh hL;have HP:=oh hP;have HG:=oh h;have Dd:=oh hk;have Cl:¬ P (w.heap.size+1):=λhp=>by have:=h.bd _ hp;omega
 have Cm:=oh Cl;have Du:Hid (¬ P w.heap.size):=oh (λhp=>by have:=h.bd _ hp;omega);have De:=λw'=>zII (c:=c) (s:=s) (w:=w') [108,111].toByteArray gen
 clear hL hP h hk m0 Cl De;have C6:=λop w'=>zII (c:=c) (s:=s) (w:=w') op gen
 unfold pgV at C6 ⊢
 go_enter Tryz.func176, Tryz.ntmps176
 go_wp2_with fail;refine (C6 _ _).mono ?_;rintro e w1 ⟨rfl,A4⟩;have Aq:=oh (Ay.out.trans A4);have Bp:=Dc.out.ext A4;have b0:=Bp.d 0 (.pointer (some ⟨c,0,none⟩)) rfl;have Bg:Hid (zX P P F (λk=>F k\/k=w.heap.size+1) ad w w1):=oh (zX.new HL.out HP.out (Q:=λk=>k=w.heap.size+1) Aq.out (λk hk=>by omega) (λk hk=>by have:=Bp.lt;have:=(Ag.out.ext A4).lt;omega));have Df:Hid (jK (λk=>F k\/k=w.heap.size+1) w1 P c s G l):=oh (HG.out.plusNew HP.out (Q:=λk=>k=w.heap.size+1) Aq.out (λk hk=>by omega));have B6:=oh (Ag.out.ext A4);have Dv:=oh Bp;clear A4 Bp C6;go_wp2_with fail;refine (zSA Bg.out.env Bg.out.sub Df.out id Dd.out).mono ?_;rintro e w2 ⟨P2,F2,Cn,Bh,Ao⟩;have Bq:=oh Cn;have Af:=oh Bh;have Bi:=oh (Bh.blk B6.out Cm.out);have B0:Hid (¬ P2 (w.heap.size+1)):=oh (Bh.not B6.out.lt Cm.out);have A8:Hid (F2 (w.heap.size+1)):=oh (Bh.grow _ (.inr rfl));clear Cn Bh;rcases Ao with ⟨x,xv,hx,rfl,C7⟩|⟨er,f,hx,rfl,hE⟩
 .obtain⟨Dg,_,Dh⟩:=Bq.out.got hx;have Br:Hid (G.load id=match qJ x with | .inl n=>.inl n | .inr (l,k)=>.inr (-1 :: l,k)):=oh (by unfold GA.load;rw[hx];rfl);have Di:=oh C7;obtain⟨xa,xc,rfl,_,_,_,_⟩:=_root_.id C7;clear hx C7 Dg;have Co:=oh (zNJ (F:=F2) (Af.out.env.mods ((zss w2).alloc (.cells #[.int .i64 x.kind,.int .i64 x.id,.int .u64 (x.gen:Int),.slice xa x.body.length xc] 221)).ext) x _ (Di.out.ext ((zss w2).alloc _)) Dh);unfold qC at Co ⊢;go_wp2_with fail;refine (Co.out).mono ?_;rintro e w3 ⟨Ao,B5⟩;have Ar:=oh B5;clear B5;generalize Cp:qJ x=dr at Ao
  have Cq:=oh Cp;clear Cp;rcases dr with n|⟨dl,dk⟩
  .obtain⟨ve,vk,vi,rfl,Al,Am,An⟩:=Ao;obtain⟨ea,ec,rfl,_,_,_,_⟩:=_root_.id Al;obtain⟨ka,kc,rfl,_,_,_,_⟩:=_root_.id Am;obtain⟨ia,ic,rfl,_,_,_,_⟩:=_root_.id An;have Bb:=oh Al;have Bc:=oh Am;have Bd:=oh An;clear Al Am An;have A5:=(Bi.out.ext (((zss w2).alloc (.cells #[.int .i64 x.kind,.int .i64 x.id,.int .u64 (x.gen:Int),.slice xa x.body.length xc] 221)).trans Ar.out)).alloc (.cells #[.bool n.leaf,.slice ea n.entries.length ec,.slice ka n.keys.length kc,.slice ia n.kids.length ic] 200);have Ap:=zG.new w3 #[.bool n.leaf,.slice ea n.entries.length ec,.slice ka n.keys.length kc,.slice ia n.kids.length ic] 200;have x0:=Ap.d 0 (.bool n.leaf) rfl;have x1:=Ap.d 1 (.slice ea n.entries.length ec) rfl;have x2:=Ap.d 2 (.slice ka n.keys.length kc) rfl;have x3:=Ap.d 3 (.slice ia n.kids.length ic) rfl;have r0:=A5.d 0 (.bool false) rfl;have r1:=A5.d 1 (.slice none 0 0) rfl;have r2:=A5.d 2 (.slice none 0 0) rfl;have r3:=A5.d 3 (.slice none 0 0) rfl;have rf:=A5.frozen;have C8:w3.heap.size≠w.heap.size+1:=by have:=Bi.out.lt;have:=Ar.out.size;simp at this;omega
   have C9:w.heap.size+1≠w3.heap.size:=λe=>C8 e.symm
   have Bs:=oh ((((zss w2).alloc (.cells #[.int .i64 x.kind,.int .i64 x.id,.int .u64 (x.gen:Int),.slice xa x.body.length xc] 221)).trans Ar.out).alloc (.cells #[.bool n.leaf,.slice ea n.entries.length ec,.slice ka n.keys.length kc,.slice ia n.kids.length ic] 200));have Ca:=oh A5;clear A5 Ap;go_wp2_with fail;go_region_held3 (λw'=>w'.cell? ⟨w3.heap.size,0,none⟩=some (.bool n.leaf)/\w'.cell? ⟨w3.heap.size,1,none⟩=some (.slice ea n.entries.length ec)/\w'.cell? ⟨w3.heap.size,2,none⟩=some (.slice ka n.keys.length kc)/\w'.cell? ⟨w3.heap.size,3,none⟩=some (.slice ia n.kids.length ic))
    (first|(with_reducible exact⟨x0,x1,x2,x3⟩)|go_keep)
    (first
     | (go_at_call 43;(with_reducible refine (wrap_nil _ _).mono ?_);rintro e w4 ⟨rfl,rfl⟩)
     | fail)
   have A3:=oh ((Ca.out.set4 (.bool n.leaf) (.slice ea n.entries.length ec) (.slice ka n.keys.length kc) (.slice ia n.kids.length ic)).drew);have A2:=oh ((zA.set4 (F:=λk=>k=w.heap.size+1) (zA.refl _ (w3.alloc (.cells #[.bool n.leaf,.slice ea n.entries.length ec,.slice ka n.keys.length kc,.slice ia n.kids.length ic] 200))) (R:=w.heap.size+1) (.inr rfl) (.bool n.leaf) (.slice ea n.entries.length ec) (.slice ka n.keys.length kc) (.slice ia n.kids.length ic)).drew);clear x0 x1 x2 x3 r0 r1 r2 r3 rf;go_wp2_with fail;refine bodyPost_ret (zC rfl _ _ (w.heap.size+1) 200 #[.bool n.leaf,.slice ea n.entries.length ec,.slice ka n.keys.length kc,.slice ia n.kids.length ic] _ rfl A3.out Tryz.underlying200 rfl Tryz.nodeSize) rfl ?_;have Cb:=A2.out.mono (G:=F2) (λk hk=>hk ▸ A8.out);refine⟨P2,F2,(Bq.out.at Bs.out).res A2.out B0.out A8.out,((Bg.out.trans Af.out).trans (zX.ext Af.out.env Af.out.sub Bs.out)).resD A2.out (by omega) A8.out,?_⟩;rw[Br.out,Cq.out];exact⟨_,_,_,rfl,(Bb.out.ext ((zss w3).alloc _)).mods Cb,(Bc.out.ext ((zss w3).alloc _)).mods Cb,(Bd.out.ext ((zss w3).alloc _)).mods Cb⟩
  .obtain⟨f,rfl,hE⟩:=Ao;have HE:=oh hE;clear hE;have Dj:=oh (Af.out.env.mods ((((zss w2).alloc (.cells #[.int .i64 x.kind,.int .i64 x.id,.int .u64 (x.gen:Int),.slice xa x.body.length xc] 221)).trans Ar.out).alloc gB).drew.ext);have A5:=(Bi.out.ext (((zss w2).alloc (.cells #[.int .i64 x.kind,.int .i64 x.id,.int .u64 (x.gen:Int),.slice xa x.body.length xc] 221)).trans Ar.out)).alloc gB;have Ap:=zG.new w3 gB 200;have x0:=Ap.d 0 (.bool false) rfl;have x1:=Ap.d 1 (.slice none 0 0) rfl;have x2:=Ap.d 2 (.slice none 0 0) rfl;have x3:=Ap.d 3 (.slice none 0 0) rfl;have r0:=A5.d 0 (.bool false) rfl;have r1:=A5.d 1 (.slice none 0 0) rfl;have r2:=A5.d 2 (.slice none 0 0) rfl;have r3:=A5.d 3 (.slice none 0 0) rfl;have rf:=A5.frozen;have C8:w3.heap.size≠w.heap.size+1:=by have:=Bi.out.lt;have:=Ar.out.size;simp at this;omega
   have C9:w.heap.size+1≠w3.heap.size:=λe=>C8 e.symm
   have Bs:=oh ((((zss w2).alloc (.cells #[.int .i64 x.kind,.int .i64 x.id,.int .u64 (x.gen:Int),.slice xa x.body.length xc] 221)).trans Ar.out).alloc gB);have Ca:=oh A5;clear A5 Ap;go_wp2_with fail;go_region_held3 (λw'=>w'.cell? ⟨w3.heap.size,0,none⟩=some (.bool false)/\w'.cell? ⟨w3.heap.size,1,none⟩=some (.slice none 0 0)/\w'.cell? ⟨w3.heap.size,2,none⟩=some (.slice none 0 0)/\w'.cell? ⟨w3.heap.size,3,none⟩=some (.slice none 0 0))
    (first|(with_reducible exact⟨x0,x1,x2,x3⟩)|(with_reducible exact⟨y0,y1,y2,y3⟩)|go_keep)
    (first
     | (go_at_call 43;(with_reducible refine (wrap_any Dj.out _ _ _ _ (HE.out.mods ((zss w3).alloc gB).drew.ext)).mono ?_);rintro e w4 ⟨f4,rfl,Cr,B1⟩;have B2:=(Ca.out.drew).ext B1;have r0:=B2.d 0 (.bool false) rfl;have r1:=B2.d 1 (.slice none 0 0) rfl;have r2:=B2.d 2 (.slice none 0 0) rfl;have r3:=B2.d 3 (.slice none 0 0) rfl;have rf:=B2.frozen;have y0:=zE B1 x0;have y1:=zE B1 x1;have y2:=zE B1 x2;have y3:=zE B1 x3)
     | fail)
   have A3:=oh (B2.set4 (.bool false) (.slice none 0 0) (.slice none 0 0) (.slice none 0 0));have A2:=oh (zA.set4 (F:=λk=>k=w.heap.size+1) (zss w4) (R:=w.heap.size+1) (.inr rfl) (.bool false) (.slice none 0 0) (.slice none 0 0) (.slice none 0 0));have Dk:=oh Cr;have Cs:=oh (Bs.out.drew.trans B1);clear x0 x1 x2 x3 r0 r1 r2 r3 rf y0 y1 y2 y3 Cr B1 B2;go_wp2_with fail;refine bodyPost_ret (zC rfl _ _ (w.heap.size+1) 200 gB _ rfl A3.out Tryz.underlying200 rfl Tryz.nodeSize) rfl ?_;refine⟨P2,F2,(Bq.out.at Cs.out).res A2.out B0.out A8.out,((Bg.out.trans Af.out).trans (zX.ext Af.out.env Af.out.sub Cs.out)).resD A2.out (by omega) A8.out,?_⟩;rw[Br.out,Cq.out];exact⟨f4,rfl,Dk.out.mods (A2.out.mono (λk hk=>hk ▸ A8.out))⟩
 .obtain⟨el,ek⟩:=er;have Br:Hid (G.load id=.inr (-1 :: el,ek)):=oh (by unfold GA.load;rw[hx]);have HE:=oh hE;clear hx hE;simp only[qC,zH8];go_wp2_with fail;have Dl:=oh (Af.out.env.mods ((zss w2).alloc gE).ext);refine (wrap_any Dl.out _ _ _ _ (HE.out.mods ((zss w2).alloc gE).ext)).mono ?_;rintro e w3 ⟨f3,rfl,Ct,B5⟩;have A5:=Bi.out.ext (((zss w2).alloc gE).trans B5);have r0:=A5.d 0 (.bool false) rfl;have r1:=A5.d 1 (.slice none 0 0) rfl;have r2:=A5.d 2 (.slice none 0 0) rfl;have r3:=A5.d 3 (.slice none 0 0) rfl;have rf:=A5.frozen;have Dm:=oh Ct;have A3:=oh (A5.set4 (.bool false) (.slice none 0 0) (.slice none 0 0) (.slice none 0 0));have A2:=oh (zA.set4 (F:=λk=>k=w.heap.size+1) (zss w3) (R:=w.heap.size+1) (.inr rfl) (.bool false) (.slice none 0 0) (.slice none 0 0) (.slice none 0 0));have Ar:=oh (((zss w2).alloc gE).trans B5);clear Ct B5 A5;go_wp2_with fail;refine bodyPost_ret (zC rfl _ _ (w.heap.size+1) 200 gB _ rfl A3.out Tryz.underlying200 rfl Tryz.nodeSize) rfl ?_;refine⟨P2,F2,(Bq.out.at Ar.out).res A2.out B0.out A8.out,((Bg.out.trans Af.out).trans (zX.ext Af.out.env Af.out.sub Ar.out)).resD A2.out (by omega) A8.out,?_⟩;rw[Br.out];exact⟨f3,rfl,Dm.out.mods (A2.out.mono (λk hk=>hk ▸ A8.out))⟩
end
end
end Go.Proofs.YtalpfcaakpgkmaaGreatDoor
