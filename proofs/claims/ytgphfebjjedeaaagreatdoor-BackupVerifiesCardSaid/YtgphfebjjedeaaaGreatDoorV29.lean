import Derived.Deep.RegionHeld3
import Derived.Deep.RegionLawGrows
import Derived.Deep.CutBlock
import Derived.Deep.DeepCutAuto
import Derived.Test.YtgphfebjjedeaaaGreatDoorV24
import Derived.IntWalk
namespace Go.Proofs.YtgphfebjjedeaaaGreatDoor
open Lib renaming hid->oh
set_option maxHeartbeats 8000000
set_option maxRecDepth 100000
section
open Go.RowKit
attribute [local go_sem ↓] Go.wp_at_zero Go.wp_at_succ
section
variable {F:NP}{ad:Nat->Addr}{w wr w2:World}
theorem zKf(hL:yE F ad w)(bv:Value)(b:List UInt8)(hb:Sl F w 1 zO bv b)(h1000:b.length<=1000) :
  Calls Tryz.prog 244 #[.bool false,bv] w (zKY F ad w false b):=by
 have HL:=oh hL;have HS0:Hid (vX F ad w (((w.alloc gB).alloc (.cells #[bv,.int .i64 0,.bool false] 458)).alloc gB) false bv b ⟨0,false⟩ [] [] [] (.slice none 0 0) (.slice none 0 0) (.slice none 0 0) (.slice none 0 0) (.slice none 0 0) (.slice none 0 0)):=oh
  ⟨(((zss w).alloc _).alloc _).alloc _,hL,hb,by
   have:=(zK.new (w.alloc gB) #[bv,.int .i64 0,.bool false] 458).alloc gB;simpa using this,by
   have:=zK.new ((w.alloc gB).alloc (.cells #[bv,.int .i64 0,.bool false] 458)) gB 277;simpa using this,yA.nil _ _ _ _ _ _,yA.nil _ _ _ _ _ _,yA.nil _ _ _ _ _ _,((zK.new w _ _).alloc _).alloc _⟩
 have HB:=oh hb;obtain⟨mny,r0,hx⟩:∃n r1,vK b ⟨0,false⟩ 2=(n,r1):=⟨_,_,rfl⟩;have hmn:mny<=65535:=by have:=zJc b ⟨0,false⟩;rw[hx] at this;exact this
 have hr0:r0.at_=2:=by have:=zCX b ⟨0,false⟩ 2;rw[hx] at this;exact this
 obtain⟨kd,r1,hx1⟩:∃n r1,vK b r0 4=(n,r1):=⟨_,_,rfl⟩;have hr1:r1.at_=6:=by have:=zCX b r0 4;rw[hx1] at this;simp only at this;omega
 have HR0:Hid (0<=r0.at_/\r0.at_<=1000000000000):=oh (by omega);have HR1:=oh hr1;have HX:=oh hx;have HX1:=oh hx1;obtain⟨M,hM⟩:∃M,M=mny-1:=⟨_,rfl⟩;have HM:=oh hM;have HND:Hid (jZ false b=(⟨false,[],(zBf b M r1 [] [(kd:Int)]).1,(zBf b M r1 [] [(kd:Int)]).2.1⟩,(zBf b M r1 [] [(kd:Int)]).2.2)):=oh (by unfold jZ;simp only[hx,hx1,hM];rfl);have H10:=oh h1000;obtain⟨ab,cb,rfl,hb1,hb2,hb3,_⟩:=hb;clear hL hx hr0 hx1 hr1 hM;unfold maxLen at hb2
 go_enter Tryz.func244, Tryz.ntmps244
 go_wp2_with fail;refine (HS0.out.num 2 (.inr (.inl rfl)) (Int.le_refl 0) (show (0:Int)<=1000000000000 by omega) mny HX.out).mono ?_;rintro e w1 ⟨rfl,hS1,_⟩;have HS1:=oh hS1;clear hS1;have n3:=HS1.out.nd.d 3 (.slice none 0 0) rfl;go_wp2_with fail;go_cut [] (λwx=>∃(a2:Option Addr) (c2:Nat),Hid (vX F ad w wx false (.slice ab b.length cb) b r1 [] [] [(kd:Int)] (.slice none 0 0) (.slice none 0 0) (.slice a2 1 c2) (.slice none 0 0) (.slice none 0 0) (.slice a2 1 c2)))
 case first =>
  go_region_law
   (first
    | (go_simp;go_at_call 317;(refine (HS1.out.drew.num 4 (.inr (.inr rfl)) HR0.out.1 HR0.out.2 kd HX1.out).mono ?_);rintro e w2 ⟨rfl,hS2,hm2⟩;have y3:=hS2.nd.d 3 (.slice none 0 0) rfl;have y3b:=λo=>(hS2.step (zr.alloc o)).nd.d 3 (.slice none 0 0) rfl)
    | (refine zBU Tryz.elI jR (by rfl) _ _ (by rfl) (w.heap.size+3) (.slice none 0 0) _ [] [(kd:Int)] (by rfl) (by rfl) (hS2.oi.ext (zr.alloc _)) (Sl.one (F:=NoF) (zM (by simp)) (λf=>f)) (by simp) (by have:=hS2.base;simp at this ⊢;omega) (λf=>f) ?_;simp only[uD,uF,uV,wN];intro a2 c2 w5 hO5 hm5 hat5;have hS6:=(hS2.step (zr.alloc _)).appI hm5 hO5;have z3:=hS6.nd.d 3 (.slice none 0 0) rfl;have zf:=hS6.nd.frozen 3)
    | fail)
  all_goals
   have HS7:=oh (hS6.put 3 (.slice a2 1 c2) (.slice none 0 0) (.slice none 0 0) (.slice a2 1 c2) rfl);clear hS6 hO5 hm5 hat5 hS2 hm2 y3 y3b z3 zf n3;go_wp2_with fail;go_meet;exact⟨a2,c2,HS7⟩
 obtain⟨a2,c2,HS7⟩:=hcut;go_wp2_with fail;go_loopg [9] M (λm i wr=>∃(k:Nat) (at_:Int) (bd:Bool) (ks:List ByteArray) (is:List Int) (vk vi:Value),k+m=M/\i=.int .i64 k/\Hid (zBf b m ⟨at_,bd⟩ ks is=zBf b M r1 [] [(kd:Int)])/\Hid (vX F ad w wr false (.slice ab b.length cb) b ⟨at_,bd⟩ [] ks is (.slice none 0 0) vk vi (.slice none 0 0) vk vi)/\ks.length<=k/\is.length<=k+1/\0<=at_/\at_<=1020+10 * (k:Int))
 case atStart=>exact⟨0,r1.at_,r1.bad,[],[(kd:Int)],_,_,by omega,rfl,oh rfl,HS7,uJ 0,by simp,by have:=HR1.out;omega,by have:=HR1.out;omega⟩
 case round =>
  obtain⟨k,at_,bd,ks,is,vk,vi,hkm,rfl,HZ,HS,hks,his,ha0,ha1⟩:=hrel;have b2:=HS.out.box.d 2 (.bool bd) rfl;have hMM:M+1=mny\/(M=0/\mny=0):=by have:=HM.out;omega
  by_cases hgo:k<M/\bd=false
  .obtain⟨hlt,rfl⟩:=hgo;obtain⟨m,rfl⟩:∃m,gk=m+1:=⟨gk-1,by omega⟩;have hi:(k:Int)<(mny:Int)-1:=by omega
   obtain⟨key,q1,hk⟩:∃s r1,jK b ⟨at_,false⟩=(s,r1):=⟨_,_,rfl⟩;have hk1:=zEv b ⟨at_,false⟩;rw[hk] at hk1;obtain⟨q,q2,hq⟩:∃n r2,vK b q1 4=(n,r2):=⟨_,_,rfl⟩;have hq1:=zDv b q1 4 (.inr (.inr rfl));rw[hq] at hq1;simp only at hk1 hq1;have HK:=oh hk;have HQ:=oh hq;have HQR:Hid (0<=q1.at_/\q1.at_<=1000000/\0<=q2.at_/\q2.at_<=1020+10 * ((k+1:Nat):Int)):=oh (by have:=H10.out;omega);have HZ2:Hid (zBf b m q2 (ks++[key]) (is++[(q:Int)])=zBf b M r1 [] [(kd:Int)]):=oh (by
    have:=HZ.out;rw[zBf] at this;simp only[wH,tO,hk,hq] at this;exact this)
   clear HZ hk hq hk1 hq1 hMM;go_wp2_with fail;refine (HS.out.text ha0 (show at_<=1000000000000 by omega) key HK.out).mono ?_;rintro e w2 ⟨rfl,hS2,_⟩;have HS2:=oh hS2;have n2:=hS2.nd.d 2 vk rfl;have n3:=hS2.nd.d 3 vi rfl;have n2b:=λo=>(hS2.step (zr.alloc o)).nd.d 2 vk rfl
   have n3b:=λo=>(hS2.step (zr.alloc o)).nd.d 3 vi rfl
   clear hS2;have HZK:=oh hks;have HZI:=oh his;go_wp2_with fail;go_region_law
    (first
     | (go_simp;go_at_call 317;(refine (hS5.num 4 (.inr (.inr rfl)) HQR.out.1 (by have:=HQR.out;omega) q HQ.out).mono ?_);rintro e w6 ⟨rfl,hS6,hm6⟩;have y3:=hS6.nd.d 3 vi rfl;have y3b:=λo=>(hS6.step (zr.alloc o)).nd.d 3 vi rfl)
     | (refine zBU Tryz.elS zB0 (by rfl) _ _ (by rfl) (w.heap.size+3) vk _ ks [key] (by rfl) (by rfl) (HS2.out.drew.ok.ext (zr.alloc _)) (Sl.one (F:=NoF) (zM (by simp)) (λf=>f)) (by have:=HZK.out;simp only[uD,uF];omega) (by have:=HS2.out.base;simp at this ⊢;omega) (λf=>f) ?_;simp only[uD,uF,uV];intro a5 c5 w5 hO5 hm5 hat5;have hS5:=(HS2.out.drew.step (zr.alloc _)).appK hm5 hO5;have y3:=hS5.nd.d 3 vi rfl)
     | (refine zBU Tryz.elI jR (by rfl) _ _ (by rfl) (w.heap.size+3) vi _ is [(q:Int)] (by rfl) (by rfl) (hS6.oi.ext (zr.alloc _)) (Sl.one (F:=NoF) (zM (by simp)) (λf=>f)) (by have:=HZI.out;simp only[uD,uF];omega) (by have:=hS6.base;simp at this ⊢;omega) (λf=>f) ?_;simp only[uD,uF,uV];intro a7 c7 w7 hO7 hm7 hat7;have hS7:=(hS6.step (zr.alloc _)).appI hm7 hO7;have z2:=hS7.nd.d 2 vk rfl;have z3:=hS7.nd.d 3 vi rfl;have zf:=hS7.nd.frozen)
     | fail)
   all_goals
    have HS8:=oh ((hS7.put 2 (.slice a5 (ks.length+1) c5) (.slice none 0 0) (.slice a5 (ks.length+1) c5) vi rfl).put 3 (.slice a7 (is.length+1) c7) (.slice none 0 0) (.slice a5 (ks.length+1) c5) (.slice a7 (is.length+1) c7) rfl);clear hS7 hO7 hm7 hat7 hS6 hm6 hS5 hO5 hm5 hat5 n2 n3 n2b n3b z2 z3 zf y3 y3b;go_wp2_with fail;go_roundg m
    case measure=>omega
    case rel=>exact⟨k+1,q2.at_,q2.bad,ks++[key],is++[(q:Int)],_,_,by omega,by go_num,HZ2,HS8,by rw[uC,uD,uF];omega,by rw[uC,uD,uF];omega,HQR.out.2.2.1,HQR.out.2.2.2⟩
  .have HEND:Hid (zBf b M r1 [] [(kd:Int)]=(ks,is,⟨at_,bd⟩)):=oh (by
    rw[<- HZ.out];cases gk with
    | zero=>rfl
    | succ m =>
     rw[zBf];have:bd=true:=by
      cases bd
      .exact absurd ⟨by omega,rfl⟩ hgo
      .rfl
     rw[this];rfl)
   have HNN:Hid (jZ false b=(⟨false,[],ks,is⟩,⟨at_,bd⟩)):=oh (by rw[HND.out,HEND.out]);have HGN:Hid (zEM false b=if bd=false/\zQ ⟨false,[],ks,is⟩=true/\yB ⟨false,[],ks,is⟩=b then some ⟨false,[],ks,is⟩ else none):=oh (by unfold zEM;simp only[HNN.out]);obtain⟨pk,kc,rfl,hpk1,hpk2⟩:=HS.out.ok.form;obtain⟨pi,ic,rfl,hpi1,hpi2⟩:=HS.out.oi.form;unfold maxLen at hpk2 hpi2;have hlen:zQ ⟨false,[],ks,is⟩=true->(yB ⟨false,[],ks,is⟩).length<=100000:=λhr=>by
    have:=zF4 false b H10.out;rw[HNN.out] at this;exact this hr
   have HPUT:=oh (zEf (F:=GB F w) HS.out.env ⟨false,[],ks,is⟩ (.slice none 0 0) (.slice pk ks.length kc) (.slice pi is.length ic) (Sl.nil _ _ _ _) (HS.out.slK HS.out.gb (by omega)) (HS.out.slI HS.out.gb (by omega)) hlen);have n0:=HS.out.nd.d 0 (.bool false) rfl;have n1:=HS.out.nd.d 1 (.slice none 0 0) rfl;have n2:=HS.out.nd.d 2 (.slice pk ks.length kc) rfl;have n3:=HS.out.nd.d 3 (.slice pi is.length ic) rfl;have hcase:((k:Int)<(mny:Int)-1/\bd=true)\/(¬ ((k:Int)<(mny:Int)-1)/\bd=true)\/(¬ ((k:Int)<(mny:Int)-1)/\bd=false):=by
    by_cases h1:(k:Int)<(mny:Int)-1
    .cases bd
     .exact absurd ⟨by omega,rfl⟩ hgo
     .exact .inl ⟨h1,rfl⟩
    .cases bd
     .exact .inr (.inr ⟨h1,rfl⟩)
     .exact .inr (.inl ⟨h1,rfl⟩)
   have HLEN:=oh hlen;have hkl:ks.length<=70000/\is.length<=70000:=by omega
   obtain⟨hkl1,hkl2⟩:=hkl;clear HZ HEND hlen hgo hMM;rcases hcase with ⟨hlt,rfl⟩|⟨hlt,rfl⟩|⟨hlt,rfl⟩
   .go_wp2_with fail;refine (HPUT.out).mono ?_;rintro e w6 hP;obtain⟨hx6,hP⟩:=hP;have HS6:=oh (HS.out.step hx6);clear hx6;rcases hP with ⟨_,a6,c6,rfl,_⟩|⟨_,f6,rfl,_⟩
    all_goals
     have b2c:=HS6.out.box.d 2 (.bool true) rfl;have g1:=HS6.out.env.c1;go_wp2_with fail;refine (yR HS6.out.env _ _ [] 1 (.sent 1 (by decide) (by decide))).mono ?_;rintro e w7 ⟨f7,rfl,hE7,hm7⟩;have hS7:=HS6.out.step hm7;have r0:=hS7.res.d 0 (.bool false) rfl;have r1:=hS7.res.d 1 (.slice none 0 0) rfl;have r2:=hS7.res.d 2 (.slice none 0 0) rfl;have r3:=hS7.res.d 3 (.slice none 0 0) rfl;have rf:=hS7.res.frozen;have HS7:=oh hS7;have HE7:=oh hE7;have HRB:=oh (hS7.res.set4 (.bool false) (.slice none 0 0) (.slice none 0 0) (.slice none 0 0));clear hS7 hE7 hm7;go_wp2_with fail;refine bodyPost_ret (zF rfl _ _ w.heap.size 277 gB _ rfl HRB.out Tryz.underlying277 rfl Tryz.nodeSize) rfl ?_;exact⟨zA.set4 HS7.out.ext (.inl (uJ _)) _ _ _ _,.inr ⟨by rw[HGN.out];exact if_neg (λh=>by have:=h.1;cases this),f7,rfl,HE7.out.step (zA.set4 (zss w7) (.inr (.inr ⟨uJ _,by omega⟩)) _ _ _ _) (λk _ hn hf=>hn (.inl hf))⟩⟩
   .go_wp2_with fail;refine (HPUT.out).mono ?_;rintro e w6 hP;obtain⟨hx6,hP⟩:=hP;have HS6:=oh (HS.out.step hx6);clear hx6;rcases hP with ⟨_,a6,c6,rfl,_⟩|⟨_,f6,rfl,_⟩
    all_goals
     have b2c:=HS6.out.box.d 2 (.bool true) rfl;have g1:=HS6.out.env.c1;go_wp2_with fail;refine (yR HS6.out.env _ _ [] 1 (.sent 1 (by decide) (by decide))).mono ?_;rintro e w7 ⟨f7,rfl,hE7,hm7⟩;have hS7:=HS6.out.step hm7;have r0:=hS7.res.d 0 (.bool false) rfl;have r1:=hS7.res.d 1 (.slice none 0 0) rfl;have r2:=hS7.res.d 2 (.slice none 0 0) rfl;have r3:=hS7.res.d 3 (.slice none 0 0) rfl;have rf:=hS7.res.frozen;have HS7:=oh hS7;have HE7:=oh hE7;have HRB:=oh (hS7.res.set4 (.bool false) (.slice none 0 0) (.slice none 0 0) (.slice none 0 0));clear hS7 hE7 hm7;go_wp2_with fail;refine bodyPost_ret (zF rfl _ _ w.heap.size 277 gB _ rfl HRB.out Tryz.underlying277 rfl Tryz.nodeSize) rfl ?_;exact⟨zA.set4 HS7.out.ext (.inl (uJ _)) _ _ _ _,.inr ⟨by rw[HGN.out];exact if_neg (λh=>by have:=h.1;cases this),f7,rfl,HE7.out.step (zA.set4 (zss w7) (.inr (.inr ⟨uJ _,by omega⟩)) _ _ _ _) (λk _ hn hf=>hn (.inl hf))⟩⟩
   .have hlen:=HLEN.out;go_wp2_with fail;refine (HPUT.out).mono ?_;rintro e w6 hP;obtain⟨hx6,hP⟩:=hP;have HS6:=oh (HS.out.step hx6);clear hx6;rcases hP with ⟨hrt,a6,c6,rfl,hO6⟩|⟨hrt,f6,rfl,hE6⟩
    .have HRT:=oh hrt;have HSL6:=oh (yA.sl (F:=NoF) hO6 yU.len (by have:=hlen hrt;omega));clear hrt hO6 hlen;have b2b:=HS6.out.box.d 2 (.bool false) rfl;go_wp2_with fail;refine (zCx (F:=NoF) (G:=F) _ _ _ b HSL6.out (HB.out.ext HS6.out.ext)).mono ?_;rintro e w8 ⟨rfl,hm8⟩;have HS8:=oh (HS6.out.step hm8);clear hm8;by_cases heq:yB ⟨false,[],ks,is⟩=b
     .rw[uU heq];have HEQ:=oh heq;clear heq;have n0:=HS8.out.nd.d 0 (.bool false) rfl;have n1:=HS8.out.nd.d 1 (.slice none 0 0) rfl;have n2:=HS8.out.nd.d 2 (.slice pk ks.length kc) rfl;have n3:=HS8.out.nd.d 3 (.slice pi is.length ic) rfl;have r0:=HS8.out.res.d 0 (.bool false) rfl;have r1:=HS8.out.res.d 1 (.slice none 0 0) rfl;have r2:=HS8.out.res.d 2 (.slice none 0 0) rfl;have r3:=HS8.out.res.d 3 (.slice none 0 0) rfl;have rf:=HS8.out.res.frozen;have HRB:=oh (HS8.out.res.set4 (.bool false) (.slice none 0 0) (.slice pk ks.length kc) (.slice pi is.length ic));have HMR:=oh (zA.set4 (F:=λk=>k=w.heap.size) (zss w8) (.inr rfl) (.bool false) (.slice none 0 0) (.slice pk ks.length kc) (.slice pi is.length ic));go_wp2_with fail;refine bodyPost_ret (zF rfl _ _ w.heap.size 277 #[.bool false,.slice none 0 0,.slice pk ks.length kc,.slice pi is.length ic] _ rfl HRB.out Tryz.underlying277 rfl Tryz.nodeSize) rfl ?_;refine⟨zA.set4 HS8.out.ext (.inl (uJ _)) _ _ _ _,.inl ⟨⟨false,[],ks,is⟩,.slice none 0 0,.slice pk ks.length kc,.slice pi is.length ic,by rw[HGN.out];exact if_pos (by first|exact⟨rfl,HRT.out,HEQ.out⟩|exact⟨trivial,HRT.out,HEQ.out⟩),rfl,?_,?_,?_⟩⟩
      .exact (HS8.out.slE (G:=GB F w) HS8.out.gb (by simp)).step (HMR.out.mono (λk (hk:k=w.heap.size)=>.inr ⟨by omega,by omega⟩)) (λk _ hn hf=>hn (.inl hf))
      .exact (HS8.out.slK (G:=GB F w) HS8.out.gb (by omega)).step (HMR.out.mono (λk (hk:k=w.heap.size)=>.inr ⟨by omega,by omega⟩)) (λk _ hn hf=>hn (.inl hf))
      .exact (HS8.out.slI (G:=GB F w) HS8.out.gb (by omega)).step (HMR.out.mono (λk (hk:k=w.heap.size)=>.inr ⟨by omega,by omega⟩)) (λk _ hn hf=>hn (.inl hf))
     .rw[uX heq];have HEQ:=oh heq;clear heq;have HS6:=HS8;have b2c:=HS6.out.box.d 2 (.bool false) rfl;have g1:=HS6.out.env.c1;go_wp2_with fail;refine (yR HS6.out.env _ _ [] 1 (.sent 1 (by decide) (by decide))).mono ?_;rintro e w7 ⟨f7,rfl,hE7,hm7⟩;have hS7:=HS6.out.step hm7;have r0:=hS7.res.d 0 (.bool false) rfl;have r1:=hS7.res.d 1 (.slice none 0 0) rfl;have r2:=hS7.res.d 2 (.slice none 0 0) rfl;have r3:=hS7.res.d 3 (.slice none 0 0) rfl;have rf:=hS7.res.frozen;have HS7:=oh hS7;have HE7:=oh hE7;have HRB:=oh (hS7.res.set4 (.bool false) (.slice none 0 0) (.slice none 0 0) (.slice none 0 0));clear hS7 hE7 hm7;go_wp2_with fail;refine bodyPost_ret (zF rfl _ _ w.heap.size 277 gB _ rfl HRB.out Tryz.underlying277 rfl Tryz.nodeSize) rfl ?_;exact⟨zA.set4 HS7.out.ext (.inl (uJ _)) _ _ _ _,.inr ⟨by rw[HGN.out];exact if_neg (λh=>HEQ.out h.2.2),f7,rfl,HE7.out.step (zA.set4 (zss w7) (.inr (.inr ⟨uJ _,by omega⟩)) _ _ _ _) (λk _ hn hf=>hn (.inl hf))⟩⟩
    .have HRT:=oh hrt;clear hrt hE6;have b2c:=HS6.out.box.d 2 (.bool false) rfl;have g1:=HS6.out.env.c1;go_wp2_with fail;refine (yR HS6.out.env _ _ [] 1 (.sent 1 (by decide) (by decide))).mono ?_;rintro e w7 ⟨f7,rfl,hE7,hm7⟩;have hS7:=HS6.out.step hm7;have r0:=hS7.res.d 0 (.bool false) rfl;have r1:=hS7.res.d 1 (.slice none 0 0) rfl;have r2:=hS7.res.d 2 (.slice none 0 0) rfl;have r3:=hS7.res.d 3 (.slice none 0 0) rfl;have rf:=hS7.res.frozen;have HS7:=oh hS7;have HE7:=oh hE7;have HRB:=oh (hS7.res.set4 (.bool false) (.slice none 0 0) (.slice none 0 0) (.slice none 0 0));clear hS7 hE7 hm7;go_wp2_with fail;refine bodyPost_ret (zF rfl _ _ w.heap.size 277 gB _ rfl HRB.out Tryz.underlying277 rfl Tryz.nodeSize) rfl ?_;exact⟨zA.set4 HS7.out.ext (.inl (uJ _)) _ _ _ _,.inr ⟨by rw[HGN.out];exact if_neg (λh=>by have:=h.2.1;rw[HRT.out] at this;cases this),f7,rfl,HE7.out.step (zA.set4 (zss w7) (.inr (.inr ⟨uJ _,by omega⟩)) _ _ _ _) (λk _ hn hf=>hn (.inl hf))⟩⟩
end
end
section
open Go.RowKit
abbrev zTJ:Value:=.agg gB
def zOK(F:NP)(ad:Nat->Addr)(w':World)(r:zJ ⊕ Err)(e:Ending):Prop :=
 match r with
 | .inl n=>∃ve vk vi,e=.returned (.tuple #[.agg #[.bool n.leaf,ve,vk,vi],.nilIface])/\Sl F w' 4 jW ve n.entries/\Sl F w' 1 vQ vk n.keys/\Sl F w' 1 yL vi n.kids
 | .inr (l,k)=>∃f,e=.returned (.tuple #[zTJ,zI f])/\yN F ad w' (zI f) l k
section
variable {F G:NP}{ad:Nat->Addr}{w w':World}
theorem yE.plusX(h:yE F ad w)(m:zG w w'){X:Nat}(h1:w.heap.size<=X)(h2:X<w'.heap.size):yE (yD F X) ad w' :=
 h.step m.ext (λk hk hn hg=>hg.elim hn (λe=>by omega)) (λk hg=>hg.elim (λhf=>uG (h.lt k hf) m.size) (λe=>by omega))
theorem Sl.plusX{α:Type}{sz:Nat}{enc:α->List Value}{v:Value}{l:List α}(h:Sl F w sz enc v l)(m:zG w w'){X:Nat}(h1:w.heap.size<=X):Sl (yD F X) w' sz enc v l :=
 h.step m.ext (λk hk hn hg=>hg.elim hn (λe=>by omega))
theorem zLy(hL:yE F ad w)(lf:Bool)(bv:Value)(b:List UInt8)(hb:Sl F w 1 zO bv b)(h1000:b.length<=1000) :
  Calls Tryz.prog 244 #[.bool lf,bv] w (zKY F ad w lf b):=by
 cases lf
 .exact zKf hL bv b hb h1000
 .exact zKZ hL bv b hb h1000
theorem zJo{lf:Bool}{b:List UInt8}{n:zJ}(h:zEM lf b=some n):n.leaf=lf:=by
 unfold zEM at h;simp only at h;split at h
 .injection h with h;subst h;exact zG8 lf b
 .cases h
theorem zNT(hL:yE F ad w)(p:yF)(bv:Value)(hb:Sl F w 1 zO bv p.body)(hl:p.body.length<=1000) :
  Calls Tryz.prog 301 #[qF p bv] w λe w'=>zOK F ad w' (zAf p) e/\zG w w':=by
 obtain⟨pk,pi,pg,body⟩:=p;simp only at hb hl;unfold qF;have m0:zG w ((w.alloc (.cells #[.int .i64 pk,.int .i64 pi,.int .u64 (pg:Int),bv] 272)).alloc gB):=((zss w).alloc _).alloc _;have HL:=oh (hL.plusX m0 (X:=w.heap.size+1) (by omega) (by simp));have HS:=oh (hb.plusX m0 (X:=w.heap.size+1) (by omega));have HP0:=oh ((zK.new w #[.int .i64 pk,.int .i64 pi,.int .u64 (pg:Int),bv] 272).alloc gB);have HR0:Hid (zK ((w.alloc (.cells #[.int .i64 pk,.int .i64 pi,.int .u64 (pg:Int),bv] 272)).alloc gB) (w.heap.size+1) gB 277):=oh (zM (by simp));have HM0:=oh m0;obtain⟨ba,bc,rfl,_,_,_,_⟩:=hb;clear hL m0;by_cases h3:pk=3\/pk=2
 .obtain⟨lf,hlf⟩:∃lf,lf=decide (pk=3):=⟨_,rfl⟩;have HD:Hid (zAf ⟨pk,pi,pg,body⟩=match zEM lf body with|some n=>.inl n|none=>.inr ([zBq pi],5)):=oh (by unfold zAf;simp only[if_pos h3,hlf];rfl);have HG:=oh (zLy HL.out lf _ body HS.out hl);have hpk:pk=if lf then 3 else 2:=by
   rcases h3 with rfl|rfl <;> (subst hlf;rfl)
  clear h3 hlf;cases lf
  .simp only[tO,wH] at hpk;subst hpk
   go_enter Tryz.func301, Tryz.ntmps301
   go_wp2_with fail;refine (HG.out).mono ?_;rintro e w1 ⟨hm1,⟨n,ve,vk,vi,hgn,rfl,hse,hsk,hsi⟩|⟨hgn,f,rfl,hE⟩⟩
   .have HGN:=oh hgn;obtain⟨ea,ec,rfl,_,_,_,_⟩:=_root_.id hse;obtain⟨ka,kc,rfl,_,_,_,_⟩:=_root_.id hsk;obtain⟨ia,ic,rfl,_,_,_,_⟩:=_root_.id hsi;have HSE:=oh hse;have HSK:=oh hsk;have HSI:=oh hsi;have HM1:=oh hm1;have hR1:=(HR0.out.ext hm1).alloc (.cells #[.bool false,.slice ea n.entries.length ec,.slice ka n.keys.length kc,.slice ia n.kids.length ic] 277);have r0:=hR1.d 0 (.bool false) rfl;have r1:=hR1.d 1 (.slice none 0 0) rfl;have r2:=hR1.d 2 (.slice none 0 0) rfl;have r3:=hR1.d 3 (.slice none 0 0) rfl;have rf:=hR1.frozen;have HRB:=oh (hR1.set4 (.bool false) (.slice ea n.entries.length ec) (.slice ka n.keys.length kc) (.slice ia n.kids.length ic));have HMR:=oh (zA.set4 (F:=yD F (w.heap.size+1)) ((zss w1).alloc (.cells #[.bool false,.slice ea n.entries.length ec,.slice ka n.keys.length kc,.slice ia n.kids.length ic] 277)) (R:=w.heap.size+1) (.inr (.inr rfl)) (.bool false) (.slice ea n.entries.length ec) (.slice ka n.keys.length kc) (.slice ia n.kids.length ic));have HMX:=oh (zA.set4 (((HM0.out.trans hm1)).alloc (.cells #[.bool false,.slice ea n.entries.length ec,.slice ka n.keys.length kc,.slice ia n.kids.length ic] 277)) (R:=w.heap.size+1) (.inl (by omega)) (.bool false) (.slice ea n.entries.length ec) (.slice ka n.keys.length kc) (.slice ia n.kids.length ic));clear hgn hse hsk hsi hm1 hR1;go_wp2_with fail;refine bodyPost_ret (zF rfl _ _ (w.heap.size+1) 277 #[.bool false,.slice ea n.entries.length ec,.slice ka n.keys.length kc,.slice ia n.kids.length ic] _ rfl HRB.out Tryz.underlying277 rfl Tryz.nodeSize) rfl ?_;refine⟨?_,HMX.out⟩;rw[HD.out,HGN.out];exact⟨_,_,_,by rw[zJo HGN.out];rfl,HSE.out.unR HMR.out,HSK.out.unR HMR.out,HSI.out.unR HMR.out⟩
   .have HGN:=oh hgn;have hP1:=(HP0.out.ext hm1).alloc gB;have p1:=hP1.d 1 (.int .i64 pi) rfl;have hL1:=HL.out.mods (hm1.alloc gB).ext;have g5:=hL1.c5;have HL1:=oh hL1;have HM1:=oh (hm1.alloc gB);clear hgn hE hP1 hL1 hm1;go_wp2_with fail;refine (jY HL1.out _ pi _ [] 5 (.sent 5 (by decide) (by decide))).mono ?_;rintro e w2 ⟨f2,rfl,hE2,hm2⟩;have HE2:=oh hE2;have hR1:=HR0.out.ext (HM1.out.trans hm2);have r0:=hR1.d 0 (.bool false) rfl;have r1:=hR1.d 1 (.slice none 0 0) rfl;have r2:=hR1.d 2 (.slice none 0 0) rfl;have r3:=hR1.d 3 (.slice none 0 0) rfl;have rf:=hR1.frozen;have HRB:=oh (hR1.set4 (.bool false) (.slice none 0 0) (.slice none 0 0) (.slice none 0 0));have HMR:=oh (zA.set4 (F:=yD F (w.heap.size+1)) (zss w2) (R:=w.heap.size+1) (.inr (.inr rfl)) (.bool false) (.slice none 0 0) (.slice none 0 0) (.slice none 0 0));have HMX:=oh (zA.set4 (HM0.out.trans (HM1.out.trans hm2)) (R:=w.heap.size+1) (.inl (by omega)) (.bool false) (.slice none 0 0) (.slice none 0 0) (.slice none 0 0));clear hE2 hm2 hR1;go_wp2_with fail;refine bodyPost_ret (zF rfl _ _ (w.heap.size+1) 277 gB _ rfl HRB.out Tryz.underlying277 rfl Tryz.nodeSize) rfl ?_;refine⟨?_,HMX.out⟩;rw[HD.out,HGN.out];exact⟨f2,rfl,HE2.out.unR HMR.out⟩
  .simp only[tY] at hpk;subst hpk
   go_enter Tryz.func301, Tryz.ntmps301
   go_wp2_with fail;refine (HG.out).mono ?_;rintro e w1 ⟨hm1,⟨n,ve,vk,vi,hgn,rfl,hse,hsk,hsi⟩|⟨hgn,f,rfl,hE⟩⟩
   .have HGN:=oh hgn;obtain⟨ea,ec,rfl,_,_,_,_⟩:=_root_.id hse;obtain⟨ka,kc,rfl,_,_,_,_⟩:=_root_.id hsk;obtain⟨ia,ic,rfl,_,_,_,_⟩:=_root_.id hsi;have HSE:=oh hse;have HSK:=oh hsk;have HSI:=oh hsi;have HM1:=oh hm1;have hR1:=(HR0.out.ext hm1).alloc (.cells #[.bool true,.slice ea n.entries.length ec,.slice ka n.keys.length kc,.slice ia n.kids.length ic] 277);have r0:=hR1.d 0 (.bool false) rfl;have r1:=hR1.d 1 (.slice none 0 0) rfl;have r2:=hR1.d 2 (.slice none 0 0) rfl;have r3:=hR1.d 3 (.slice none 0 0) rfl;have rf:=hR1.frozen;have HRB:=oh (hR1.set4 (.bool true) (.slice ea n.entries.length ec) (.slice ka n.keys.length kc) (.slice ia n.kids.length ic));have HMR:=oh (zA.set4 (F:=yD F (w.heap.size+1)) ((zss w1).alloc (.cells #[.bool true,.slice ea n.entries.length ec,.slice ka n.keys.length kc,.slice ia n.kids.length ic] 277)) (R:=w.heap.size+1) (.inr (.inr rfl)) (.bool true) (.slice ea n.entries.length ec) (.slice ka n.keys.length kc) (.slice ia n.kids.length ic));have HMX:=oh (zA.set4 (((HM0.out.trans hm1)).alloc (.cells #[.bool true,.slice ea n.entries.length ec,.slice ka n.keys.length kc,.slice ia n.kids.length ic] 277)) (R:=w.heap.size+1) (.inl (by omega)) (.bool true) (.slice ea n.entries.length ec) (.slice ka n.keys.length kc) (.slice ia n.kids.length ic));clear hgn hse hsk hsi hm1 hR1;go_wp2_with fail;refine bodyPost_ret (zF rfl _ _ (w.heap.size+1) 277 #[.bool true,.slice ea n.entries.length ec,.slice ka n.keys.length kc,.slice ia n.kids.length ic] _ rfl HRB.out Tryz.underlying277 rfl Tryz.nodeSize) rfl ?_;refine⟨?_,HMX.out⟩;rw[HD.out,HGN.out];exact⟨_,_,_,by rw[zJo HGN.out];rfl,HSE.out.unR HMR.out,HSK.out.unR HMR.out,HSI.out.unR HMR.out⟩
   .have HGN:=oh hgn;have hP1:=(HP0.out.ext hm1).alloc gB;have p1:=hP1.d 1 (.int .i64 pi) rfl;have hL1:=HL.out.mods (hm1.alloc gB).ext;have g5:=hL1.c5;have HL1:=oh hL1;have HM1:=oh (hm1.alloc gB);clear hgn hE hP1 hL1 hm1;go_wp2_with fail;refine (jY HL1.out _ pi _ [] 5 (.sent 5 (by decide) (by decide))).mono ?_;rintro e w2 ⟨f2,rfl,hE2,hm2⟩;have HE2:=oh hE2;have hR1:=HR0.out.ext (HM1.out.trans hm2);have r0:=hR1.d 0 (.bool false) rfl;have r1:=hR1.d 1 (.slice none 0 0) rfl;have r2:=hR1.d 2 (.slice none 0 0) rfl;have r3:=hR1.d 3 (.slice none 0 0) rfl;have rf:=hR1.frozen;have HRB:=oh (hR1.set4 (.bool false) (.slice none 0 0) (.slice none 0 0) (.slice none 0 0));have HMR:=oh (zA.set4 (F:=yD F (w.heap.size+1)) (zss w2) (R:=w.heap.size+1) (.inr (.inr rfl)) (.bool false) (.slice none 0 0) (.slice none 0 0) (.slice none 0 0));have HMX:=oh (zA.set4 (HM0.out.trans (HM1.out.trans hm2)) (R:=w.heap.size+1) (.inl (by omega)) (.bool false) (.slice none 0 0) (.slice none 0 0) (.slice none 0 0));clear hE2 hm2 hR1;go_wp2_with fail;refine bodyPost_ret (zF rfl _ _ (w.heap.size+1) 277 gB _ rfl HRB.out Tryz.underlying277 rfl Tryz.nodeSize) rfl ?_;refine⟨?_,HMX.out⟩;rw[HD.out,HGN.out];exact⟨f2,rfl,HE2.out.unR HMR.out⟩
 .have HD:Hid (zAf ⟨pk,pi,pg,body⟩=.inr ([zBq pi],5)):=oh (by unfold zAf;rw[if_neg h3]);have h31:(pk != 3)=true:=bne_iff_ne.2 (λe=>h3 (.inl e));have h32:(pk != 2)=true:=bne_iff_ne.2 (λe=>h3 (.inr e));have p1:=HP0.out.d 1 (.int .i64 pi) rfl;have g5:=HL.out.c5;clear h3
  go_enter Tryz.func301, Tryz.ntmps301
  go_wp2_with fail;refine (jY HL.out _ pi _ [] 5 (.sent 5 (by decide) (by decide))).mono ?_;rintro e w2 ⟨f2,rfl,hE2,hm2⟩;have HE2:=oh hE2;have hR1:=HR0.out.ext (hm2);have r0:=hR1.d 0 (.bool false) rfl;have r1:=hR1.d 1 (.slice none 0 0) rfl;have r2:=hR1.d 2 (.slice none 0 0) rfl;have r3:=hR1.d 3 (.slice none 0 0) rfl;have rf:=hR1.frozen;have HRB:=oh (hR1.set4 (.bool false) (.slice none 0 0) (.slice none 0 0) (.slice none 0 0));have HMR:=oh (zA.set4 (F:=yD F (w.heap.size+1)) (zss w2) (R:=w.heap.size+1) (.inr (.inr rfl)) (.bool false) (.slice none 0 0) (.slice none 0 0) (.slice none 0 0));have HMX:=oh (zA.set4 (HM0.out.trans (hm2)) (R:=w.heap.size+1) (.inl (by omega)) (.bool false) (.slice none 0 0) (.slice none 0 0) (.slice none 0 0));clear hE2 hm2 hR1;go_wp2_with fail;refine bodyPost_ret (zF rfl _ _ (w.heap.size+1) 277 gB _ rfl HRB.out Tryz.underlying277 rfl Tryz.nodeSize) rfl ?_;refine⟨?_,HMX.out⟩;rw[HD.out];exact⟨f2,rfl,HE2.out.unR HMR.out⟩
end
end
section
open Go.RowKit
attribute [local go_sem ↓] Go.wp_at_zero Go.wp_at_succ
section
variable {P P' F F':NP}{ad:Nat->Addr}{w w' w2:World}{c s:Nat}{G:GA}{l:List Nat}
theorem vJ.res(h:vJ F w P c s G l){R:Nat}(m:zA (λk=>k=R) w w')(hR:¬ P R)(hF:F R):vJ F w' P c s G l :=
 h.plus m (λ_ hk e=>hR (e ▸ hk)) (λ_ e=>e ▸ hF) (λ_ _ h=>h)
theorem zLz(hL:yE F ad w)(hP:∀k,P k->F k)(h:vJ F w P c s G l)(gen:Nat)(id:Int)(hk:G.knows id) :
  Calls Tryz.prog 259 #[pgV c s gen,.int .i64 id] w (zCb F P ad w c s G l (λF' w' e=>zOK F' ad w' (G.load id) e)):=by
 have m0:zG w ((w.alloc (gP c s gen)).alloc gB):=((zss w).alloc _).alloc _;have HB0:=oh ((zK.new w (gP c s gen) 140).alloc gB);have HR0:Hid (zK ((w.alloc (gP c s gen)).alloc gB) (w.heap.size+1) gB 277):=oh (zM (by simp));have HM0:=oh m0;have HL:=oh hL;have HP:=oh hP;have HG:=oh h;have HKN:=oh hk;have hRP:¬ P (w.heap.size+1):=λhp=>by have:=h.bd _ hp;omega
 have HRP:=oh hRP;have HBP:Hid (¬ P w.heap.size):=oh (λhp=>by have:=h.bd _ hp;omega);have HRD:=λw'=>zLU (c:=c) (s:=s) (w:=w') [108,111].toByteArray gen
 clear hL hP h hk m0 hRP HRD;have HRY:=λop w'=>zLU (c:=c) (s:=s) (w:=w') op gen
 unfold pgV at HRY ⊢
 go_enter Tryz.func259, Tryz.ntmps259
 go_wp2_with fail;refine (HRY _ _).mono ?_;rintro e w1 ⟨rfl,hm1⟩;have HM1:=oh (HM0.out.trans hm1);have hB1:=HB0.out.ext hm1;have b0:=hB1.d 0 (.pointer (some ⟨c,0,none⟩)) rfl;have HN1:Hid (zU P P F (λk=>F k\/k=w.heap.size+1) ad w w1):=oh (zU.new HL.out HP.out (Q:=λk=>k=w.heap.size+1) HM1.out (λk hk=>by omega) (λk hk=>by have:=hB1.lt;have:=(HR0.out.ext hm1).lt;omega));have HG1:Hid (vJ (λk=>F k\/k=w.heap.size+1) w1 P c s G l):=oh (HG.out.plusNew HP.out (Q:=λk=>k=w.heap.size+1) HM1.out (λk hk=>by omega));have HR1:=oh (HR0.out.ext hm1);have HB1:=oh hB1;clear hm1 hB1 HRY;go_wp2_with fail;refine (zSP HN1.out.env HN1.out.sub HG1.out id HKN.out).mono ?_;rintro e w2 ⟨P2,F2,hG2,hN2,hres⟩;have HG2:=oh hG2;have HN2:=oh hN2;have HR2:=oh (hN2.blk HR1.out HRP.out);have HRP2:Hid (¬ P2 (w.heap.size+1)):=oh (hN2.not HR1.out.lt HRP.out);have HRF2:Hid (F2 (w.heap.size+1)):=oh (hN2.grow _ (.inr rfl));clear hG2 hN2;rcases hres with ⟨x,xv,hx,rfl,hxv⟩|⟨er,f,hx,rfl,hE⟩
 .obtain⟨hxi,_,hxl⟩:=HG2.out.got hx;have HLD:Hid (G.load id=match zAf x with | .inl n=>.inl n | .inr (l,k)=>.inr (-1 :: l,k)):=oh (by unfold GA.load;rw[hx];rfl);have HXV:=oh hxv;obtain⟨xa,xc,rfl,_,_,_,_⟩:=_root_.id hxv;clear hx hxv hxi;have HDC:=oh (zNT (F:=F2) (HN2.out.env.mods ((zss w2).alloc (.cells #[.int .i64 x.kind,.int .i64 x.id,.int .u64 (x.gen:Int),.slice xa x.body.length xc] 272)).ext) x _ (HXV.out.ext ((zss w2).alloc _)) hxl);unfold qF at HDC ⊢;go_wp2_with fail;refine (HDC.out).mono ?_;rintro e w3 ⟨hres,hm3⟩;have HM3:=oh hm3;clear hm3;generalize hdc:zAf x=dr at hres
  have HDR:=oh hdc;clear hdc;rcases dr with n|⟨dl,dk⟩
  .obtain⟨ve,vk,vi,rfl,hse,hsk,hsi⟩:=hres;obtain⟨ea,ec,rfl,_,_,_,_⟩:=_root_.id hse;obtain⟨ka,kc,rfl,_,_,_,_⟩:=_root_.id hsk;obtain⟨ia,ic,rfl,_,_,_,_⟩:=_root_.id hsi;have HSE:=oh hse;have HSK:=oh hsk;have HSI:=oh hsi;clear hse hsk hsi;have hR3:=(HR2.out.ext (((zss w2).alloc (.cells #[.int .i64 x.kind,.int .i64 x.id,.int .u64 (x.gen:Int),.slice xa x.body.length xc] 272)).trans HM3.out)).alloc (.cells #[.bool n.leaf,.slice ea n.entries.length ec,.slice ka n.keys.length kc,.slice ia n.kids.length ic] 277);have hX3:=zK.new w3 #[.bool n.leaf,.slice ea n.entries.length ec,.slice ka n.keys.length kc,.slice ia n.kids.length ic] 277;have x0:=hX3.d 0 (.bool n.leaf) rfl;have x1:=hX3.d 1 (.slice ea n.entries.length ec) rfl;have x2:=hX3.d 2 (.slice ka n.keys.length kc) rfl;have x3:=hX3.d 3 (.slice ia n.kids.length ic) rfl;have r0:=hR3.d 0 (.bool false) rfl;have r1:=hR3.d 1 (.slice none 0 0) rfl;have r2:=hR3.d 2 (.slice none 0 0) rfl;have r3:=hR3.d 3 (.slice none 0 0) rfl;have rf:=hR3.frozen;have hne:w3.heap.size≠w.heap.size+1:=by have:=HR2.out.lt;have:=HM3.out.size;simp at this;omega
   have hne2:w.heap.size+1≠w3.heap.size:=λe=>hne e.symm
   have HM4:=oh ((((zss w2).alloc (.cells #[.int .i64 x.kind,.int .i64 x.id,.int .u64 (x.gen:Int),.slice xa x.body.length xc] 272)).trans HM3.out).alloc (.cells #[.bool n.leaf,.slice ea n.entries.length ec,.slice ka n.keys.length kc,.slice ia n.kids.length ic] 277));have HR3:=oh hR3;clear hR3 hX3;go_wp2_with fail;go_region_held3 (λw'=>w'.cell? ⟨w3.heap.size,0,none⟩=some (.bool n.leaf)/\w'.cell? ⟨w3.heap.size,1,none⟩=some (.slice ea n.entries.length ec)/\w'.cell? ⟨w3.heap.size,2,none⟩=some (.slice ka n.keys.length kc)/\w'.cell? ⟨w3.heap.size,3,none⟩=some (.slice ia n.kids.length ic))
    (first|(with_reducible exact⟨x0,x1,x2,x3⟩)|go_keep)
    (first
     | (go_at_call 64;(with_reducible refine (wrap_nil _ _).mono ?_);rintro e w4 ⟨rfl,rfl⟩)
     | fail)
   have HRB:=oh ((HR3.out.set4 (.bool n.leaf) (.slice ea n.entries.length ec) (.slice ka n.keys.length kc) (.slice ia n.kids.length ic)).drew);have HMR:=oh ((zA.set4 (F:=λk=>k=w.heap.size+1) (zA.refl _ (w3.alloc (.cells #[.bool n.leaf,.slice ea n.entries.length ec,.slice ka n.keys.length kc,.slice ia n.kids.length ic] 277))) (R:=w.heap.size+1) (.inr rfl) (.bool n.leaf) (.slice ea n.entries.length ec) (.slice ka n.keys.length kc) (.slice ia n.kids.length ic)).drew);clear x0 x1 x2 x3 r0 r1 r2 r3 rf;go_wp2_with fail;refine bodyPost_ret (zF rfl _ _ (w.heap.size+1) 277 #[.bool n.leaf,.slice ea n.entries.length ec,.slice ka n.keys.length kc,.slice ia n.kids.length ic] _ rfl HRB.out Tryz.underlying277 rfl Tryz.nodeSize) rfl ?_;have HMF:=HMR.out.mono (G:=F2) (λk hk=>hk ▸ HRF2.out);refine⟨P2,F2,(HG2.out.at HM4.out).res HMR.out HRP2.out HRF2.out,((HN1.out.trans HN2.out).trans (zU.ext HN2.out.env HN2.out.sub HM4.out)).resD HMR.out (by omega) HRF2.out,?_⟩;rw[HLD.out,HDR.out];exact⟨_,_,_,rfl,(HSE.out.ext ((zss w3).alloc _)).mods HMF,(HSK.out.ext ((zss w3).alloc _)).mods HMF,(HSI.out.ext ((zss w3).alloc _)).mods HMF⟩
  .obtain⟨f,rfl,hE⟩:=hres;have HE:=oh hE;clear hE;have HL4:=oh (HN2.out.env.mods ((((zss w2).alloc (.cells #[.int .i64 x.kind,.int .i64 x.id,.int .u64 (x.gen:Int),.slice xa x.body.length xc] 272)).trans HM3.out).alloc gB).drew.ext);have hR3:=(HR2.out.ext (((zss w2).alloc (.cells #[.int .i64 x.kind,.int .i64 x.id,.int .u64 (x.gen:Int),.slice xa x.body.length xc] 272)).trans HM3.out)).alloc gB;have hX3:=zK.new w3 gB 277;have x0:=hX3.d 0 (.bool false) rfl;have x1:=hX3.d 1 (.slice none 0 0) rfl;have x2:=hX3.d 2 (.slice none 0 0) rfl;have x3:=hX3.d 3 (.slice none 0 0) rfl;have r0:=hR3.d 0 (.bool false) rfl;have r1:=hR3.d 1 (.slice none 0 0) rfl;have r2:=hR3.d 2 (.slice none 0 0) rfl;have r3:=hR3.d 3 (.slice none 0 0) rfl;have rf:=hR3.frozen;have hne:w3.heap.size≠w.heap.size+1:=by have:=HR2.out.lt;have:=HM3.out.size;simp at this;omega
   have hne2:w.heap.size+1≠w3.heap.size:=λe=>hne e.symm
   have HM4:=oh ((((zss w2).alloc (.cells #[.int .i64 x.kind,.int .i64 x.id,.int .u64 (x.gen:Int),.slice xa x.body.length xc] 272)).trans HM3.out).alloc gB);have HR3:=oh hR3;clear hR3 hX3;go_wp2_with fail;go_region_held3 (λw'=>w'.cell? ⟨w3.heap.size,0,none⟩=some (.bool false)/\w'.cell? ⟨w3.heap.size,1,none⟩=some (.slice none 0 0)/\w'.cell? ⟨w3.heap.size,2,none⟩=some (.slice none 0 0)/\w'.cell? ⟨w3.heap.size,3,none⟩=some (.slice none 0 0))
    (first|(with_reducible exact⟨x0,x1,x2,x3⟩)|(with_reducible exact⟨y0,y1,y2,y3⟩)|go_keep)
    (first
     | (go_at_call 64;(with_reducible refine (wrap_any HL4.out _ _ _ _ (HE.out.mods ((zss w3).alloc gB).drew.ext)).mono ?_);rintro e w4 ⟨f4,rfl,hE4,hm4⟩;have hR4:=(HR3.out.drew).ext hm4;have r0:=hR4.d 0 (.bool false) rfl;have r1:=hR4.d 1 (.slice none 0 0) rfl;have r2:=hR4.d 2 (.slice none 0 0) rfl;have r3:=hR4.d 3 (.slice none 0 0) rfl;have rf:=hR4.frozen;have y0:=zD hm4 x0;have y1:=zD hm4 x1;have y2:=zD hm4 x2;have y3:=zD hm4 x3)
     | fail)
   have HRB:=oh (hR4.set4 (.bool false) (.slice none 0 0) (.slice none 0 0) (.slice none 0 0));have HMR:=oh (zA.set4 (F:=λk=>k=w.heap.size+1) (zss w4) (R:=w.heap.size+1) (.inr rfl) (.bool false) (.slice none 0 0) (.slice none 0 0) (.slice none 0 0));have HE4:=oh hE4;have HM5:=oh (HM4.out.drew.trans hm4);clear x0 x1 x2 x3 r0 r1 r2 r3 rf y0 y1 y2 y3 hE4 hm4 hR4;go_wp2_with fail;refine bodyPost_ret (zF rfl _ _ (w.heap.size+1) 277 gB _ rfl HRB.out Tryz.underlying277 rfl Tryz.nodeSize) rfl ?_;refine⟨P2,F2,(HG2.out.at HM5.out).res HMR.out HRP2.out HRF2.out,((HN1.out.trans HN2.out).trans (zU.ext HN2.out.env HN2.out.sub HM5.out)).resD HMR.out (by omega) HRF2.out,?_⟩;rw[HLD.out,HDR.out];exact⟨f4,rfl,HE4.out.mods (HMR.out.mono (λk hk=>hk ▸ HRF2.out))⟩
 .obtain⟨el,ek⟩:=er;have HLD:Hid (G.load id=.inr (-1 :: el,ek)):=oh (by unfold GA.load;rw[hx]);have HE:=oh hE;clear hx hE;simp only[qF,zHt];go_wp2_with fail;have HL2:=oh (HN2.out.env.mods ((zss w2).alloc gE).ext);refine (wrap_any HL2.out _ _ _ _ (HE.out.mods ((zss w2).alloc gE).ext)).mono ?_;rintro e w3 ⟨f3,rfl,hE3,hm3⟩;have hR3:=HR2.out.ext (((zss w2).alloc gE).trans hm3);have r0:=hR3.d 0 (.bool false) rfl;have r1:=hR3.d 1 (.slice none 0 0) rfl;have r2:=hR3.d 2 (.slice none 0 0) rfl;have r3:=hR3.d 3 (.slice none 0 0) rfl;have rf:=hR3.frozen;have HE3:=oh hE3;have HRB:=oh (hR3.set4 (.bool false) (.slice none 0 0) (.slice none 0 0) (.slice none 0 0));have HMR:=oh (zA.set4 (F:=λk=>k=w.heap.size+1) (zss w3) (R:=w.heap.size+1) (.inr rfl) (.bool false) (.slice none 0 0) (.slice none 0 0) (.slice none 0 0));have HM3:=oh (((zss w2).alloc gE).trans hm3);clear hE3 hm3 hR3;go_wp2_with fail;refine bodyPost_ret (zF rfl _ _ (w.heap.size+1) 277 gB _ rfl HRB.out Tryz.underlying277 rfl Tryz.nodeSize) rfl ?_;refine⟨P2,F2,(HG2.out.at HM3.out).res HMR.out HRP2.out HRF2.out,((HN1.out.trans HN2.out).trans (zU.ext HN2.out.env HN2.out.sub HM3.out)).resD HMR.out (by omega) HRF2.out,?_⟩;rw[HLD.out];exact⟨f3,rfl,HE3.out.mods (HMR.out.mono (λk hk=>hk ▸ HRF2.out))⟩
end
section
variable {P P' P1 P2 F F' F1 F2 Q:NP}{ad:Nat->Addr}{w w' wr w2:World}{c s:Nat}{G:GA}{l:List Nat}{v v':Value}{st st':List (Int × Nat)}{gen:Nat}
theorem vJ.anti(h:vJ F w P c s G l)(hQ:∀k,Q k->F k):vJ Q w P c s G l :=
 h.plus (Q:=λ_=>False) (zss w) (λ_ _ f=>f) (λ_ f=>f.elim) (λk _ hn hq=>hn (hQ k hq))
theorem zU.least(n:zU P P' F F' ad w w'):zU P P' F (λk=>F k\/P' k) ad w w' :=
 ⟨n.stp,λ_ h=>.inr h,λ_ h=>.inl h,λk hk h=>h.elim id (λh=>n.oldF k hk (n.sub k h)),n.env.anti (λk h=>h.elim (n.grow k) (n.sub k))⟩
end
end
section
open Go.RowKit
abbrev PgE:=yF × (Option Addr × Nat × Nat)
theorem zL0{α:Type}{enc:α->List Value}{sz:Nat}(henc:∀x,(enc x).length=sz):∀(l:List α) (i:Nat) (x x':α) (j:Nat) (u:Value),l[i]? = some x->j<sz->(enc x).set j u=enc x'->(l.set i x').flatMap enc=(l.flatMap enc).set (i * sz+j) u
 | [],i,x,x',j,u,h,_,_=>by simp at h
 | y :: l,0,x,x',j,u,h,hj,he=>by
  simp at h;subst h;rw[pT,uZ,uZ,pA,uV,<- he,List.set_append_left _ _ (by rw[henc];exact hj)]
 | y :: l,i+1,x,x',j,u,h,hj,he=>by
  rw[mE,uZ,uZ,zL0 henc l i x x' j u (by simpa using h) hj he,List.set_append_right _ _ (by rw[henc,rP];omega),henc];congr 2
  rw[rP];omega
theorem yA.set{α:Type}{F:NP}{w:World}{base:Nat}{e:TypeId}{sz:Nat}{enc:α->List Value}{g n c:Nat}{l:List α}(h:yA F w base e sz enc (.slice (some ⟨g,0,none⟩) n c) l)(henc:∀x,(enc x).length=sz){i j:Nat}{x x':α}{u:Value}(hx:l[i]? = some x)(hj:j<sz)(he:(enc x).set j u=enc x') :
  yA F (w.setCell ⟨g,i * sz+j,none⟩ u) base e sz enc (.slice (some ⟨g,0,none⟩) n c) (l.set i x'):=by
 refine⟨?_,h.2⟩;rcases h.1.2 with ⟨h0,_⟩|⟨g',cap,cur,h0,hb,hg,h1,h2,h3,h4⟩
 .cases h0
 .injection h0 with h0 h0n h0c;injection h0 with h0;injection h0 with h0;subst h0 h0c h0n;refine⟨by rw[zAo henc],.inr ⟨g,c,cur.setIfInBounds (i * sz+j) u,by rw[tG],hb,heap_setCell_same w g _ cur e u hg,by rw[tG];exact h1,h2,by simpa using h3,?_⟩⟩;rw[zL0 henc l i x x' j u hx hj he,<- h4,tG];simp[List.take_set]
theorem zPW(e:zR):((zAJ e).length:Int)=zAe e:=by
 unfold zAJ zAe;by_cases h:e.chain=0
 .rw[if_pos h,if_pos h];simp only[uC,zC,zCL];omega
 .rw[if_neg h,if_neg h];simp only[uC,zC,zCL];omega
theorem zJp:∀l:List zR,((l.flatMap zAJ).length:Int)=yI l
 | []=>rfl
 | e :: l=>by
  rw[uZ,uC,yI,<- zJp l,<- zPW e];omega
theorem zJq:∀(l:List ByteArray) (k:List Int),l.length<=k.length->(((l.zip k).flatMap zAu).length:Int)=yJ l
 | [],_,_=>rfl
 | s :: l,[],h=>by simp at h
 | s :: l,c :: k,h=>by
  rw[List.zip_cons_cons,uZ,uC,yJ,<- zJq l k (by simpa using h)];unfold zAu;rw[uC,zCL,zC];simp only;omega
def zA0(n:zJ):Prop:=if n.leaf=true then n.keys=[]/\n.kids=[] else n.entries=[]/\n.kids.length=n.keys.length+1
theorem zAa{n:zJ}(h:zA0 n):zH n=((yB n).length:Int):=by
 unfold zA0 at h;unfold zH yB;cases hl:n.leaf with
 | true =>
  rw[if_pos hl] at h;simp only[tY];rw[h.1,uC,zC];have:=zJp n.entries;simp only[yJ];omega
 | false =>
  rw[if_neg (by rw[hl];simp)] at h;simp only[wH,tO];rw[h.1,uC,uC,zC,zC];have:=zJq n.keys n.kids.tail (by rw[List.length_tail];omega);simp only[yI];omega
theorem vA{n:zJ}(h:zQ n=true):zA0 n:=by
 unfold zA0;unfold zQ at h;cases hl:n.leaf with
 | true =>
  rw[if_pos hl] at h;simp only[uL,wV] at h;rw[if_pos rfl];exact⟨h.1.1.1.2,h.1.1.2⟩
 | false =>
  rw[if_neg (by rw[hl];simp)] at h;simp only[uL,wV,uR] at h;rw[if_neg (by simp)];exact⟨h.1.1.1.1.1.1.1,h.1.1.1.1.1.2⟩
theorem zKg(l:List zR)(k:Nat):yI (l.drop k)<=yI l:=by
 have:=jT (l.take k) (l.drop k);rw[wC] at this;have:=zAm (l.take k);omega
theorem zKh(l:List ByteArray)(k:Nat):yJ (l.drop k)<=yJ l:=by
 have:=jG (l.take k) (l.drop k);rw[wC] at this;have:=zAn (l.take k);omega
structure zBX(n:zJ)(a:Nat):Prop where
 leaf:n.leaf=true->1<=a/\a<n.entries.length
 inner:n.leaf=false->2<=a/\a+1<n.kids.length
theorem zL1{n:zJ}{a:Nat}(h1:vG n<=a)(h2:a<vG n+jI n):zBX n a:=by
 unfold vG at h1 h2;unfold jI at h2;constructor
 .intro hl;simp only[hl,tY] at h1 h2;omega
 .intro hl;simp only[hl,wH,tO] at h1 h2;omega
section
variable {n:zJ}{a:Nat}
theorem zEh(hl:n.leaf=true):(zW n a).1=⟨true,n.entries.take a,[],[]⟩:=by unfold zW;rw[if_pos hl]
theorem zEi(hl:n.leaf=true):(zW n a).2.2=⟨true,n.entries.drop a,[],[]⟩:=by unfold zW;rw[if_pos hl]
theorem zD3(hl:n.leaf=false):(zW n a).1=⟨false,[],n.keys.take (a-1),n.kids.take a⟩:=by unfold zW;rw[if_neg (by rw[hl];simp)]
theorem zD4(hl:n.leaf=false):(zW n a).2.2=⟨false,[],n.keys.drop a,n.kids.drop a⟩:=by unfold zW;rw[if_neg (by rw[hl];simp)]
theorem zIK(h:zA0 n)(hp:zBX n a):zA0 (zW n a).1/\zA0 (zW n a).2.2:=by
 unfold zA0 at h;cases hl:n.leaf with
 | true =>
  rw[zEh hl,zEi hl];exact⟨⟨rfl,rfl⟩,⟨rfl,rfl⟩⟩
 | false =>
  rw[if_neg (by rw[hl];simp)] at h;have:=hp.inner hl;rw[zD3 hl,zD4 hl];unfold zA0;simp only[wH,tO,uQ,wM,true_and];omega
theorem zKi:zH (zW n a).1<=zH n/\zH (zW n a).2.2<=zH n:=by
 have e1:=zAm n.entries;have e2:=zCm n.entries a;have e3:=zKg n.entries a;have e4:=zAn n.keys;have e5:=zCn n.keys (a-1);have e6:=zKh n.keys a;cases hl:n.leaf with
 | true =>
  rw[zEh hl,zEi hl];unfold zH;simp only[hl,tY,yJ];omega
 | false =>
  rw[zD3 hl,zD4 hl];unfold zH;simp only[hl,wH,tO,yI];omega
theorem zIL(n:zJ):2<=zH n:=by
 have e1:=zAm n.entries;have e4:=zAn n.keys;unfold zH;split <;> omega
theorem zR1(h:zA0 n)(hp:zBX n a):(zHR (zW n a).1:Int)=zH (zW n a).1:=(zAa (zIK h hp).1).symm
theorem zR2(h:zA0 n)(hp:zBX n a):(zHR (zW n a).2.2:Int)=zH (zW n a).2.2:=(zAa (zIK h hp).2).symm
theorem zEz(h:zA0 n)(hp:zBX n a):(zAw n a:Int)=if zH (zW n a).1-zH (zW n a).2.2<0 then -(zH (zW n a).1-zH (zW n a).2.2) else zH (zW n a).1-zH (zW n a).2.2:=by
 unfold zAw;rw[zR1 h hp,zR2 h hp];split <;> omega
end
end
end Go.Proofs.YtgphfebjjedeaaaGreatDoor
