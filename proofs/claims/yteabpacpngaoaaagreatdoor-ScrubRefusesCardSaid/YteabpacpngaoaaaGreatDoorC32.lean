import Derived.Test.YteabpacpngaoaaaGreatDoorC28
import Derived.Deep.RegionLawGrows
import Derived.Deep.CutBlock
import Derived.Deep.DeepCutAuto
namespace Go.Proofs.YteabpacpngaoaaaGreatDoor
open Lib renaming hid->oh
set_option maxHeartbeats 8000000
set_option maxRecDepth 100000
section
open Go.RowKit
attribute [local go_sem ↓] Go.wp_at_zero Go.wp_at_succ
section
variable {F:Nat->Prop}{ad:Nat->Addr}{w wr w2:World}
theorem zJ6(hL:yG F ad w)(bv:Value)(b:List UInt8)(hb:Sl F w 1 zZ bv b)(h1000:b.length<=1000) :
  Calls Tryz.prog 177 #[.bool false,bv] w (zJ3 F ad w false b):=by
 have HL:=oh hL;have HS0:Hid (jB F ad w (((w.alloc (.cells #[.bool false,.slice none 0 0,.slice none 0 0,.slice none 0 0] 174)).alloc (.cells #[bv,.int .i64 0,.bool false] 358)).alloc (.cells #[.bool false,.slice none 0 0,.slice none 0 0,.slice none 0 0] 174)) false bv b ⟨0,false⟩ [] [] [] (.slice none 0 0) (.slice none 0 0) (.slice none 0 0) (.slice none 0 0) (.slice none 0 0) (.slice none 0 0)):=oh
  ⟨(((zA.refl _ w).alloc _).alloc _).alloc _,hL,hb,by
   have:=(zH.new (w.alloc (.cells #[.bool false,.slice none 0 0,.slice none 0 0,.slice none 0 0] 174)) #[bv,.int .i64 0,.bool false] 358).alloc (.cells #[.bool false,.slice none 0 0,.slice none 0 0,.slice none 0 0] 174);simpa using this,by
   have:=zH.new ((w.alloc (.cells #[.bool false,.slice none 0 0,.slice none 0 0,.slice none 0 0] 174)).alloc (.cells #[bv,.int .i64 0,.bool false] 358)) #[.bool false,.slice none 0 0,.slice none 0 0,.slice none 0 0] 174;simpa using this,yC.nil _ _ _ _ _ _,yC.nil _ _ _ _ _ _,yC.nil _ _ _ _ _ _,((zH.new w _ _).alloc _).alloc _⟩
 have HB:=oh hb;obtain⟨mny,r0,hx⟩:∃n r1,vD b ⟨0,false⟩ 2=(n,r1):=⟨_,_,rfl⟩;have hmn:mny<=65535:=by have:=zJE b ⟨0,false⟩;rw[hx] at this;exact this
 have hr0:r0.at_=2:=by have:=zCT b ⟨0,false⟩ 2;rw[hx] at this;exact this
 obtain⟨kd,r1,hx1⟩:∃n r1,vD b r0 4=(n,r1):=⟨_,_,rfl⟩;have hr1:r1.at_=6:=by have:=zCT b r0 4;rw[hx1] at this;simp only at this;omega
 have HR0:Hid (0<=r0.at_/\r0.at_<=1000000000000):=oh (by omega);have HR1:=oh hr1;have HX:=oh hx;have HX1:=oh hx1;obtain⟨M,hM⟩:∃M,M=mny-1:=⟨_,rfl⟩;have HM:=oh hM;have HND:Hid (zAH false b=(⟨false,[],(zBW b M r1 [] [(kd:Int)]).1,(zBW b M r1 [] [(kd:Int)]).2.1⟩,(zBW b M r1 [] [(kd:Int)]).2.2)):=oh (by unfold zAH;simp only[hx,hx1,hM];rfl);have H10:=oh h1000;obtain⟨ab,cb,rfl,hb1,hb2,hb3,_⟩:=hb;clear hL hx hr0 hx1 hr1 hM;unfold maxLen at hb2
 go_enter Tryz.func177, Tryz.ntmps177
 go_wp2_with fail;refine (HS0.out.num 2 (.inr (.inl rfl)) (Int.le_refl 0) (show (0:Int)<=1000000000000 by omega) mny HX.out).mono ?_;rintro e w1 ⟨rfl,hS1,_⟩;have HS1:=oh hS1;clear hS1;have n3:=HS1.out.nd.cell (o:=3) (v:=.slice none 0 0) rfl;go_wp2_with fail;go_cut [] (λwx=>∃(a2:Option Addr) (c2:Nat),Hid (jB F ad w wx false (.slice ab b.length cb) b r1 [] [] [(kd:Int)] (.slice none 0 0) (.slice none 0 0) (.slice a2 1 c2) (.slice none 0 0) (.slice none 0 0) (.slice a2 1 c2)))
 case first =>
  go_region_law
   (first
    | (go_simp;go_at_call 245;(refine (HS1.out.drew.num 4 (.inr (.inr rfl)) HR0.out.1 HR0.out.2 kd HX1.out).mono ?_);rintro e w2 ⟨rfl,hS2,hm2⟩;have y3:=hS2.nd.cell (o:=3) (v:=.slice none 0 0) rfl;have y3b:=λo=>(hS2.step ((zA.refl _ _).alloc o)).nd.cell (o:=3) (v:=.slice none 0 0) rfl)
    | (refine zEq Tryz.elI vW (by rfl) _ _ (by rfl) (w.heap.size+3) (.slice none 0 0) _ [] [(kd:Int)] (by rfl) (by rfl) (hS2.oi.ext ((zA.refl _ _).alloc _)) (Sl.one (F:=NoF) (zR (by simp)) (λf=>f)) (by simp) (by have:=hS2.base;simp at this ⊢;omega) (λf=>f) ?_;simp only[List.length_cons,List.length_nil,Nat.zero_add,List.nil_append];intro a2 c2 w5 hO5 hm5 hat5;have hS6:=(hS2.step ((zA.refl _ _).alloc _)).appI hm5 hO5;have z3:=hS6.nd.cell (o:=3) (v:=.slice none 0 0) rfl;have zf:=hS6.nd.frozen 3)
    | fail)
  all_goals
   have HS7:=oh (hS6.put 3 (.slice a2 1 c2) (.slice none 0 0) (.slice none 0 0) (.slice a2 1 c2) rfl);clear hS6 hO5 hm5 hat5 hS2 hm2 y3 y3b z3 zf n3;go_wp2_with fail;go_meet;exact⟨a2,c2,HS7⟩
 obtain⟨a2,c2,HS7⟩:=hcut;go_wp2_with fail;go_loopg [9] M (λm i wr=>∃(k:Nat) (at_:Int) (bd:Bool) (ks:List ByteArray) (is:List Int) (vk vi:Value),k+m=M/\i=.int .i64 k/\Hid (zBW b m ⟨at_,bd⟩ ks is=zBW b M r1 [] [(kd:Int)])/\Hid (jB F ad w wr false (.slice ab b.length cb) b ⟨at_,bd⟩ [] ks is (.slice none 0 0) vk vi (.slice none 0 0) vk vi)/\ks.length<=k/\is.length<=k+1/\0<=at_/\at_<=1020+10 * (k:Int))
 case atStart=>exact⟨0,r1.at_,r1.bad,[],[(kd:Int)],_,_,by omega,rfl,oh rfl,HS7,Nat.le_refl 0,by simp,by have:=HR1.out;omega,by have:=HR1.out;omega⟩
 case round =>
  obtain⟨k,at_,bd,ks,is,vk,vi,hkm,rfl,HZ,HS,hks,his,ha0,ha1⟩:=hrel;have b2:=HS.out.box.cell (o:=2) (v:=.bool bd) rfl;have hMM:M+1=mny\/(M=0/\mny=0):=by have:=HM.out;omega
  by_cases hgo:k<M/\bd=false
  .obtain⟨hlt,rfl⟩:=hgo;obtain⟨m,rfl⟩:∃m,gk=m+1:=⟨gk-1,by omega⟩;have hi:(k:Int)<(mny:Int)-1:=by omega
   obtain⟨key,q1,hk⟩:∃s r1,jO b ⟨at_,false⟩=(s,r1):=⟨_,_,rfl⟩;have hk1:=zEp b ⟨at_,false⟩;rw[hk] at hk1;obtain⟨q,q2,hq⟩:∃n r2,vD b q1 4=(n,r2):=⟨_,_,rfl⟩;have hq1:=zDw b q1 4 (.inr (.inr rfl));rw[hq] at hq1;simp only at hk1 hq1;have HK:=oh hk;have HQ:=oh hq;have HQR:Hid (0<=q1.at_/\q1.at_<=1000000/\0<=q2.at_/\q2.at_<=1020+10 * ((k+1:Nat):Int)):=oh (by have:=H10.out;omega);have HZ2:Hid (zBW b m q2 (ks++[key]) (is++[(q:Int)])=zBW b M r1 [] [(kd:Int)]):=oh (by
    have:=HZ.out;rw[zBW] at this;simp only[Bool.false_eq_true,if_false,hk,hq] at this;exact this)
   clear HZ hk hq hk1 hq1 hMM;go_wp2_with fail;refine (HS.out.text ha0 (show at_<=1000000000000 by omega) key HK.out).mono ?_;rintro e w2 ⟨rfl,hS2,_⟩;have HS2:=oh hS2;have n2:=hS2.nd.cell (o:=2) (v:=vk) rfl;have n3:=hS2.nd.cell (o:=3) (v:=vi) rfl;have n2b:=λo=>(hS2.step ((zA.refl _ _).alloc o)).nd.cell (o:=2) (v:=vk) rfl
   have n3b:=λo=>(hS2.step ((zA.refl _ _).alloc o)).nd.cell (o:=3) (v:=vi) rfl
   clear hS2;have HZK:=oh hks;have HZI:=oh his;go_wp2_with fail;go_region_law
    (first
     | (go_simp;go_at_call 245;(refine (hS5.num 4 (.inr (.inr rfl)) HQR.out.1 (by have:=HQR.out;omega) q HQ.out).mono ?_);rintro e w6 ⟨rfl,hS6,hm6⟩;have y3:=hS6.nd.cell (o:=3) (v:=vi) rfl;have y3b:=λo=>(hS6.step ((zA.refl _ _).alloc o)).nd.cell (o:=3) (v:=vi) rfl)
     | (refine zEq Tryz.elS zBl (by rfl) _ _ (by rfl) (w.heap.size+3) vk _ ks [key] (by rfl) (by rfl) (HS2.out.drew.ok.ext ((zA.refl _ _).alloc _)) (Sl.one (F:=NoF) (zR (by simp)) (λf=>f)) (by have:=HZK.out;simp only[List.length_cons,List.length_nil];omega) (by have:=HS2.out.base;simp at this ⊢;omega) (λf=>f) ?_;simp only[List.length_cons,List.length_nil,Nat.zero_add];intro a5 c5 w5 hO5 hm5 hat5;have hS5:=(HS2.out.drew.step ((zA.refl _ _).alloc _)).appK hm5 hO5;have y3:=hS5.nd.cell (o:=3) (v:=vi) rfl)
     | (refine zEq Tryz.elI vW (by rfl) _ _ (by rfl) (w.heap.size+3) vi _ is [(q:Int)] (by rfl) (by rfl) (hS6.oi.ext ((zA.refl _ _).alloc _)) (Sl.one (F:=NoF) (zR (by simp)) (λf=>f)) (by have:=HZI.out;simp only[List.length_cons,List.length_nil];omega) (by have:=hS6.base;simp at this ⊢;omega) (λf=>f) ?_;simp only[List.length_cons,List.length_nil,Nat.zero_add];intro a7 c7 w7 hO7 hm7 hat7;have hS7:=(hS6.step ((zA.refl _ _).alloc _)).appI hm7 hO7;have z2:=hS7.nd.cell (o:=2) (v:=vk) rfl;have z3:=hS7.nd.cell (o:=3) (v:=vi) rfl;have zf:=hS7.nd.frozen)
     | fail)
   all_goals
    have HS8:=oh ((hS7.put 2 (.slice a5 (ks.length+1) c5) (.slice none 0 0) (.slice a5 (ks.length+1) c5) vi rfl).put 3 (.slice a7 (is.length+1) c7) (.slice none 0 0) (.slice a5 (ks.length+1) c5) (.slice a7 (is.length+1) c7) rfl);clear hS7 hO7 hm7 hat7 hS6 hm6 hS5 hO5 hm5 hat5 n2 n3 n2b n3b z2 z3 zf y3 y3b;go_wp2_with fail;go_roundg m
    case measure=>omega
    case rel=>exact⟨k+1,q2.at_,q2.bad,ks++[key],is++[(q:Int)],_,_,by omega,by go_num,HZ2,HS8,by rw[List.length_append,List.length_cons,List.length_nil];omega,by rw[List.length_append,List.length_cons,List.length_nil];omega,HQR.out.2.2.1,HQR.out.2.2.2⟩
  .have HEND:Hid (zBW b M r1 [] [(kd:Int)]=(ks,is,⟨at_,bd⟩)):=oh (by
    rw[<- HZ.out];cases gk with
    | zero=>rfl
    | succ m =>
     rw[zBW];have:bd=true:=by
      cases bd
      .exact absurd ⟨by omega,rfl⟩ hgo
      .rfl
     rw[this];rfl)
   have HNN:Hid (zAH false b=(⟨false,[],ks,is⟩,⟨at_,bd⟩)):=oh (by rw[HND.out,HEND.out]);have HGN:Hid (zET false b=if bd=false/\zO ⟨false,[],ks,is⟩=true/\yE ⟨false,[],ks,is⟩=b then some ⟨false,[],ks,is⟩ else none):=oh (by unfold zET;simp only[HNN.out]);obtain⟨pk,kc,rfl,hpk1,hpk2⟩:=HS.out.ok.form;obtain⟨pi,ic,rfl,hpi1,hpi2⟩:=HS.out.oi.form;unfold maxLen at hpk2 hpi2;have hlen:zO ⟨false,[],ks,is⟩=true->(yE ⟨false,[],ks,is⟩).length<=100000:=λhr=>by
    have:=zFk false b H10.out;rw[HNN.out] at this;exact this hr
   have HPUT:=oh (zEb (F:=GB F w) HS.out.env ⟨false,[],ks,is⟩ (.slice none 0 0) (.slice pk ks.length kc) (.slice pi is.length ic) (Sl.nil _ _ _ _) (HS.out.slK HS.out.gb (by omega)) (HS.out.slI HS.out.gb (by omega)) hlen);have n0:=HS.out.nd.cell (o:=0) (v:=.bool false) rfl;have n1:=HS.out.nd.cell (o:=1) (v:=.slice none 0 0) rfl;have n2:=HS.out.nd.cell (o:=2) (v:=.slice pk ks.length kc) rfl;have n3:=HS.out.nd.cell (o:=3) (v:=.slice pi is.length ic) rfl;have hcase:((k:Int)<(mny:Int)-1/\bd=true)\/(¬ ((k:Int)<(mny:Int)-1)/\bd=true)\/(¬ ((k:Int)<(mny:Int)-1)/\bd=false):=by
    by_cases h1:(k:Int)<(mny:Int)-1
    .cases bd
     .exact absurd ⟨by omega,rfl⟩ hgo
     .exact .inl ⟨h1,rfl⟩
    .cases bd
     .exact .inr (.inr ⟨h1,rfl⟩)
     .exact .inr (.inl ⟨h1,rfl⟩)
   have HLEN:=oh hlen;have hkl:ks.length<=70000/\is.length<=70000:=by omega
   obtain⟨hkl1,hkl2⟩:=hkl;clear HZ HEND hlen hgo hMM;rcases hcase with ⟨hlt,rfl⟩|⟨hlt,rfl⟩|⟨hlt,rfl⟩
   .go_wp2_with fail;refine (HPUT.out).mono ?_;rintro e w6 hP;obtain⟨hx6,hP⟩:=hP;have HS6:=oh (HS.out.step hx6);clear hx6;rcases hP with ⟨_,a6,c6,rfl,_⟩|⟨_,f6,rfl,_⟩
    all_goals
     have b2c:=HS6.out.box.cell (o:=2) (v:=.bool true) rfl;have g1:=HS6.out.env.c1;go_wp2_with fail;refine (qN HS6.out.env _ _ [] 1 (.sent 1 (by decide) (by decide))).mono ?_;rintro e w7 ⟨f7,rfl,hE7,hm7⟩;have hS7:=HS6.out.step hm7;have r0:=hS7.res.cell (o:=0) (v:=.bool false) rfl;have r1:=hS7.res.cell (o:=1) (v:=.slice none 0 0) rfl;have r2:=hS7.res.cell (o:=2) (v:=.slice none 0 0) rfl;have r3:=hS7.res.cell (o:=3) (v:=.slice none 0 0) rfl;have rf:=hS7.res.frozen;have HS7:=oh hS7;have HE7:=oh hE7;have HRB:=oh (hS7.res.set4 (.bool false) (.slice none 0 0) (.slice none 0 0) (.slice none 0 0));clear hS7 hE7 hm7;go_wp2_with fail;refine bodyPost_ret (zC rfl _ _ w.heap.size 174 #[.bool false,.slice none 0 0,.slice none 0 0,.slice none 0 0] _ rfl HRB.out Tryz.underlying174 rfl Tryz.nodeSize) rfl ?_;exact⟨zA.set4 HS7.out.ext (.inl (Nat.le_refl _)) _ _ _ _,.inr ⟨by rw[HGN.out];exact if_neg (λh=>by have:=h.1;cases this),f7,rfl,HE7.out.step (zA.set4 (zA.refl _ w7) (.inr (.inr ⟨Nat.le_refl _,by omega⟩)) _ _ _ _) (λk _ hn hf=>hn (.inl hf))⟩⟩
   .go_wp2_with fail;refine (HPUT.out).mono ?_;rintro e w6 hP;obtain⟨hx6,hP⟩:=hP;have HS6:=oh (HS.out.step hx6);clear hx6;rcases hP with ⟨_,a6,c6,rfl,_⟩|⟨_,f6,rfl,_⟩
    all_goals
     have b2c:=HS6.out.box.cell (o:=2) (v:=.bool true) rfl;have g1:=HS6.out.env.c1;go_wp2_with fail;refine (qN HS6.out.env _ _ [] 1 (.sent 1 (by decide) (by decide))).mono ?_;rintro e w7 ⟨f7,rfl,hE7,hm7⟩;have hS7:=HS6.out.step hm7;have r0:=hS7.res.cell (o:=0) (v:=.bool false) rfl;have r1:=hS7.res.cell (o:=1) (v:=.slice none 0 0) rfl;have r2:=hS7.res.cell (o:=2) (v:=.slice none 0 0) rfl;have r3:=hS7.res.cell (o:=3) (v:=.slice none 0 0) rfl;have rf:=hS7.res.frozen;have HS7:=oh hS7;have HE7:=oh hE7;have HRB:=oh (hS7.res.set4 (.bool false) (.slice none 0 0) (.slice none 0 0) (.slice none 0 0));clear hS7 hE7 hm7;go_wp2_with fail;refine bodyPost_ret (zC rfl _ _ w.heap.size 174 #[.bool false,.slice none 0 0,.slice none 0 0,.slice none 0 0] _ rfl HRB.out Tryz.underlying174 rfl Tryz.nodeSize) rfl ?_;exact⟨zA.set4 HS7.out.ext (.inl (Nat.le_refl _)) _ _ _ _,.inr ⟨by rw[HGN.out];exact if_neg (λh=>by have:=h.1;cases this),f7,rfl,HE7.out.step (zA.set4 (zA.refl _ w7) (.inr (.inr ⟨Nat.le_refl _,by omega⟩)) _ _ _ _) (λk _ hn hf=>hn (.inl hf))⟩⟩
   .have hlen:=HLEN.out;go_wp2_with fail;refine (HPUT.out).mono ?_;rintro e w6 hP;obtain⟨hx6,hP⟩:=hP;have HS6:=oh (HS.out.step hx6);clear hx6;rcases hP with ⟨hrt,a6,c6,rfl,hO6⟩|⟨hrt,f6,rfl,hE6⟩
    .have HRT:=oh hrt;have HSL6:=oh (yC.sl (F:=NoF) hO6 jE.len (by have:=hlen hrt;omega));clear hrt hO6 hlen;have b2b:=HS6.out.box.cell (o:=2) (v:=.bool false) rfl;go_wp2_with fail;refine (zC5 (F:=NoF) (G:=F) _ _ _ b HSL6.out (HB.out.ext HS6.out.ext)).mono ?_;rintro e w8 ⟨rfl,hm8⟩;have HS8:=oh (HS6.out.step hm8);clear hm8;by_cases heq:yE ⟨false,[],ks,is⟩=b
     .rw[decide_eq_true heq];have HEQ:=oh heq;clear heq;have n0:=HS8.out.nd.cell (o:=0) (v:=.bool false) rfl;have n1:=HS8.out.nd.cell (o:=1) (v:=.slice none 0 0) rfl;have n2:=HS8.out.nd.cell (o:=2) (v:=.slice pk ks.length kc) rfl;have n3:=HS8.out.nd.cell (o:=3) (v:=.slice pi is.length ic) rfl;have r0:=HS8.out.res.cell (o:=0) (v:=.bool false) rfl;have r1:=HS8.out.res.cell (o:=1) (v:=.slice none 0 0) rfl;have r2:=HS8.out.res.cell (o:=2) (v:=.slice none 0 0) rfl;have r3:=HS8.out.res.cell (o:=3) (v:=.slice none 0 0) rfl;have rf:=HS8.out.res.frozen;have HRB:=oh (HS8.out.res.set4 (.bool false) (.slice none 0 0) (.slice pk ks.length kc) (.slice pi is.length ic));have HMR:=oh (zA.set4 (F:=λk=>k=w.heap.size) (zA.refl _ w8) (.inr rfl) (.bool false) (.slice none 0 0) (.slice pk ks.length kc) (.slice pi is.length ic));go_wp2_with fail;refine bodyPost_ret (zC rfl _ _ w.heap.size 174 #[.bool false,.slice none 0 0,.slice pk ks.length kc,.slice pi is.length ic] _ rfl HRB.out Tryz.underlying174 rfl Tryz.nodeSize) rfl ?_;refine⟨zA.set4 HS8.out.ext (.inl (Nat.le_refl _)) _ _ _ _,.inl ⟨⟨false,[],ks,is⟩,.slice none 0 0,.slice pk ks.length kc,.slice pi is.length ic,by rw[HGN.out];exact if_pos (by first|exact⟨rfl,HRT.out,HEQ.out⟩|exact⟨trivial,HRT.out,HEQ.out⟩),rfl,?_,?_,?_⟩⟩
      .exact (HS8.out.slE (G:=GB F w) HS8.out.gb (by simp)).step (HMR.out.mono (λk (hk:k=w.heap.size)=>.inr ⟨by omega,by omega⟩)) (λk _ hn hf=>hn (.inl hf))
      .exact (HS8.out.slK (G:=GB F w) HS8.out.gb (by omega)).step (HMR.out.mono (λk (hk:k=w.heap.size)=>.inr ⟨by omega,by omega⟩)) (λk _ hn hf=>hn (.inl hf))
      .exact (HS8.out.slI (G:=GB F w) HS8.out.gb (by omega)).step (HMR.out.mono (λk (hk:k=w.heap.size)=>.inr ⟨by omega,by omega⟩)) (λk _ hn hf=>hn (.inl hf))
     .rw[decide_eq_false heq];have HEQ:=oh heq;clear heq;have HS6:=HS8;have b2c:=HS6.out.box.cell (o:=2) (v:=.bool false) rfl;have g1:=HS6.out.env.c1;go_wp2_with fail;refine (qN HS6.out.env _ _ [] 1 (.sent 1 (by decide) (by decide))).mono ?_;rintro e w7 ⟨f7,rfl,hE7,hm7⟩;have hS7:=HS6.out.step hm7;have r0:=hS7.res.cell (o:=0) (v:=.bool false) rfl;have r1:=hS7.res.cell (o:=1) (v:=.slice none 0 0) rfl;have r2:=hS7.res.cell (o:=2) (v:=.slice none 0 0) rfl;have r3:=hS7.res.cell (o:=3) (v:=.slice none 0 0) rfl;have rf:=hS7.res.frozen;have HS7:=oh hS7;have HE7:=oh hE7;have HRB:=oh (hS7.res.set4 (.bool false) (.slice none 0 0) (.slice none 0 0) (.slice none 0 0));clear hS7 hE7 hm7;go_wp2_with fail;refine bodyPost_ret (zC rfl _ _ w.heap.size 174 #[.bool false,.slice none 0 0,.slice none 0 0,.slice none 0 0] _ rfl HRB.out Tryz.underlying174 rfl Tryz.nodeSize) rfl ?_;exact⟨zA.set4 HS7.out.ext (.inl (Nat.le_refl _)) _ _ _ _,.inr ⟨by rw[HGN.out];exact if_neg (λh=>HEQ.out h.2.2),f7,rfl,HE7.out.step (zA.set4 (zA.refl _ w7) (.inr (.inr ⟨Nat.le_refl _,by omega⟩)) _ _ _ _) (λk _ hn hf=>hn (.inl hf))⟩⟩
    .have HRT:=oh hrt;clear hrt hE6;have b2c:=HS6.out.box.cell (o:=2) (v:=.bool false) rfl;have g1:=HS6.out.env.c1;go_wp2_with fail;refine (qN HS6.out.env _ _ [] 1 (.sent 1 (by decide) (by decide))).mono ?_;rintro e w7 ⟨f7,rfl,hE7,hm7⟩;have hS7:=HS6.out.step hm7;have r0:=hS7.res.cell (o:=0) (v:=.bool false) rfl;have r1:=hS7.res.cell (o:=1) (v:=.slice none 0 0) rfl;have r2:=hS7.res.cell (o:=2) (v:=.slice none 0 0) rfl;have r3:=hS7.res.cell (o:=3) (v:=.slice none 0 0) rfl;have rf:=hS7.res.frozen;have HS7:=oh hS7;have HE7:=oh hE7;have HRB:=oh (hS7.res.set4 (.bool false) (.slice none 0 0) (.slice none 0 0) (.slice none 0 0));clear hS7 hE7 hm7;go_wp2_with fail;refine bodyPost_ret (zC rfl _ _ w.heap.size 174 #[.bool false,.slice none 0 0,.slice none 0 0,.slice none 0 0] _ rfl HRB.out Tryz.underlying174 rfl Tryz.nodeSize) rfl ?_;exact⟨zA.set4 HS7.out.ext (.inl (Nat.le_refl _)) _ _ _ _,.inr ⟨by rw[HGN.out];exact if_neg (λh=>by have:=h.2.1;rw[HRT.out] at this;cases this),f7,rfl,HE7.out.step (zA.set4 (zA.refl _ w7) (.inr (.inr ⟨Nat.le_refl _,by omega⟩)) _ _ _ _) (λk _ hn hf=>hn (.inl hf))⟩⟩
end
end
section
open Go.RowKit
abbrev zR5:Value:=.agg #[.bool false,.slice none 0 0,.slice none 0 0,.slice none 0 0]
def zNT(F:Nat->Prop)(ad:Nat->Addr)(w':World)(r:zJ ⊕ Err)(e:Ending):Prop :=
 match r with
 | .inl n=>∃ve vk vi,e=.returned (.tuple #[.agg #[.bool n.leaf,ve,vk,vi],.nilIface])/\Sl F w' 4 zAO ve n.entries/\Sl F w' 1 vZ vk n.keys/\Sl F w' 1 yK vi n.kids
 | .inr (l,k)=>∃f,e=.returned (.tuple #[zR5,zL f])/\vB F ad w' (zL f) l k
section
variable {F G:Nat->Prop}{ad:Nat->Addr}{w w':World}
theorem yG.plusX(h:yG F ad w)(m:zF w w'){X:Nat}(h1:w.heap.size<=X)(h2:X<w'.heap.size):yG (qE F X) ad w' :=
 h.step m.ext (λk hk hn hg=>hg.elim hn (λe=>by omega)) (λk hg=>hg.elim (λhf=>Nat.lt_of_lt_of_le (h.lt k hf) m.size) (λe=>by omega))
theorem Sl.plusX{α:Type}{sz:Nat}{enc:α->List Value}{v:Value}{l:List α}(h:Sl F w sz enc v l)(m:zF w w'){X:Nat}(h1:w.heap.size<=X):Sl (qE F X) w' sz enc v l :=
 h.step m.ext (λk hk hn hg=>hg.elim hn (λe=>by omega))
theorem zGj(hL:yG F ad w)(lf:Bool)(bv:Value)(b:List UInt8)(hb:Sl F w 1 zZ bv b)(h1000:b.length<=1000) :
  Calls Tryz.prog 177 #[.bool lf,bv] w (zJ3 F ad w lf b):=by
 cases lf
 .exact zJ6 hL bv b hb h1000
 .exact zJ4 hL bv b hb h1000
theorem zJK{lf:Bool}{b:List UInt8}{n:zJ}(h:zET lf b=some n):n.leaf=lf:=by
 unfold zET at h;simp only at h;split at h
 .injection h with h;subst h;exact zGh lf b
 .cases h
theorem zMm(hL:yG F ad w)(p:zX)(bv:Value)(hb:Sl F w 1 zZ bv p.body)(hl:p.body.length<=1000) :
  Calls Tryz.prog 215 #[qA p bv] w λe w'=>zNT F ad w' (qH p) e/\zF w w':=by
 obtain⟨pk,pi,pg,body⟩:=p;simp only at hb hl;unfold qA;have m0:zF w ((w.alloc (.cells #[.int .i64 pk,.int .i64 pi,.int .u64 (pg:Int),bv] 192)).alloc (.cells #[.bool false,.slice none 0 0,.slice none 0 0,.slice none 0 0] 174)):=((zA.refl _ w).alloc _).alloc _;have HL:=oh (hL.plusX m0 (X:=w.heap.size+1) (by omega) (by simp));have HS:=oh (hb.plusX m0 (X:=w.heap.size+1) (by omega));have HP0:=oh ((zH.new w #[.int .i64 pk,.int .i64 pi,.int .u64 (pg:Int),bv] 192).alloc (.cells #[.bool false,.slice none 0 0,.slice none 0 0,.slice none 0 0] 174));have HR0:Hid (zH ((w.alloc (.cells #[.int .i64 pk,.int .i64 pi,.int .u64 (pg:Int),bv] 192)).alloc (.cells #[.bool false,.slice none 0 0,.slice none 0 0,.slice none 0 0] 174)) (w.heap.size+1) #[.bool false,.slice none 0 0,.slice none 0 0,.slice none 0 0] 174):=oh (zR (by simp));have HM0:=oh m0;obtain⟨ba,bc,rfl,_,_,_,_⟩:=hb;clear hL m0;by_cases h3:pk=3\/pk=2
 .obtain⟨lf,hlf⟩:∃lf,lf=decide (pk=3):=⟨_,rfl⟩;have HD:Hid (qH ⟨pk,pi,pg,body⟩=match zET lf body with|some n=>.inl n|none=>.inr ([zB2 pi],5)):=oh (by unfold qH;simp only[if_pos h3,hlf];rfl);have HG:=oh (zGj HL.out lf _ body HS.out hl);have hpk:pk=if lf then 3 else 2:=by
   rcases h3 with rfl|rfl <;> (subst hlf;rfl)
  clear h3 hlf;cases lf
  .simp only[if_false,Bool.false_eq_true] at hpk;subst hpk
   go_enter Tryz.func215, Tryz.ntmps215
   go_wp2_with fail;refine (HG.out).mono ?_;rintro e w1 ⟨hm1,⟨n,ve,vk,vi,hgn,rfl,hse,hsk,hsi⟩|⟨hgn,f,rfl,hE⟩⟩
   .have HGN:=oh hgn;obtain⟨ea,ec,rfl,_,_,_,_⟩:=_root_.id hse;obtain⟨ka,kc,rfl,_,_,_,_⟩:=_root_.id hsk;obtain⟨ia,ic,rfl,_,_,_,_⟩:=_root_.id hsi;have HSE:=oh hse;have HSK:=oh hsk;have HSI:=oh hsi;have HM1:=oh hm1;have hR1:=(HR0.out.ext hm1).alloc (.cells #[.bool false,.slice ea n.entries.length ec,.slice ka n.keys.length kc,.slice ia n.kids.length ic] 174);have r0:=hR1.cell (o:=0) (v:=.bool false) rfl;have r1:=hR1.cell (o:=1) (v:=.slice none 0 0) rfl;have r2:=hR1.cell (o:=2) (v:=.slice none 0 0) rfl;have r3:=hR1.cell (o:=3) (v:=.slice none 0 0) rfl;have rf:=hR1.frozen;have HRB:=oh (hR1.set4 (.bool false) (.slice ea n.entries.length ec) (.slice ka n.keys.length kc) (.slice ia n.kids.length ic));have HMR:=oh (zA.set4 (F:=qE F (w.heap.size+1)) ((zA.refl _ w1).alloc (.cells #[.bool false,.slice ea n.entries.length ec,.slice ka n.keys.length kc,.slice ia n.kids.length ic] 174)) (R:=w.heap.size+1) (.inr (.inr rfl)) (.bool false) (.slice ea n.entries.length ec) (.slice ka n.keys.length kc) (.slice ia n.kids.length ic));have HMX:=oh (zA.set4 (((HM0.out.trans hm1)).alloc (.cells #[.bool false,.slice ea n.entries.length ec,.slice ka n.keys.length kc,.slice ia n.kids.length ic] 174)) (R:=w.heap.size+1) (.inl (by omega)) (.bool false) (.slice ea n.entries.length ec) (.slice ka n.keys.length kc) (.slice ia n.kids.length ic));clear hgn hse hsk hsi hm1 hR1;go_wp2_with fail;refine bodyPost_ret (zC rfl _ _ (w.heap.size+1) 174 #[.bool false,.slice ea n.entries.length ec,.slice ka n.keys.length kc,.slice ia n.kids.length ic] _ rfl HRB.out Tryz.underlying174 rfl Tryz.nodeSize) rfl ?_;refine⟨?_,HMX.out⟩;rw[HD.out,HGN.out];exact⟨_,_,_,by rw[zJK HGN.out];rfl,HSE.out.unR HMR.out,HSK.out.unR HMR.out,HSI.out.unR HMR.out⟩
   .have HGN:=oh hgn;have hP1:=(HP0.out.ext hm1).alloc (.cells #[.bool false,.slice none 0 0,.slice none 0 0,.slice none 0 0] 174);have p1:=hP1.cell (o:=1) (v:=.int .i64 pi) rfl;have hL1:=HL.out.mods (hm1.alloc (.cells #[.bool false,.slice none 0 0,.slice none 0 0,.slice none 0 0] 174)).ext;have g5:=hL1.c5;have HL1:=oh hL1;have HM1:=oh (hm1.alloc (.cells #[.bool false,.slice none 0 0,.slice none 0 0,.slice none 0 0] 174));clear hgn hE hP1 hL1 hm1;go_wp2_with fail;refine (zAG HL1.out _ pi _ [] 5 (.sent 5 (by decide) (by decide))).mono ?_;rintro e w2 ⟨f2,rfl,hE2,hm2⟩;have HE2:=oh hE2;have hR1:=HR0.out.ext (HM1.out.trans hm2);have r0:=hR1.cell (o:=0) (v:=.bool false) rfl;have r1:=hR1.cell (o:=1) (v:=.slice none 0 0) rfl;have r2:=hR1.cell (o:=2) (v:=.slice none 0 0) rfl;have r3:=hR1.cell (o:=3) (v:=.slice none 0 0) rfl;have rf:=hR1.frozen;have HRB:=oh (hR1.set4 (.bool false) (.slice none 0 0) (.slice none 0 0) (.slice none 0 0));have HMR:=oh (zA.set4 (F:=qE F (w.heap.size+1)) (zA.refl _ w2) (R:=w.heap.size+1) (.inr (.inr rfl)) (.bool false) (.slice none 0 0) (.slice none 0 0) (.slice none 0 0));have HMX:=oh (zA.set4 (HM0.out.trans (HM1.out.trans hm2)) (R:=w.heap.size+1) (.inl (by omega)) (.bool false) (.slice none 0 0) (.slice none 0 0) (.slice none 0 0));clear hE2 hm2 hR1;go_wp2_with fail;refine bodyPost_ret (zC rfl _ _ (w.heap.size+1) 174 #[.bool false,.slice none 0 0,.slice none 0 0,.slice none 0 0] _ rfl HRB.out Tryz.underlying174 rfl Tryz.nodeSize) rfl ?_;refine⟨?_,HMX.out⟩;rw[HD.out,HGN.out];exact⟨f2,rfl,HE2.out.unR HMR.out⟩
  .simp only[if_true] at hpk;subst hpk
   go_enter Tryz.func215, Tryz.ntmps215
   go_wp2_with fail;refine (HG.out).mono ?_;rintro e w1 ⟨hm1,⟨n,ve,vk,vi,hgn,rfl,hse,hsk,hsi⟩|⟨hgn,f,rfl,hE⟩⟩
   .have HGN:=oh hgn;obtain⟨ea,ec,rfl,_,_,_,_⟩:=_root_.id hse;obtain⟨ka,kc,rfl,_,_,_,_⟩:=_root_.id hsk;obtain⟨ia,ic,rfl,_,_,_,_⟩:=_root_.id hsi;have HSE:=oh hse;have HSK:=oh hsk;have HSI:=oh hsi;have HM1:=oh hm1;have hR1:=(HR0.out.ext hm1).alloc (.cells #[.bool true,.slice ea n.entries.length ec,.slice ka n.keys.length kc,.slice ia n.kids.length ic] 174);have r0:=hR1.cell (o:=0) (v:=.bool false) rfl;have r1:=hR1.cell (o:=1) (v:=.slice none 0 0) rfl;have r2:=hR1.cell (o:=2) (v:=.slice none 0 0) rfl;have r3:=hR1.cell (o:=3) (v:=.slice none 0 0) rfl;have rf:=hR1.frozen;have HRB:=oh (hR1.set4 (.bool true) (.slice ea n.entries.length ec) (.slice ka n.keys.length kc) (.slice ia n.kids.length ic));have HMR:=oh (zA.set4 (F:=qE F (w.heap.size+1)) ((zA.refl _ w1).alloc (.cells #[.bool true,.slice ea n.entries.length ec,.slice ka n.keys.length kc,.slice ia n.kids.length ic] 174)) (R:=w.heap.size+1) (.inr (.inr rfl)) (.bool true) (.slice ea n.entries.length ec) (.slice ka n.keys.length kc) (.slice ia n.kids.length ic));have HMX:=oh (zA.set4 (((HM0.out.trans hm1)).alloc (.cells #[.bool true,.slice ea n.entries.length ec,.slice ka n.keys.length kc,.slice ia n.kids.length ic] 174)) (R:=w.heap.size+1) (.inl (by omega)) (.bool true) (.slice ea n.entries.length ec) (.slice ka n.keys.length kc) (.slice ia n.kids.length ic));clear hgn hse hsk hsi hm1 hR1;go_wp2_with fail;refine bodyPost_ret (zC rfl _ _ (w.heap.size+1) 174 #[.bool true,.slice ea n.entries.length ec,.slice ka n.keys.length kc,.slice ia n.kids.length ic] _ rfl HRB.out Tryz.underlying174 rfl Tryz.nodeSize) rfl ?_;refine⟨?_,HMX.out⟩;rw[HD.out,HGN.out];exact⟨_,_,_,by rw[zJK HGN.out];rfl,HSE.out.unR HMR.out,HSK.out.unR HMR.out,HSI.out.unR HMR.out⟩
   .have HGN:=oh hgn;have hP1:=(HP0.out.ext hm1).alloc (.cells #[.bool false,.slice none 0 0,.slice none 0 0,.slice none 0 0] 174);have p1:=hP1.cell (o:=1) (v:=.int .i64 pi) rfl;have hL1:=HL.out.mods (hm1.alloc (.cells #[.bool false,.slice none 0 0,.slice none 0 0,.slice none 0 0] 174)).ext;have g5:=hL1.c5;have HL1:=oh hL1;have HM1:=oh (hm1.alloc (.cells #[.bool false,.slice none 0 0,.slice none 0 0,.slice none 0 0] 174));clear hgn hE hP1 hL1 hm1;go_wp2_with fail;refine (zAG HL1.out _ pi _ [] 5 (.sent 5 (by decide) (by decide))).mono ?_;rintro e w2 ⟨f2,rfl,hE2,hm2⟩;have HE2:=oh hE2;have hR1:=HR0.out.ext (HM1.out.trans hm2);have r0:=hR1.cell (o:=0) (v:=.bool false) rfl;have r1:=hR1.cell (o:=1) (v:=.slice none 0 0) rfl;have r2:=hR1.cell (o:=2) (v:=.slice none 0 0) rfl;have r3:=hR1.cell (o:=3) (v:=.slice none 0 0) rfl;have rf:=hR1.frozen;have HRB:=oh (hR1.set4 (.bool false) (.slice none 0 0) (.slice none 0 0) (.slice none 0 0));have HMR:=oh (zA.set4 (F:=qE F (w.heap.size+1)) (zA.refl _ w2) (R:=w.heap.size+1) (.inr (.inr rfl)) (.bool false) (.slice none 0 0) (.slice none 0 0) (.slice none 0 0));have HMX:=oh (zA.set4 (HM0.out.trans (HM1.out.trans hm2)) (R:=w.heap.size+1) (.inl (by omega)) (.bool false) (.slice none 0 0) (.slice none 0 0) (.slice none 0 0));clear hE2 hm2 hR1;go_wp2_with fail;refine bodyPost_ret (zC rfl _ _ (w.heap.size+1) 174 #[.bool false,.slice none 0 0,.slice none 0 0,.slice none 0 0] _ rfl HRB.out Tryz.underlying174 rfl Tryz.nodeSize) rfl ?_;refine⟨?_,HMX.out⟩;rw[HD.out,HGN.out];exact⟨f2,rfl,HE2.out.unR HMR.out⟩
 .have HD:Hid (qH ⟨pk,pi,pg,body⟩=.inr ([zB2 pi],5)):=oh (by unfold qH;rw[if_neg h3]);have h31:(pk != 3)=true:=bne_iff_ne.2 (λe=>h3 (.inl e));have h32:(pk != 2)=true:=bne_iff_ne.2 (λe=>h3 (.inr e));have p1:=HP0.out.cell (o:=1) (v:=.int .i64 pi) rfl;have g5:=HL.out.c5;clear h3
  go_enter Tryz.func215, Tryz.ntmps215
  go_wp2_with fail;refine (zAG HL.out _ pi _ [] 5 (.sent 5 (by decide) (by decide))).mono ?_;rintro e w2 ⟨f2,rfl,hE2,hm2⟩;have HE2:=oh hE2;have hR1:=HR0.out.ext (hm2);have r0:=hR1.cell (o:=0) (v:=.bool false) rfl;have r1:=hR1.cell (o:=1) (v:=.slice none 0 0) rfl;have r2:=hR1.cell (o:=2) (v:=.slice none 0 0) rfl;have r3:=hR1.cell (o:=3) (v:=.slice none 0 0) rfl;have rf:=hR1.frozen;have HRB:=oh (hR1.set4 (.bool false) (.slice none 0 0) (.slice none 0 0) (.slice none 0 0));have HMR:=oh (zA.set4 (F:=qE F (w.heap.size+1)) (zA.refl _ w2) (R:=w.heap.size+1) (.inr (.inr rfl)) (.bool false) (.slice none 0 0) (.slice none 0 0) (.slice none 0 0));have HMX:=oh (zA.set4 (HM0.out.trans (hm2)) (R:=w.heap.size+1) (.inl (by omega)) (.bool false) (.slice none 0 0) (.slice none 0 0) (.slice none 0 0));clear hE2 hm2 hR1;go_wp2_with fail;refine bodyPost_ret (zC rfl _ _ (w.heap.size+1) 174 #[.bool false,.slice none 0 0,.slice none 0 0,.slice none 0 0] _ rfl HRB.out Tryz.underlying174 rfl Tryz.nodeSize) rfl ?_;refine⟨?_,HMX.out⟩;rw[HD.out];exact⟨f2,rfl,HE2.out.unR HMR.out⟩
end
end
section
open Go.RowKit
attribute [local go_sem ↓] Go.wp_at_zero Go.wp_at_succ
section
variable {P P' F F':Nat->Prop}{ad:Nat->Addr}{w w' w2:World}{c s:Nat}{G:GA}{l:List Nat}
theorem jU.res[zW](h:jU F w P c s G l){R:Nat}(m:zA (λk=>k=R) w w')(hR:¬ P R)(hF:F R):jU F w' P c s G l :=
 h.plus m (λ_ hk e=>hR (e ▸ hk)) (λ_ e=>e ▸ hF) (λ_ _ h=>h)
theorem zPx[zW](hL:yG F ad w)(hP:∀k,P k->F k)(h:jU F w P c s G l)(gen:Nat)(id:Int)(hk:G.knows id) :
  Calls Tryz.prog 146 #[pgV c s gen,.int .i64 id] w (zDX F P ad w c s G l (λF' w' e=>zNT F' ad w' (G.load id) e)):=by
 have m0:zF w ((w.alloc (.cells #[.pointer (some ⟨c,0,none⟩),.pointer (some ⟨s,0,none⟩),.int .u64 (gen:Int)] 120)).alloc (.cells #[.bool false,.slice none 0 0,.slice none 0 0,.slice none 0 0] 174)):=((zA.refl _ w).alloc _).alloc _;have HB0:=oh ((zH.new w #[.pointer (some ⟨c,0,none⟩),.pointer (some ⟨s,0,none⟩),.int .u64 (gen:Int)] 120).alloc (.cells #[.bool false,.slice none 0 0,.slice none 0 0,.slice none 0 0] 174));have HR0:Hid (zH ((w.alloc (.cells #[.pointer (some ⟨c,0,none⟩),.pointer (some ⟨s,0,none⟩),.int .u64 (gen:Int)] 120)).alloc (.cells #[.bool false,.slice none 0 0,.slice none 0 0,.slice none 0 0] 174)) (w.heap.size+1) #[.bool false,.slice none 0 0,.slice none 0 0,.slice none 0 0] 174):=oh (zR (by simp));have HM0:=oh m0;have HL:=oh hL;have HP:=oh hP;have HG:=oh h;have HKN:=oh hk;have hRP:¬ P (w.heap.size+1):=λhp=>by have:=h.bd _ hp;omega
 have HRP:=oh hRP;have HBP:Hid (¬ P w.heap.size):=oh (λhp=>by have:=h.bd _ hp;omega);have HRD:=λw'=>zK6 (c:=c) (s:=s) (w:=w') [108,111].toByteArray gen
 clear hL hP h hk m0 hRP HRD;have HRY:=λop w'=>zK6 (c:=c) (s:=s) (w:=w') op gen
 unfold pgV at HRY ⊢
 go_enter Tryz.func146, Tryz.ntmps146
 go_wp2_with fail;refine (HRY _ _).mono ?_;rintro e w1 ⟨rfl,hm1⟩;have HM1:=oh (HM0.out.trans hm1);have hB1:=HB0.out.ext hm1;have b0:=hB1.cell (o:=0) (v:=.pointer (some ⟨c,0,none⟩)) rfl;have HN1:Hid (zY P P F (λk=>F k\/k=w.heap.size+1) ad w w1):=oh (zY.new HL.out HP.out (Q:=λk=>k=w.heap.size+1) HM1.out (λk hk=>by omega) (λk hk=>by have:=hB1.lt;have:=(HR0.out.ext hm1).lt;omega));have HG1:Hid (jU (λk=>F k\/k=w.heap.size+1) w1 P c s G l):=oh (HG.out.plusNew HP.out (Q:=λk=>k=w.heap.size+1) HM1.out (λk hk=>by omega));have HR1:=oh (HR0.out.ext hm1);have HB1:=oh hB1;clear hm1 hB1 HRY;go_wp2_with fail;refine (zRG HN1.out.env HN1.out.sub HG1.out id HKN.out).mono ?_;rintro e w2 ⟨P2,F2,hG2,hN2,hres⟩;have HG2:=oh hG2;have HN2:=oh hN2;have HR2:=oh (hN2.blk HR1.out HRP.out);have HRP2:Hid (¬ P2 (w.heap.size+1)):=oh (hN2.not HR1.out.lt HRP.out);have HRF2:Hid (F2 (w.heap.size+1)):=oh (hN2.grow _ (.inr rfl));clear hG2 hN2;rcases hres with ⟨x,xv,hx,rfl,hxv⟩|⟨er,f,hx,rfl,hE⟩
 .obtain⟨hxi,_,hxl⟩:=HG2.out.got hx;have HLD:Hid (G.load id=match qH x with | .inl n=>.inl n | .inr (l,k)=>.inr (-1 :: l,k)):=oh (by unfold GA.load;rw[hx];rfl);have HXV:=oh hxv;obtain⟨xa,xc,rfl,_,_,_,_⟩:=_root_.id hxv;clear hx hxv hxi;have HDC:=oh (zMm (F:=F2) (HN2.out.env.mods ((zA.refl _ w2).alloc (.cells #[.int .i64 x.kind,.int .i64 x.id,.int .u64 (x.gen:Int),.slice xa x.body.length xc] 192)).ext) x _ (HXV.out.ext ((zA.refl _ w2).alloc _)) hxl);unfold qA at HDC ⊢;go_wp2_with fail;refine (HDC.out).mono ?_;rintro e w3 ⟨hres,hm3⟩;have HM3:=oh hm3;clear hm3;generalize hdc:qH x=dr at hres
  have HDR:=oh hdc;clear hdc;rcases dr with n|⟨dl,dk⟩
  .obtain⟨ve,vk,vi,rfl,hse,hsk,hsi⟩:=hres;obtain⟨ea,ec,rfl,_,_,_,_⟩:=_root_.id hse;obtain⟨ka,kc,rfl,_,_,_,_⟩:=_root_.id hsk;obtain⟨ia,ic,rfl,_,_,_,_⟩:=_root_.id hsi;have HSE:=oh hse;have HSK:=oh hsk;have HSI:=oh hsi;clear hse hsk hsi;have hR3:=(HR2.out.ext (((zA.refl _ w2).alloc (.cells #[.int .i64 x.kind,.int .i64 x.id,.int .u64 (x.gen:Int),.slice xa x.body.length xc] 192)).trans HM3.out)).alloc (.cells #[.bool n.leaf,.slice ea n.entries.length ec,.slice ka n.keys.length kc,.slice ia n.kids.length ic] 174);have hX3:=zH.new w3 #[.bool n.leaf,.slice ea n.entries.length ec,.slice ka n.keys.length kc,.slice ia n.kids.length ic] 174;have x0:=hX3.cell (o:=0) (v:=.bool n.leaf) rfl;have x1:=hX3.cell (o:=1) (v:=.slice ea n.entries.length ec) rfl;have x2:=hX3.cell (o:=2) (v:=.slice ka n.keys.length kc) rfl;have x3:=hX3.cell (o:=3) (v:=.slice ia n.kids.length ic) rfl;have r0:=hR3.cell (o:=0) (v:=.bool false) rfl;have r1:=hR3.cell (o:=1) (v:=.slice none 0 0) rfl;have r2:=hR3.cell (o:=2) (v:=.slice none 0 0) rfl;have r3:=hR3.cell (o:=3) (v:=.slice none 0 0) rfl;have rf:=hR3.frozen;have hne:w3.heap.size≠w.heap.size+1:=by have:=HR2.out.lt;have:=HM3.out.size;simp at this;omega
   have hne2:w.heap.size+1≠w3.heap.size:=λe=>hne e.symm
   have HM4:=oh ((((zA.refl _ w2).alloc (.cells #[.int .i64 x.kind,.int .i64 x.id,.int .u64 (x.gen:Int),.slice xa x.body.length xc] 192)).trans HM3.out).alloc (.cells #[.bool n.leaf,.slice ea n.entries.length ec,.slice ka n.keys.length kc,.slice ia n.kids.length ic] 174));have HR3:=oh hR3;clear hR3 hX3;go_wp2_with fail;go_region_held3 (λw'=>w'.cell? ⟨w3.heap.size,0,none⟩=some (.bool n.leaf)/\w'.cell? ⟨w3.heap.size,1,none⟩=some (.slice ea n.entries.length ec)/\w'.cell? ⟨w3.heap.size,2,none⟩=some (.slice ka n.keys.length kc)/\w'.cell? ⟨w3.heap.size,3,none⟩=some (.slice ia n.kids.length ic))
    (first|(with_reducible exact⟨x0,x1,x2,x3⟩)|go_keep)
    (first
     | (go_at_call 48;(with_reducible refine (wrap_nil _ _).mono ?_);rintro e w4 ⟨rfl,rfl⟩)
     | fail)
   have HRB:=oh ((HR3.out.set4 (.bool n.leaf) (.slice ea n.entries.length ec) (.slice ka n.keys.length kc) (.slice ia n.kids.length ic)).drew);have HMR:=oh ((zA.set4 (F:=λk=>k=w.heap.size+1) (zA.refl _ (w3.alloc (.cells #[.bool n.leaf,.slice ea n.entries.length ec,.slice ka n.keys.length kc,.slice ia n.kids.length ic] 174))) (R:=w.heap.size+1) (.inr rfl) (.bool n.leaf) (.slice ea n.entries.length ec) (.slice ka n.keys.length kc) (.slice ia n.kids.length ic)).drew);clear x0 x1 x2 x3 r0 r1 r2 r3 rf;go_wp2_with fail;refine bodyPost_ret (zC rfl _ _ (w.heap.size+1) 174 #[.bool n.leaf,.slice ea n.entries.length ec,.slice ka n.keys.length kc,.slice ia n.kids.length ic] _ rfl HRB.out Tryz.underlying174 rfl Tryz.nodeSize) rfl ?_;have HMF:=HMR.out.mono (G:=F2) (λk hk=>hk ▸ HRF2.out);refine⟨P2,F2,(HG2.out.at HM4.out).res HMR.out HRP2.out HRF2.out,((HN1.out.trans HN2.out).trans (zY.ext HN2.out.env HN2.out.sub HM4.out)).resD HMR.out (by omega) HRF2.out,?_⟩;rw[HLD.out,HDR.out];exact⟨_,_,_,rfl,(HSE.out.ext ((zA.refl _ w3).alloc _)).mods HMF,(HSK.out.ext ((zA.refl _ w3).alloc _)).mods HMF,(HSI.out.ext ((zA.refl _ w3).alloc _)).mods HMF⟩
  .obtain⟨f,rfl,hE⟩:=hres;have HE:=oh hE;clear hE;have HL4:=oh (HN2.out.env.mods ((((zA.refl _ w2).alloc (.cells #[.int .i64 x.kind,.int .i64 x.id,.int .u64 (x.gen:Int),.slice xa x.body.length xc] 192)).trans HM3.out).alloc (.cells #[.bool false,.slice none 0 0,.slice none 0 0,.slice none 0 0] 174)).drew.ext);have hR3:=(HR2.out.ext (((zA.refl _ w2).alloc (.cells #[.int .i64 x.kind,.int .i64 x.id,.int .u64 (x.gen:Int),.slice xa x.body.length xc] 192)).trans HM3.out)).alloc (.cells #[.bool false,.slice none 0 0,.slice none 0 0,.slice none 0 0] 174);have hX3:=zH.new w3 #[.bool false,.slice none 0 0,.slice none 0 0,.slice none 0 0] 174;have x0:=hX3.cell (o:=0) (v:=.bool false) rfl;have x1:=hX3.cell (o:=1) (v:=.slice none 0 0) rfl;have x2:=hX3.cell (o:=2) (v:=.slice none 0 0) rfl;have x3:=hX3.cell (o:=3) (v:=.slice none 0 0) rfl;have r0:=hR3.cell (o:=0) (v:=.bool false) rfl;have r1:=hR3.cell (o:=1) (v:=.slice none 0 0) rfl;have r2:=hR3.cell (o:=2) (v:=.slice none 0 0) rfl;have r3:=hR3.cell (o:=3) (v:=.slice none 0 0) rfl;have rf:=hR3.frozen;have hne:w3.heap.size≠w.heap.size+1:=by have:=HR2.out.lt;have:=HM3.out.size;simp at this;omega
   have hne2:w.heap.size+1≠w3.heap.size:=λe=>hne e.symm
   have HM4:=oh ((((zA.refl _ w2).alloc (.cells #[.int .i64 x.kind,.int .i64 x.id,.int .u64 (x.gen:Int),.slice xa x.body.length xc] 192)).trans HM3.out).alloc (.cells #[.bool false,.slice none 0 0,.slice none 0 0,.slice none 0 0] 174));have HR3:=oh hR3;clear hR3 hX3;go_wp2_with fail;go_region_held3 (λw'=>w'.cell? ⟨w3.heap.size,0,none⟩=some (.bool false)/\w'.cell? ⟨w3.heap.size,1,none⟩=some (.slice none 0 0)/\w'.cell? ⟨w3.heap.size,2,none⟩=some (.slice none 0 0)/\w'.cell? ⟨w3.heap.size,3,none⟩=some (.slice none 0 0))
    (first|(with_reducible exact⟨x0,x1,x2,x3⟩)|(with_reducible exact⟨y0,y1,y2,y3⟩)|go_keep)
    (first
     | (go_at_call 48;(with_reducible refine (wrap_any HL4.out _ _ _ _ (HE.out.mods ((zA.refl _ w3).alloc (.cells #[.bool false,.slice none 0 0,.slice none 0 0,.slice none 0 0] 174)).drew.ext)).mono ?_);rintro e w4 ⟨f4,rfl,hE4,hm4⟩;have hR4:=(HR3.out.drew).ext hm4;have r0:=hR4.cell (o:=0) (v:=.bool false) rfl;have r1:=hR4.cell (o:=1) (v:=.slice none 0 0) rfl;have r2:=hR4.cell (o:=2) (v:=.slice none 0 0) rfl;have r3:=hR4.cell (o:=3) (v:=.slice none 0 0) rfl;have rf:=hR4.frozen;have y0:=zE hm4 x0;have y1:=zE hm4 x1;have y2:=zE hm4 x2;have y3:=zE hm4 x3)
     | fail)
   have HRB:=oh (hR4.set4 (.bool false) (.slice none 0 0) (.slice none 0 0) (.slice none 0 0));have HMR:=oh (zA.set4 (F:=λk=>k=w.heap.size+1) (zA.refl _ w4) (R:=w.heap.size+1) (.inr rfl) (.bool false) (.slice none 0 0) (.slice none 0 0) (.slice none 0 0));have HE4:=oh hE4;have HM5:=oh (HM4.out.drew.trans hm4);clear x0 x1 x2 x3 r0 r1 r2 r3 rf y0 y1 y2 y3 hE4 hm4 hR4;go_wp2_with fail;refine bodyPost_ret (zC rfl _ _ (w.heap.size+1) 174 #[.bool false,.slice none 0 0,.slice none 0 0,.slice none 0 0] _ rfl HRB.out Tryz.underlying174 rfl Tryz.nodeSize) rfl ?_;refine⟨P2,F2,(HG2.out.at HM5.out).res HMR.out HRP2.out HRF2.out,((HN1.out.trans HN2.out).trans (zY.ext HN2.out.env HN2.out.sub HM5.out)).resD HMR.out (by omega) HRF2.out,?_⟩;rw[HLD.out,HDR.out];exact⟨f4,rfl,HE4.out.mods (HMR.out.mono (λk hk=>hk ▸ HRF2.out))⟩
 .obtain⟨el,ek⟩:=er;have HLD:Hid (G.load id=.inr (-1 :: el,ek)):=oh (by unfold GA.load;rw[hx]);have HE:=oh hE;clear hx hE;simp only[qA,zHb];go_wp2_with fail;have HL2:=oh (HN2.out.env.mods ((zA.refl _ w2).alloc (.cells #[.int .i64 0,.int .i64 0,.int .u64 0,.slice none 0 0] 192)).ext);refine (wrap_any HL2.out _ _ _ _ (HE.out.mods ((zA.refl _ w2).alloc (.cells #[.int .i64 0,.int .i64 0,.int .u64 0,.slice none 0 0] 192)).ext)).mono ?_;rintro e w3 ⟨f3,rfl,hE3,hm3⟩;have hR3:=HR2.out.ext (((zA.refl _ w2).alloc (.cells #[.int .i64 0,.int .i64 0,.int .u64 0,.slice none 0 0] 192)).trans hm3);have r0:=hR3.cell (o:=0) (v:=.bool false) rfl;have r1:=hR3.cell (o:=1) (v:=.slice none 0 0) rfl;have r2:=hR3.cell (o:=2) (v:=.slice none 0 0) rfl;have r3:=hR3.cell (o:=3) (v:=.slice none 0 0) rfl;have rf:=hR3.frozen;have HE3:=oh hE3;have HRB:=oh (hR3.set4 (.bool false) (.slice none 0 0) (.slice none 0 0) (.slice none 0 0));have HMR:=oh (zA.set4 (F:=λk=>k=w.heap.size+1) (zA.refl _ w3) (R:=w.heap.size+1) (.inr rfl) (.bool false) (.slice none 0 0) (.slice none 0 0) (.slice none 0 0));have HM3:=oh (((zA.refl _ w2).alloc (.cells #[.int .i64 0,.int .i64 0,.int .u64 0,.slice none 0 0] 192)).trans hm3);clear hE3 hm3 hR3;go_wp2_with fail;refine bodyPost_ret (zC rfl _ _ (w.heap.size+1) 174 #[.bool false,.slice none 0 0,.slice none 0 0,.slice none 0 0] _ rfl HRB.out Tryz.underlying174 rfl Tryz.nodeSize) rfl ?_;refine⟨P2,F2,(HG2.out.at HM3.out).res HMR.out HRP2.out HRF2.out,((HN1.out.trans HN2.out).trans (zY.ext HN2.out.env HN2.out.sub HM3.out)).resD HMR.out (by omega) HRF2.out,?_⟩;rw[HLD.out];exact⟨f3,rfl,HE3.out.mods (HMR.out.mono (λk hk=>hk ▸ HRF2.out))⟩
end
section
variable {P P' P1 P2 F F' F1 F2 Q:Nat->Prop}{ad:Nat->Addr}{w w' wr w2:World}{c s:Nat}{G:GA}{l:List Nat}{v v':Value}{st st':List (Int × Nat)}{gen:Nat}
theorem jU.anti[zW](h:jU F w P c s G l)(hQ:∀k,Q k->F k):jU Q w P c s G l :=
 h.plus (Q:=λ_=>False) (zA.refl _ w) (λ_ _ f=>f) (λ_ f=>f.elim) (λk _ hn hq=>hn (hQ k hq))
end
end
section
open Go.RowKit
theorem zOf(e:zV):((zAP e).length:Int)=jV e:=by
 unfold zAP jV;by_cases h:e.chain=0
 .rw[if_pos h,if_pos h];simp only[List.length_append,zD,zB9];omega
 .rw[if_neg h,if_neg h];simp only[List.length_append,zD,zB9];omega
theorem zJL:∀l:List zV,((l.flatMap zAP).length:Int)=yL l
 | []=>rfl
 | e :: l=>by
  rw[List.flatMap_cons,List.length_append,yL,<- zJL l,<- zOf e];omega
theorem zJM:∀(l:List ByteArray) (k:List Int),l.length<=k.length->(((l.zip k).flatMap zAi).length:Int)=yT l
 | [],_,_=>rfl
 | s :: l,[],h=>by simp at h
 | s :: l,c :: k,h=>by
  rw[List.zip_cons_cons,List.flatMap_cons,List.length_append,yT,<- zJM l k (by simpa using h)];unfold zAi;rw[List.length_append,zB9,zD];simp only;omega
def zAt(n:zJ):Prop:=if n.leaf=true then n.keys=[]/\n.kids=[] else n.entries=[]/\n.kids.length=n.keys.length+1
theorem zAm{n:zJ}(h:zAt n):zG n=((yE n).length:Int):=by
 unfold zAt at h;unfold zG yE;cases hl:n.leaf with
 | true =>
  rw[if_pos hl] at h;simp only[if_true];rw[h.1,List.length_append,zD];have:=zJL n.entries;simp only[yT];omega
 | false =>
  rw[if_neg (by rw[hl];simp)] at h;simp only[Bool.false_eq_true,if_false];rw[h.1,List.length_append,List.length_append,zD,zD];have:=zJM n.keys n.kids.tail (by rw[List.length_tail];omega);simp only[yL];omega
theorem qU{n:zJ}(h:zO n=true):zAt n:=by
 unfold zAt;unfold zO at h;cases hl:n.leaf with
 | true =>
  rw[if_pos hl] at h;simp only[Bool.and_eq_true,List.isEmpty_iff] at h;rw[if_pos rfl];exact⟨h.1.1.1.2,h.1.1.2⟩
 | false =>
  rw[if_neg (by rw[hl];simp)] at h;simp only[Bool.and_eq_true,List.isEmpty_iff,decide_eq_true_eq] at h;rw[if_neg (by simp)];exact⟨h.1.1.1.1.1.1.1,h.1.1.1.1.1.2⟩
theorem zJ7(l:List zV)(k:Nat):yL (l.drop k)<=yL l:=by
 have:=zAB (l.take k) (l.drop k);rw[List.take_append_drop] at this;have:=zAR (l.take k);omega
theorem zJ8(l:List ByteArray)(k:Nat):yT (l.drop k)<=yT l:=by
 have:=jF (l.take k) (l.drop k);rw[List.take_append_drop] at this;have:=zAe (l.take k);omega
structure zBG(n:zJ)(a:Nat):Prop where
 leaf:n.leaf=true->1<=a/\a<n.entries.length
 inner:n.leaf=false->2<=a/\a+1<n.kids.length
theorem zLM{n:zJ}{a:Nat}(h1:qZ n<=a)(h2:a<qZ n+jL n):zBG n a:=by
 unfold qZ at h1 h2;unfold jL at h2;constructor
 .intro hl;simp only[hl,if_true] at h1 h2;omega
 .intro hl;simp only[hl,Bool.false_eq_true,if_false] at h1 h2;omega
section
variable {n:zJ}{a:Nat}
theorem zCU(hl:n.leaf=true):(zU n a).1=⟨true,n.entries.take a,[],[]⟩:=by unfold zU;rw[if_pos hl]
theorem zCV(hl:n.leaf=true):(zU n a).2.2=⟨true,n.entries.drop a,[],[]⟩:=by unfold zU;rw[if_pos hl]
theorem zCq(hl:n.leaf=false):(zU n a).1=⟨false,[],n.keys.take (a-1),n.kids.take a⟩:=by unfold zU;rw[if_neg (by rw[hl];simp)]
theorem zCr(hl:n.leaf=false):(zU n a).2.2=⟨false,[],n.keys.drop a,n.kids.drop a⟩:=by unfold zU;rw[if_neg (by rw[hl];simp)]
theorem zLN:(zU n a).1.leaf=n.leaf:=by
 cases hl:n.leaf
 .rw[zCq hl]
 .rw[zCU hl]
theorem zLO:(zU n a).2.2.leaf=n.leaf:=by
 cases hl:n.leaf
 .rw[zCr hl]
 .rw[zCV hl]
theorem zHy(h:zAt n)(hp:zBG n a):zAt (zU n a).1/\zAt (zU n a).2.2:=by
 unfold zAt at h;cases hl:n.leaf with
 | true =>
  rw[zCU hl,zCV hl];exact⟨⟨rfl,rfl⟩,⟨rfl,rfl⟩⟩
 | false =>
  rw[if_neg (by rw[hl];simp)] at h;have:=hp.inner hl;rw[zCq hl,zCr hl];unfold zAt;simp only[Bool.false_eq_true,if_false,List.length_take,List.length_drop,true_and];omega
theorem zJ9:zG (zU n a).1<=zG n/\zG (zU n a).2.2<=zG n:=by
 have e1:=zAR n.entries;have e2:=zBd n.entries a;have e3:=zJ7 n.entries a;have e4:=zAe n.keys;have e5:=zCk n.keys (a-1);have e6:=zJ8 n.keys a;cases hl:n.leaf with
 | true =>
  rw[zCU hl,zCV hl];unfold zG;simp only[hl,if_true,yT];omega
 | false =>
  rw[zCq hl,zCr hl];unfold zG;simp only[hl,Bool.false_eq_true,if_false,yL];omega
theorem zHz(n:zJ):2<=zG n:=by
 have e1:=zAR n.entries;have e4:=zAe n.keys;unfold zG;split <;> omega
theorem zQs(h:zAt n)(hp:zBG n a):(zHA (zU n a).1:Int)=zG (zU n a).1:=(zAm (zHy h hp).1).symm
theorem zQt(h:zAt n)(hp:zBG n a):(zHA (zU n a).2.2:Int)=zG (zU n a).2.2:=(zAm (zHy h hp).2).symm
theorem zDe(h:zAt n)(hp:zBG n a):(zAj n a:Int)=if zG (zU n a).1-zG (zU n a).2.2<0 then -(zG (zU n a).1-zG (zU n a).2.2) else zG (zU n a).1-zG (zU n a).2.2:=by
 unfold zAj;rw[zQs h hp,zQt h hp];split <;> omega
end
end
end Go.Proofs.YteabpacpngaoaaaGreatDoor
