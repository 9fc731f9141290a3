import Derived.Test.YteabpacpngaoaaaGreatDoorC14
import Derived.Deep.RegionHeld3
import Derived.BigQuiet
namespace Go.Proofs.YteabpacpngaoaaaGreatDoor
open Lib renaming hid->oh
open Go.RowKit
def zAg(p:zX)(k:Nat):Nat:=qG p.body (4 * k) 4
def zIz(p:zX):Nat->Array Value
 | 0=>#[.int .i64 0,.int .i64 0,.int .i64 0,.int .i64 0]
 | 1=>#[.int .i64 (zAg p 0:Int),.int .i64 0,.int .i64 0,.int .i64 0]
 | 2=>#[.int .i64 (zAg p 0:Int),.int .i64 (zAg p 1:Int),.int .i64 0,.int .i64 0]
 | 3=>#[.int .i64 (zAg p 0:Int),.int .i64 (zAg p 1:Int),.int .i64 (zAg p 2:Int),.int .i64 0]
 | _=>#[.int .i64 (zAg p 0:Int),.int .i64 (zAg p 1:Int),.int .i64 (zAg p 2:Int),.int .i64 (zAg p 3:Int)]
theorem zN2(p:zX):∀k,k<4->(zIz p k).setIfInBounds k (.int .i64 (zAg p k:Int))=zIz p (k+1)
 | 0,_=>rfl
 | 1,_=>rfl
 | 2,_=>rfl
 | 3,_=>rfl
 | k+4,h=>by omega
theorem zMC(p:zX):∀k,(zIz p k).size=4
 | 0=>rfl
 | 1=>rfl
 | 2=>rfl
 | 3=>rfl
 | _+4=>rfl
theorem Tryz.superSize:(Tryz.prog.info? 57).map (·.size)=some 5:=by kernel_rfl
set_option maxRecDepth 100000 in
set_option maxHeartbeats 1600000 in
theorem zMD{F:Nat->Prop}{ad:Nat->Addr}{w:World}(hL:yG F ad w)(p:zX)(bv:Value)(hb:Sl F w 1 zZ bv p.body)(hok:zF4 p=true)(hg:p.gen<18446744073709551616) :
  Calls Tryz.prog 192 #[qA p bv] w λe w'=>e=.returned (.tuple #[qF (zEQ p),.bool true])/\zF w w':=by
 have HB:Hid (∀w',zF w w'->Sl F w' 1 zZ bv p.body):=oh (λw' m=>hb.ext m);have HL:Hid (∀w',zF w w'->yG F ad w'):=oh (λw' m=>hL.mods m.ext);clear hL;have hok':=hok;simp only[zF4,Bool.and_eq_true,decide_eq_true_eq] at hok';obtain⟨⟨⟨k1,k2⟩,k3⟩,k4⟩:=hok';have HC:Hid (zBC (zEQ p)=none):=oh (by unfold zBC;rw[if_pos k4]);have HT:Hid (∀k,k<4->vI p.body ((4 * k:Nat):Int) 4=(zAg p k,none)):=oh (λk hk=>zDs _ _ _ (by omega));have HT8:Hid (vI p.body ((16:Nat):Int) 8=(p.gen,none)):=oh (by rw[zDs _ _ _ (by omega),k2]);have HNB:Hid (∀k,zAg p k<4294967296):=oh (λk=>zC2 p.body _ 4);have HSV:Hid (qF (zEQ p)=.agg #[.int .u64 (p.gen:Int),.int .i64 (zAg p 0:Int),.int .i64 (zAg p 1:Int),.int .i64 (zAg p 2:Int),.int .i64 (zAg p 3:Int)]):=oh rfl;have HRS:=oh (zN2 p);have HRZ:=oh (zMC p);have HG:=oh hg;obtain⟨a,cap,rfl,i1,i2,i3,i4⟩:=hb;unfold maxLen at i2;clear i4;have hl24:Hid (p.body.length=24):=oh k1;have HP:Hid (∀bv,qA p bv=.agg #[.int .i64 1,.int .i64 p.id,.int .u64 (p.gen:Int),bv]):=oh (λbv=>by rw[qA,k3]);rw[HP.out];obtain⟨n,hn⟩:∃n,n=p.body.length:=⟨_,rfl⟩;obtain⟨I,hI⟩:∃I,I=p.id:=⟨_,rfl⟩;obtain⟨g,hgg⟩:∃g,g=p.gen:=⟨_,rfl⟩;rw[<- hn,<- hI,<- hgg];rw[<- hn] at HB hl24 i1 i3;rw[<- hgg] at HSV HT8 HG;have hgu:g<18446744073709551616:=HG.out;obtain rfl:n=24:=hl24.out;clear hn hI hgg k1 k2 k3 k4 hok hg HP;obtain⟨W0,hW0⟩:∃W0,W0=((w.alloc (.cells #[.int .i64 1,.int .i64 I,.int .u64 (g:Int),.slice a 24 cap] 192)).alloc (.cells #[.int .u64 0,.int .i64 0,.int .i64 0,.int .i64 0,.int .i64 0] 57)).alloc (.cells #[.int .i64 0,.int .i64 0,.int .i64 0,.int .i64 0] 240):=⟨_,rfl⟩;have hM0:zF w W0:=by rw[hW0];exact (((zA.refl _ w).alloc _).alloc _).alloc _
 have hBX:zH W0 w.heap.size #[.int .i64 1,.int .i64 I,.int .u64 (g:Int),.slice a 24 cap] 192:=by rw[hW0];exact ((zH.new w _ _).alloc _).alloc _
 have hBR:zH W0 (w.heap.size+1) #[.int .u64 0,.int .i64 0,.int .i64 0,.int .i64 0,.int .i64 0] 57:=by rw[hW0];exact zH.alloc (show zH _ (w.heap.size+1) _ _ from zR (by simp)) _
 have hBA:zH W0 (w.heap.size+2) (zIz p 0) 240:=by rw[hW0];exact zR (by simp)
 go_enter Tryz.func192, Tryz.ntmps192
 go_wp2_with fail;rw[<- hW0];have hsz:W0.heap.size=w.heap.size+3:=by rw[hW0];simp
 have HM:=oh hM0;have HX:=oh hBX;have HR:=oh hBR;have HA:=oh hBA;clear hW0 hM0 hBX hBR hBA;go_loopg [11] 4 (λm v11 wr=>∃k:Nat,k+m=4/\v11=.int .i64 k/\Hid (zF w wr)/\Hid (zH wr w.heap.size #[.int .i64 1,.int .i64 I,.int .u64 (g:Int),.slice a 24 cap] 192)/\Hid (zH wr (w.heap.size+1) #[.int .u64 0,.int .i64 0,.int .i64 0,.int .i64 0,.int .i64 0] 57)/\Hid (zH wr (w.heap.size+2) (zIz p k) 240))
 case atStart=>exact⟨0,rfl,rfl,HM,HX,HR,HA⟩
 case round =>
  clear HM HX HR HA;obtain⟨k,hk,rfl,HM,HX,HR,HA⟩:=hrel;by_cases hlt:k<4
  .have c3:=HX.out.cell (o:=3) rfl;have hnb:=HNB.out k;obtain⟨n,hn⟩:∃n,n=zAg p k:=⟨_,rfl⟩;have HN:=oh hn;rw[<- hn] at hnb;have TA:=zDt (HL.out _ HM.out) _ p.body (HB.out _ HM.out) (4 * k) 4 n (by decide) (by rw[HT.out k hlt,hn]);have e4:((4 * k:Nat):Int)=4 * (k:Int):=by omega
   rw[e4] at TA;have TA:=oh TA;clear hn e4;go_wp2_with fail;refine TA.out.mono ?_;rintro e w3 ⟨rfl,hm⟩;have hA:=HA.out.ext hm;obtain⟨x,hx⟩:∃x,(zIz p k)[k]? = some x:=⟨_,by rw[Array.getElem?_eq_getElem (by rw[HRZ.out];exact hlt)]⟩;have cA:=hA.cell hx;have fA:=hA.frozen k;have HM3:=oh (HM.out.trans hm);have HX3:=oh (HX.out.ext hm);have HR3:=oh (HR.out.ext hm);have HA3:=oh hA;have i1:(0:Int)<=(k:Int):=by omega
   have i2:(k:Int)<4:=by omega
   clear hA hm hx c3 TA;go_wp2_with fail;go_roundg (gk-1)
   case measure=>omega
   case rel=>exact⟨k+1,by omega,by go_num,oh ((zA.setCell (F:=λ_=>False) HM3.out (.inl (by simp <;> omega)) _)),oh (HX3.out.set_other (by simp <;> omega) _),oh (HR3.out.set_other (by simp <;> omega) _),oh (by rw[<- HRS.out k hlt,<- HN.out];exact HA3.out.set _ _)⟩
  .obtain rfl:k=4:=by omega
   have c2:=HX.out.cell (o:=2) rfl;have c3:=HX.out.cell (o:=3) rfl;have a0:=HA.out.cell (o:=0) (v:=.int .i64 (zAg p 0:Int)) rfl;have a1:=HA.out.cell (o:=1) (v:=.int .i64 (zAg p 1:Int)) rfl;have a2:=HA.out.cell (o:=2) (v:=.int .i64 (zAg p 2:Int)) rfl;have a3:=HA.out.cell (o:=3) (v:=.int .i64 (zAg p 3:Int)) rfl;obtain⟨n0,h0⟩:∃n,n=zAg p 0:=⟨_,rfl⟩;obtain⟨n1,h1⟩:∃n,n=zAg p 1:=⟨_,rfl⟩;obtain⟨n2,h2⟩:∃n,n=zAg p 2:=⟨_,rfl⟩;obtain⟨n3,h3⟩:∃n,n=zAg p 3:=⟨_,rfl⟩;rw[<- h0] at a0 HSV;rw[<- h1] at a1 HSV;rw[<- h2] at a2 HSV;rw[<- h3] at a3 HSV;obtain⟨Y,hY⟩:∃Y,Y=wr.heap.size:=⟨_,rfl⟩;have hYX:w.heap.size+3<=Y:=by have:=HA.out.lt;omega
   have hz0:w.heap.size<wr.heap.size:=by omega
   have M2:zF wr (wr.alloc (.cells #[.int .u64 (g:Int),.int .i64 (n0:Int),.int .i64 (n1:Int),.int .i64 (n2:Int),.int .i64 (n3:Int)] 57)):=(zA.refl _ wr).alloc _;have TA:=zDt (HL.out _ (HM.out.trans M2)) _ p.body (HB.out _ (HM.out.trans M2)) 16 8 g (by decide) HT8.out;rw[show ((16:Nat):Int)=16 from rfl,show ((8:Nat):Int)=8 from rfl] at TA;have TA:=oh TA;have HY0:=oh (zH.new wr #[.int .u64 (g:Int),.int .i64 (n0:Int),.int .i64 (n1:Int),.int .i64 (n2:Int),.int .i64 (n3:Int)] 57);have HM2:=oh M2;clear h0 h1 h2 h3 M2;go_wp2_with fail;refine TA.out.mono ?_;rintro e w3 ⟨rfl,hm⟩;have HM3:=oh (HM.out.trans (HM2.out.trans hm));have HX3:=oh ((HX.out.ext HM2.out).ext hm);have HR3:=oh ((HR.out.ext HM2.out).ext hm);have HY3:=oh (HY0.out.ext hm);rw[<- hY] at HY3 ⊢;have hY3:=HY3.out.lt;have hzz:w.heap.size+1<w3.heap.size:=by omega
   clear HA HX HR HM HY0 HM2 hm TA a0 a1 a2 a3 c2 c3;obtain⟨R,hR⟩:∃R,R=w.heap.size+1:=⟨_,rfl⟩;rw[<- hR] at HR3 ⊢;have r1:w.heap.size≠R:=by omega
   have r2:Y≠R:=by omega
   have r3:w.heap.size<=R:=by omega
   have HSX:=λ(W:World) (x:zH W w.heap.size #[.int .i64 1,.int .i64 I,.int .u64 (g:Int),.slice a 24 cap] 192) (y:zH W Y #[.int .u64 (g:Int),.int .i64 (n0:Int),.int .i64 (n1:Int),.int .i64 (n2:Int),.int .i64 (n3:Int)] 57)=>And.intro (x.cell (o:=0) (v:=.int .i64 1) rfl) (And.intro (x.cell (o:=2) (v:=.int .u64 (g:Int)) rfl) (And.intro (x.cell (o:=3) (v:=.slice a 24 cap) rfl) (And.intro (y.cell (o:=0) (v:=.int .u64 (g:Int)) rfl) (And.intro (y.cell (o:=1) (v:=.int .i64 (n0:Int)) rfl) (And.intro (y.cell (o:=2) (v:=.int .i64 (n1:Int)) rfl) (And.intro (y.cell (o:=3) (v:=.int .i64 (n2:Int)) rfl) (y.cell (o:=4) (v:=.int .i64 (n3:Int)) rfl)))))))
   have zd:=HSX w3.drew HX3.out HY3.out;have HSX:=oh HSX;have HCK:=oh (zFd (HL.out _ HM3.out.drew) (zEQ p));rw[HSV.out] at HCK;clear hR hY;go_wp2_with fail;go_region_held3 (λw'=>w'.cell? ⟨w.heap.size,0,none⟩=some (.int .i64 1)/\w'.cell? ⟨w.heap.size,2,none⟩=some (.int .u64 (g:Int))/\w'.cell? ⟨w.heap.size,3,none⟩=some (.slice a 24 cap)/\w'.cell? ⟨Y,0,none⟩=some (.int .u64 (g:Int))/\w'.cell? ⟨Y,1,none⟩=some (.int .i64 (n0:Int))/\w'.cell? ⟨Y,2,none⟩=some (.int .i64 (n1:Int))/\w'.cell? ⟨Y,3,none⟩=some (.int .i64 (n2:Int))/\w'.cell? ⟨Y,4,none⟩=some (.int .i64 (n3:Int)))
    (first|(with_reducible exact zd)|(with_reducible exact z5)|(with_reducible exact z6)|fail)
    (first
     | (go_at_call 138;(with_reducible refine HCK.out.mono ?_);rintro e w5 ⟨ev,rfl,hE,m5⟩;rw[HC.out] at hE;cases hE;have z5:=HSX.out w5 (HX3.out.ext ((zA.refl _ w3).drew.trans m5)) (HY3.out.ext ((zA.refl _ w3).drew.trans m5));have hR5:=HR3.out.ext ((zA.refl _ w3).drew.trans m5);have b0:=hR5.cell (o:=0) rfl;have b1:=hR5.cell (o:=1) rfl;have b2:=hR5.cell (o:=2) rfl;have b3:=hR5.cell (o:=3) rfl;have b4:=hR5.cell (o:=4) rfl;have bf:=hR5.frozen;have z6:=HSX.out _ ((HX3.out.ext ((zA.refl _ w3).drew.trans m5)).mods (zA.set5 (F:=λk=>k=R) (zA.refl _ w5) (R:=R) (.inr rfl) (.int .u64 (g:Int)) (.int .i64 (n0:Int)) (.int .i64 (n1:Int)) (.int .i64 (n2:Int)) (.int .i64 (n3:Int))) r1) ((HY3.out.ext ((zA.refl _ w3).drew.trans m5)).mods (zA.set5 (F:=λk=>k=R) (zA.refl _ w5) (R:=R) (.inr rfl) (.int .u64 (g:Int)) (.int .i64 (n0:Int)) (.int .i64 (n1:Int)) (.int .i64 (n2:Int)) (.int .i64 (n3:Int))) r2);have HR5:=oh hR5;have HM5:=oh ((zA.refl _ w3).drew.trans m5))
     | fail)
   have HRB:=oh (HR5.out.set5 (.int .u64 (g:Int)) (.int .i64 (n0:Int)) (.int .i64 (n1:Int)) (.int .i64 (n2:Int)) (.int .i64 (n3:Int)));have HMR:=oh (zA.set5 (F:=λ_=>False) (HM3.out.trans HM5.out) (R:=R) (.inl (by omega)) (.int .u64 (g:Int)) (.int .i64 (n0:Int)) (.int .i64 (n1:Int)) (.int .i64 (n2:Int)) (.int .i64 (n3:Int)));clear zd z5 z6 b0 b1 b2 b3 b4 bf;go_wp2_with fail;refine bodyPost_ret (zC rfl _ _ R 57 #[.int .u64 (g:Int),.int .i64 (n0:Int),.int .i64 (n1:Int),.int .i64 (n2:Int),.int .i64 (n3:Int)] _ rfl HRB.out Tryz.underlying57 rfl Tryz.superSize) rfl ?_;exact⟨by rw[HSV.out];rfl,HMR.out⟩
end Go.Proofs.YteabpacpngaoaaaGreatDoor
