import Derived.Test.YtgphfebjjedeaaaGreatDoorV11
import Derived.Test.YtgphfebjjedeaaaGreatDoorV08
import Derived.Deep.RegionHeld3
import Derived.BigQuiet
namespace Go.Proofs.YtgphfebjjedeaaaGreatDoor
open Lib renaming hid->oh
open Go.RowKit
def zAq(p:yF)(k:Nat):Nat:=zZ p.body (4 * k) 4
def zJF(p:yF):Nat->Array Value
 | 0=>#[.int .i64 0,.int .i64 0,.int .i64 0,.int .i64 0]
 | 1=>#[.int .i64 (zAq p 0:Int),.int .i64 0,.int .i64 0,.int .i64 0]
 | 2=>#[.int .i64 (zAq p 0:Int),.int .i64 (zAq p 1:Int),.int .i64 0,.int .i64 0]
 | 3=>#[.int .i64 (zAq p 0:Int),.int .i64 (zAq p 1:Int),.int .i64 (zAq p 2:Int),.int .i64 0]
 | _=>#[.int .i64 (zAq p 0:Int),.int .i64 (zAq p 1:Int),.int .i64 (zAq p 2:Int),.int .i64 (zAq p 3:Int)]
theorem zOr(p:yF):∀k,k<4->(zJF p k).setIfInBounds k (.int .i64 (zAq p k:Int))=zJF p (k+1)
 | 0,_=>rfl
 | 1,_=>rfl
 | 2,_=>rfl
 | 3,_=>rfl
 | k+4,h=>by omega
theorem zMz(p:yF):∀k,(zJF p k).size=4
 | 0=>rfl
 | 1=>rfl
 | 2=>rfl
 | 3=>rfl
 | _+4=>rfl
theorem Tryz.superSize:(Tryz.prog.info? 93).map (·.size)=some 5:=by kernel_rfl
set_option maxRecDepth 100000 in
set_option maxHeartbeats 1600000 in
theorem zM0{F:NP}{ad:Nat->Addr}{w:World}(hL:yE F ad w)(p:yF)(bv:Value)(hb:Sl F w 1 zO bv p.body)(hok:zGO p=true)(hg:p.gen<18446744073709551616) :
  Calls Tryz.prog 218 #[qF p bv] w λe w'=>e=.returned (.tuple #[zAK (zEL p),.bool true])/\zG w w':=by
 have HB:Hid (∀w',zG w w'->Sl F w' 1 zO bv p.body):=oh (λw' m=>hb.ext m);have HL:Hid (∀w',zG w w'->yE F ad w'):=oh (λw' m=>hL.mods m.ext);clear hL;have hok':=hok;simp only[zGO,uL,uR] at hok';obtain⟨⟨⟨k1,k2⟩,k3⟩,k4⟩:=hok';have HC:Hid (zBE (zEL p)=none):=oh (by unfold zBE;rw[if_pos k4]);have HT:Hid (∀k,k<4->yO p.body ((4 * k:Nat):Int) 4=(zAq p k,none)):=oh (λk hk=>zDq _ _ _ (by omega));have HT8:Hid (yO p.body ((16:Nat):Int) 8=(p.gen,none)):=oh (by rw[zDq _ _ _ (by omega),k2]);have HNB:Hid (∀k,zAq p k<4294967296):=oh (λk=>vB p.body _ 4);have HSV:Hid (zAK (zEL p)=.agg #[.int .u64 (p.gen:Int),.int .i64 (zAq p 0:Int),.int .i64 (zAq p 1:Int),.int .i64 (zAq p 2:Int),.int .i64 (zAq p 3:Int)]):=oh rfl;have HRS:=oh (zOr p);have HRZ:=oh (zMz p);have HG:=oh hg;obtain⟨a,cap,rfl,i1,i2,i3,i4⟩:=hb;unfold maxLen at i2;clear i4;have hl24:Hid (p.body.length=24):=oh k1;have HP:Hid (∀bv,qF p bv=.agg #[.int .i64 1,.int .i64 p.id,.int .u64 (p.gen:Int),bv]):=oh (λbv=>by rw[qF,k3]);rw[HP.out];obtain⟨n,hn⟩:∃n,n=p.body.length:=⟨_,rfl⟩;obtain⟨I,hI⟩:∃I,I=p.id:=⟨_,rfl⟩;obtain⟨g,hgg⟩:∃g,g=p.gen:=⟨_,rfl⟩;rw[<- hn,<- hI,<- hgg];rw[<- hn] at HB hl24 i1 i3;rw[<- hgg] at HSV HT8 HG;have hgu:g<18446744073709551616:=HG.out;obtain rfl:n=24:=hl24.out;clear hn hI hgg k1 k2 k3 k4 hok hg HP;obtain⟨W0,hW0⟩:∃W0,W0=((w.alloc (.cells #[.int .i64 1,.int .i64 I,.int .u64 (g:Int),.slice a 24 cap] 272)).alloc (.cells #[.int .u64 0,.int .i64 0,.int .i64 0,.int .i64 0,.int .i64 0] 93)).alloc (.cells #[.int .i64 0,.int .i64 0,.int .i64 0,.int .i64 0] 363):=⟨_,rfl⟩;have hM0:zG w W0:=by rw[hW0];exact (((zss w).alloc _).alloc _).alloc _
 have hBX:zK W0 w.heap.size #[.int .i64 1,.int .i64 I,.int .u64 (g:Int),.slice a 24 cap] 272:=by rw[hW0];exact ((zK.new w _ _).alloc _).alloc _
 have hBR:zK W0 (w.heap.size+1) #[.int .u64 0,.int .i64 0,.int .i64 0,.int .i64 0,.int .i64 0] 93:=by rw[hW0];exact zK.alloc (show zK _ (w.heap.size+1) _ _ from zM (by simp)) _
 have hBA:zK W0 (w.heap.size+2) (zJF p 0) 363:=by rw[hW0];exact zM (by simp)
 go_enter Tryz.func218, Tryz.ntmps218
 go_wp2_with fail;rw[<- hW0];have hsz:W0.heap.size=w.heap.size+3:=by rw[hW0];simp
 have HM:=oh hM0;have HX:=oh hBX;have HR:=oh hBR;have HA:=oh hBA;clear hW0 hM0 hBX hBR hBA;go_loopg [11] 4 (λm v11 wr=>∃k:Nat,k+m=4/\v11=.int .i64 k/\Hid (zG w wr)/\Hid (zK wr w.heap.size #[.int .i64 1,.int .i64 I,.int .u64 (g:Int),.slice a 24 cap] 272)/\Hid (zK wr (w.heap.size+1) #[.int .u64 0,.int .i64 0,.int .i64 0,.int .i64 0,.int .i64 0] 93)/\Hid (zK wr (w.heap.size+2) (zJF p k) 363))
 case atStart=>exact⟨0,rfl,rfl,HM,HX,HR,HA⟩
 case round =>
  clear HM HX HR HA;obtain⟨k,hk,rfl,HM,HX,HR,HA⟩:=hrel;by_cases hlt:k<4
  .have c3:=HX.out.k 3 rfl;have hnb:=HNB.out k;obtain⟨n,hn⟩:∃n,n=zAq p k:=⟨_,rfl⟩;have HN:=oh hn;rw[<- hn] at hnb;have TA:=zDr (HL.out _ HM.out) _ p.body (HB.out _ HM.out) (4 * k) 4 n (by decide) (by rw[HT.out k hlt,hn]);have e4:((4 * k:Nat):Int)=4 * (k:Int):=by omega
   rw[e4] at TA;have TA:=oh TA;clear hn e4;go_wp2_with fail;refine TA.out.mono ?_;rintro e w3 ⟨rfl,hm⟩;have hA:=HA.out.ext hm;obtain⟨x,hx⟩:∃x,(zJF p k)[k]? = some x:=⟨_,by rw[Array.getElem?_eq_getElem (by rw[HRZ.out];exact hlt)]⟩;have cA:=hA.cell hx;have fA:=hA.frozen k;have HM3:=oh (HM.out.trans hm);have HX3:=oh (HX.out.ext hm);have HR3:=oh (HR.out.ext hm);have HA3:=oh hA;have i1:(0:Int)<=(k:Int):=by omega
   have i2:(k:Int)<4:=by omega
   clear hA hm hx c3 TA;go_wp2_with fail;go_roundg (gk-1)
   case measure=>omega
   case rel=>exact⟨k+1,by omega,by go_num,oh ((zA.setCell (F:=λ_=>False) HM3.out (.inl (by simp <;> omega)) _)),oh (HX3.out.set_other (by simp <;> omega) _),oh (HR3.out.set_other (by simp <;> omega) _),oh (by rw[<- HRS.out k hlt,<- HN.out];exact HA3.out.set _ _)⟩
  .obtain rfl:k=4:=by omega
   have c2:=HX.out.k 2 rfl;have c3:=HX.out.k 3 rfl;have a0:=HA.out.d 0 (.int .i64 (zAq p 0:Int)) rfl;have a1:=HA.out.d 1 (.int .i64 (zAq p 1:Int)) rfl;have a2:=HA.out.d 2 (.int .i64 (zAq p 2:Int)) rfl;have a3:=HA.out.d 3 (.int .i64 (zAq p 3:Int)) rfl;obtain⟨n0,h0⟩:∃n,n=zAq p 0:=⟨_,rfl⟩;obtain⟨n1,h1⟩:∃n,n=zAq p 1:=⟨_,rfl⟩;obtain⟨n2,h2⟩:∃n,n=zAq p 2:=⟨_,rfl⟩;obtain⟨n3,h3⟩:∃n,n=zAq p 3:=⟨_,rfl⟩;rw[<- h0] at a0 HSV;rw[<- h1] at a1 HSV;rw[<- h2] at a2 HSV;rw[<- h3] at a3 HSV;obtain⟨Y,hY⟩:∃Y,Y=wr.heap.size:=⟨_,rfl⟩;have hYX:w.heap.size+3<=Y:=by have:=HA.out.lt;omega
   have hz0:w.heap.size<wr.heap.size:=by omega
   have M2:zG wr (wr.alloc (.cells #[.int .u64 (g:Int),.int .i64 (n0:Int),.int .i64 (n1:Int),.int .i64 (n2:Int),.int .i64 (n3:Int)] 93)):=(zss wr).alloc _;have TA:=zDr (HL.out _ (HM.out.trans M2)) _ p.body (HB.out _ (HM.out.trans M2)) 16 8 g (by decide) HT8.out;rw[show ((16:Nat):Int)=16 from rfl,show ((8:Nat):Int)=8 from rfl] at TA;have TA:=oh TA;have HY0:=oh (zK.new wr #[.int .u64 (g:Int),.int .i64 (n0:Int),.int .i64 (n1:Int),.int .i64 (n2:Int),.int .i64 (n3:Int)] 93);have HM2:=oh M2;clear h0 h1 h2 h3 M2;go_wp2_with fail;refine TA.out.mono ?_;rintro e w3 ⟨rfl,hm⟩;have HM3:=oh (HM.out.trans (HM2.out.trans hm));have HX3:=oh ((HX.out.ext HM2.out).ext hm);have HR3:=oh ((HR.out.ext HM2.out).ext hm);have HY3:=oh (HY0.out.ext hm);rw[<- hY] at HY3 ⊢;have hY3:=HY3.out.lt;have hzz:w.heap.size+1<w3.heap.size:=by omega
   clear HA HX HR HM HY0 HM2 hm TA a0 a1 a2 a3 c2 c3;obtain⟨R,hR⟩:∃R,R=w.heap.size+1:=⟨_,rfl⟩;rw[<- hR] at HR3 ⊢;have r1:w.heap.size≠R:=by omega
   have r2:Y≠R:=by omega
   have r3:w.heap.size<=R:=by omega
   have HSX:=λ(W:World) (x:zK W w.heap.size #[.int .i64 1,.int .i64 I,.int .u64 (g:Int),.slice a 24 cap] 272) (y:zK W Y #[.int .u64 (g:Int),.int .i64 (n0:Int),.int .i64 (n1:Int),.int .i64 (n2:Int),.int .i64 (n3:Int)] 93)=>And.intro (x.d 0 (.int .i64 1) rfl) (And.intro (x.d 2 (.int .u64 (g:Int)) rfl) (And.intro (x.d 3 (.slice a 24 cap) rfl) (And.intro (y.d 0 (.int .u64 (g:Int)) rfl) (And.intro (y.d 1 (.int .i64 (n0:Int)) rfl) (And.intro (y.d 2 (.int .i64 (n1:Int)) rfl) (And.intro (y.d 3 (.int .i64 (n2:Int)) rfl) (y.d 4 (.int .i64 (n3:Int)) rfl)))))))
   have zd:=HSX w3.drew HX3.out HY3.out;have HSX:=oh HSX;have HCK:=oh (zFw (HL.out _ HM3.out.drew) (zEL p));rw[HSV.out] at HCK;clear hR hY;go_wp2_with fail;go_region_held3 (λw'=>w'.cell? ⟨w.heap.size,0,none⟩=some (.int .i64 1)/\w'.cell? ⟨w.heap.size,2,none⟩=some (.int .u64 (g:Int))/\w'.cell? ⟨w.heap.size,3,none⟩=some (.slice a 24 cap)/\w'.cell? ⟨Y,0,none⟩=some (.int .u64 (g:Int))/\w'.cell? ⟨Y,1,none⟩=some (.int .i64 (n0:Int))/\w'.cell? ⟨Y,2,none⟩=some (.int .i64 (n1:Int))/\w'.cell? ⟨Y,3,none⟩=some (.int .i64 (n2:Int))/\w'.cell? ⟨Y,4,none⟩=some (.int .i64 (n3:Int)))
    (first|(with_reducible exact zd)|(with_reducible exact z5)|(with_reducible exact z6)|fail)
    (first
     | (go_at_call 237;(with_reducible refine HCK.out.mono ?_);rintro e w5 ⟨ev,rfl,hE,m5⟩;rw[HC.out] at hE;cases hE;have z5:=HSX.out w5 (HX3.out.ext ((zss w3).drew.trans m5)) (HY3.out.ext ((zss w3).drew.trans m5));have hR5:=HR3.out.ext ((zss w3).drew.trans m5);have b0:=hR5.k 0 rfl;have b1:=hR5.k 1 rfl;have b2:=hR5.k 2 rfl;have b3:=hR5.k 3 rfl;have b4:=hR5.k 4 rfl;have bf:=hR5.frozen;have z6:=HSX.out _ ((HX3.out.ext ((zss w3).drew.trans m5)).mods (zA.set5 (F:=λk=>k=R) (zss w5) (R:=R) (.inr rfl) (.int .u64 (g:Int)) (.int .i64 (n0:Int)) (.int .i64 (n1:Int)) (.int .i64 (n2:Int)) (.int .i64 (n3:Int))) r1) ((HY3.out.ext ((zss w3).drew.trans m5)).mods (zA.set5 (F:=λk=>k=R) (zss w5) (R:=R) (.inr rfl) (.int .u64 (g:Int)) (.int .i64 (n0:Int)) (.int .i64 (n1:Int)) (.int .i64 (n2:Int)) (.int .i64 (n3:Int))) r2);have HR5:=oh hR5;have HM5:=oh ((zss w3).drew.trans m5))
     | fail)
   have HRB:=oh (HR5.out.set5 (.int .u64 (g:Int)) (.int .i64 (n0:Int)) (.int .i64 (n1:Int)) (.int .i64 (n2:Int)) (.int .i64 (n3:Int)));have HMR:=oh (zA.set5 (F:=λ_=>False) (HM3.out.trans HM5.out) (R:=R) (.inl (by omega)) (.int .u64 (g:Int)) (.int .i64 (n0:Int)) (.int .i64 (n1:Int)) (.int .i64 (n2:Int)) (.int .i64 (n3:Int)));clear zd z5 z6 b0 b1 b2 b3 b4 bf;go_wp2_with fail;refine bodyPost_ret (zF rfl _ _ R 93 #[.int .u64 (g:Int),.int .i64 (n0:Int),.int .i64 (n1:Int),.int .i64 (n2:Int),.int .i64 (n3:Int)] _ rfl HRB.out Tryz.underlying93 rfl Tryz.superSize) rfl ?_;exact⟨by rw[HSV.out];rfl,HMR.out⟩
end Go.Proofs.YtgphfebjjedeaaaGreatDoor
