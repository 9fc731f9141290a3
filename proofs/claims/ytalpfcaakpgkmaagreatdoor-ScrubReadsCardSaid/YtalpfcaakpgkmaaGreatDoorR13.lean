import Derived.Test.YtalpfcaakpgkmaaGreatDoorR12
import Derived.Deep.RegionHeld3
import Derived.BigQuiet
namespace Go.Proofs.YtalpfcaakpgkmaaGreatDoor
open Lib renaming hid->oh
open Go.RowKit
def zAu(p:zY)(k:Nat):Nat:=qK p.body (4 * k) 4
def zJT(p:zY):Nat->Array Value
 | 0=>#[.int .i64 0,.int .i64 0,.int .i64 0,.int .i64 0]
 | 1=>#[.int .i64 (zAu p 0:Int),.int .i64 0,.int .i64 0,.int .i64 0]
 | 2=>#[.int .i64 (zAu p 0:Int),.int .i64 (zAu p 1:Int),.int .i64 0,.int .i64 0]
 | 3=>#[.int .i64 (zAu p 0:Int),.int .i64 (zAu p 1:Int),.int .i64 (zAu p 2:Int),.int .i64 0]
 | _=>#[.int .i64 (zAu p 0:Int),.int .i64 (zAu p 1:Int),.int .i64 (zAu p 2:Int),.int .i64 (zAu p 3:Int)]
theorem zOm(p:zY):∀k,k<4->(zJT p k).setIfInBounds k (.int .i64 (zAu p k:Int))=zJT p (k+1)
 | 0,_=>rfl
 | 1,_=>rfl
 | 2,_=>rfl
 | 3,_=>rfl
 | k+4,h=>by omega
theorem zMn(p:zY):∀k,(zJT p k).size=4
 | 0=>rfl
 | 1=>rfl
 | 2=>rfl
 | 3=>rfl
 | _+4=>rfl
theorem Tryz.superSize:(Tryz.prog.info? 55).map (·.size)=some 5:=by kernel_rfl
set_option maxRecDepth 100000 in
set_option maxHeartbeats 1600000 in
theorem zMo{F:NP}{ad:Nat->Addr}{w:World}(hL:yH F ad w)(p:zY)(bv:Value)(hb:Sl F w 1 zZ bv p.body)(Ac:zGW p=true)(hg:p.gen<18446744073709551616) :
  Calls Tryz.prog 161 #[qC p bv] w λe w'=>e=.returned (.tuple #[yL (zEg p),.bool true])/\zF w w':=by
 have HB:Hid (∀w',zF w w'->Sl F w' 1 zZ bv p.body):=oh (λw' m=>hb.ext m);have HL:Hid (∀w',zF w w'->yH F ad w'):=oh (λw' m=>hL.mods m.ext);clear hL;have hok':=Ac;simp only[zGW,uI,uO] at hok';obtain⟨⟨⟨k1,k2⟩,k3⟩,k4⟩:=hok';have HC:Hid (zBT (zEg p)=none):=oh (by unfold zBT;rw[if_pos k4]);have HT:Hid (∀k,k<4->vC p.body ((4 * k:Nat):Int) 4=(zAu p k,none)):=oh (λk hk=>zD5 _ _ _ (by omega));have Ad:Hid (vC p.body ((16:Nat):Int) 8=(p.gen,none)):=oh (by rw[zD5 _ _ _ (by omega),k2]);have Ak:Hid (∀k,zAu p k<4294967296):=oh (λk=>zDE p.body _ 4);have A0:Hid (yL (zEg p)=.agg #[.int .u64 (p.gen:Int),.int .i64 (zAu p 0:Int),.int .i64 (zAu p 1:Int),.int .i64 (zAu p 2:Int),.int .i64 (zAu p 3:Int)]):=oh rfl;have Al:=oh (zOm p);have Am:=oh (zMn p);have HG:=oh hg;obtain⟨a,cap,rfl,i1,i2,i3,i4⟩:=hb;unfold maxLen at i2;clear i4;have A3:Hid (p.body.length=24):=oh k1;have HP:Hid (∀bv,qC p bv=.agg #[.int .i64 1,.int .i64 p.id,.int .u64 (p.gen:Int),bv]):=oh (λbv=>by rw[qC,k3]);rw[HP.out];obtain⟨n,hn⟩:∃n,n=p.body.length:=⟨_,rfl⟩;obtain⟨I,hI⟩:∃I,I=p.id:=⟨_,rfl⟩;obtain⟨g,Aa⟩:∃g,g=p.gen:=⟨_,rfl⟩;rw[<- hn,<- hI,<- Aa];rw[<- hn] at HB A3 i1 i3;rw[<- Aa] at A0 Ad HG;have At:g<18446744073709551616:=HG.out;obtain rfl:n=24:=A3.out;clear hn hI Aa k1 k2 k3 k4 Ac hg HP;obtain⟨W0,A1⟩:∃W0,W0=((w.alloc (.cells #[.int .i64 1,.int .i64 I,.int .u64 (g:Int),.slice a 24 cap] 221)).alloc (.cells #[.int .u64 0,.int .i64 0,.int .i64 0,.int .i64 0,.int .i64 0] 55)).alloc (.cells #[.int .i64 0,.int .i64 0,.int .i64 0,.int .i64 0] 318):=⟨_,rfl⟩;have Ae:zF w W0:=by rw[A1];exact (((zss w).alloc _).alloc _).alloc _
 have Af:zG W0 w.heap.size #[.int .i64 1,.int .i64 I,.int .u64 (g:Int),.slice a 24 cap] 221:=by rw[A1];exact ((zG.new w _ _).alloc _).alloc _
 have Ag:zG W0 (w.heap.size+1) #[.int .u64 0,.int .i64 0,.int .i64 0,.int .i64 0,.int .i64 0] 55:=by rw[A1];exact zG.alloc (show zG _ (w.heap.size+1) _ _ from zS (by simp)) _
 have Ah:zG W0 (w.heap.size+2) (zJT p 0) 318:=by rw[A1];exact zS (by simp)
 go_enter Tryz.func161, Tryz.ntmps161
 go_wp2_with fail;rw[<- A1];have Au:W0.heap.size=w.heap.size+3:=by rw[A1];simp
 have HM:=oh Ae;have HX:=oh Af;have HR:=oh Ag;have HA:=oh Ah;clear A1 Ae Af Ag Ah;go_loopg [11] 4 (λm v11 wr=>∃k:Nat,k+m=4/\v11=.int .i64 k/\Hid (zF w wr)/\Hid (zG wr w.heap.size #[.int .i64 1,.int .i64 I,.int .u64 (g:Int),.slice a 24 cap] 221)/\Hid (zG wr (w.heap.size+1) #[.int .u64 0,.int .i64 0,.int .i64 0,.int .i64 0,.int .i64 0] 55)/\Hid (zG wr (w.heap.size+2) (zJT p k) 318))
 case atStart=>exact⟨0,rfl,rfl,HM,HX,HR,HA⟩
 case round =>
  clear HM HX HR HA;obtain⟨k,hk,rfl,HM,HX,HR,HA⟩:=hrel;by_cases Ab:k<4
  .have c3:=HX.out.k 3 rfl;have An:=Ak.out k;obtain⟨n,hn⟩:∃n,n=zAu p k:=⟨_,rfl⟩;have HN:=oh hn;rw[<- hn] at An;have TA:=zD6 (HL.out _ HM.out) _ p.body (HB.out _ HM.out) (4 * k) 4 n (by decide) (by rw[HT.out k Ab,hn]);have e4:((4 * k:Nat):Int)=4 * (k:Int):=by omega
   rw[e4] at TA;have TA:=oh TA;clear hn e4;go_wp2_with fail;refine TA.out.mono ?_;rintro e w3 ⟨rfl,hm⟩;have hA:=HA.out.ext hm;obtain⟨x,hx⟩:∃x,(zJT p k)[k]? = some x:=⟨_,by rw[Array.getElem?_eq_getElem (by rw[Am.out];exact Ab)]⟩;have cA:=hA.cell hx;have fA:=hA.frozen k;have A7:=oh (HM.out.trans hm);have A4:=oh (HX.out.ext hm);have A8:=oh (HR.out.ext hm);have Ao:=oh hA;have i1:(0:Int)<=(k:Int):=by omega
   have i2:(k:Int)<4:=by omega
   clear hA hm hx c3 TA;go_wp2_with fail;go_roundg (gk-1)
   case measure=>omega
   case rel=>exact⟨k+1,by omega,by go_num,oh ((zA.setCell (F:=λ_=>False) A7.out (.inl (by simp <;> omega)) _)),oh (A4.out.set_other (by simp <;> omega) _),oh (A8.out.set_other (by simp <;> omega) _),oh (by rw[<- Al.out k Ab,<- HN.out];exact Ao.out.set _ _)⟩
  .obtain rfl:k=4:=by omega
   have c2:=HX.out.k 2 rfl;have c3:=HX.out.k 3 rfl;have a0:=HA.out.d 0 (.int .i64 (zAu p 0:Int)) rfl;have a1:=HA.out.d 1 (.int .i64 (zAu p 1:Int)) rfl;have a2:=HA.out.d 2 (.int .i64 (zAu p 2:Int)) rfl;have a3:=HA.out.d 3 (.int .i64 (zAu p 3:Int)) rfl;obtain⟨n0,h0⟩:∃n,n=zAu p 0:=⟨_,rfl⟩;obtain⟨n1,h1⟩:∃n,n=zAu p 1:=⟨_,rfl⟩;obtain⟨n2,h2⟩:∃n,n=zAu p 2:=⟨_,rfl⟩;obtain⟨n3,h3⟩:∃n,n=zAu p 3:=⟨_,rfl⟩;rw[<- h0] at a0 A0;rw[<- h1] at a1 A0;rw[<- h2] at a2 A0;rw[<- h3] at a3 A0;obtain⟨Y,hY⟩:∃Y,Y=wr.heap.size:=⟨_,rfl⟩;have Av:w.heap.size+3<=Y:=by have:=HA.out.lt;omega
   have Aw:w.heap.size<wr.heap.size:=by omega
   have M2:zF wr (wr.alloc (.cells #[.int .u64 (g:Int),.int .i64 (n0:Int),.int .i64 (n1:Int),.int .i64 (n2:Int),.int .i64 (n3:Int)] 55)):=(zss wr).alloc _;have TA:=zD6 (HL.out _ (HM.out.trans M2)) _ p.body (HB.out _ (HM.out.trans M2)) 16 8 g (by decide) Ad.out;rw[show ((16:Nat):Int)=16 from rfl,show ((8:Nat):Int)=8 from rfl] at TA;have TA:=oh TA;have Ai:=oh (zG.new wr #[.int .u64 (g:Int),.int .i64 (n0:Int),.int .i64 (n1:Int),.int .i64 (n2:Int),.int .i64 (n3:Int)] 55);have A9:=oh M2;clear h0 h1 h2 h3 M2;go_wp2_with fail;refine TA.out.mono ?_;rintro e w3 ⟨rfl,hm⟩;have A7:=oh (HM.out.trans (A9.out.trans hm));have A4:=oh ((HX.out.ext A9.out).ext hm);have A8:=oh ((HR.out.ext A9.out).ext hm);have A5:=oh (Ai.out.ext hm);rw[<- hY] at A5 ⊢;have Ax:=A5.out.lt;have Ay:w.heap.size+1<w3.heap.size:=by omega
   clear HA HX HR HM Ai A9 hm TA a0 a1 a2 a3 c2 c3;obtain⟨R,hR⟩:∃R,R=w.heap.size+1:=⟨_,rfl⟩;rw[<- hR] at A8 ⊢;have r1:w.heap.size≠R:=by omega
   have r2:Y≠R:=by omega
   have r3:w.heap.size<=R:=by omega
   have A6:=λ(W:World) (x:zG W w.heap.size #[.int .i64 1,.int .i64 I,.int .u64 (g:Int),.slice a 24 cap] 221) (y:zG W Y #[.int .u64 (g:Int),.int .i64 (n0:Int),.int .i64 (n1:Int),.int .i64 (n2:Int),.int .i64 (n3:Int)] 55)=>And.intro (x.d 0 (.int .i64 1) rfl) (And.intro (x.d 2 (.int .u64 (g:Int)) rfl) (And.intro (x.d 3 (.slice a 24 cap) rfl) (And.intro (y.d 0 (.int .u64 (g:Int)) rfl) (And.intro (y.d 1 (.int .i64 (n0:Int)) rfl) (And.intro (y.d 2 (.int .i64 (n1:Int)) rfl) (And.intro (y.d 3 (.int .i64 (n2:Int)) rfl) (y.d 4 (.int .i64 (n3:Int)) rfl)))))))
   have zd:=A6 w3.drew A4.out A5.out;have A6:=oh A6;have Aj:=oh (zF6 (HL.out _ A7.out.drew) (zEg p));rw[A0.out] at Aj;clear hR hY;go_wp2_with fail;go_region_held3 (λw'=>w'.cell? ⟨w.heap.size,0,none⟩=some (.int .i64 1)/\w'.cell? ⟨w.heap.size,2,none⟩=some (.int .u64 (g:Int))/\w'.cell? ⟨w.heap.size,3,none⟩=some (.slice a 24 cap)/\w'.cell? ⟨Y,0,none⟩=some (.int .u64 (g:Int))/\w'.cell? ⟨Y,1,none⟩=some (.int .i64 (n0:Int))/\w'.cell? ⟨Y,2,none⟩=some (.int .i64 (n1:Int))/\w'.cell? ⟨Y,3,none⟩=some (.int .i64 (n2:Int))/\w'.cell? ⟨Y,4,none⟩=some (.int .i64 (n3:Int)))
    (first|(with_reducible exact zd)|(with_reducible exact z5)|(with_reducible exact z6)|fail)
    (first
     | (go_at_call 197;(with_reducible refine Aj.out.mono ?_);rintro e w5 ⟨ev,rfl,hE,m5⟩;rw[HC.out] at hE;cases hE;have z5:=A6.out w5 (A4.out.ext ((zss w3).drew.trans m5)) (A5.out.ext ((zss w3).drew.trans m5));have A2:=A8.out.ext ((zss w3).drew.trans m5);have b0:=A2.k 0 rfl;have b1:=A2.k 1 rfl;have b2:=A2.k 2 rfl;have b3:=A2.k 3 rfl;have b4:=A2.k 4 rfl;have bf:=A2.frozen;have z6:=A6.out _ ((A4.out.ext ((zss w3).drew.trans m5)).mods (zA.set5 (F:=λk=>k=R) (zss w5) (R:=R) (.inr rfl) (.int .u64 (g:Int)) (.int .i64 (n0:Int)) (.int .i64 (n1:Int)) (.int .i64 (n2:Int)) (.int .i64 (n3:Int))) r1) ((A5.out.ext ((zss w3).drew.trans m5)).mods (zA.set5 (F:=λk=>k=R) (zss w5) (R:=R) (.inr rfl) (.int .u64 (g:Int)) (.int .i64 (n0:Int)) (.int .i64 (n1:Int)) (.int .i64 (n2:Int)) (.int .i64 (n3:Int))) r2);have Ap:=oh A2;have Aq:=oh ((zss w3).drew.trans m5))
     | fail)
   have Ar:=oh (Ap.out.set5 (.int .u64 (g:Int)) (.int .i64 (n0:Int)) (.int .i64 (n1:Int)) (.int .i64 (n2:Int)) (.int .i64 (n3:Int)));have As:=oh (zA.set5 (F:=λ_=>False) (A7.out.trans Aq.out) (R:=R) (.inl (by omega)) (.int .u64 (g:Int)) (.int .i64 (n0:Int)) (.int .i64 (n1:Int)) (.int .i64 (n2:Int)) (.int .i64 (n3:Int)));clear zd z5 z6 b0 b1 b2 b3 b4 bf;go_wp2_with fail;refine bodyPost_ret (zC rfl _ _ R 55 #[.int .u64 (g:Int),.int .i64 (n0:Int),.int .i64 (n1:Int),.int .i64 (n2:Int),.int .i64 (n3:Int)] _ rfl Ar.out Tryz.underlying55 rfl Tryz.superSize) rfl ?_;exact⟨by rw[A0.out];rfl,As.out⟩
end Go.Proofs.YtalpfcaakpgkmaaGreatDoor
