import Derived.Test.YtchklfmggpconaaGreatDoorK37
import Derived.Test.YtchklfmggpconaaGreatDoorK23
import Derived.Maps.OwnOps
import Derived.Maps.Views
namespace Go.Proofs.YtchklfmggpconaaGreatDoor
open Lib renaming hid->oh
set_option maxHeartbeats 2000000
set_option maxRecDepth 100000
section
open Go.RowKit
attribute [local go_sem ↓] Go.wp_at_zero Go.wp_at_succ
def zRi(F:Nat->Prop)(ad:Nat->Addr)(w':World)(r:ByteArray ⊕ Err)(e:Ending):Prop :=
 match r with
 | .inl v=>e=.returned (.tuple #[.string v,.nilIface])
 | .inr (l,k)=>∃f,e=.returned (.tuple #[.string ⟨#[]⟩,zQ f])/\qQ F ad w' (zQ f) l k
section
variable {P P' P1 P2 F F' F1 F2 Q:Nat->Prop}{ad:Nat->Addr}{w w' wr w2:World}{c s:Nat}{G:GA}{l:List Nat}{v v':Value}{gen:Nat}
theorem zPE(hL:yW F ad w)(hP:∀k,P k->F k)(h:yS F w P c s G l)(gen:Nat)(e:zI)(hid : -9223372036854775808<=e.chain/\e.chain<=9223372036854775807)(hok:zFk G e) :
  Calls Tryz.prog 121 #[qR c s gen,.agg #[.string e.key,.string e.value,.int .i64 e.chain,.int .i64 e.size]] w (jL F P ad w c s G l (λF' w' ed=>zRi F' ad w' (zDh G e) ed)):=by
 obtain⟨key,value,chain,size⟩:=e;simp only at hid;have m0:zJ w ((w.alloc (gP c s gen)).alloc (.cells #[.string key,.string value,.int .i64 chain,.int .i64 size] 141)):=((zA.refl _ w).alloc _).alloc _;have HN0:=oh (zR.ext hL hP m0);have HG0:=oh (h.at m0);have HOK:=oh hok;by_cases hz:chain=0
 .have hzb:(chain == 0)=true:=tU.2 hz;have HV:Hid (zDh G ⟨key,value,chain,size⟩=.inl value):=oh (by unfold zDh;rw[if_pos hz]);clear hL hP h m0 hok hz;unfold qR
  go_enter Tryz.func121, Tryz.ntmps121
  go_wp2_with fail;go_ret2
  exact⟨P,F,HG0.out,HN0.out,by rw[HV.out];rfl⟩
 .have hzb:(chain == 0)=false:=uV.2 hz;have HRD:=oh (zMO HN0.out.env HN0.out.sub HG0.out gen chain size hid (hok hz));have HV:Hid (zDh G ⟨key,value,chain,size⟩=match jY G chain size with|none=>.inl ⟨((yY G size.toNat chain size).1.flatMap (·.2)).toArray⟩|some (l,k)=>.inr (-1 :: l,k)):=oh (by unfold zDh;rw[if_neg hz];rfl);clear hL hP h m0 hok hz;unfold qR at HRD ⊢
  go_enter Tryz.func121, Tryz.ntmps121
  go_wp2_with fail;refine (HRD.out).mono ?_;rintro e w2 ⟨P2,F2,hG2,hN2,⟨hc,rfl⟩|⟨⟨el,ek⟩,f,hc,rfl,hE⟩⟩
  .have HG2:=oh hG2;have HN2:=oh hN2;have HC:=oh hc;clear hG2 hN2 hc;go_wp2_with fail;refine (wrap_nil _ _).mono ?_;rintro e w3 ⟨rfl,rfl⟩;go_wp2_with fail;go_ret2
   exact⟨P2,F2,HG2.out,HN0.out.trans HN2.out,by rw[HV.out,HC.out];rfl⟩
  .have HG2:=oh hG2;have HN2:=oh hN2;have HC:=oh hc;have HE:=oh hE;clear hG2 hN2 hc hE;go_wp2_with fail;refine (wrap_any HN2.out.env _ _ _ _ HE.out).mono ?_;rintro e w3 ⟨f3,rfl,hE3,hm3⟩;have HE3:=oh hE3;have HM3:=oh hm3;clear hE3 hm3;go_wp2_with fail;go_ret2
   exact⟨P2,F2,HG2.out.at HM3.out,(HN0.out.trans HN2.out).trans (zR.ext HN2.out.env HN2.out.sub HM3.out),by rw[HV.out,HC.out];exact⟨f3,rfl,HE3.out⟩⟩
end
theorem Tryz.mkP:(Tryz.prog.info? 25).map (λi=>(i.zero,i.size,i.bytes))=some (some (.agg #[.string ⟨#[]⟩,.string ⟨#[]⟩]),2,32):=by kernel_rfl
theorem Tryz.elP:ElT Tryz.prog 22 25 (.agg #[.string ⟨#[]⟩,.string ⟨#[]⟩]) 2 32:=⟨Tryz.underlying22,Tryz.mkP,rfl,by decide,by decide⟩
section
variable {F:Nat->Prop}{w w' wr w2:World}
def zLj(w:World)(l:List zE)(e:Ending)(w':World):Prop:=∃v,e=.returned v/\zU NoF w' w.heap.size 25 2 zAL v l/\zJ w w'
theorem zQN(l:List zE)(lv:Value)(hl:Sl F w 2 zAL lv l)(hlen:l.length<=1000)(key value:ByteArray)(over:Bool) :
  Calls Tryz.prog 45 #[lv,.string key,.string value,.bool over] w (zLj w (qL key value over l)):=by
 obtain⟨la,lc,rfl,h1,h2,h3,hll⟩:=hl;unfold maxLen at h2;have HLL:=oh hll;clear hll
 go_enter Tryz.func45, Tryz.ntmps45
 go_wp2_with fail;have HO0:Hid (zU NoF (w.alloc (.cells #[] 25)) w.heap.size 25 2 zAL (.slice (some ⟨w.heap.size,0,none⟩) 0 0) []):=oh
  (zU.made (l:=([]:List zE)) (cur:=#[]) (cap:=0) (zK (by simp)) (by omega) (λf=>f) (uJ _) (by simp[maxLen]) (by simp) (by simp) (λ_=>rfl))
 have HM0:Hid (zJ w (w.alloc (.cells #[] 25))):=oh ((zA.refl _ w).alloc _);go_loopg [9,10,11] l.length (λm v9 v10 v11 wr=>∃(k:Nat) (dn:Bool) (out:List zE),k+m=l.length/\v11=.int .i64 (k:Int)/\v10=.bool dn/\Hid (zU NoF wr w.heap.size 25 2 zAL v9 out/\zJ w wr/\zBm key value over l k dn out))
 case atStart=>exact⟨0,false,[],by omega,rfl,rfl,oh ⟨HO0.out,HM0.out,zBm.start⟩⟩
 case round =>
  obtain⟨k,dn,out,hkm,rfl,rfl,HS⟩:=hrel;by_cases hlt:k<l.length
  .obtain⟨b,off,rfl,hb,hF,hc⟩:=Sl.at HLL.out HS.out.2.1 (λ_ _ f=>f.elim) k hlt;obtain⟨x,hx⟩:∃x,l[k]? = some x:=⟨_,uA hlt⟩;have hx':l[k]=x:=by rw[uA hlt] at hx;exact Option.some.inj hx
   rw[hx'] at hc;have c0:=hc 0 _ rfl;simp only[uO] at c0;have c1:=hc 1 _ rfl;have HX:=oh hx;have HOL:Hid (out.length<=k+1):=oh (by have:=HS.out.2.2.1;omega);clear hc hx hx';have i1:(0:Int)<=(k:Int):=by omega
   have i2:(k:Int)<(l.length:Int):=by omega
   have HSZ:Hid (w.heap.size<=wr.heap.size):=oh HS.out.2.1.size;cases dn with
   | true =>
    go_wp2_with (at_builtin;refine yH Tryz.elP zAX rfl _ _ rfl w.heap.size _ _ out [x] rfl rfl (HS.out.1.ext ((zA.refl _ _).alloc _)) (Sl.one (F:=NoF) (zK (by simp)) (λf=>f)) (by have:=HOL.out;simp only[uD,uE];omega) (by have:=hb;have:=HSZ.out;simp;omega) (λf=>f) ?_;intro a4 c4 w4 hO4 hm4 hat4);have HS4:Hid (zU NoF w4 w.heap.size 25 2 zAL _ _/\zJ w w4/\zBm key value over l (k+1) true (out++[x])):=oh ⟨hO4,(HS.out.2.1.alloc _).trans' hm4 (λi hi e=>by have:=(HS.out.1.lt i e).1;omega),HS.out.2.2.pass HX.out⟩;clear hO4 hm4 hat4;go_wp2_with fail;go_roundg (gk-1)
    case measure=>omega
    case rel=>exact⟨k+1,true,_,by omega,by go_num,rfl,HS4⟩
   | false =>
    by_cases hl:qJ x.1 key=true
    .have e1:Op.bytesLess x.1.toList key.toList=true:=hl;have HE:=oh hl;clear hl;go_wp2_with (at_builtin;refine yH Tryz.elP zAX rfl _ _ rfl w.heap.size _ _ out [x] rfl rfl (HS.out.1.ext ((zA.refl _ _).alloc _)) (Sl.one (F:=NoF) (zK (by simp)) (λf=>f)) (by have:=HOL.out;simp only[uD,uE];omega) (by have:=hb;have:=HSZ.out;simp;omega) (λf=>f) ?_;intro a4 c4 w4 hO4 hm4 hat4);have HS4:Hid (zU NoF w4 w.heap.size 25 2 zAL _ _/\zJ w w4/\zBm key value over l (k+1) false (out++[x])):=oh ⟨hO4,(HS.out.2.1.alloc _).trans' hm4 (λi hi e=>by have:=(HS.out.1.lt i e).1;omega),HS.out.2.2.lt HX.out HE.out⟩;clear hO4 hm4 hat4;go_wp2_with fail;go_roundg (gk-1)
     case measure=>omega
     case rel=>exact⟨k+1,false,_,by omega,by go_num,rfl,HS4⟩
    .have hl':qJ x.1 key=false:=by simpa using hl
     have e1:Op.bytesLess x.1.toList key.toList=false:=hl';have HE:=oh hl';clear hl hl';by_cases hk:x.1=key
     .obtain⟨xk,xv⟩:=x;simp only at hk;subst hk;cases over with
      | true =>
       go_wp2_with (at_builtin;refine yH Tryz.elP zAX rfl _ _ rfl w.heap.size _ _ out [(xk,value)] rfl rfl (HS.out.1.ext ((zA.refl _ _).alloc _)) (Sl.one (F:=NoF) (zK (by simp)) (λf=>f)) (by have:=HOL.out;simp only[uD,uE];omega) (by have:=HSZ.out;simp;omega) (λf=>f) ?_;intro a4 c4 w4 hO4 hm4 hat4;have y0:=zBp hm4 (zC ((zA.refl _ wr).alloc (.cells #[.string xk,.string value] 25)) c0) (λe=>by have:=(HS.out.1.lt _ e).1;omega);have y1:=zBp hm4 (zC ((zA.refl _ wr).alloc (.cells #[.string xk,.string value] 25)) c1) (λe=>by have:=(HS.out.1.lt _ e).1;omega));have HS4:Hid (zU NoF w4 w.heap.size 25 2 zAL _ _/\zJ w w4/\zBm xk value true l (k+1) true (out++[(xk,value)])):=oh ⟨hO4,(HS.out.2.1.alloc _).trans' hm4 (λi hi e=>by have:=(HS.out.1.lt i e).1;omega),HS.out.2.2.eqO HX.out rfl⟩;clear hO4 hm4 hat4;go_wp2_with fail;go_roundg (gk-1)
       case measure=>omega
       case rel=>exact⟨k+1,true,_,by omega,by go_num,rfl,HS4⟩
      | false =>
       go_wp2_with (at_builtin;refine yH Tryz.elP zAX rfl _ _ rfl w.heap.size _ _ out [(xk,xv)] rfl rfl (HS.out.1.ext ((zA.refl _ _).alloc _)) (Sl.one (F:=NoF) (zK (by simp)) (λf=>f)) (by have:=HOL.out;simp only[uD,uE];omega) (by have:=HSZ.out;simp;omega) (λf=>f) ?_;intro a4 c4 w4 hO4 hm4 hat4);have HS4:Hid (zU NoF w4 w.heap.size 25 2 zAL _ _/\zJ w w4/\zBm xk value false l (k+1) true (out++[(xk,xv)])):=oh ⟨hO4,(HS.out.2.1.alloc _).trans' hm4 (λi hi e=>by have:=(HS.out.1.lt i e).1;omega),HS.out.2.2.eqN HX.out rfl⟩;clear hO4 hm4 hat4;go_wp2_with fail;go_roundg (gk-1)
       case measure=>omega
       case rel=>exact⟨k+1,true,_,by omega,by go_num,rfl,HS4⟩
     .have hk2:qJ key x.1=true:=(zCr HE.out).resolve_right hk;have e2:Op.bytesLess key.toList x.1.toList=true:=hk2;have e3:¬ x.1.toList=key.toList:=λe=>hk (toList_inj e)
      have e4:¬ x.1=key:=hk;have HK:=oh hk;clear hk hk2;go_wp2_with (first|(at_builtin;refine yH Tryz.elP zAX rfl _ _ rfl w.heap.size _ _ out [(key,value)] rfl rfl (HS.out.1.ext ((zA.refl _ _).alloc _)) (Sl.one (F:=NoF) (zK (by simp)) (λf=>f)) (by have:=HOL.out;simp only[uD,uE];omega) (by have:=HSZ.out;simp;omega) (λf=>f) ?_;intro a4 c4 w4 hO4 hm4 hat4;have y0:=zBp hm4 (zC ((zA.refl _ wr).alloc (.cells #[.string key,.string value] 25)) c0) (λe=>by have:=(HS.out.1.lt _ e).1;omega);have y1:=zBp hm4 (zC ((zA.refl _ wr).alloc (.cells #[.string key,.string value] 25)) c1) (λe=>by have:=(HS.out.1.lt _ e).1;omega))|(at_builtin;refine yH Tryz.elP zAX rfl _ _ rfl w.heap.size _ _ (out++[(key,value)]) [x] rfl rfl (hO4.ext ((zA.refl _ _).alloc _)) (Sl.one (F:=NoF) (zK (by simp)) (λf=>f)) (by have:=HOL.out;simp only[uC,uD,uE];omega) (by have:=hm4.size;have:=HSZ.out;simp at *;omega) (λf=>f) ?_;intro a5 c5 w5 hO5 hm5 hat5));have HS3:Hid (zU NoF w4 w.heap.size 25 2 zAL _ (out++[(key,value)])/\zJ w w4):=oh ⟨hO4,(HS.out.2.1.alloc _).trans' hm4 (λi hi e=>by have:=(HS.out.1.lt i e).1;omega)⟩;have HS4:Hid (zU NoF w5 w.heap.size 25 2 zAL (.slice a5 (out.length+1+1) c5) (out++[(key,value)]++[x])/\zJ w w5/\zBm key value over l (k+1) true (out++[(key,value)]++[x])):=oh ⟨by have e:=hO5;simp only[uC,uD,uE,uR] at e;exact e,(HS3.out.2.alloc _).trans' hm5 (λi hi e=>by have:=(HS3.out.1.lt i e).1;omega),HS.out.2.2.gt HX.out HE.out HK.out⟩;clear hO5 hm5 hat5;go_wp2_with fail;go_roundg (gk-1)
      case measure=>omega
      case rel=>exact⟨k+1,true,_,by omega,by go_num,rfl,HS4⟩
  .have HLE:Hid (l.length<=k):=oh (by omega);have HSZ:Hid (w.heap.size<=wr.heap.size):=oh HS.out.2.1.size;have HOL:Hid (out.length<=k+1):=oh (by have:=HS.out.2.2.1;omega);have hb:w.heap.size<=wr.heap.size:=HSZ.out;cases dn with
   | true =>
    go_wp2_with fail;go_ret;exact⟨_,rfl,by rw[<- HS.out.2.2.done HLE.out];exact HS.out.1,HS.out.2.1⟩
   | false =>
    go_wp2_with (at_builtin;refine yH Tryz.elP zAX rfl _ _ rfl w.heap.size _ _ out [(key,value)] rfl rfl (HS.out.1.ext ((zA.refl _ _).alloc _)) (Sl.one (F:=NoF) (zK (by simp)) (λf=>f)) (by have:=HOL.out;simp only[uD,uE];omega) (by have:=HSZ.out;simp;omega) (λf=>f) ?_;intro a4 c4 w4 hO4 hm4 hat4);have HS4:Hid (zU NoF w4 w.heap.size 25 2 zAL _ (qL key value over l)/\zJ w w4):=oh ⟨by rw[<- HS.out.2.2.last HLE.out];exact hO4,(HS.out.2.1.alloc _).trans' hm4 (λi hi e=>by have:=(HS.out.1.lt i e).1;omega)⟩;clear hO4 hm4 hat4;go_wp2_with fail;go_ret;exact⟨_,rfl,HS4.out.1,HS4.out.2⟩
end
section
variable {F:Nat->Prop}{w w' wr w2:World}
theorem zPF(l:List zE)(lv:Value)(hl:Sl F w 2 zAL lv l)(hlen:l.length<=900) :
  Calls Tryz.prog 32 #[lv] w (zLj w (zAH l)):=by
 obtain⟨la,lc,rfl,h1,h2,h3,hll⟩:=hl;unfold maxLen at h2;have HLL:=oh hll;clear hll
 go_enter Tryz.func32, Tryz.ntmps32
 go_wp2_with fail;have HO0:Hid (zU NoF (w.alloc (.cells #[] 25)) w.heap.size 25 2 zAL (.slice (some ⟨w.heap.size,0,none⟩) 0 0) []):=oh
  (zU.made (l:=([]:List zE)) (cur:=#[]) (cap:=0) (zK (by simp)) (by omega) (λf=>f) (uJ _) (by simp[maxLen]) (by simp) (by simp) (λ_=>rfl))
 have HM0:Hid (zJ w (w.alloc (.cells #[] 25))):=oh ((zA.refl _ w).alloc _);go_loopg [3,4] l.length (λm v3 v4 wr=>∃(k:Nat),k+m=l.length/\v4=.int .i64 (k:Int)/\Hid (zU NoF wr w.heap.size 25 2 zAL v3 (zAH (l.take k))/\zJ w wr))
 case atStart=>exact⟨0,by omega,rfl,oh ⟨HO0.out,HM0.out⟩⟩
 case round =>
  obtain⟨k,hkm,rfl,HS⟩:=hrel;by_cases hlt:k<l.length
  .obtain⟨b,off,rfl,hb,hF,hc⟩:=Sl.at HLL.out HS.out.2 (λ_ _ f=>f.elim) k hlt;obtain⟨x,hx⟩:∃x,l[k]? = some x:=⟨_,uA hlt⟩;have hx':l[k]=x:=by rw[uA hlt] at hx;exact Option.some.inj hx
   rw[hx'] at hc;have c0:=hc 0 _ rfl;simp only[uO] at c0;have c1:=hc 1 _ rfl;have HX:Hid (zAH (l.take (k+1))=zFh (zAH (l.take k)) x):=oh (by rw[yJ l k x hx,zKr]);clear hc hx hx';have i1:(0:Int)<=(k:Int):=by omega
   have i2:(k:Int)<(l.length:Int):=by omega
   cases hkb:qC x.1 with
   | false =>
    have HK:=oh (zNe x.1 wr false hkb);have HA:Hid (zAH (l.take (k+1))=zAH (l.take k)):=oh (by rw[HX.out];unfold zFh;rw[if_neg (by rw[hkb];simp)]);clear hkb;go_wp2_with fail;refine (HK.out).mono ?_;rintro e w1 ⟨rfl,rfl⟩;go_wp2_with fail;go_roundg (gk-1)
    case measure=>omega
    case rel=>exact⟨k+1,by omega,by go_num,oh (by rw[HA.out];exact HS.out)⟩
   | true =>
    have HK:=oh (zNe x.1 wr true hkb);by_cases hv:x.2.size<=4096
    .have hvI:(x.2.size:Int)<=4096:=by omega
     have HA:Hid (zAH (l.take (k+1))=qL x.1 x.2 false (zAH (l.take k))):=oh (by rw[HX.out];unfold zFh;rw[if_pos ⟨hkb,hv⟩]);have HPL:Hid ((zAH (l.take k)).length<=900):=oh (by have:=(zGF (l.take k)).2.2;rw[uP] at this;omega);have HWC:=oh (zQN (F:=NoF) (w:=wr.drew) (zAH (l.take k)) _ ((HS.out.1.ext (zA.refl _ wr).drew).sl zAX.len (by have:=HPL.out;omega)) (by have:=HPL.out;omega) x.1 x.2 false);clear hkb hv;go_wp2_with fail;refine (HK.out).mono ?_;rintro e w1 ⟨rfl,rfl⟩;go_wp2_with fail;go_region_held3 (λw'=>w'.cell? ⟨b,off+k * 2,none⟩=some (.string x.1)/\w'.cell? ⟨b,off+k * 2+1,none⟩=some (.string x.2))
      (first|(with_reducible exact⟨c0,c1⟩)|(with_reducible exact⟨y0,y1⟩)|go_keep)
      (first
       | (go_at_call 45;(with_reducible refine (HWC.out).mono ?_);rintro e w4 ⟨v4,rfl,hO4,hm4⟩;have y0:=zC (w:=wr.drew) hm4 c0;have y1:=zC (w:=wr.drew) hm4 c1)
       | fail)
     have HS4:Hid (zU NoF w4 w.heap.size 25 2 zAL v4 (zAH (l.take (k+1)))/\zJ w w4):=oh ⟨by rw[HA.out];exact hO4.rebase HS.out.2.size,HS.out.2.drew.trans hm4⟩;clear hO4 hm4 c0 c1 y0 y1;go_wp2_with fail;go_roundg (gk-1)
     case measure=>omega
     case rel=>exact⟨k+1,by omega,by go_num,HS4⟩
    .have hvI:¬ (x.2.size:Int)<=4096:=by omega
     have HA:Hid (zAH (l.take (k+1))=zAH (l.take k)):=oh (by rw[HX.out];unfold zFh;rw[if_neg (λh=>hv h.2)]);clear hkb hv;go_wp2_with fail;refine (HK.out).mono ?_;rintro e w1 ⟨rfl,rfl⟩;go_wp2_with fail;go_roundg (gk-1)
     case measure=>omega
     case rel=>exact⟨k+1,by omega,by go_num,oh (by rw[HA.out];exact HS.out)⟩
  .have HT:Hid (l.take k=l):=oh (wE (by omega));go_wp2_with fail;go_ret;exact⟨_,rfl,by have:=HS.out.1;rw[HT.out] at this;exact this,HS.out.2⟩
end
end
section
open Go.RowKit
theorem zIY(c s:Nat):qR c s 5=.agg #[.pointer (some ⟨c,0,none⟩),.pointer (some ⟨s,0,none⟩),.int .u64 5]:=rfl
structure LG(ad:Nat->Addr)(w0 w:World)(B c s gen:Nat)(P F:Nat->Prop)(G:GA)(l:List Nat):Prop where
 pg:yS F w P c s G l
 nx:zR NoB P NoB F ad w0 w
 box:zL w B (gP c s gen) 31
 nB:¬ P B
 nF:¬ F B
section
variable {ad:Nat->Addr}{w0 w w':World}{B c s gen:Nat}{P P' F F':Nat->Prop}{G G':GA}{l l':List Nat}
theorem LG.env(h:LG ad w0 w B c s gen P F G l):yW F ad w:=h.nx.env
theorem LG.sub(h:LG ad w0 w B c s gen P F G l):∀k,P k->F k:=h.nx.sub
theorem LG.step(h:LG ad w0 w B c s gen P F G l)(n:zR P P' F F' ad w w')(g:yS F' w' P' c s G' l'):LG ad w0 w' B c s gen P' F' G' l' :=
 ⟨g,h.nx.trans n,n.blk h.box h.nB,n.not h.box.lt h.nB,λf=>h.nF (n.oldF B h.box.lt f)⟩
theorem LG.ext(h:LG ad w0 w B c s gen P F G l)(m:zJ w w'):LG ad w0 w' B c s gen P F G l:=h.step (zR.ext h.env h.sub m) (h.pg.at m)
theorem LG.ext0(h:LG ad w0 w B c s gen P F G l):zJ w0 w:=h.nx.stp.mods
theorem LG.c0(h:LG ad w0 w B c s gen P F G l):w.cell? ⟨B,0,none⟩=some (.pointer (some ⟨c,0,none⟩)):=h.box.cell rfl
theorem LG.c1(h:LG ad w0 w B c s gen P F G l):w.cell? ⟨B,1,none⟩=some (.pointer (some ⟨s,0,none⟩)):=h.box.cell rfl
theorem LG.c2(h:LG ad w0 w B c s gen P F G l):w.cell? ⟨B,2,none⟩=some (.int .u64 (gen:Int)):=h.box.cell rfl
theorem LG.start(g:yS F w P c s G l)(n:zR NoB P NoB F ad w0 w):LG ad w0 (w.alloc (gP c s gen)) w.heap.size c s gen P F G l :=
 ⟨g.at ((zA.refl _ w).alloc _),n.trans (zR.ext n.env n.sub ((zA.refl _ w).alloc _)),zL.new w _ _,λf=>by have:=g.bd _ f;omega,λf=>by have:=n.env.lt _ f;omega⟩
theorem LG.startZ(g:yS F w P c s G l)(n:zR NoB P NoB F ad w0 w)(z:Int)(hz:z=(gen:Int)):LG ad w0 (w.alloc (.cells #[.pointer (some ⟨c,0,none⟩),.pointer (some ⟨s,0,none⟩),.int .u64 z] 31)) w.heap.size c s gen P F G l:=by
 subst hz;exact LG.start g n
def zRj(ad:Nat->Addr)(w0:World)(B c s gen:Nat)(G:GA)(l:List Nat)(R:(Nat->Prop)->World->Ending->Prop)(e:Ending)(w':World):Prop :=
 ∃P' F',LG ad w0 w' B c s gen P' F' G l/\R F' w' e
theorem LG.done(h:LG ad w0 w B c s gen P F G l){R:(Nat->Prop)->World->Ending->Prop}{e:Ending}(hd:jL F P ad w c s G' l' R e w'):zRj ad w0 B c s gen G' l' R e w':=by
 obtain⟨P',F',g,n,r⟩:=hd;exact⟨P',F',h.step n g,r⟩
end
section
variable {G G':GA}{gen:Nat}{T:zEJ}{lo:ByteArray}{hi:Option ByteArray}{l:List zE}{q:List Nat}{kk:List ByteArray}{cc:List Int}
theorem qF.parts(h:qF T lo hi kk cc l q):∃(parts:List (List zE × List Nat)),parts.length=cc.length/\l=(parts.map (·.1)).flatten/\q=(parts.map (·.2)).flatten /\
  ∀(i:Nat) (k:Int) (p:List zE × List Nat),cc[i]? = some k->parts[i]? = some p->∃c:Nat,k=(c:Int)/\T (zDF lo kk i) (zDx hi kk i) c p.1 p.2:=by
 induction h with
 | @one lo hi c l q h =>
  refine⟨[(l,q)],rfl,by simp,by simp,λi k p hk hp=>?_⟩;match i,hk,hp with
  | 0,hk,hp =>
   simp at hk hp;subst hk hp;exact⟨c,rfl,h⟩
  | i+1,hk,_=>simp at hk
 | @cons lo hi s c keys kids l1 l2 q1 q2 h h2 h3 ih =>
  obtain⟨parts,e1,rfl,rfl,e4⟩:=ih;have hlen:=h3.len;refine⟨(l1,q1) :: parts,by simp[e1],by simp,by simp,λi k p hk hp=>?_⟩;match i,hk,hp with
  | 0,hk,hp =>
   simp at hk hp;subst hk hp;exact⟨c,rfl,h⟩
  | i+1,hk,hp =>
   simp only[rA] at hk hp;obtain⟨c',rfl,hT⟩:=e4 i k p hk hp;refine⟨c',rfl,?_⟩;have e5:zDF lo (s :: keys) (i+1)=zDF s keys i:=by
    unfold zDF;rw[if_neg (by omega),rP];by_cases h0:i=0
    .subst h0;simp
    .rw[if_neg h0];have hik:=(uB.1 hk).1;obtain⟨j,rfl⟩:∃j,i=j+1:=⟨i-1,by omega⟩;have:j<keys.length:=by omega
     simp[List.getD,this]
   have e6:zDx hi (s :: keys) (i+1)=zDx hi keys i:=by unfold zDx;rw[rA]
   rw[e5,e6];exact hT
theorem zGL.tells{e:zI}{v:ByteArray}{ids:List Nat}(h:zGL G gen e v ids)(hs:256<=G.size)(hb:G.blocks<=256):zE4 G.R2 e=some v:=by
 unfold zE4;rcases h with ⟨c1,c2,_⟩|⟨c1,c2⟩
 .rw[if_pos c1,c2]
 .rw[if_neg c1];obtain⟨_,w2,_,w4⟩:=c2.walk hs hb;unfold GA.R2;rw[if_pos w2,w4]
theorem vM.tells{es:List zI}(h:vM G gen es l q)(hs:256<=G.size)(hb:G.blocks<=256):∀(i:Nat) (e:zI) (x:zE),es[i]? = some e->l[i]? = some x->e.key=x.1/\zE4 G.R2 e=some x.2:=by
 induction h with
 | nil=>intro i e x he;simp at he
 | @cons e x ids es l q h1 h2 _ ih =>
  intro i f y hf hy;match i,hf,hy with
  | 0,hf,hy =>
   simp at hf hy;subst hf hy;exact⟨h1,h2.tells hs hb⟩
  | i+1,hf,hy=>exact ih i f y (by simpa using hf) (by simpa using hy)
theorem vJ.tr(hs:256<=G.size)(hb:G.blocks<=256):∀(d:Nat) (lo:ByteArray) (hi:Option ByteArray) (id:Nat) (l:List zE) (q:List Nat),vJ G gen d lo hi id l q->Tr G.node G.R2 lo hi id d l
 | 0,_,_,_,_,_,h=>h.elim
 | d+1,lo,hi,id,l,q,h=>by
  obtain⟨n,q,hp,hr,rfl,h⟩:=h;have hn:=(zFt hp).2;rcases h with ⟨hl,rfl,hne,he,hbd⟩|⟨hl,hk⟩
  .exact .leaf hn hl hr he.len (he.tells hs hb) hbd
  .obtain⟨parts,e1,rfl,rfl,e4⟩:=hk.parts;refine .inner hn hl hr (by rw[uU];exact e1) (λi k p hkk hp=>?_) hk.keysIn;rw[pE,rO] at hp;obtain⟨pp,hpp,rfl⟩:=hp;obtain⟨c,rfl,hT⟩:=e4 i k pp hkk hpp;rw[uL];exact vJ.tr hs hb d _ _ _ _ _ hT
theorem TD.treeG{root d:Nat}{ps:List zE}{pgs:List Nat}(h:TD G gen root d ps pgs)(hs:256<=G.size)(hb:G.blocks<=256):zRD G root d ps:=by
 rcases h.tree with ⟨rfl,rfl,rfl,rfl⟩|⟨hd,hT⟩
 .exact .inl ⟨rfl,rfl,rfl⟩
 .have h7:=(h.few hb).2;obtain⟨r,hr⟩:=vJ.head _ _ _ _ _ _ hT;have h2:=h.lt root (by rw[hr];simp);exact .inr ⟨h2.1,by omega,by omega,vJ.tr hs hb _ _ _ _ _ _ hT⟩
theorem zLk{e:zI}{v:ByteArray}{ids:List Nat}(h:zGL G gen e v ids)(hs:256<=G.size)(hb:G.blocks<=256)(st:WkS)(hn:(st.pages++iL ids).Nodup):zAc G gen e st=.inl { st with pages:=st.pages++iL ids }:=by
 unfold zAc;rcases h with ⟨c1,_,c3⟩|⟨c1,c2⟩
 .rw[if_pos c1,c3];simp[iL]
 .rw[if_neg c1];obtain⟨w1,_,w3,_⟩:=c2.walk hs hb;rw[w1,w3];refine zP3 ids (λi hi=>?_) st hn;obtain⟨j,hj,hji⟩:=wQ hi;obtain⟨g,hg,hpg⟩:=c2.page;have hv:=hpg j hj;have e:ids.getD j 0=i:=by simp[List.getD,hj,hji]
  rw[e] at hv;refine⟨zBN g v.data.toList (G.size-28) ids j,?_⟩;unfold zAb;rw[zFg (c2.lt i hi).2 hv];simp only;rw[if_neg (by show ¬ gen<g;omega)]
theorem zQO{a:zAW}(hs:256<=G.size)(hb:G.blocks<=256){es:List zI}(h:vM G gen es l q):∀(st:WkS),((es.map (·.key)).Pairwise λa b=>qJ a b=true)->(∀e∈es,qJ st.last e.key=true/\qJ e.key a.lo=false/\(a.hi≠e0->qJ e.key a.hi=true))->(st.pages++iL q).Nodup ->
  zBq G gen a es st=.inl { st with pages:=st.pages++iL q,keys:=st.keys++es.map (·.key) }:=by
 induction h with
 | nil=>intro st _ _ _;simp[iL,zBq]
 | @cons e x ids es l q h1 h2 h3 ih =>
  intro st hr hk hn;obtain⟨k1,k2,k3⟩:=hk e uF;rw[uW,wV] at hr;rw[zHh] at hn;have hbad:zGH a st e=false:=by
   unfold zGH;rw[zNX k1,k2];by_cases hh:a.hi=e0
   .simp[hh]
   .rw[zNX (k3 hh)];simp
  have hcg:=zLk h2 hs hb { st with keys:=st.keys++[e.key] } (by
   refine hn.sublist ?_;rw[<- uS];exact List.sublist_append_left _ _)
  rw[zBq,hbad,if_neg (by simp),hcg];simp only;rw[ih _ hr.2 (λx hx=>?_) (by simpa using hn)]
  .simp[zHh]
  .obtain⟨_,j2,j3⟩:=hk x (uI _ hx);rw[zOk];exact⟨hr.1 _ (tK hx),j2,j3⟩
theorem zQP{id:Nat}{n:zF}(h:PgN G gen id n):∃p,zAb G gen (id:Int)=.inl p/\jV p=.inl n:=by
 obtain⟨p,h1,h2,h3⟩:=h.page;refine⟨p,?_,h3⟩;unfold zAb;rw[zFg h.lt h1];simp only;rw[if_neg (by omega)]
theorem zLl(hs : 256 <= G.size)(hb : G.blocks <= 256) : ∀ (d : Nat) (lo : ByteArray) (hi : Option ByteArray) (id : Nat) (l : List zE) (q : List Nat), vJ G gen d lo hi id l q -> ∀ (f dep : Nat) (hbd : ByteArray) (st : WkS), d <= f -> 1 <= dep -> hiR hi hbd -> (st.depth = 0 \/ st.depth + 1 = dep + d) -> (st.pages ++ iL q).Nodup -> (∀ x ∈ l, qJ st.last x.1 = true) ->
      zAB G gen f ⟨(id:Int),dep,lo,hbd⟩ st=.inl ⟨st.pages++iL q,st.keys++l.map (·.1),dep+d-1⟩
  | 0,_,_,_,_,_,h,_,_,_,_,_,_,_,_,_,_=>h.elim
  | d+1,lo,hi,id,l,pgs,h,0,_,_,_,hf,_,_,_,_,_=>by omega
  | d+1,lo,hi,id,l,pgs,h,f+1,dep,hbd,st,hf,hdep,hh,hd,hn,hlast=>by
    have hs2:=vJ.sorted _ _ _ _ _ _ h
    obtain⟨n,q,hp,hr,rfl,h⟩:=h
    obtain⟨p,hy,hdec⟩:=zQP hp
    have hnot:(id:Int) ∉ st.pages:=λhm=>by
      rw[wD] at hn
      exact hn.2.2 _ hm (id:Int) (by simp[iL]) rfl
    rw[zAB]
    unfold zFC
    rw[if_neg hnot]
    simp only[hy,hdec]
    rcases h with ⟨hl,rfl,hne,he,hbnd⟩|⟨hl,hk⟩
    . rw[if_pos hl]
      have hkeys:=he.keys
      unfold zDv
      obtain⟨s1,hs1⟩:∃s1,s1=zAk ⟨(id:Int),dep,lo,hbd⟩ { st with pages:=st.pages++[(id:Int)] }:=⟨_,rfl⟩
      have hs3:s1=⟨st.pages++[(id:Int)],st.keys,dep⟩:=by
        rw[hs1]
        unfold zAk
        rcases hd with hd|hd
        . simp[hd]
        . have h:st.depth=dep:=by omega
          have h0:¬ st.depth=0:=by omega
          rw[if_neg h0]
          simp only[h]
      rw[<- hs1,hs3]
      simp only
      have hene:n.entries≠[]:=λe=>by
        have:=he.len
        rw[e] at this
        exact hne (tB this.symm)
      rw[if_neg (by rintro (h|⟨h,_⟩);exact h rfl;exact hene h)]
      rw[zQO hs hb he _ (zB9 hr hl) (λe hee=>?_) (by simpa[iL] using hn)]
      . simp only[hkeys]
        simp[iL]
      . have hm:e.key∈l.map (·.1):=by rw[<- hkeys];exact tK hee
        obtain⟨x,hx,hxe⟩:=wY.1 hm
        have hib:=hbnd x hx
        rw[<- hxe]
        refine⟨hlast _ hx,hib.1,λhne=>?_⟩
        rcases hh with ⟨_,h7⟩|⟨h7,_⟩
        . exact absurd h7 hne
        . exact hib.2 _ h7
    . rw[if_neg (by rw[hl];simp)]
      obtain⟨parts,e1,rfl,rfl,e4⟩:=hk.parts
      have hkin:=hk.keysIn
      obtain⟨_,hkl,hk2⟩:=jC hr hl
      obtain⟨tp,htp⟩:∃tp,tp=parts.map (·.2):=⟨_,rfl⟩
      obtain⟨lp,hlp⟩:∃lp,lp=parts.map (·.1):=⟨_,rfl⟩
      rw[<- htp] at hn ⊢
      rw[<- hlp] at hlast hs2 ⊢
      have htl:tp.length=n.kids.length:=by rw[htp,uU];exact e1
      have hll:lp.length=n.kids.length:=by rw[hlp,uU];exact e1
      have hflat:∀i,tp.flatten=(tp.take i).flatten++(tp.drop i).flatten:=λi=>by rw[<- tQ,uZ]
      have hflat2:∀i,lp.flatten=(lp.take i).flatten++(lp.drop i).flatten:=λi=>by rw[<- tQ,uZ]
      obtain⟨s',hs1,hs2⟩:=zNY (rec_:=zAB G gen f) (n:=n) (a:=⟨(id:Int),dep,lo,hbd⟩)
        (Inv:=λi s=>s=⟨st.pages++[(id:Int)]++iL (tp.take i).flatten,st.keys++(lp.take i).flatten.map (·.1),if i=0 then st.depth else dep+1+d-1⟩) (λi k s hk hI=>by
          have hik:=(uB.1 hk).1
          have hit:i<tp.length:=by omega
          have hip:i<lp.length:=by omega
          have hipp:i<parts.length:=by omega
          obtain⟨b1,b2,b3⟩:=zMg (a:=⟨(id:Int),dep,lo,hbd⟩) hr hl hh hkin hk
          refine⟨b1,_,?_,rfl⟩
          obtain⟨c,rfl,hT⟩:=e4 i k parts[i] hk (uA hipp)
          have ep1:parts[i].1=lp[i]:=by simp[hlp]
          have ep2:parts[i].2=tp[i]:=by simp[htp]
          rw[ep1,ep2] at hT
          have hpl:vD n ⟨(id:Int),dep,lo,hbd⟩ i (c:Int)=⟨(c:Int),dep+1,zDF lo n.keys i,(vD n ⟨(id:Int),dep,lo,hbd⟩ i (c:Int)).hi⟩:=by
            rw[<- b2];rfl
          have hf2:=hflat2 (i+1)
          rw[yJ _ _ _ (uA hip),tQ,wT,tO,wR] at hf2
          have hf3:=hflat (i+1)
          rw[yJ _ _ _ (uA hit),tQ,wT,tO,wR] at hf3
          rw[hf2] at hs2
          have hs3:=(rN.1 (rN.1 hs2).1)
          rw[hpl,zLl hs hb d _ _ c _ _ hT f (dep+1) _ s (by omega) (by omega) b3 (by rw[hI];by_cases h0:i=0 <;> simp[h0] <;> omega) ?_ (λx hx=>?_)]
          . rw[hI,yJ _ _ _ (uA hip),yJ _ _ _ (uA hit)]
            simp only[tQ,wT,tO,wR,zHh,wF,uS,Nat.add_one_ne_zero,tP]
          . rw[hI]
            refine hn.sublist ?_
            show List.Sublist _ (st.pages++((id:Int) :: iL tp.flatten))
            rw[hf3,zHh,zHh]
            simp only[uS,wN,uT]
            refine List.Sublist.append (List.Sublist.refl _) (List.Sublist.cons_cons _ ?_)
            rw[<- uS]
            exact List.sublist_append_left _ _
          . rw[hI]
            refine zQt ?_ (λy hy=>hs3.2.2 y hy x hx)
            exact hlast x (by rw[hf2];simp[hx])) n.kids 0 ⟨st.pages++[(id:Int)],st.keys,st.depth⟩ rfl (by simp) (by simp[iL])
      have hs3:s'=_:=hs2
      rw[hs1,hs3]
      have h2:=(zDM hr).2.2 hl
      have h0:n.kids.length≠0:=by omega
      rw[wE (by omega),wE (by omega),if_neg h0]
      simp[iL]
theorem TD.walk{root d:Nat}{ps:List zE}{pgs:List Nat}(h:TD G gen root d ps pgs)(hs:256<=G.size)(hb:G.blocks<=256):zHg G gen (root:Int)=.inl ⟨iL pgs,ps.map (·.1),d⟩:=by
 rcases h.tree with ⟨rfl,rfl,rfl,rfl⟩|⟨hd,hT⟩
 .rfl
 .have h7:=(h.few hb).2;obtain⟨r,hr⟩:=vJ.head _ _ _ _ _ _ hT;have h2:=h.lt root (by rw[hr];simp);unfold zHg;rw[if_neg (by omega),zLl hs hb d e0 Option.none root ps pgs hT 16 1 e0 wk0 (by omega) (by omega) (.inl ⟨rfl,rfl⟩) (.inl rfl) (by
   show ([]++iL pgs).Nodup;rw[uT];exact wW.2 (h.nodup.imp (λh e=>h (by omega)))) (λx hx=>by
    show qJ e0 x.1=true;rcases zCr (zCa x.1).1 with h5|h5
    .exact h5
    .exact absurd h5 (zNZ (h.ok x hx).1))]
  simp[wk0]
end
end
section
open Go.RowKit Go.Maps
attribute [local go_sem ↓] Go.wp_at_zero Go.wp_at_succ
def zJL(i:Int):Prop:=(Lit.int .i64 i).wf=true
def zCz(w:World)(mb:Nat)(ps:List Int):Prop :=
 ∃D:DataW Unit,w.ownsMap Tryz.prog 3 (plainElem Tryz.prog 3) mb ps.length D/\IsMap D/\∀i,D.atKey (.int .i64 i) (.lit (.int .i64 0))=.lit (.int .i64 (if i∈ps then 1 else 0))
section
variable {F P P' F' P1 F1:Nat->Prop}{ad:Nat->Addr}{w w' w0:World}{c s gen kb mb:Nat}{G:GA}{l:List Nat}{pv kv pv' kv':Value}{st st':WkS}{ps:List Int}
theorem zCz.made(w:World):zCz (w.alloc (.map #[] 0)) w.heap.size [] :=
 ⟨.map [],World.ownsMap_made w _ _ _,isMap_empty,λ_=>rfl⟩
theorem zCz.lt(h:zCz w mb ps):mb<w.heap.size:=by obtain⟨D,h,_⟩:=h;exact h.lt
theorem zCz.mods{Q:Nat->Prop}(h:zCz w mb ps)(m:zA Q w w')(hq:¬ Q mb):zCz w' mb ps:=by
 obtain⟨D,⟨es,clock,h1,h2⟩,h3⟩:=h;exact⟨D,⟨es,clock,(m.block mb (tH.1 h1).1 hq).trans h1,h2⟩,h3⟩
theorem zCz.put{D:DataW Unit}{i:Int}(h:∀j,D.atKey (.int .i64 j) (.lit (.int .i64 0))=.lit (.int .i64 (if j∈ps then 1 else 0)))(hD:IsMap D) :
  ∀j,(D.put (.int .i64 i) (.lit (.int .i64 1))).atKey (.int .i64 j) (.lit (.int .i64 0))=.lit (.int .i64 (if j∈ps++[i] then 1 else 0)):=by
 intro j;by_cases hj:j=i
 .subst hj;rw[atKey_put_same hD (by trivial),if_pos (by simp)]
 .rw[atKey_put_other (by intro e;injection e with _ e;exact hj e),h j];by_cases hm:j∈ps
  .rw[if_pos hm,if_pos (by simp[hm])]
  .rw[if_neg hm,if_neg (by simp[hm,hj])]
def WkB(kb mb:Nat)(pv kv:Value):Nat->Prop:=λk=>k=kb\/k=mb\/pv.ownBlock=some k\/kv.ownBlock=some k
structure WkR(F P:Nat->Prop)(w:World)(base c s gen kb mb:Nat)(pv kv:Value)(st:WkS):Prop where
 blk:zL w kb #[.pointer (some ⟨c,0,none⟩),.pointer (some ⟨s,0,none⟩),.int .u64 (gen:Int),.map (some mb),pv,kv,.int .i64 (st.depth:Int),.string st.last] 102
 seen:zCz w mb st.pages
 rp:zU (λ_=>False) w base 3 1 yB pv st.pages
 rk:zU (λ_=>False) w base 9 1 qK kv st.keys
 nP:∀k,WkB kb mb pv kv k->F k/\¬ P k
 few:st.pages.length<=1000/\st.keys.length<=1000000
theorem Tryz.seenU:Tryz.prog.underlying 100 = some (.map 3 3):=by kernel_rfl
theorem Tryz.intKeyed:Keyed Tryz.prog 3:=int_keyed Tryz.underlying3
theorem Tryz.intZero(w:World):(zeroValue 3).run Tryz.prog w=.ok (.int .i64 0) w:=by kernel_rfl
theorem zL.notM{cs:Array Value}{t:TypeId}{b:Nat}(h:zL w b cs t)(hs:zCz w mb ps):b≠mb:=by
 obtain⟨D,⟨es,clock,h1,_⟩,_⟩:=hs;rintro rfl;have h2:w.heap[b]? = some (.cells cs t (0,0)):=h;rw[h1] at h2;cases h2
theorem zU.notM{α:Type}{Q:Nat->Prop}{base sz:Nat}{e:TypeId}{enc:α->List Value}{v:Value}{x:List α}(h:zU Q w base e sz enc v x)(hs:zCz w mb ps):∀g,v.ownBlock=Option.some g->g≠mb:=by
 obtain⟨D,⟨es,clock,h1,_⟩,_⟩:=hs;rintro g hg rfl;rcases h.1.2 with ⟨rfl,_⟩|⟨g',cap,cur,rfl,_,hg',_⟩
 .simp[Value.ownBlock] at hg
 .simp[Value.ownBlock] at hg;subst hg;rw[h1] at hg';cases hg'
theorem zU.notO{α β:Type}{Q Q':Nat->Prop}{base base' sz sz':Nat}{e e':TypeId}{enc:α->List Value}{enc':β->List Value}{v v':Value}{x:List α}{x':List β}(h:zU Q w base e sz enc v x)(h':zU Q' w base' e' sz' enc' v' x')(hne:e≠e'):∀g,v.ownBlock=Option.some g->v'.ownBlock≠Option.some g:=by
 intro g hg hg2;rcases h.1.2 with ⟨rfl,_⟩|⟨g1,cap,cur,rfl,_,k1,_⟩
 .simp[Value.ownBlock] at hg
 .rcases h'.1.2 with ⟨rfl,_⟩|⟨g2,cap2,cur2,rfl,_,k2,_⟩
  .simp[Value.ownBlock] at hg2
  .simp[Value.ownBlock] at hg hg2;subst hg hg2;rw[k1] at k2;injection k2 with k2;injection k2 with _ k2;exact hne k2
theorem zBX(hL:yW F ad w)(id:Int) : Calls Tryz.prog 77 #[.int .i64 id] w λe w'=>∃b,e=.returned (zQ b)/\qQ F ad w' (zQ b) (zCE id).1 (zCE id).2/\zJ w w':=by
 have HL:=oh hL;have c5:=hL.c5;have HA:=oh (λop=>zAS hL op id _ _ _ (qQ.sent 5 (by omega) (by omega)));clear hL
 go_enter Tryz.func77, Tryz.ntmps77
 go_wp2_with fail;refine (HA.out _).mono ?_;rintro e w1 ⟨b,rfl,hE,hm⟩;have HE:=oh hE;have HM:=oh hm;clear hE hm;go_wp2_with fail;go_ret;exact⟨b,rfl,HE.out,HM.out⟩
def zQQ(F P:Nat->Prop)(ad:Nat->Addr)(w:World)(base c s gen kb mb:Nat)(pv kv:Value)(st:WkS)(id:Int)(e:Ending)(w':World):Prop :=
 match zFC st id with
 | .inr (el,ek)=>∃f,e=.returned (zQ f)/\qQ F ad w' (zQ f) el ek/\zJ w w'
 | .inl st1=>∃pv',e=.returned .nilIface/\WkR (zAA F pv') P w' base c s gen kb mb pv' kv st1/\zA (WkB kb mb pv kv) w w'/\(pv'.ownBlock=pv.ownBlock\/∃K,w.heap.size<=K/\pv'.ownBlock=some K)
theorem zNz(hL:yW F ad w)(hP:∀k,P k->F k){base:Nat}(hb:base<=w.heap.size)(h:WkR F P w base c s gen kb mb pv kv st)(id:Int)(hid:zJL id)(hfew:st.pages.length<1000) :
  Calls Tryz.prog 78 #[.pointer (some ⟨kb,0,none⟩),.int .i64 id] w (zQQ F P ad w base c s gen kb mb pv kv st id):=by
 obtain⟨D,h1,h2,h3⟩:=h.seen;have HW:=oh h;have HL:=oh hL;have HP:=oh hP;have HS:=oh h1;have HB:=oh hb;have HI:=oh h2;have H3:=oh h3;have hkey:keyOf Tryz.prog 3 (.int .i64 id)=some (.int .i64 id):=keyOf_int_mk Tryz.underlying3 hid;obtain⟨cc,hrun,hat,hwf⟩:=h1.lookup_int Tryz.intKeyed Tryz.seenU Tryz.underlying3 (Tryz.intZero w) hkey;rw[h3 id] at hat;have HCR:=oh (zBX hL id);obtain⟨pa,pc,rfl, -, -⟩:=_root_.id h.rp.form;have k1:=h.blk.cell (o:=3) (v:=.map (some mb)) rfl;have HNE:=oh (zL.notM h.blk h.seen);by_cases hm:id∈st.pages
 .rw[if_pos hm] at hat;obtain rfl:cc=1:=by injection hat with e;injection e with _ e;exact e.symm
  have HV:Hid (zFC st id=.inr (zCE id)):=oh (by unfold zFC;rw[if_pos hm]);clear hat h h1 hL hP hb h2 h3 hm
  go_enter Tryz.func78, Tryz.ntmps78
  go_wp2_with fail;refine (HCR.out).mono ?_;rintro e w1 ⟨f,rfl,hE,hm⟩;have HE:=oh hE;have HM:=oh hm;clear hE hm;go_wp2_with fail;go_ret;unfold zQQ;rw[HV.out];exact⟨f,rfl,HE.out,HM.out⟩
 .rw[if_neg hm] at hat;obtain rfl:cc=0:=by injection hat with e;injection e with _ e;exact e.symm
  have HV:Hid (zFC st id=.inl { st with pages:=st.pages++[id] }):=oh (by unfold zFC;rw[if_neg hm]);obtain⟨n,hn⟩:∃n,n=st.pages.length:=⟨_,rfl⟩;have HN:=oh hn;clear hat h h1 hL hP hb h2 h3 hm hn;have hfew':n<1000:=by have:=HN.out;omega
  clear hfew
  go_enter Tryz.func78, Tryz.ntmps78
  have e1:st.pages.length + [id].length=n+1:=by have:=HN.out;simp;omega
  go_wp2_with (first
   | (at_mapUpdate;refine wpList_mapUpdate_own _ rfl _ _ _ 100 rfl 3 3 Tryz.intKeyed Tryz.seenU _ mb st.pages.length D rfl HS.out (by have:=HN.out;simp[maxLen];omega) _ _ (.int .i64 id) rfl rfl hkey (.lit (.int .i64 1)) [] (plainElem_int Tryz.underlying3 (by decide)) ?_;intro w1 hown1 hgrow1;have HG1:Hid (w.grownBy w1 (some mb)):=oh hgrow1;have hB1:zL w1 kb #[.pointer (some ⟨c,0,none⟩),.pointer (some ⟨s,0,none⟩),.int .u64 (gen:Int),.map (some mb),.slice pa st.pages.length pc,kv,.int .i64 (st.depth:Int),.string st.last] 102:=(HW.out.blk.mods (zA.of_grown hgrow1) (λe=>HNE.out (Option.some.inj e).symm));have HB1:=oh hB1;have y4:=hB1.cell (o:=4) (v:=.slice pa st.pages.length pc) rfl;have HO1:Hid (zU (λ_=>False) w1 base 3 1 yB (.slice pa st.pages.length pc) st.pages):=oh (HW.out.rp.mods (zA.of_grown hgrow1) (λg hg e=>zU.notM HW.out.rp HW.out.seen g hg (Option.some.inj e).symm));have HM1:=oh hown1;clear hown1 hgrow1 hB1)
   | (at_builtin;refine yH Tryz.elI yG rfl _ _ rfl base (.slice pa st.pages.length pc) (.slice (some ⟨w1.heap.size,0,none⟩) 1 1) st.pages [id] rfl rfl (HO1.out.ext ((zA.refl _ _).alloc _)) (Sl.one (F:=λ_=>False) (x:=id) (t := 3) (fz:=(0,0)) (zK rfl) (λf=>f)) (by have:=HN.out;simp;omega) (uM (uM HB.out HG1.out.size) (by simp)) (λf=>f) ?_;intro a' c' w4 hown4 hmod4 hat4;rw[e1] at hown4 hat4 ⊢;have hB4:=(HB1.out.alloc (.cells #[.int .i64 id] 3)).mods hmod4 (λe=>zU.notB HO1.out HB1.out (by decide) _ e rfl);have HB4:=oh hB4;have z4:=hB4.cell (o:=4) (v:=.slice pa st.pages.length pc) rfl;have zf:=hB4.frozen;clear hB4)
   | fail)
  have hsz:w.heap.size<=(w1.alloc (.cells #[.int .i64 id] 3)).heap.size:=uM HG1.out.size (by simp);have HF:Hid (WkR (zAA F (.slice a' (n+1) c')) P (w4.setCell ⟨kb,4,none⟩ (.slice a' (n+1) c')) base c s gen kb mb (.slice a' (n+1) c') kv { st with pages:=st.pages++[id] }/\zA (WkB kb mb (.slice pa st.pages.length pc) kv) w (w4.setCell ⟨kb,4,none⟩ (.slice a' (n+1) c'))/\((Value.slice a' (n+1) c').ownBlock=(Value.slice pa st.pages.length pc).ownBlock\/∃K,w.heap.size<=K/\(Value.slice a' (n+1) c').ownBlock=some K)):=oh (by
   have g1:=zA.of_grown HG1.out;have g5:zA (λk=>k=kb) w4 (w4.setCell ⟨kb,4,none⟩ (.slice a' (n+1) c')):=zA.setCell (F:=λk=>k=kb) (p:=⟨kb,4,none⟩) (zA.refl _ w4) (.inr rfl) _;have m4:zA (WkB kb mb (.slice pa st.pages.length pc) kv) w w4:=((g1.mono (λk e=>.inr (.inl (Option.some.inj e).symm))).alloc (.cells #[.int .i64 id] 3)).trans (hmod4.mono (λk e=>.inr (.inr (.inl e))));have m1:zA (λk=>k=kb\/(Value.slice pa st.pages.length pc).ownBlock=some k) w1 (w4.setCell ⟨kb,4,none⟩ (.slice a' (n+1) c')):=(((zA.refl _ w1).alloc (.cells #[.int .i64 id] 3)).trans (hmod4.mono (λk e=>.inr e))).setCell (p:=⟨kb,4,none⟩) (.inr (.inl rfl)) _;have s1:zCz w1 mb (st.pages++[id]):=⟨_,by rw[uC];exact HM1.out,HI.out.put _ _,zCz.put H3.out HI.out⟩;have rk1:=(HW.out.rk.mods g1 (λg hg e=>zU.notM HW.out.rk HW.out.seen g hg (Option.some.inj e).symm)).ext ((zA.refl _ w1).alloc (.cells #[.int .i64 id] 3));have rk4:=rk1.mods hmod4 (λg hg e=>zU.notO HW.out.rk HW.out.rp (by decide) g hg e);refine⟨⟨HB4.out.set 4 _,s1.mods m1 ?_,hown4.mods g5 (λg hg e=>zU.notB hown4 HB4.out (by decide) g hg e),rk4.mods g5 (λg hg e=>zU.notB rk4 HB4.out (by decide) g hg e),?_,?_⟩,m4.setCell (p:=⟨kb,4,none⟩) (.inr (.inl rfl)) _,?_⟩
   .rintro (e|e)
    .exact HNE.out e.symm
    .exact zU.notM HW.out.rp HW.out.seen _ e rfl
   .rintro k (e|e|e|e)
    .exact⟨.inl (HW.out.nP k (.inl e)).1,(HW.out.nP k (.inl e)).2⟩
    .exact⟨.inl (HW.out.nP k (.inr (.inl e))).1,(HW.out.nP k (.inr (.inl e))).2⟩
    .refine⟨.inr e,λhp=>?_⟩;rcases hat4 with h5|h5
     .exact (HW.out.nP k (.inr (.inr (.inl (h5 ▸ e))))).2 hp
     .rw[h5] at e;injection e with e;have:=HL.out.lt k (HP.out k hp);omega
    .exact⟨.inl (HW.out.nP k (.inr (.inr (.inr e)))).1,(HW.out.nP k (.inr (.inr (.inr e)))).2⟩
   .have:=HW.out.few;have:=HN.out;simp only[uC,uD,uE];omega
   .rcases hat4 with h5|h5
    .exact .inl h5
    .exact .inr ⟨_,hsz,h5⟩)
  clear hmod4 hat4 hown4 hsz;go_ret;unfold zQQ;rw[HV.out];exact⟨_,rfl,HF.out⟩
end
end
end Go.Proofs.YtchklfmggpconaaGreatDoor
