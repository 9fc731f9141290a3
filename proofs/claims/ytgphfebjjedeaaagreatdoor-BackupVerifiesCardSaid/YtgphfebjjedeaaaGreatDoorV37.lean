import Derived.Deep.RegionHeld3
import Derived.IntWalk
import Derived.Deep.RegionLawGrows
import Derived.Deep.CutBlock
import Derived.Deep.DeepCutAuto
import Derived.Test.YtgphfebjjedeaaaGreatDoorV36
import Derived.Test.YtgphfebjjedeaaaGreatDoorV26
namespace Go.Proofs.YtgphfebjjedeaaaGreatDoor
open Lib renaming hid->oh
set_option maxHeartbeats 4000000
set_option maxRecDepth 100000
section
open Go.RowKit
attribute [local go_sem ↓] Go.wp_at_zero Go.wp_at_succ
theorem qX:zCg vI 2:=⟨λ_=>rfl,by intro x u hu;simp[vI] at hu;rcases hu with rfl|rfl <;> rfl⟩
theorem yA.some{α:Type}{F:NP}{w:World}{base:Nat}{e:TypeId}{sz:Nat}{enc:α->List Value}{v:Value}{l:List α}(h:yA F w base e sz enc v l)(hl:l≠[]):∃g c,v=.slice (Option.some ⟨g,0,none⟩) l.length c/\l.length<=c/\c<=maxLen/\base<=g/\g<w.heap.size/\∀o,w.frozen? ⟨g,o,none⟩=false:=by
 rcases h.1.2 with ⟨_,h0⟩|⟨g,cap,cur,rfl,hb,hg,h1,h2,_⟩
 .exact absurd (tE h0) hl
 .refine⟨g,cap,rfl,h1,h2,hb,(tA.1 hg).1,λo=>?_⟩;exact zK.frozen (c:=cur) (t:=e) hg o
theorem Sl.cellsAt{α:Type}{F:NP}{w:World}{sz:Nat}{enc:α->List Value}{b off n c:Nat}{l:List α}(h:Sl F w sz enc (.slice (Option.some ⟨b,off,none⟩) n c) l){j:Nat}{x:α}(hx:l[j]? = Option.some x):∀i u,(enc x)[i]? = Option.some u->w.cell? ⟨b,off+j * sz+i,none⟩=Option.some u:=by
 obtain⟨a',c',e1,_,_,_,e5⟩:=h;injection e1 with e1 _ _;subst e1;rcases e5 with rfl|⟨b',off',e,_,_,hc⟩
 .simp at hx
 .injection e with e;injection e with e1 e2;subst e1 e2;exact hc j x hx
theorem Tryz.mkP:(Tryz.prog.info? 105).map (λi=>(i.zero,i.size,i.bytes))=some (some (.agg #[.string ⟨#[]⟩,.string ⟨#[]⟩]),2,32):=by kernel_rfl
theorem Tryz.elP:ElT Tryz.prog 22 105 (.agg #[.string ⟨#[]⟩,.string ⟨#[]⟩]) 2 32:=⟨Tryz.underlying22,Tryz.mkP,rfl,by decide,by decide⟩
section
variable {F:NP}{w w' wr w2:World}
def zMR(w:World)(l:List zE)(e:Ending)(w':World):Prop:=∃v,e=.returned v/\yA NoF w' w.heap.size 105 2 vI v l/\zG w w'
theorem zMS(l:List zE)(lv:Value)(hl:Sl F w 2 vI lv l)(hlen:l.length<=1000)(key value:ByteArray)(over:Bool) :
  Calls Tryz.prog 81 #[lv,.string key,.string value,.bool over] w (zMR w (yM key value over l)):=by
 obtain⟨la,lc,rfl,h1,h2,h3,hll⟩:=hl;unfold maxLen at h2;have HLL:=oh hll;clear hll
 go_enter Tryz.func81, Tryz.ntmps81
 go_wp2_with fail;have HO0:Hid (yA NoF (w.alloc (.cells #[] 105)) w.heap.size 105 2 vI (.slice (some ⟨w.heap.size,0,none⟩) 0 0) []):=oh
  (yA.made (l:=([]:List zE)) (cur:=#[]) (cap:=0) (zM (by simp)) (by omega) (λf=>f) (uJ _) (by simp[maxLen]) (by simp) (by simp) (λ_=>rfl))
 have HM0:Hid (zG w (w.alloc (.cells #[] 105))):=oh ((zss w).alloc _);go_loopg [9,10,11] l.length (λm v9 v10 v11 wr=>∃(k:Nat) (dn:Bool) (out:List zE),k+m=l.length/\v11=.int .i64 (k:Int)/\v10=.bool dn/\Hid (yA NoF wr w.heap.size 105 2 vI v9 out/\zG w wr/\zB8 key value over l k dn out))
 case atStart=>exact⟨0,false,[],by omega,rfl,rfl,oh ⟨HO0.out,HM0.out,zB8.start⟩⟩
 case round =>
  obtain⟨k,dn,out,hkm,rfl,rfl,HS⟩:=hrel;by_cases hlt:k<l.length
  .obtain⟨b,off,rfl,hb,hF,hc⟩:=Sl.at HLL.out HS.out.2.1 (λ_ _ f=>f.elim) k hlt;obtain⟨x,hx⟩:∃x,l[k]? = some x:=⟨_,uA hlt⟩;have hx':l[k]=x:=by rw[uA hlt] at hx;exact Option.some.inj hx
   rw[hx'] at hc;have c0:=hc 0 _ rfl;simp only[uO] at c0;have c1:=hc 1 _ rfl;have HX:=oh hx;have HOL:Hid (out.length<=k+1):=oh (by have:=HS.out.2.2.1;omega);clear hc hx hx';have i1:(0:Int)<=(k:Int):=by omega
   have i2:(k:Int)<(l.length:Int):=by omega
   have HSZ:Hid (w.heap.size<=wr.heap.size):=oh HS.out.2.1.size;cases dn with
   | true =>
    go_wp2_with (at_builtin;refine yC Tryz.elP qX rfl _ _ rfl w.heap.size _ _ out [x] rfl rfl (HS.out.1.ext (zr.alloc _)) (Sl.one (F:=NoF) (zM (by simp)) (λf=>f)) (by have:=HOL.out;simp only[uD,uF];omega) (by have:=hb;have:=HSZ.out;simp;omega) (λf=>f) ?_;intro a4 c4 w4 hO4 hm4 hat4);have HS4:Hid (yA NoF w4 w.heap.size 105 2 vI _ _/\zG w w4/\zB8 key value over l (k+1) true (out++[x])):=oh ⟨hO4,(HS.out.2.1.alloc _).trans' hm4 (λi hi e=>by have:=(HS.out.1.lt i e).1;omega),HS.out.2.2.pass HX.out⟩;clear hO4 hm4 hat4;go_wp2_with fail;go_roundg (gk-1)
    case measure=>omega
    case rel=>exact⟨k+1,true,_,by omega,by go_num,rfl,HS4⟩
   | false =>
    by_cases hl:qH x.1 key=true
    .have e1:Op.bytesLess x.1.toList key.toList=true:=hl;have HE:=oh hl;clear hl;go_wp2_with (at_builtin;refine yC Tryz.elP qX rfl _ _ rfl w.heap.size _ _ out [x] rfl rfl (HS.out.1.ext (zr.alloc _)) (Sl.one (F:=NoF) (zM (by simp)) (λf=>f)) (by have:=HOL.out;simp only[uD,uF];omega) (by have:=hb;have:=HSZ.out;simp;omega) (λf=>f) ?_;intro a4 c4 w4 hO4 hm4 hat4);have HS4:Hid (yA NoF w4 w.heap.size 105 2 vI _ _/\zG w w4/\zB8 key value over l (k+1) false (out++[x])):=oh ⟨hO4,(HS.out.2.1.alloc _).trans' hm4 (λi hi e=>by have:=(HS.out.1.lt i e).1;omega),HS.out.2.2.lt HX.out HE.out⟩;clear hO4 hm4 hat4;go_wp2_with fail;go_roundg (gk-1)
     case measure=>omega
     case rel=>exact⟨k+1,false,_,by omega,by go_num,rfl,HS4⟩
    .have hl':qH x.1 key=false:=by simpa using hl
     have e1:Op.bytesLess x.1.toList key.toList=false:=hl';have HE:=oh hl';clear hl hl';by_cases hk:x.1=key
     .obtain⟨xk,xv⟩:=x;simp only at hk;subst hk;cases over with
      | true =>
       go_wp2_with (at_builtin;refine yC Tryz.elP qX rfl _ _ rfl w.heap.size _ _ out [(xk,value)] rfl rfl (HS.out.1.ext (zr.alloc _)) (Sl.one (F:=NoF) (zM (by simp)) (λf=>f)) (by have:=HOL.out;simp only[uD,uF];omega) (by have:=HSZ.out;simp;omega) (λf=>f) ?_;intro a4 c4 w4 hO4 hm4 hat4;have y0:=zDZ hm4 (zD ((zss wr).alloc (.cells #[.string xk,.string value] 105)) c0) (λe=>by have:=(HS.out.1.lt _ e).1;omega);have y1:=zDZ hm4 (zD ((zss wr).alloc (.cells #[.string xk,.string value] 105)) c1) (λe=>by have:=(HS.out.1.lt _ e).1;omega));have HS4:Hid (yA NoF w4 w.heap.size 105 2 vI _ _/\zG w w4/\zB8 xk value true l (k+1) true (out++[(xk,value)])):=oh ⟨hO4,(HS.out.2.1.alloc _).trans' hm4 (λi hi e=>by have:=(HS.out.1.lt i e).1;omega),HS.out.2.2.eqO HX.out rfl⟩;clear hO4 hm4 hat4;go_wp2_with fail;go_roundg (gk-1)
       case measure=>omega
       case rel=>exact⟨k+1,true,_,by omega,by go_num,rfl,HS4⟩
      | false =>
       go_wp2_with (at_builtin;refine yC Tryz.elP qX rfl _ _ rfl w.heap.size _ _ out [(xk,xv)] rfl rfl (HS.out.1.ext (zr.alloc _)) (Sl.one (F:=NoF) (zM (by simp)) (λf=>f)) (by have:=HOL.out;simp only[uD,uF];omega) (by have:=HSZ.out;simp;omega) (λf=>f) ?_;intro a4 c4 w4 hO4 hm4 hat4);have HS4:Hid (yA NoF w4 w.heap.size 105 2 vI _ _/\zG w w4/\zB8 xk value false l (k+1) true (out++[(xk,xv)])):=oh ⟨hO4,(HS.out.2.1.alloc _).trans' hm4 (λi hi e=>by have:=(HS.out.1.lt i e).1;omega),HS.out.2.2.eqN HX.out rfl⟩;clear hO4 hm4 hat4;go_wp2_with fail;go_roundg (gk-1)
       case measure=>omega
       case rel=>exact⟨k+1,true,_,by omega,by go_num,rfl,HS4⟩
     .have hk2:qH key x.1=true:=(zC8 HE.out).resolve_right hk;have e2:Op.bytesLess key.toList x.1.toList=true:=hk2;have e3:¬ x.1.toList=key.toList:=λe=>hk (toList_inj e)
      have e4:¬ x.1=key:=hk;have HK:=oh hk;clear hk hk2;go_wp2_with (first|(at_builtin;refine yC Tryz.elP qX rfl _ _ rfl w.heap.size _ _ out [(key,value)] rfl rfl (HS.out.1.ext (zr.alloc _)) (Sl.one (F:=NoF) (zM (by simp)) (λf=>f)) (by have:=HOL.out;simp only[uD,uF];omega) (by have:=HSZ.out;simp;omega) (λf=>f) ?_;intro a4 c4 w4 hO4 hm4 hat4;have y0:=zDZ hm4 (zD ((zss wr).alloc (.cells #[.string key,.string value] 105)) c0) (λe=>by have:=(HS.out.1.lt _ e).1;omega);have y1:=zDZ hm4 (zD ((zss wr).alloc (.cells #[.string key,.string value] 105)) c1) (λe=>by have:=(HS.out.1.lt _ e).1;omega))|(at_builtin;refine yC Tryz.elP qX rfl _ _ rfl w.heap.size _ _ (out++[(key,value)]) [x] rfl rfl (hO4.ext (zr.alloc _)) (Sl.one (F:=NoF) (zM (by simp)) (λf=>f)) (by have:=HOL.out;simp only[uC,uD,uF];omega) (by have:=hm4.size;have:=HSZ.out;simp at *;omega) (λf=>f) ?_;intro a5 c5 w5 hO5 hm5 hat5));have HS3:Hid (yA NoF w4 w.heap.size 105 2 vI _ (out++[(key,value)])/\zG w w4):=oh ⟨hO4,(HS.out.2.1.alloc _).trans' hm4 (λi hi e=>by have:=(HS.out.1.lt i e).1;omega)⟩;have HS4:Hid (yA NoF w5 w.heap.size 105 2 vI (.slice a5 (out.length+1+1) c5) (out++[(key,value)]++[x])/\zG w w5/\zB8 key value over l (k+1) true (out++[(key,value)]++[x])):=oh ⟨by have e:=hO5;simp only[uC,uD,uF,uV] at e;exact e,(HS3.out.2.alloc _).trans' hm5 (λi hi e=>by have:=(HS3.out.1.lt i e).1;omega),HS.out.2.2.gt HX.out HE.out HK.out⟩;clear hO5 hm5 hat5;go_wp2_with fail;go_roundg (gk-1)
      case measure=>omega
      case rel=>exact⟨k+1,true,_,by omega,by go_num,rfl,HS4⟩
  .have HLE:Hid (l.length<=k):=oh (by omega);have HSZ:Hid (w.heap.size<=wr.heap.size):=oh HS.out.2.1.size;have HOL:Hid (out.length<=k+1):=oh (by have:=HS.out.2.2.1;omega);have hb:w.heap.size<=wr.heap.size:=HSZ.out;cases dn with
   | true =>
    go_wp2_with fail;go_ret;exact⟨_,rfl,by rw[<- HS.out.2.2.done HLE.out];exact HS.out.1,HS.out.2.1⟩
   | false =>
    go_wp2_with (at_builtin;refine yC Tryz.elP qX rfl _ _ rfl w.heap.size _ _ out [(key,value)] rfl rfl (HS.out.1.ext (zr.alloc _)) (Sl.one (F:=NoF) (zM (by simp)) (λf=>f)) (by have:=HOL.out;simp only[uD,uF];omega) (by have:=HSZ.out;simp;omega) (λf=>f) ?_;intro a4 c4 w4 hO4 hm4 hat4);have HS4:Hid (yA NoF w4 w.heap.size 105 2 vI _ (yM key value over l)/\zG w w4):=oh ⟨by rw[<- HS.out.2.2.last HLE.out];exact hO4,(HS.out.2.1.alloc _).trans' hm4 (λi hi e=>by have:=(HS.out.1.lt i e).1;omega)⟩;clear hO4 hm4 hat4;go_wp2_with fail;go_ret;exact⟨_,rfl,HS4.out.1,HS4.out.2⟩
end
section
variable {F:NP}{w w' wr w2:World}
theorem zPo(l:List zE)(lv:Value)(hl:Sl F w 2 vI lv l)(hlen:l.length<=900) :
  Calls Tryz.prog 63 #[lv] w (zMR w (zAM l)):=by
 obtain⟨la,lc,rfl,h1,h2,h3,hll⟩:=hl;unfold maxLen at h2;have HLL:=oh hll;clear hll
 go_enter Tryz.func63, Tryz.ntmps63
 go_wp2_with fail;have HO0:Hid (yA NoF (w.alloc (.cells #[] 105)) w.heap.size 105 2 vI (.slice (some ⟨w.heap.size,0,none⟩) 0 0) []):=oh
  (yA.made (l:=([]:List zE)) (cur:=#[]) (cap:=0) (zM (by simp)) (by omega) (λf=>f) (uJ _) (by simp[maxLen]) (by simp) (by simp) (λ_=>rfl))
 have HM0:Hid (zG w (w.alloc (.cells #[] 105))):=oh ((zss w).alloc _);go_loopg [3,4] l.length (λm v3 v4 wr=>∃(k:Nat),k+m=l.length/\v4=.int .i64 (k:Int)/\Hid (yA NoF wr w.heap.size 105 2 vI v3 (zAM (l.take k))/\zG w wr))
 case atStart=>exact⟨0,by omega,rfl,oh ⟨HO0.out,HM0.out⟩⟩
 case round =>
  obtain⟨k,hkm,rfl,HS⟩:=hrel;by_cases hlt:k<l.length
  .obtain⟨b,off,rfl,hb,hF,hc⟩:=Sl.at HLL.out HS.out.2 (λ_ _ f=>f.elim) k hlt;obtain⟨x,hx⟩:∃x,l[k]? = some x:=⟨_,uA hlt⟩;have hx':l[k]=x:=by rw[uA hlt] at hx;exact Option.some.inj hx
   rw[hx'] at hc;have c0:=hc 0 _ rfl;simp only[uO] at c0;have c1:=hc 1 _ rfl;have HX:Hid (zAM (l.take (k+1))=zF1 (zAM (l.take k)) x):=oh (by rw[qD l k x hx,zLW]);clear hc hx hx';have i1:(0:Int)<=(k:Int):=by omega
   have i2:(k:Int)<(l.length:Int):=by omega
   cases hkb:qP x.1 with
   | false =>
    have HK:=oh (zOH x.1 wr false hkb);have HA:Hid (zAM (l.take (k+1))=zAM (l.take k)):=oh (by rw[HX.out];unfold zF1;rw[if_neg (by rw[hkb];simp)]);clear hkb;go_wp2_with fail;refine (HK.out).mono ?_;rintro e w1 ⟨rfl,rfl⟩;go_wp2_with fail;go_roundg (gk-1)
    case measure=>omega
    case rel=>exact⟨k+1,by omega,by go_num,oh (by rw[HA.out];exact HS.out)⟩
   | true =>
    have HK:=oh (zOH x.1 wr true hkb);by_cases hv:x.2.size<=4096
    .have hvI:(x.2.size:Int)<=4096:=by omega
     have HA:Hid (zAM (l.take (k+1))=yM x.1 x.2 false (zAM (l.take k))):=oh (by rw[HX.out];unfold zF1;rw[if_pos ⟨hkb,hv⟩]);have HPL:Hid ((zAM (l.take k)).length<=900):=oh (by have:=(zGW (l.take k)).2.2;rw[uQ] at this;omega);have HWC:=oh (zMS (F:=NoF) (w:=wr.drew) (zAM (l.take k)) _ ((HS.out.1.ext (zss wr).drew).sl qX.len (by have:=HPL.out;omega)) (by have:=HPL.out;omega) x.1 x.2 false);clear hkb hv;go_wp2_with fail;refine (HK.out).mono ?_;rintro e w1 ⟨rfl,rfl⟩;go_wp2_with fail;go_region_held3 (λw'=>w'.cell? ⟨b,off+k * 2,none⟩=some (.string x.1)/\w'.cell? ⟨b,off+k * 2+1,none⟩=some (.string x.2))
      (first|(with_reducible exact⟨c0,c1⟩)|(with_reducible exact⟨y0,y1⟩)|go_keep)
      (first
       | (go_at_call 81;(with_reducible refine (HWC.out).mono ?_);rintro e w4 ⟨v4,rfl,hO4,hm4⟩;have y0:=zD (w:=wr.drew) hm4 c0;have y1:=zD (w:=wr.drew) hm4 c1)
       | fail)
     have HS4:Hid (yA NoF w4 w.heap.size 105 2 vI v4 (zAM (l.take (k+1)))/\zG w w4):=oh ⟨by rw[HA.out];exact hO4.rebase HS.out.2.size,HS.out.2.drew.trans hm4⟩;clear hO4 hm4 c0 c1 y0 y1;go_wp2_with fail;go_roundg (gk-1)
     case measure=>omega
     case rel=>exact⟨k+1,by omega,by go_num,HS4⟩
    .have hvI:¬ (x.2.size:Int)<=4096:=by omega
     have HA:Hid (zAM (l.take (k+1))=zAM (l.take k)):=oh (by rw[HX.out];unfold zF1;rw[if_neg (λh=>hv h.2)]);clear hkb hv;go_wp2_with fail;refine (HK.out).mono ?_;rintro e w1 ⟨rfl,rfl⟩;go_wp2_with fail;go_roundg (gk-1)
     case measure=>omega
     case rel=>exact⟨k+1,by omega,by go_num,oh (by rw[HA.out];exact HS.out)⟩
  .have HT:Hid (l.take k=l):=oh (wB (by omega));go_wp2_with fail;go_ret;exact⟨_,rfl,by have:=HS.out.1;rw[HT.out] at this;exact this,HS.out.2⟩
def zRO(o:Option ByteArray)(w:World)(e:Ending)(w':World):Prop:=e=.returned (.tuple #[.string (o.getD e0),.bool o.isSome])/\w=w'
theorem zIX(l:List zE)(lv:Value)(hl:Sl F w 2 vI lv l)(hlen:l.length<=100000)(key:ByteArray) :
  Calls Tryz.prog 82 #[lv,.string key] w (zRO (yV key l) w):=by
 obtain⟨la,lc,rfl,h1,h2,h3,hll⟩:=hl;unfold maxLen at h2;have HLL:=oh hll;clear hll
 go_enter Tryz.func82, Tryz.ntmps82
 go_wp2_with fail;go_loopg [6] l.length (λm v6 wr=>wr=w/\∃(k:Nat),k+m=l.length/\v6=.int .i64 (k:Int)/\Hid (yV key (l.take k)=none))
 case atStart=>exact⟨rfl,0,by omega,rfl,oh rfl⟩
 case round =>
  obtain⟨rfl,k,hkm,rfl,HS⟩:=hrel;by_cases hlt:k<l.length
  .obtain⟨b,off,rfl,hb,hF,hc⟩:=Sl.at HLL.out (zA.refl F wr) (λ_ _ f=>f) k hlt;obtain⟨x,hx⟩:∃x,l[k]? = some x:=⟨_,uA hlt⟩;have hx':l[k]=x:=by rw[uA hlt] at hx;exact Option.some.inj hx
   rw[hx'] at hc;have c0:=hc 0 _ rfl;simp only[uO] at c0;have c1:=hc 1 _ rfl;have HX:=oh hx;clear hc hx hx';have i1:(0:Int)<=(k:Int):=by omega
   have i2:(k:Int)<(l.length:Int):=by omega
   by_cases hk:x.1=key
   .subst hk;have HR:Hid (yV x.1 l=some x.2):=oh (by
     have e:l=l.take k++x :: l.drop (k+1):=by rw[<- zDl HX.out,wC]
     rw[e,zAQ,HS.out,qE,if_pos rfl];rfl)
    go_wp2_with fail;go_ret2
    exact⟨by rw[HR.out];rfl,rfl⟩
   .have e3:(x.1.toList == key.toList)=false:=uS.2 (λe=>hk (toList_inj e));have HS2:Hid (yV key (l.take (k+1))=none):=oh (by rw[qD l k x HX.out,zAQ,HS.out,qE,if_neg hk];rfl);go_wp2_with fail;go_roundg (gk-1)
    case measure=>omega
    case rel=>exact⟨rfl,k+1,by omega,by go_num,HS2⟩
  .have HT:Hid (yV key l=none):=oh (by have:=HS.out;rwa [wB (by omega)] at this);go_wp2_with fail;go_ret2
   exact⟨by rw[HT.out];rfl,rfl⟩
end
end
section
open Go.RowKit
attribute [local go_sem ↓] Go.wp_at_zero Go.wp_at_succ
def zE3(l:List zE):List zE:=zFY 300 (zAM (l.take 30))
structure zGi(l:List zE):Prop where
 sorted:yK l
 ok:zDF l
 len:l.length<=30
 small:∀x∈l,x.2.size<=300
theorem zJ2(l:List zE):zGi (zE3 l):=by
 obtain⟨h1,h2,h3⟩:=zGW (l.take 30);obtain⟨k1,k2,k3,k4⟩:=zRu (n:=300) h1 h2;exact⟨k1,k2,by unfold zE3;rw[k3];rw[uQ] at h3;omega,k4⟩
section
variable {F:NP}{w w' wr w2:World}
theorem zIY(l:List zE)(lv:Value)(hl:Sl NoF w 2 vI lv l) :
  Calls Tryz.prog 12 #[lv] w λe w'=>∃v,e=.returned v/\yA NoF w' w.heap.size 105 2 vI v (zE3 l)/\zG w w':=by
 obtain⟨la,lc,rfl,h1,h2,h3,hll⟩:=hl;unfold maxLen at h2;obtain⟨q,hq⟩:∃q,q=min l.length 30:=⟨_,rfl⟩;have hmin:min (l.length:Int) 30=(q:Int):=by omega
 have i1:(0:Int)<=(q:Int):=by omega
 have i2:(q:Int)<=(lc:Int):=by omega
 have HSL:Hid (Sl NoF w 2 vI (.slice la q lc) (l.take 30)):=oh ⟨la,lc,by rw[uQ,hq,Nat.min_comm],by rw[uQ];omega,by unfold maxLen;omega,by rw[uQ];omega,by
  rcases hll with hll|⟨b,off,e,hb,hF,hc⟩
  .left;rw[hll];rfl
  .right
   refine⟨b,off,e,hb,hF,λi x hx j u hu=>hc i x ?_ j u hu⟩;rw[pU] at hx;split at hx
   .exact hx
   .cases hx⟩
 have HPR:=oh (λW (m:zG w W)=>zPo (w:=W) (l.take 30) (.slice la q lc) (HSL.out.ext m) (by rw[uQ];omega));clear hq hll
 go_enter Tryz.func12, Tryz.ntmps12
 go_wp2_with fail;refine (HPR.out _ (by first|exact zA.refl _ _|exact zr.alloc _|fail)).mono ?_;rintro e w1 ⟨v,rfl,hO,hm1⟩;obtain⟨p0,hp0⟩:∃p0,p0=zAM (l.take 30):=⟨_,rfl⟩;rw[<- hp0] at hO;have HP0:=oh hp0;obtain⟨va,vc,rfl,hv1,hv2⟩:=hO.form;unfold maxLen at hv2;have HP24:Hid (p0.length<=30):=oh (by have:=(zGW (l.take 30)).2.2;rw[<- hp0,uQ] at this;omega);have hp24:=HP24.out;have HS1:Hid (yA NoF w1 w.heap.size 105 2 vI (.slice va p0.length vc) (zFZ 300 0 p0)/\zG w w1) :=
  oh ⟨by rw[zPB];exact hO.rebase (by simp),by first|exact hm1|exact ((zss w).alloc _).trans hm1⟩
 clear hO hm1 hp0 hmin i1 i2;go_wp2_with fail;go_loopg [3] p0.length (λm v5 wr=>∃(k:Nat),k+m=p0.length/\v5=.int .i64 (k:Int)/\Hid (yA NoF wr w.heap.size 105 2 vI (.slice va p0.length vc) (zFZ 300 k p0)/\zG w wr))
 case atStart=>exact⟨0,by omega,rfl,HS1⟩
 case round =>
  obtain⟨k,hkm,rfl,HS⟩:=hrel;by_cases hlt:k<p0.length
  .obtain⟨g,c',hgs, -, -,hg3,hg4,hgf⟩:=HS.out.1.some (by intro e;have:=congrArg List.length e;rw[zLY,uF] at this;omega);injection hgs with hgs hgn hgc;subst hgs hgc;clear hgn;obtain⟨x,hx⟩:∃x,p0[k]? = some x:=⟨_,uA hlt⟩;have HX:=oh hx;obtain⟨xk,xv⟩:=x;have hsl:=HS.out.1.sl qX.len (by rw[zLY];omega);have c1:=hsl.cellsAt (zOC (n:=300) hx) 1 _ rfl;simp only[uV] at c1;obtain⟨z,hz⟩:∃z,z=min xv.size 300:=⟨_,rfl⟩;have hmin:min (xv.size:Int) 300=(z:Int):=by omega
   have hz1:(0:Int)<=(z:Int):=by omega
   have hz2:(z:Int)<=(xv.size:Int):=by omega
   have hzf:=hgf (k * 2+1);have hzd:wr.drew.frozen? ⟨g,k * 2+1,none⟩=false:=hzf;have HZ:Hid (zPA 300 xv=xv.extract 0 z):=oh (by unfold zPA;rw[hz]);have HS4:Hid (yA NoF (wr.drew.setCell ⟨g,k * 2+1,none⟩ (.string (xv.extract 0 z))) w.heap.size 105 2 vI (.slice (some ⟨g,0,none⟩) p0.length vc) (zFZ 300 (k+1) p0)/\zG w (wr.drew.setCell ⟨g,k * 2+1,none⟩ (.string (xv.extract 0 z)))):=oh (by
    obtain⟨k1,k4⟩:=HS.out;refine⟨?_,k4.drew.setCell (.inl (by show w.heap.size<=g;have:=k1.lt g rfl;omega)) _⟩;rw[<- zQj HX.out,HZ.out];exact (k1.ext (zss wr).drew).set qX.len (zOC (n:=300) HX.out) (j:=1) (by omega) rfl)
   have i1:(0:Int)<=(k:Int):=by omega
   have i2:(k:Int)<(p0.length:Int):=by omega
   clear hsl hx hz hgf;go_wp2_with fail;go_region_law (fail)
   all_goals
    go_wp2_with fail;go_roundg (gk-1)
    case measure=>omega
    case rel=>exact⟨k+1,by omega,by go_num,HS4⟩
  .have hk:k=p0.length:=by omega
   subst hk;have HCT:Hid (zFZ 300 p0.length p0=zE3 l):=oh (by rw[zQi,HP0.out];rfl);go_wp2_with fail;go_ret;exact⟨_,rfl,by rw[<- HCT.out];exact HS.out.1,HS.out.2⟩
end
end
section
open Go.RowKit
section
variable {G G':GA}{gen:Nat}{T:zEk}{lo:ByteArray}{hi:Option ByteArray}{l:List zE}{q:List Nat}{kk:List ByteArray}{cc:List Int}
theorem vY.parts(h:vY T lo hi kk cc l q):∃(parts:List (List zE × List Nat)),parts.length=cc.length/\l=(parts.map (·.1)).flatten/\q=(parts.map (·.2)).flatten /\
  ∀(i:Nat) (k:Int) (p:List zE × List Nat),cc[i]? = some k->parts[i]? = some p->∃c:Nat,k=(c:Int)/\T (zFP lo kk i) (zFQ hi kk i) c p.1 p.2:=by
 induction h with
 | @one lo hi c l q h =>
  refine⟨[(l,q)],rfl,by simp,by simp,λi k p hk hp=>?_⟩;match i,hk,hp with
  | 0,hk,hp =>
   simp at hk hp;subst hk hp;exact⟨c,rfl,h⟩
  | i+1,hk,_=>simp at hk
 | @cons lo hi s c keys kids l1 l2 q1 q2 h h2 h3 ih =>
  obtain⟨parts,e1,rfl,rfl,e4⟩:=ih;have hlen:=h3.len;refine⟨(l1,q1) :: parts,by simp[e1],by simp,by simp,λi k p hk hp=>?_⟩;match i,hk,hp with
  | 0,hk,hp =>
   simp at hk hp;subst hk hp;exact⟨c,rfl,h⟩
  | i+1,hk,hp =>
   simp only[rH] at hk hp;obtain⟨c',rfl,hT⟩:=e4 i k p hk hp;refine⟨c',rfl,?_⟩;have e5:zFP lo (s :: keys) (i+1)=zFP s keys i:=by
    unfold zFP;rw[if_neg (by omega),tN];by_cases h0:i=0
    .subst h0;simp
    .rw[if_neg h0];have hik:=(uB.1 hk).1;obtain⟨j,rfl⟩:∃j,i=j+1:=⟨i-1,by omega⟩;have:j<keys.length:=by omega
     simp[List.getD,this]
   have e6:zFQ hi (s :: keys) (i+1)=zFQ hi keys i:=by unfold zFQ;rw[rH]
   rw[e5,e6];exact hT
theorem zHN.tells{e:zR}{v:ByteArray}{ids:List Nat}(h:zHN G gen e v ids)(hs:256<=G.size)(hb:G.blocks<=256):zFO G.R2 e=some v:=by
 unfold zFO;rcases h with ⟨c1,c2,_⟩|⟨c1,c2⟩
 .rw[if_pos c1,c2]
 .rw[if_neg c1];obtain⟨_,w2,_,w4⟩:=c2.walk hs hb;unfold GA.R2;rw[if_pos w2,w4]
theorem jL.tells{es:List zR}(h:jL G gen es l q)(hs:256<=G.size)(hb:G.blocks<=256):∀(i:Nat) (e:zR) (x:zE),es[i]? = some e->l[i]? = some x->e.key=x.1/\zFO G.R2 e=some x.2:=by
 induction h with
 | nil=>intro i e x he;simp at he
 | @cons e x ids es l q h1 h2 _ ih =>
  intro i f y hf hy;match i,hf,hy with
  | 0,hf,hy =>
   simp at hf hy;subst hf hy;exact⟨h1,h2.tells hs hb⟩
  | i+1,hf,hy=>exact ih i f y (by simpa using hf) (by simpa using hy)
theorem TrD.tr(hs:256<=G.size)(hb:G.blocks<=256):∀(d:Nat) (lo:ByteArray) (hi:Option ByteArray) (id:Nat) (l:List zE) (q:List Nat),TrD G gen d lo hi id l q->Tr G.node G.R2 lo hi id d l
 | 0,_,_,_,_,_,h=>h.elim
 | d+1,lo,hi,id,l,q,h=>by
  obtain⟨n,q,hp,hr,rfl,h⟩:=h;have hn:=(zHV hp).2;rcases h with ⟨hl,rfl,hne,he,hbd⟩|⟨hl,hk⟩
  .exact .leaf hn hl hr he.len (he.tells hs hb) hbd
  .obtain⟨parts,e1,rfl,rfl,e4⟩:=hk.parts;refine .inner hn hl hr (by rw[wP];exact e1) (λi k p hkk hp=>?_) hk.keysIn;rw[pF,tX] at hp;obtain⟨pp,hpp,rfl⟩:=hp;obtain⟨c,rfl,hT⟩:=e4 i k pp hkk hpp;rw[uK];exact TrD.tr hs hb d _ _ _ _ _ hT
theorem TD.treeG{root d:Nat}{ps:List zE}{pgs:List Nat}(h:TD G gen root d ps pgs)(hs:256<=G.size)(hb:G.blocks<=256):zSR G root d ps:=by
 rcases h.tree with ⟨rfl,rfl,rfl,rfl⟩|⟨hd,hT⟩
 .exact .inl ⟨rfl,rfl,rfl⟩
 .have h7:=(h.few hb).2;obtain⟨r,hr⟩:=TrD.head _ _ _ _ _ _ hT;have h2:=h.lt root (by rw[hr];simp);exact .inr ⟨h2.1,by omega,by omega,TrD.tr hs hb _ _ _ _ _ _ hT⟩
end
structure GLe(G H:GA):Prop where
 blocks:H.blocks=G.blocks
 size:H.size=G.size
 cost:H.cost=G.cost
 look:H.look=G.look
 last:H.last=G.last
 view:∀id r,G.view id=some r->H.view id=some r
section
variable {P F:NP}{ad:Nat->Addr}{w:World}{c s:Nat}{G H:GA}{l:List Nat}
theorem vJ.tot(h:vJ F w P c s G l):∃H,GLe G H/\H.total/\vJ F w P c s H l:=by
 obtain⟨d,sb,bvs,Pd,b2,C,h1,h2,h3,h4,h5,h6,h7⟩:=h;exact⟨{ G with view:=λid=>some (C.vw id) },⟨rfl,rfl,rfl,rfl,rfl,λid r hr=>congrArg some (h3.view id r hr)⟩,λi _=>⟨_,rfl⟩,d,sb,bvs,Pd,b2,C,h1,h2,⟨h3.blocks,h3.size,λid r hr=>Option.some.inj hr,h3.look,h3.last,h3.cost⟩,h4,h5,h6,h7⟩
theorem vJ.le(hl:GLe G H)(h:vJ F w P c s H l):vJ F w P c s G l:=by
 obtain⟨d,sb,bvs,Pd,b2,C,h1,h2,h3,h4,h5,h6,h7⟩:=h;exact⟨d,sb,bvs,Pd,b2,C,h1,h2,⟨h3.blocks.trans hl.blocks,h3.size.trans hl.size,λid r hr=>h3.view id r (hl.view id r hr),λid b hb=>h3.look id b (by rw[hl.look];exact hb),λid b hb=>h3.last id b (by rw[hl.last];exact hb),by rw[<- hl.cost];exact h3.cost⟩,by rw[<- hl.cost];exact h4,h5,h6,h7⟩
end
section
variable {G H:GA}{gen:Nat}
theorem zHN.known{e:zR}{v:ByteArray}{ids:List Nat}(h:zHN G gen e v ids):∀i∈ids,∃r,G.view i=some r:=by
 intro i hi;rcases h with ⟨_,_,rfl⟩|⟨_,h⟩
 .simp at hi
 .obtain⟨g,_,hp⟩:=h.page;obtain⟨k,hk,rfl⟩:=wI hi;have:=hp k hk;rw[show ids.getD k 0=ids[k] by simp[List.getD,hk]] at this;exact⟨_,this⟩
theorem jL.known{es:List zR}{ps:List zE}{q:List Nat}(h:jL G gen es ps q):∀i∈q,∃r,G.view i=some r:=by
 induction h with
 | nil=>intro i hi;simp at hi
 | cons _ h2 _ ih=>intro i hi;exact (uN.1 hi).elim (h2.known i) (ih i)
theorem vY.known{T:zEk}{lo:ByteArray}{hi:Option ByteArray}{kk:List ByteArray}{cc:List Int}{ps:List zE}{q:List Nat}(hT:∀lo hi c ps q,T lo hi c ps q->∀i∈q,∃r,G.view i=some r)(h:vY T lo hi kk cc ps q):∀i∈q,∃r,G.view i=some r:=by
 induction h with
 | one h=>exact hT _ _ _ _ _ h
 | cons h1 _ _ ih=>intro i hi;exact (uN.1 hi).elim (hT _ _ _ _ _ h1 i) (ih i)
theorem TrD.known:∀(d:Nat) (lo:ByteArray) (hi:Option ByteArray) (id:Nat) (ps:List zE) (q:List Nat),TrD G gen d lo hi id ps q->∀i∈q,∃r,G.view i=some r
 | 0,_,_,_,_,_,h=>h.elim
 | d+1,lo,hi,id,ps,pgs,h=>by
  obtain⟨n,q,h1,_,rfl,h3⟩:=h;intro i hi;rcases uP.1 hi with rfl|hi
  .obtain⟨p,hp,_⟩:=h1.page;exact⟨_,hp⟩
  .rcases h3 with ⟨_,_,_,h4,_⟩|⟨_,h4⟩
   .exact h4.known i hi
   .exact h4.known (TrD.known d) i hi
theorem TD.known{root d:Nat}{ps:List zE}{pgs:List Nat}(h:TD G gen root d ps pgs):∀i∈pgs,∃r,G.view i=some r:=by
 rcases h.tree with ⟨_,_,_,rfl⟩|⟨_,h⟩
 .intro i hi;simp at hi
 .exact TrD.known _ _ _ _ _ _ h
theorem TD.up{root d:Nat}{ps:List zE}{pgs:List Nat}(h:TD G gen root d ps pgs)(hl:GLe G H):TD H gen root d ps pgs :=
 h.mono (uJ _) hl.blocks hl.size (λi hi=>by obtain⟨r,hr⟩:=h.known i hi;rw[hl.view i r hr,hr])
end
section
variable {G G':GA}{gen:Nat}
theorem vY.each{T:zEk}{lo:ByteArray}{hi:Option ByteArray}{kk:List ByteArray}{cc:List Int}{ps:List zE}{q:List Nat}(h:vY T lo hi kk cc ps q):∀c∈cc,∃(k:Nat) (lo':ByteArray) (hi':Option ByteArray) (l':List zE) (q':List Nat),c=(k:Int)/\T lo' hi' k l' q'/\∀x∈q',x∈q:=by
 induction h with
 | @one lo hi c l q h =>
  intro c' hc;simp only[tD] at hc;exact⟨c,_,_,_,_,hc,h,λ_ hx=>hx⟩
 | @cons lo hi s c keys kids l1 l2 q1 q2 h1 _ _ ih =>
  intro c' hc;rcases uP.1 hc with rfl|hc
  .exact⟨c,_,_,_,_,rfl,h1,λ_ hx=>wR _ hx⟩
  .obtain⟨k,lo',hi',l',q',e,t,hs⟩:=ih c' hc;exact⟨k,lo',hi',l',q',e,t,λx hx=>wQ _ (hs x hx)⟩
theorem zRP{id:Nat}{n:zJ}(h:PgN G gen id n):G.node id=some n:=(zHV h).2
end
theorem yA.lit{α:Type}{W:World}{g base:Nat}{e:TypeId}(sz:Nat)(enc:α->List Value)(henc:∀x,(enc x).length=sz)(h:zK W g #[] e)(hg:base<=g):yA (λ_=>False) W base e sz enc (.slice (Option.some ⟨g,0,none⟩) 0 0) ([]:List α) :=
 yA.made (l:=([]:List α)) (cur:=#[]) (cap:=0) h hg (λf=>f) (uJ _) (by simp[maxLen]) (by simp) (by simp) henc
end
section
open Go.RowKit
attribute [local go_sem ↓] Go.wp_at_zero Go.wp_at_succ
section
variable {F:NP}{ad:Nat->Addr}{w w':World}{v:Value}
def zSB(w:World)(v:Value):Prop:=v=.pointer none\/∃S,v=.pointer (some ⟨S,0,none⟩)/\w.cell? ⟨S,12,none⟩=some (.bool true)
theorem zSC(hL:yE F ad w)(h:zSB w v)(op:ByteArray) : Calls Tryz.prog 76 #[v,.string op] w λe w'=>∃f,e=.returned (zI f)/\yN F ad w' (zI f) [-1] 7/\zG w w':=by
 have g7:=hL.c7;have HL:=oh hL;clear hL;rcases h with rfl|⟨S,rfl,c12⟩
 all_goals
  go_enter Tryz.func76, Tryz.ntmps76
  go_wp2_with fail;refine (yR HL.out _ _ [] 7 (.sent 7 (by decide) (by decide))).mono ?_;rintro e w1 ⟨f,rfl,hE,hm⟩;have HE:=oh hE;have HM:=oh hm;clear hE hm;go_wp2_with fail;go_ret;exact⟨f,rfl,HE.out,HM.out⟩
theorem zOY(hL:yE F ad w)(h:zSB w v)(a b:ByteArray)(n:Int) : Calls Tryz.prog 19 #[v,.string a,.string b,.int .i64 n] w λe w'=>∃f,e=.returned (.tuple #[.slice none 0 0,zI f])/\yN F ad w' (zI f) [-1] 7/\zG w w':=by
 have HA:=oh (λop=>zSC hL h op);clear hL h
 go_enter Tryz.func19, Tryz.ntmps19
 go_wp2_with fail;refine (HA.out _).mono ?_;rintro e w1 ⟨f,rfl,hE,hm⟩;have HE:=oh hE;have HM:=oh hm;clear hE hm;unfold zI;go_wp2_with fail;go_ret2
 exact⟨f,rfl,HE.out,HM.out⟩
theorem zSD(hL:yE F ad w)(h:zSB w v) : Calls Tryz.prog 14 #[v] w λe w'=>∃f el,e=.returned (.tuple #[.slice none 0 0,zI f])/\yN F ad w' (zI f) el 7/\zG w w':=by
 have HA:=oh (zOY hL h ⟨#[]⟩ ⟨#[]⟩ 65535);have HL:=oh hL;clear hL h
 go_enter Tryz.func14, Tryz.ntmps14
 go_wp2_with fail;refine HA.out.mono ?_;rintro e w1 ⟨f,rfl,hE,hm⟩;have HE:=oh hE;have HM:=oh hm;clear hE hm;unfold zI;go_wp2_with fail;refine (wrap_any (HL.out.mods HM.out.ext) _ _ _ _ HE.out).mono ?_;rintro e w2 ⟨f2,rfl,hE2,hm2⟩;have HF:Hid (yN F ad w2 (zI f2) _ 7/\zG w w2):=oh ⟨hE2,HM.out.trans hm2⟩;clear hE2 hm2;go_wp2_with fail;go_ret2
 exact⟨f2,_,rfl,HF.out.1,HF.out.2⟩
theorem zRQ(hL:yE F ad w)(h:zSB w v)(bv:Value) : Calls Tryz.prog 20 #[v,bv] w λe w'=>∃f el,e=.returned (.tuple #[.slice none 0 0,zI f])/\yN F ad w' (zI f) el 7/\zG w w':=by
 have HA:=oh (zOY hL h ⟨#[]⟩ ⟨#[]⟩ 65535);have HL:=oh hL;clear hL h
 go_enter Tryz.func20, Tryz.ntmps20
 go_wp2_with fail;refine HA.out.mono ?_;rintro e w1 ⟨f,rfl,hE,hm⟩;have HE:=oh hE;have HM:=oh hm;clear hE hm;unfold zI;go_wp2_with fail;refine (wrap_any (HL.out.mods HM.out.ext) _ _ _ _ HE.out).mono ?_;rintro e w2 ⟨f2,rfl,hE2,hm2⟩;have HF:Hid (yN F ad w2 (zI f2) _ 7/\zG w w2):=oh ⟨hE2,HM.out.trans hm2⟩;clear hE2 hm2;go_wp2_with fail;go_ret2
 exact⟨f2,_,rfl,HF.out.1,HF.out.2⟩
end
theorem zRR(a b:List zE)(k:ByteArray):(zA2 a b k).length<=1:=by
 unfold zA2 zMo;split <;> simp
theorem zNj{α β:Type}(f:α->List β){l:List α}{k:Nat}(h:k<l.length):(l.take (k+1)).flatMap f=(l.take k).flatMap f++f l[k]:=by
 rw[qD _ _ _ (uA h),tB];simp
theorem zJ3{α β:Type}(f:α->List β)(hf:∀x,(f x).length<=1):∀(l:List α),(l.flatMap f).length<=l.length
 | []=>by simp
 | x :: l=>by rw[uZ,uC,uD];have:=hf x;have:=zJ3 f hf l;omega
theorem zNk(a:List zE){b:List zE}{k:Nat}(h:k<b.length):zBk a (b.take (k+1))=yM b[k].1 emS true (zBk a (b.take k)):=by
 unfold zBk;rw[qD _ _ _ (uA h),pZ];rfl
theorem zGj:∀(b a:List zE),(zBk a b).length<=a.length+b.length
 | [],a=>by simp[zBk]
 | y :: b,a=>by
  have h1:=zGj b (yM y.1 emS true a);have h2:=zGV y.1 emS true a;rw[show zBk a (y :: b)=zBk (yM y.1 emS true a) b from rfl,uD];omega
theorem zPp{F Q:NP}{w:World}(a b:List zE)(av bv:Value)(ha:Sl F w 2 vI av a)(hb:Sl Q w 2 vI bv b)(hla:a.length<=100)(hlb:b.length<=100) :
  Calls Tryz.prog 25 #[av,bv] w λe w'=>∃kv,e=.returned kv/\yA (λ_=>False) w' w.heap.size 56 5 zDA kv (zKG a b)/\zG w w':=by
 have HA:=oh ha;have HB:=oh hb;obtain⟨aa,ac,rfl,a1,a2,a3, -⟩:=ha;obtain⟨ba,bc,rfl,b1,b2,b3, -⟩:=hb;unfold maxLen at a2 b2;have HO0:Hid (yA (λ_=>False) (w.alloc (.cells #[] 105)) w.heap.size 105 2 vI (.slice (some ⟨w.heap.size,0,none⟩) 0 0) ([]:List zE)):=oh (yA.empty (λk f=>f.elim) _ _ _ qX.len);have HM0:Hid (zG w (w.alloc (.cells #[] 105))):=oh ((zss w).alloc _)
 go_enter Tryz.func25, Tryz.ntmps25
 go_wp2_with (at_builtin;(refine yC Tryz.elP qX rfl _ _ rfl w.heap.size _ (.slice aa a.length ac) [] a rfl rfl HO0.out (HA.out.ext HM0.out) (by simp only[uF];omega) HM0.out.size (λf=>f) ?_;rw[wN,uF,uV];intro a' c' w4 hown4 hmod4 hat4;have HO4:=oh hown4;have HM4:Hid (zG w w4):=oh (zA.past HM0.out (hmod4.mono (λk hk=>(HO0.out.lt k hk).1)));clear hown4 hmod4 hat4));go_loopg [5,6] b.length (λm v5 v6 wr=>∃(k:Nat) (kv:Value),k+m=b.length/\kv=v5/\v6=.int .i64 (k:Int)/\Hid (yA (λ_=>False) wr w.heap.size 105 2 vI kv (zBk a (b.take k))/\zG w wr))
 case atStart=>exact⟨0,_,by omega,rfl,rfl,oh ⟨HO4.out,HM4.out⟩⟩
 case round =>
  obtain⟨k,v5,hk,rfl,rfl,HR⟩:=hrel;by_cases hlt:k<b.length
  .obtain⟨x,hx⟩:∃x,x=b[k]:=⟨_,rfl⟩;have HKL:Hid ((zBk a (b.take k)).length<=200):=oh (by have:=zGj (b.take k) a;rw[uQ] at this;omega);obtain⟨qb,qoff,hqa,hc⟩:=HB.out.elem hlt HR.out.2;have d0:=hc 0 (.string x.1) (by rw[hx];rfl);simp only[uO] at d0;have HX:Hid (zBk a (b.take (k+1))=yM x.1 ⟨#[]⟩ true (zBk a (b.take k))):=oh (by rw[zNk a hlt,hx];rfl);have HWT:=oh (zMS (zBk a (b.take k)) v5 (HR.out.1.sl qX.len (by have:=HKL.out;omega)) (by have:=HKL.out;omega) x.1 ⟨#[]⟩ true);have i1:(0:Int)<=(k:Int):=by omega
   have i2:(k:Int)<(b.length:Int):=by omega
   have HLT:=oh hlt;subst hqa;clear hc hx hlt;go_wp2_with fail;refine HWT.out.mono ?_;rintro e w5 ⟨v,rfl,hO5,hm5⟩;have HO5:=oh (hO5.rebase (HR.out.2.size));have HM5:=oh (HR.out.2.trans hm5);clear hO5 hm5;go_wp2_with fail;go_roundg (gk-1)
   case measure=>have:=HLT.out;omega
   case rel=>exact⟨k+1,_,by have:=HLT.out;omega,rfl,by go_num,oh ⟨by rw[HX.out];exact HO5.out,HM5.out⟩⟩
  .have hkq:k=b.length:=by omega
   obtain⟨K,hK⟩:∃K,K=zBk a b:=⟨_,rfl⟩;have HKK:=oh hK;have HKO:Hid (yA (λ_=>False) wr w.heap.size 105 2 vI v5 K):=oh (by have:=HR.out.1;rw[hkq,wU,<- hK] at this;exact this);have hKL:K.length<=200:=by have:=zGj b a;rw[hK];omega
   obtain⟨ka,kc,hkv,k1,k2⟩:=_root_.id HKO.out.form;unfold maxLen at k2;have HKS:=oh (HKO.out.sl qX.len (by omega));have HMR:=oh HR.out.2;have HSZ:=oh HR.out.2.size;have HO1:Hid (yA (λ_=>False) (wr.alloc (.cells #[] 56)) wr.heap.size 56 5 zDA (.slice (some ⟨wr.heap.size,0,none⟩) 0 0) ([]:List ChV)):=oh (yA.empty (λk f=>f.elim) _ _ _ zB2.len);have HM1:Hid (zG wr (wr.alloc (.cells #[] 56))):=oh ((zss wr).alloc _);obtain⟨wo,rfl⟩:∃wo:World,wo=wr:=⟨_,rfl⟩;subst hkv;have HLB:=oh hlb;clear hkq hK hk HR hlb;go_wp2_with fail;go_loopg [7,8] K.length (λm v7 v8 wr=>∃(k:Nat) (kv:Value),k+m=K.length/\kv=v7/\v8=.int .i64 (k:Int)/\Hid (yA (λ_=>False) wr wo.heap.size 56 5 zDA kv ((K.take k).flatMap (λx=>zA2 a b x.1))/\zG wo wr))
   case atStart=>exact⟨0,_,by omega,rfl,rfl,oh ⟨HO1.out,HM1.out⟩⟩
   case round =>
    obtain⟨k,v7,hk,rfl,rfl,HR⟩:=hrel;by_cases hlt:k<K.length
    .obtain⟨x,hx⟩:∃x,x=K[k]:=⟨_,rfl⟩;obtain⟨D,hD⟩:∃D,D=(K.take k).flatMap (λx=>zA2 a b x.1):=⟨_,rfl⟩;have hDL:D.length<=k:=by have:=zJ3 (λx:zE=>zA2 a b x.1) (λx=>zRR a b x.1) (K.take k);rw[<- hD,uQ] at this;omega
     obtain⟨qb,qoff,hqa,hc⟩:=HKS.out.elem hlt HR.out.2;have d0:=hc 0 (.string x.1) (by rw[hx];rfl);simp only[uO] at d0;have HX:Hid ((K.take (k+1)).flatMap (λx=>zA2 a b x.1)=D++zA2 a b x.1):=oh (by rw[zNj _ hlt,hD,hx]);have HRO:Hid (yA (λ_=>False) wr wo.heap.size 56 5 zDA v7 D):=oh (by rw[hD];exact HR.out.1);obtain⟨pa,pc,hpv, -, -⟩:=_root_.id HRO.out.form;have HFA:=oh (zIX a _ (HA.out.ext (HMR.out.trans HR.out.2)) (by omega) x.1);have HFB:=oh (zIX b _ (HB.out.ext (HMR.out.trans HR.out.2)) (by have:=HLB.out;omega) x.1);obtain⟨bo,hbo⟩:∃bo,bo=(yV x.1 a).isSome:=⟨_,rfl⟩;obtain⟨bn,hbn⟩:∃bn,bn=(yV x.1 b).isSome:=⟨_,rfl⟩;obtain⟨so,hso⟩:∃so,so=(yV x.1 a).getD e0:=⟨_,rfl⟩;obtain⟨sn,hsn⟩:∃sn,sn=(yV x.1 b).getD e0:=⟨_,rfl⟩;have HDO:Hid (zA2 a b x.1=if bo=bn/\so=sn then [] else [⟨x.1,bo,bn,so,sn⟩]):=oh (by rw[hbo,hbn,hso,hsn];rfl);unfold zRO at HFA HFB;rw[<- hbo,<- hso] at HFA;rw[<- hbn,<- hsn] at HFB;have i1:(0:Int)<=(k:Int):=by omega
     have i2:(k:Int)<(K.length:Int):=by omega
     have HLT:=oh hlt;have HDL:=oh hDL;have HRX:=oh HR.out.2;have HSR:=oh HR.out.2.size;subst hqa hpv;clear hc hx hlt hD hDL hbo hbn hso hsn HR;by_cases hd:bo=bn/\so=sn
     .obtain⟨rfl,rfl⟩:=hd;have HDE:Hid (zA2 a b x.1=[]):=oh (by rw[HDO.out,if_pos ⟨rfl,rfl⟩]);go_wp2_with fail;refine HFA.out.mono ?_;rintro e w5 ⟨rfl,rfl⟩;go_wp2_with fail;refine HFB.out.mono ?_;rintro e w5 ⟨rfl,rfl⟩;go_wp2_with fail;go_roundg (gk-1)
      case measure=>have:=HLT.out;omega
      case rel=>exact⟨k+1,_,by have:=HLT.out;omega,rfl,by go_num,oh ⟨by rw[HX.out,HDE.out,wJ];exact HRO.out,HRX.out⟩⟩
     .have HDE:Hid (zA2 a b x.1=[⟨x.1,bo,bn,so,sn⟩]):=oh (by rw[HDO.out,if_neg hd]);have hway:((bo == bn)=false)\/((bo == bn)=true/\(so.toList == sn.toList)=false):=by
       by_cases hb:bo=bn
       .exact .inr ⟨rC.2 hb,uS.2 (λe=>hd ⟨hb,toList_inj e⟩)⟩
       .exact .inl (uS.2 hb)
      have HOW:=oh (HRO.out.ext ((zss wr).alloc (.cells #[.string x.1,.bool bo,.bool bn,.string so,.string sn] 56)));have HAL:Hid (zG wo (wr.alloc (.cells #[.string x.1,.bool bo,.bool bn,.string so,.string sn] 56))):=oh (HRX.out.alloc _);clear hd;rcases hway with e1|⟨e1,e2⟩
      all_goals
       go_wp2_with fail;refine HFA.out.mono ?_;rintro e w5 ⟨rfl,rfl⟩;go_wp2_with fail;refine HFB.out.mono ?_;rintro e w5 ⟨rfl,rfl⟩;go_wp2_with (at_builtin;(refine yC Tryz.elDh zB2 rfl _ _ rfl wo.heap.size (.slice pa D.length pc) (.slice (some ⟨wr.heap.size,0,none⟩) 1 1) D [⟨x.1,bo,bn,so,sn⟩] rfl rfl HOW.out (Sl.one (F:=λ_=>False) (x:=(⟨x.1,bo,bn,so,sn⟩:ChV)) (t := 56) (fz:=(0,0)) (zM rfl) (λf=>f)) (by have:=HDL.out;have:=HLT.out;simp only[uD,uF];omega) (uT HSR.out (by simp)) (λf=>f) ?_;simp only[uD,uF,uV];intro a6 c6 w6 hO6 hm6 hat6;have HO6:=oh hO6;have HM6:=oh (HAL.out.trans' hm6 (λi hi hg=>by have:=(HRO.out.lt i hg).1;omega));clear hO6 hm6 hat6));go_roundg (gk-1)
       case measure=>have:=HLT.out;omega
       case rel=>exact⟨k+1,_,by have:=HLT.out;omega,rfl,by go_num,oh ⟨by rw[HX.out,HDE.out];exact HO6.out,HM6.out⟩⟩
    .have hkq:k=K.length:=by omega
     have HF:Hid (yA (λ_=>False) wr w.heap.size 56 5 zDA v7 (zKG a b)):=oh (by have:=HR.out.1;rw[hkq,wU,HKK.out] at this;exact this.rebase HSZ.out);have HM:=oh (HMR.out.trans HR.out.2);clear hkq HR;go_wp2_with fail;go_ret;exact⟨_,rfl,HF.out,HM.out⟩
end
end Go.Proofs.YtgphfebjjedeaaaGreatDoor
