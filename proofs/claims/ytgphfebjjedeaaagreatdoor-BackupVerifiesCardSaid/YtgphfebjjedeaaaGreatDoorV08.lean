import Derived.Test.YtgphfebjjedeaaaGreatDoorV07
namespace Go.Proofs.YtgphfebjjedeaaaGreatDoor
open Lib renaming hid->oh
section
open Go.RowKit
section
variable {P:Program}{fn:Func}{p q u v:Tmp}{ty tq:TypeId}
theorem zTU{w:World}{g:Nat}{t ty:TypeId}{cs:Array Value}{d:TypeDesc}(hg:zK w g cs t)(hu:P.underlying ty=some d)(hd:(match d with | .struct _ | .array _ _=>true|_=>false)=true)(hi:(P.info? ty).map (·.size)=some cs.size) :
  ((asAddr (.pointer (some ⟨g,0,none⟩))).run P w).andThen (λa w₁=>(loadVar ty a).run P w₁)=.ok (.agg cs) w:=by
 have hg':w.heap[g]? = some (.cells cs t (0,0)):=hg;simp[asAddr,run_loadVar_row w g t ty cs (0,0) d hg' hu hd hi]
theorem zCi(h:fn.results=#[.cell p ty,.tmp u,.cell q tq])(tmps:Array Value)(w:World)(g g2:Nat)(t t2:TypeId)(cs cs2:Array Value)(d:TypeDesc)
  (hp:tmps.getD p undef=.pointer (some ⟨g,0,none⟩)) (hg:zK w g cs t) (hq:tmps.getD q undef=.pointer (some ⟨g2,0,none⟩)) (hg2:zK w g2 cs2 t2) (e:tq=ty)
  (hu:P.underlying ty=some d) (hd:(match d with | .struct _ | .array _ _=>true|_=>false)=true) (hi:(P.info? ty).map (·.size)=some cs.size) (hi2:cs2.size=cs.size) :
  (results fn tmps).run P w=.ok (.tuple #[.agg cs,tmps.getD u undef,.agg cs2]) w:=by
 subst e;have hg':w.heap[g]? = some (.cells cs t (0,0)):=hg;have hg2':w.heap[g2]? = some (.cells cs2 t2 (0,0)):=hg2;have e1:=run_loadVar_row w g t tq cs (0,0) d hg' hu hd hi;have e2:=run_loadVar_row w g2 t2 tq cs2 (0,0) d hg2' hu hd (by rw[hi2];exact hi);have e:(results fn tmps).run P w=((asAddr (tmps.getD p undef)).run P w).andThen λa w₁=>((loadVar tq a).run P w₁).andThen λx w₂=>((asAddr (tmps.getD q undef)).run P w₂).andThen λb w₃=>((loadVar tq b).run P w₃).andThen λy w₄=>.ok (.tuple #[x,tmps.getD u undef,y]) w₄:=by
  simp only[results,h];simp[Sem.run_bind,Result.andThen]
 rw[e,hp,hq];simp[asAddr,e1,e2]
theorem zAi(h:fn.results=#[.cell p ty,.tmp u,.cell q tq,.tmp v])(tmps:Array Value)(w:World)(g g2:Nat)(t t2:TypeId)(cs cs2:Array Value)(d:TypeDesc)
  (hp:tmps.getD p undef=.pointer (some ⟨g,0,none⟩)) (hg:zK w g cs t) (hq:tmps.getD q undef=.pointer (some ⟨g2,0,none⟩)) (hg2:zK w g2 cs2 t2) (e:tq=ty)
  (hu:P.underlying ty=some d) (hd:(match d with | .struct _ | .array _ _=>true|_=>false)=true) (hi:(P.info? ty).map (·.size)=some cs.size) (hi2:cs2.size=cs.size) :
  (results fn tmps).run P w=.ok (.tuple #[.agg cs,tmps.getD u undef,.agg cs2,tmps.getD v undef]) w:=by
 subst e;have hg':w.heap[g]? = some (.cells cs t (0,0)):=hg;have hg2':w.heap[g2]? = some (.cells cs2 t2 (0,0)):=hg2;have e1:=run_loadVar_row w g t tq cs (0,0) d hg' hu hd hi;have e2:=run_loadVar_row w g2 t2 tq cs2 (0,0) d hg2' hu hd (by rw[hi2];exact hi);have e:(results fn tmps).run P w=((asAddr (tmps.getD p undef)).run P w).andThen λa w₁=>((loadVar tq a).run P w₁).andThen λx w₂=>((asAddr (tmps.getD q undef)).run P w₂).andThen λb w₃=>((loadVar tq b).run P w₃).andThen λy w₄=>.ok (.tuple #[x,tmps.getD u undef,y,tmps.getD v undef]) w₄:=by
  simp only[results,h];simp[Sem.run_bind,Result.andThen]
 rw[e,hp,hq];simp[asAddr,e1,e2]
end
theorem zK.set5{w:World}{R:Nat}{t:TypeId}{a0 a1 a2 a3 a4:Value}(h:zK w R #[a0,a1,a2,a3,a4] t)(v0 v1 v2 v3 v4:Value) :
  zK (((((w.setCell ⟨R,0,none⟩ v0).setCell ⟨R,1,none⟩ v1).setCell ⟨R,2,none⟩ v2).setCell ⟨R,3,none⟩ v3).setCell ⟨R,4,none⟩ v4) R #[v0,v1,v2,v3,v4] t:=by
 simpa using ((((h.set 0 v0).set 1 v1).set 2 v2).set 3 v3).set 4 v4
theorem zA.set5{F:NP}{w w':World}(m:zA F w w'){R:Nat}(hR:w.heap.size<=R\/F R)(v0 v1 v2 v3 v4:Value) :
  zA F w (((((w'.setCell ⟨R,0,none⟩ v0).setCell ⟨R,1,none⟩ v1).setCell ⟨R,2,none⟩ v2).setCell ⟨R,3,none⟩ v3).setCell ⟨R,4,none⟩ v4) :=
 (m.set4 hR v0 v1 v2 v3).setCell (p:=⟨R,4,none⟩) hR _
def zEO(l:List Nat)(id:Int):List Nat × Option Err :=
 match vL l id with
 | some e=>(l,some e)
 | none=>if l[id.toNat]? = some 0 then (l.set id.toNat 1,none) else (l,some ([zBq id],1))
theorem zQO{F:NP}{ad:Nat->Addr}{w:World}(hL:yE F ad w)(b b2:Nat)(l:List Nat)(h:SpR w b b2 l)(id:Int) :
  Calls Tryz.prog 93 #[.pointer (some ⟨b,0,none⟩),.int .i64 id] w λe w' =>
   ∃ev,e=.returned ev/\zCa F ad w' ev (zEO l id).2/\SpR w' b b2 (zEO l id).1/\zA (spF b b2) w w':=by
 have HS:=oh h;have HL:=oh hL;have hl:=h.len;have hl2:=h.len2;clear h hL;cases hc:vL l id with
 | some er =>
  have HR:Hid (zEO l id=(l,some er)):=oh (by unfold zEO;rw[hc])
  go_enter Tryz.func93, Tryz.ntmps93
  go_wp2_with fail;refine (zDD HL.out b b2 l HS.out _ id).mono ?_;rintro e w1 ⟨ev,rfl,hE,hm⟩;rw[hc] at hE;obtain⟨el,ek⟩:=er;obtain⟨f,rfl,hE⟩:=hE;have HE:=oh hE;clear hE hc;go_wp2
  go_ret;exact⟨_,rfl,by rw[HR.out];exact⟨f,rfl,HE.out⟩,by rw[HR.out];exact HS.out.mods hm (λf=>f) (λf=>f),hm.ext⟩
 | none =>
  have hid:2<=id/\id<(l.length:Int):=by
   unfold vL at hc;split at hc
   .cases hc
   .omega
  obtain⟨i,rfl⟩:∃i:Nat,id=i:=⟨id.toNat,by omega⟩;have hlt:i<l.length:=by omega
  obtain⟨x,hx⟩:∃x,l[i]? = some x:=⟨_,uA hlt⟩;have HG:Hid (zEO l i=if x=0 then (l.set i 1,none) else (l,some ([zBq i],1))):=oh (by
   unfold zEO;rw[hc];simp only[uK,hx,Option.some.injEq])
  go_enter Tryz.func93, Tryz.ntmps93
  go_wp2_with fail;refine (zDD HL.out b b2 l HS.out _ i).mono ?_;rintro e w1 ⟨ev,rfl,hE,hm⟩;rw[hc] at hE;cases hE
  have HS1:=oh (HS.out.mods hm (λf=>f) (λf=>f));have HL1:=oh (HL.out.mods hm.ext);have c0:=HS1.out.own.d 0 (.slice (some ⟨b2,0,none⟩) l.length l.length) rfl;have c1:=HS1.out.row.cell (zDn l i x hx);have hfr:=HS1.out.row.frozen i;have g1:=HL1.out.c1;clear hx hc;by_cases hx2:x=0
  .subst hx2;rw[if_pos rfl] at HG;go_wp2
   go_ret;exact⟨_,rfl,by rw[HG.out];rfl,by rw[HG.out];exact HS1.out.set i 1,hm.ext.trans (zA.at _ _ b2 i _ (.inr rfl))⟩
  .rw[if_neg hx2] at HG;go_wp2_with fail;refine (jY HL1.out _ _ _ _ 1 (.sent 1 (by decide) (by decide))).mono ?_;rintro e w2 ⟨f,rfl,hE,hm2⟩;have HE:=oh hE;clear hE;go_wp2
   go_ret;exact⟨_,by rfl,by rw[HG.out];exact⟨f,rfl,HE.out⟩,by rw[HG.out];exact HS1.out.mods hm2 (λf=>f) (λf=>f),(hm.trans hm2).ext⟩
def zW(n:zJ)(a:Nat):zJ × ByteArray × zJ :=
 if n.leaf=true then (⟨true,n.entries.take a,[],[]⟩,(match n.entries[a]? with|some e=>e.key|none=>⟨#[]⟩),⟨true,n.entries.drop a,[],[]⟩)
 else (⟨false,[],n.keys.take (a-1),n.kids.take a⟩,n.keys.getD (a-1) ⟨#[]⟩,⟨false,[],n.keys.drop a,n.kids.drop a⟩)
def zHR(n:zJ):Nat:=(yB n).length
def zAw(n:zJ)(a:Nat):Nat:=((zHR (zW n a).1:Int)-(zHR (zW n a).2.2:Int)).natAbs
def vF(d:Nat->Nat):Nat->Nat->Nat->Nat
 | b,_,0=>b
 | b,a,m+1=>vF d (if d a<d b then a else b) (a+1) m
def vG(n:zJ):Nat:=if n.leaf=true then 1 else 2
def jI(n:zJ):Nat:=if n.leaf=true then n.entries.length-1 else n.kids.length-3
def zFR(n:zJ):Option (zJ × ByteArray × zJ) :=
 if zQ n=true/\0<jI n then some (zW n (vF (zAw n) (vG n) (vG n) (jI n))) else none
theorem zIp(d:Nat->Nat)(b m:Nat):vF d b b (m+1)=vF d b (b+1) m:=by
 rw[vF,if_neg (pD _)]
theorem zEP(d:Nat->Nat):∀(m b a lo hi:Nat),lo<=b->b<hi->lo<=a->a+m<=hi->lo<=vF d b a m/\vF d b a m<hi
 | 0,_,_,_,_,h1,h2,_,_=>⟨h1,h2⟩
 | m+1,b,a,lo,hi,h1,h2,h3,h4=>by
  rw[vF];split
  .exact zEP d m a (a+1) lo hi h3 (by omega) (by omega) (by omega)
  .exact zEP d m b (a+1) lo hi h1 h2 (by omega) (by omega)
theorem zOp(n:zJ)(h:0<jI n):vG n<=vF (zAw n) (vG n) (vG n) (jI n)/\vF (zAw n) (vG n) (vG n) (jI n)<vG n+jI n :=
 zEP _ _ _ _ _ _ (uJ _) (by omega) (uJ _) (uJ _)
end
section
open Go.RowKit
section
variable {F:NP}{w w':World}
theorem zMw(r b:Nat)(hr:r<4294967296)(w:World) : Calls Tryz.prog 283 #[.int .u32 (r:Int),.int .u32 (b:Int)] w λe w'=>e=.returned (.int .u32 (zBv r b:Int))/\w=w':=by
 have hxor:bits .xor .u32 ((r:Int) / 2) 3988292384=(((r / 2) ^^^ 3988292384:Nat):Int):=by
  have:=u32_xor_nat (r / 2) 3988292384 (by omega) (by decide);simpa using this
 by_cases h:r % 2=b
 .have hd:zBv r b=r / 2:=by unfold zBv;rw[if_neg (λh2=>h2 h)]
  have hn:((r:Int) % 2 != (b:Int))=false:=by simp;omega
  rw[hd]
  go_enter Tryz.func283, Tryz.ntmps283
  go_wp2
  go_ret;exact⟨zEp (by omega),rfl⟩
 .have hd:zBv r b=(r / 2) ^^^ 3988292384:=by unfold zBv;rw[if_pos h]
  have hn:((r:Int) % 2 != (b:Int))=true:=by simp;omega
  rw[hd]
  go_enter Tryz.func283, Tryz.ntmps283
  go_wp2
  go_ret;exact⟨zEp rfl,rfl⟩
theorem zMx(s:Nat)(hs:s<4294967296)(bv:Value)(l:List UInt8)(w:World)(hb:Sl F w 1 zO bv l) :
  Calls Tryz.prog 193 #[.int .u32 (s:Int),bv] w λe w'=>e=.returned (.int .u32 ((4294967295 ^^^ zAF (4294967295 ^^^ s) l:Nat):Int))/\zG w w':=by
 have HB:=oh hb;obtain⟨a,cap,rfl,h1,h2,h3, -⟩:=hb;unfold maxLen at h2;have hs2:4294967295 ^^^ s<4294967296:=wY (n:=32) (by decide) hs;have hsc:(4294967295:Int)-(s:Int)=((4294967295 ^^^ s:Nat):Int):=by have:=zQC s hs;omega
 have H0:=oh hsc;obtain⟨t,ht⟩:∃t,t=4294967295 ^^^ s:=⟨_,rfl⟩;rw[<- ht] at hs2 hsc ⊢;clear ht H0
 go_enter Tryz.func193, Tryz.ntmps193
 go_wp2
 go_loopg [5,6] l.length (λm v5 v6 wr=>∃(k r:Nat),k+m=l.length/\v5=.int .u32 (r:Int)/\v6=.int .i64 (k:Int)/\r<4294967296/\Hid (zAF r (l.drop k)=zAF t l)/\Hid (zG w wr))
 case atStart=>exact⟨0,t,by omega,by first|rfl|rw[hsc],rfl,hs2,oh rfl,oh zr⟩
 case round =>
  obtain⟨k,r,hkm,rfl,rfl,hr,HQ,HM⟩:=hrel;by_cases hlt:k<l.length
  .obtain⟨qb,qoff,hqa,hc⟩:=HB.out.elem hlt HM.out;have c0:=hc 0 (.int .u8 (l[k].toNat:Int)) rfl;simp only[uO,uY] at c0;subst hqa;have hdr:l.drop k=l[k] :: l.drop (k+1):=wK hlt;have hx8:=l[k].toNat_lt;obtain⟨x,hx⟩:∃x,x=l[k].toNat:=⟨_,rfl⟩;have hq:=HQ.out;rw[hdr,zAF,<- hx,<- zMs r x (by rw[hx];exact hx8)] at hq;rw[<- hx] at c0 hx8;have HQ:=oh hq;clear hc hdr hx hq;have i1:(0:Int)<=(k:Int):=by omega
   have i2:(k:Int)<(l.length:Int):=by omega
   go_wp2
   go_loopg [5,7,8] 8 (λm v5 v7 v8 wq=>∃(j q y:Nat),wq=wr/\j+m=8/\v5=.int .u32 (q:Int)/\v7=.int .u32 (y:Int)/\v8=.int .i64 (j:Int)/\q<4294967296/\y<256/\Hid (zDB m q y=zDB 8 r x))
   case atStart=>exact⟨0,r,x,rfl,rfl,rfl,by first|rfl|(congr 1;omega),rfl,hr,hx8,oh rfl⟩
   case round =>
    obtain⟨j,q,y,rfl,hj,rfl,rfl,rfl,hq,hy,HY⟩:=hrel;by_cases hlj:j<8
    .obtain⟨m,rfl⟩:∃m,gk=m+1:=⟨gk-1,by omega⟩;have hy2:(y:Int) % 2=((y % 2:Nat):Int):=by omega
     have hq2:=zMq (bit:=y % 2) hq;have hst:=HY.out;rw[zDB] at hst;have HST:=oh hst;have HSP:=oh (λW=>zMw q (y % 2) hq W);obtain⟨q2,hqe⟩:∃q2,q2=zBv q (y % 2):=⟨_,rfl⟩;rw[<- hqe] at hq2 HST HSP;obtain⟨b2,hb2⟩:∃b2,b2=y % 2:=⟨_,rfl⟩;rw[<- hb2] at hy2 HSP;clear hst hqe hb2;go_wp2_with fail;refine (HSP.out _).mono ?_;rintro e w1 ⟨rfl,rfl⟩;go_wp2
     go_roundg m
     case measure=>omega
     case rel=>exact⟨j+1,q2,y / 2,rfl,by omega,rfl,zEq (by omega),by go_num,hq2,by omega,HST⟩
    .obtain rfl:gk=0:=by omega
     have hqe:=HY.out;rw[zDB] at hqe;have hql:q<4294967296:=hq;have HF:Hid (zAF q (l.drop (k+1))=zAF t l):=oh (by rw[hqe];exact HQ.out);clear hqe;go_wp2
     go_roundg (l.length-k-1)
     case measure=>omega
     case rel=>exact⟨k+1,q,by omega,rfl,by go_num,hql,HF,HM⟩
  .have hq2:Hid (r=zAF t l):=oh (by have:=HQ.out;rw[tH (by omega)] at this;exact this);have hx2:(4294967295:Int)-(r:Int)=((4294967295 ^^^ r:Nat):Int):=by have:=zQC r hr;omega
   have HX2:=oh hx2;clear hx2;go_wp2
   go_ret;exact⟨zEp (by rw[<- hq2.out];first|exact HX2.out|rfl),HM.out⟩
theorem zJE(bv:Value)(l:List UInt8)(w:World)(hb:Sl F w 1 zO bv l) :
  Calls Tryz.prog 127 #[bv] w λe w'=>e=.returned (.int .u32 (qR l:Int))/\zG w w':=by
 have HC:=oh (zMx 0 (by decide) bv l w hb);rw[show (4294967295 ^^^ 0:Nat)=4294967295 from rfl] at HC;obtain⟨a,c,rfl, -⟩:=hb;have HE:=oh (show qR l=4294967295 ^^^ zAF 4294967295 l from rfl);obtain⟨cs,hcs⟩:∃cs,cs=4294967295 ^^^ zAF 4294967295 l:=⟨_,rfl⟩;rw[<- hcs] at HC HE;clear hcs
 go_enter Tryz.func127, Tryz.ntmps127
 go_wp2_with fail;refine HC.out.mono ?_;rintro e w1 ⟨rfl,hm⟩;have HM:=oh hm;clear hm;go_wp2
 go_ret;exact⟨by rw[HE.out];rfl,HM.out⟩
end
end
end Go.Proofs.YtgphfebjjedeaaaGreatDoor
