import Derived.Test.YtalpfcaakpgkmaaGreatDoorR15
import Derived.Test.YtalpfcaakpgkmaaGreatDoorR12
namespace Go.Proofs.YtalpfcaakpgkmaaGreatDoor
open Lib renaming hid->oh
set_option maxRecDepth 100000
open Go.RowKit
def zAT(size:Nat)(g:Nat):Value:=.slice (some ⟨g,0,none⟩) size size
def qA(b:List UInt8):Array Value:=(b.map λx=>.int .u8 (x.toNat:Int)).toArray
def zLJ(p:Nat × Nat × Nat):List Value:=[.int .i64 (p.1:Int),zAT p.2.1 p.2.2]
def zTG(b:Bool):List Value:=[.bool b]
structure DkR(w:World)(d bl:Nat)(gs ws:List Nat)(wv kv:Value)(D:zJ):Prop where
 own:∃cap,D.blocks<=cap/\cap<=9223372036854775807 /\
  zG w d #[.int .i64 D.blocks,.int .i64 D.size,.slice (some ⟨bl,0,none⟩) D.blocks cap,wv,.bool D.lit,.int .i64 D.after,.int .i64 D.torn,.int .i64 D.cut,kv,.bool D.off,.int .i64 D.count] 130 /\
  ∃rest,zG w bl ((gs.map (zAT D.size))++rest).toArray 69 /\ gs.length+rest.length=cap
 lenB:gs.length=D.blocks
 lenL:D.lasting.length=D.blocks
 lenW:ws.length=D.waiting.length
 keep:yC (λk=>k∈d :: bl :: (gs++ws)) w 0 4 1 zTG kv D.keep
 kw:∀g,kv.ownBlock=some g->wv.ownBlock≠some g
 few2:D.keep.length<=1000000
 wait:yC (λk=>k∈d :: bl :: (gs++ws)) w 0 230 2 zLJ wv ((D.waiting.zip ws).map λp=>(p.1.1,D.size,p.2))
 row:∀(i g:Nat) (b:List UInt8),gs[i]? = some g->D.lasting[i]? = some b->b.length=D.size/\zG w g (qA b) 5
 wrow:∀(i g:Nat) (p:Nat × List UInt8),ws[i]? = some g->D.waiting[i]? = some p->p.1<D.blocks/\p.2.length=D.size/\zG w g (qA p.2) 5
 nodup:(d :: bl :: (gs++ws)).Nodup
 b8:8<=D.blocks
 b256:D.blocks<=256
 s256:256<=D.size
 s1024:D.size<=1024
 few:D.waiting.length<=1000000
def dkF(d bl:Nat)(gs ws:List Nat)(wv kv:Value):NP:=λk=>k∈d :: bl :: (gs++ws)\/wv.ownBlock=some k\/kv.ownBlock=some k
theorem zG2(l:List UInt8):(l.flatMap zZ).toArray=qA l:=by
 rw[qA];congr 1;induction l with
 | nil=>rfl
 | cons x l ih=>rw[wQ,ih];rfl
theorem zDa{F:NP}{w:World}(hF:Bd F w)(bv:Value)(l:List UInt8)(hb:Sl F w 1 zZ bv l)(h1:0<l.length)(h2:l.length<=100000) :
  Calls Tryz.prog 65 #[bv] w λe w'=>∃g,e=.returned (zAT l.length g)/\w.heap.size<=g/\g<w'.heap.size/\zG w' g (qA l) 5 /\ zF w w':=by
 obtain⟨a,cap,rfl,i1,i2,i3,i4⟩:=hb;obtain⟨ad,rfl⟩:∃ad,a=some ad:=by
  rcases i4 with h|⟨b,off,h,_⟩
  .rw[h] at h1;simp at h1
  .exact⟨_,h⟩
 have hs:Sl F w 1 zZ (.slice (some ad) l.length cap) l:=⟨_,cap,rfl,i1,i2,i3,i4⟩;have Ax:=zHy (P:=Tryz.prog) 69 5 (.int .u8 0) 1 Tryz.underlying69 Tryz.mkB rfl l.length (by omega) (by omega);have Ay:=zEo (P:=Tryz.prog) Tryz.elB 3 w.heap.size (Array.replicate l.length (.int .u8 0)) 5 l ad cap (zG.new w _ _) (by simp) (hs.mods ((zA.refl F w).alloc _));obtain⟨Az,Ak⟩:=Ay;have HB:=oh Ak;have HM:Hid (zF w ((w.alloc (.cells (Array.replicate l.length (.int .u8 0)) 5)).setCells w.heap.size 0 (l.flatMap zZ))):=oh (zA.setMany (.inl (uD _)) _ _ _ ((zss w).alloc _));have HF:=oh hF;unfold maxLen at i2;clear i4 hs Ak hF
 go_enter Tryz.func65, Tryz.ntmps65
 go_wp2_with (at_builtin;refine Go.Lib.wpList_copy_run _ rfl _ _ 69 69 rfl _ _ rfl rfl Az ?_);go_wp2_with fail;go_ret;exact⟨w.heap.size,rfl,uD _,HB.out.lt,by rw[<- zG2];exact HB.out,HM.out⟩
section
variable {F G:NP}{ad:Nat->Addr}{w:World}{d bl:Nat}{gs ws:List Nat}{wv kv:Value}{D:zJ}
theorem DkR.blocks(h:DkR w d bl gs ws wv kv D):w.cell? ⟨d,0,none⟩=some (.int .i64 D.blocks):=by
 obtain⟨cap,_,_,hb,_⟩:=h.own;exact hb.k 0 rfl
theorem DkR.offC(h:DkR w d bl gs ws wv kv D):w.cell? ⟨d,9,none⟩=some (.bool D.off):=by
 obtain⟨cap,_,_,hb,_⟩:=h.own;exact hb.k 9 rfl
theorem zBr(hL:yH F ad w)(h:DkR w d bl gs ws wv kv D)(op:ByteArray)(i:Int) :
  Calls Tryz.prog 59 #[.pointer (some ⟨d,0,none⟩),.string op,.int .i64 i] w λe w'=>∃ev,e=.returned ev/\zAb F ad w' ev (D.check i)/\zF w w':=by
 have c0:=h.blocks;have g2:=hL.c2;have Bb:=h.b256;have HL:=oh hL;clear h hL;by_cases h1:i<0\/(D.blocks:Int)<=i
 .have HR:Hid (D.check i=some ([zBz i],2)):=oh (by unfold zJ.check;rw[if_pos h1];rfl);by_cases h2:i<0
  .clear h1
   go_enter Tryz.func59, Tryz.ntmps59
   go_wp2_with fail;refine (zAF HL.out _ _ _ _ 2 (.sent 2 (by decide) (by decide))).mono ?_;rintro e w1 ⟨f,rfl,hE,hm⟩;have HE:=oh hE;clear hE;go_wp2
   go_ret;exact⟨_,rfl,by rw[HR.out];exact⟨f,rfl,HE.out⟩,hm⟩
  .have h3:(D.blocks:Int)<=i:=by omega
   clear h1
   go_enter Tryz.func59, Tryz.ntmps59
   go_wp2_with fail;refine (zAF HL.out _ _ _ _ 2 (.sent 2 (by decide) (by decide))).mono ?_;rintro e w1 ⟨f,rfl,hE,hm⟩;have HE:=oh hE;clear hE;go_wp2
   go_ret;exact⟨_,rfl,by rw[HR.out];exact⟨f,rfl,HE.out⟩,hm⟩
 .have HR:Hid (D.check i=none):=oh (by unfold zJ.check;rw[if_neg h1]);have h2:0<=i:=by omega
  have h3:i<(D.blocks:Int):=by omega
  clear h1
  go_enter Tryz.func59, Tryz.ntmps59
  go_wp2
  go_ret;exact⟨_,rfl,by rw[HR.out];rfl,zA.refl _ _⟩
theorem DkR.at(h:DkR w d bl gs ws wv kv D){w':World}(m:zF w w'):DkR w' d bl gs ws wv kv D:=by
 obtain⟨cap,a1,a2,a3,rest,a4,a5⟩:=h.own;exact⟨⟨cap,a1,a2,a3.ext m,rest,a4.ext m,a5⟩,h.lenB,h.lenL,h.lenW,h.keep.ext m,h.kw,h.few2,h.wait.ext m,
  λi g b h1 h2=>⟨(h.row i g b h1 h2).1,(h.row i g b h1 h2).2.ext m⟩,λi g p h1 h2=>⟨(h.wrow i g p h1 h2).1,(h.wrow i g p h1 h2).2.1,(h.wrow i g p h1 h2).2.2.ext m⟩,
  h.nodup,h.b8,h.b256,h.s256,h.s1024,h.few⟩
theorem zLK(hL:yH F ad w)(h:DkR w d bl gs ws wv kv D)(op:ByteArray)(i:Int) :
  Calls Tryz.prog 120 #[.pointer (some ⟨d,0,none⟩),.string op,.int .i64 i] w λe w'=>∃ev,e=.returned ev/\zAb F ad w' ev (D.on i)/\zF w w':=by
 have HL:=oh hL;have HD:=oh h;clear h hL;cases hc:D.check i with
 | some er =>
  have HR:Hid (D.on i=some er):=oh (by unfold zJ.on;rw[hc])
  go_enter Tryz.func120, Tryz.ntmps120
  go_wp2_with fail;refine (zBr HL.out HD.out _ i).mono ?_;rintro e w1 ⟨ev,rfl,hE,hm⟩;rw[hc] at hE;obtain⟨el,ek⟩:=er;obtain⟨f,rfl,hE⟩:=hE;have HE:=oh hE;clear hE hc;go_wp2
  go_ret;exact⟨_,rfl,by rw[HR.out];exact⟨f,rfl,HE.out⟩,hm⟩
 | none =>
  cases ho:D.off with
  | true =>
   have HR:Hid (D.on i=some ([zBz i],7)):=oh (by unfold zJ.on;rw[hc,ho];rfl)
   go_enter Tryz.func120, Tryz.ntmps120
   go_wp2_with fail;refine (zBr HL.out HD.out _ i).mono ?_;rintro e w1 ⟨ev,rfl,hE,hm⟩;rw[hc] at hE;cases hE
   have c9:=(HD.out.at hm).offC;rw[ho] at c9;have Al:=oh (HL.out.mods hm.ext);have g7:=Al.out.c7;clear hc ho;go_wp2_with fail;refine (zAF Al.out _ _ _ _ 7 (.sent 7 (by decide) (by decide))).mono ?_;rintro e w2 ⟨f,rfl,hE,A2⟩;have HE:=oh hE;clear hE;go_wp2
   go_ret;exact⟨_,rfl,by rw[HR.out];exact⟨f,rfl,HE.out⟩,hm.trans A2⟩
  | false =>
   have HR:Hid (D.on i=none):=oh (by unfold zJ.on;rw[hc,ho];rfl)
   go_enter Tryz.func120, Tryz.ntmps120
   go_wp2_with fail;refine (zBr HL.out HD.out _ i).mono ?_;rintro e w1 ⟨ev,rfl,hE,hm⟩;rw[hc] at hE;cases hE
   have c9:=(HD.out.at hm).offC;rw[ho] at c9;clear hc ho;go_wp2_with fail;go_ret;exact⟨_,rfl,by rw[HR.out];rfl,hm⟩
end
section
variable {F:NP}{ad:Nat->Addr}{w:World}{d bl:Nat}{gs ws:List Nat}{wv kv:Value}{D:zJ}
theorem zQJ(x:Nat × Nat × Nat):(zLJ x).length=2:=rfl
theorem DkR.lastC(h:DkR w d bl gs ws wv kv D)(i:Nat)(hi:i<D.blocks):∃g b cap,gs[i]? = some g/\D.lasting[i]? = some b /\
  w.cell? ⟨d,2,none⟩=some (.slice (some ⟨bl,0,none⟩) D.blocks cap)/\D.blocks<=cap/\cap<=9223372036854775807/\w.cell? ⟨bl,i,none⟩=some (zAT D.size g)/\b.length=D.size/\zG w g (qA b) 5:=by
 obtain⟨cap,a1,a2,a3,rest,a4,a5⟩:=h.own;have h1:i<gs.length:=by rw[h.lenB];exact hi
 have h2:i<D.lasting.length:=by rw[h.lenL];exact hi
 have hr:=h.row i gs[i] D.lasting[i] (uB h1) (uB h2);refine⟨gs[i],D.lasting[i],cap,uB h1,uB h2,a3.k 2 rfl,a1,a2,a4.cell ?_,hr.1,hr.2⟩;rw[List.getElem?_toArray,tJ (by simpa using h1)];simp[h1]
theorem zCq{G:NP}{g size:Nat}{b:List UInt8}(hg:zG w g (qA b) 5)(hb:b.length=size)(hG:¬ G g)(hs:size<=1000000):Sl G w 1 zZ (zAT size g) b:=by
 subst hb;refine⟨_,b.length,rfl,uD _,by simp[maxLen];omega,by omega,.inr ⟨g,0,rfl,hg.lt,hG,λi x hi j u hu=>?_⟩⟩;have hj:j=0:=by
  have:=(uA.1 hu).1;simp[zZ] at this;omega
 subst hj;simp[zZ] at hu;subst hu;have:=hg.d i (.int .u8 (x.toNat:Int)) (by simp[qA,hi]);simpa using this
theorem DkR.waitC(h:DkR w d bl gs ws wv kv D)(k:Nat)(p:Nat × List UInt8)(hk:D.waiting[k]? = some p):∃b off n c g,wv=.slice (some ⟨b,off,none⟩) n c/\ws[k]? = some g /\
  w.cell? ⟨b,off+k * 2,none⟩=some (.int .i64 (p.1:Int))/\w.cell? ⟨b,off+k * 2+1,none⟩=some (zAT D.size g)/\p.2.length=D.size/\zG w g (qA p.2) 5:=by
 have A1:k<D.waiting.length:=(uA.1 hk).1;have hw:k<ws.length:=by rw[h.lenW];exact A1
 have A3:=h.few;have hS:=h.wait.sl zQJ (by simp;omega);obtain⟨a,c,he,_,_,_,h4⟩:=hS;have hz:((D.waiting.zip ws).map λp=>(p.1.1,D.size,p.2))[k]? = some (p.1,D.size,ws[k]):=by
  obtain⟨hlt',hp⟩:=uA.1 hk;simp[hk,hw,List.zip,List.getElem?_zipWith]
 rcases h4 with h4|⟨b,off,ha,hb,hF,hc⟩
 .rw[h4] at hz;simp at hz
 .subst ha;have c0:=hc k _ hz 0 (.int .i64 (p.1:Int)) rfl;have c1:=hc k _ hz 1 (zAT D.size ws[k]) rfl;have hr:=h.wrow k ws[k] p (uB hw) hk;exact⟨b,off,_,c,ws[k],he,uB hw,by simpa using c0,c1,hr.2⟩
theorem DkR.wvC(h:DkR w d bl gs ws wv kv D):w.cell? ⟨d,3,none⟩=some wv/\∃a c,wv=.slice a D.waiting.length c:=by
 obtain⟨cap,_,_,hb,_⟩:=h.own;obtain⟨a,c,h1,_⟩:=h.wait.form;refine⟨hb.k 3 rfl,a,c,?_⟩;rw[h1];simp[h.lenW]
end
section
variable {F G:NP}{ad:Nat->Addr}{w:World}{d bl:Nat}{gs ws:List Nat}{wv kv:Value}{D:zJ}
theorem zOn(hL:yH F ad w)(h:DkR w d bl gs ws wv kv D)(i:Nat)(hi:i<D.blocks)(ho:D.off=false) :
  Calls Tryz.prog 159 #[.pointer (some ⟨d,0,none⟩),.int .i64 (i:Int)] w λe w'=>∃g,e=.returned (.tuple #[zAT D.size g,.nilIface])/\w.heap.size<=g/\zG w' g (qA (D.look i)) 5 /\ (D.look i).length=D.size/\zF w w':=by
 have Am:D.on i=none:=by
  unfold zJ.on zJ.check;rw[if_neg (by omega),ho];rfl
 have HL:=oh hL;have HD:=oh h;have A3:=h.few;obtain⟨_,a,c,rfl⟩:=h.wvC;have Ac:=h.b256;clear h hL
 go_enter Tryz.func159, Tryz.ntmps159
 go_wp2_with fail;refine (zLK HL.out HD.out _ i).mono ?_;rintro e w1 ⟨ev,rfl,hE,hm⟩;rw[Am] at hE;cases hE
 have A4:=oh (HD.out.at hm);have c3:=A4.out.wvC.1;obtain⟨n,hn⟩:∃n,n=D.waiting.length:=⟨_,rfl⟩;rw[<- hn] at c3 A3;have HN:=oh hn;have Ab:=oh hm;have HBd:Hid (Bd (λ_=>False) w1):=oh (λ_ f=>f.elim);have Bc:=Ac;have Be:D.size<=1024:=A4.out.s1024;have B0:256<=D.size:=A4.out.s256;clear Am hm hn;go_wp2_with fail;go_loopg [7] n (λm v wr=>wr=w1/\v=.int .i64 ((m:Int)-1)/\m<=n/\Hid (∀(j:Nat) (p:Nat × List UInt8),m<=j->D.waiting[j]? = some p->p.1≠i))
 case atStart=>exact⟨rfl,rfl,uD _,oh (λj p hj hp=>by have:=(uA.1 hp).1;have:=HN.out;omega)⟩
 case round =>
  obtain⟨rfl,rfl,B1,HQ⟩:=hrel;by_cases h0:0<gk
  .obtain⟨m,rfl⟩:∃m,gk=m+1:=⟨gk-1,by omega⟩;have A1:m<D.waiting.length:=by have:=HN.out;omega
   obtain⟨p,hp⟩:∃p,D.waiting[m]? = some p:=⟨_,uB A1⟩;obtain⟨b,off,n',c',g,he,hg,e0,e1,A0,A5⟩:=A4.out.waitC m p hp;simp only[Value.slice.injEq] at he;obtain⟨rfl,hn',rfl⟩:=he;have A6:(((m+1:Nat):Int)-1)=(m:Int):=by omega
   rw[A6];obtain⟨pj,pb⟩:=p;have HP:=oh hp;have HK:=oh A5;have HLn:Hid (pb.length=D.size):=oh A0;clear A6 hp hg A5 A0 hn';by_cases An:pj=i
   .subst An;have HLk:Hid (D.look pj=pb):=oh (by unfold zJ.look;rw[zPs pj D.waiting m pb HP.out (λj p h1 h2=>HQ.out j p (by omega) h2)];rfl);go_wp2_with fail;refine (zDa HBd.out (zAT D.size g) pb (zCq HK.out HLn.out (λf=>f) (by omega)) (by have:=HLn.out;omega) (by have:=HLn.out;omega)).mono ?_;rintro e w2 ⟨g2,rfl,A7,Ad,A8,A2⟩;rw[HLn.out];have Ae:=oh A8;have Af:=oh A7;clear A8 A7 Ad;go_wp2_with fail;go_ret2
    exact⟨g2,rfl,uP Ab.out.size Af.out,by rw[HLk.out];exact Ae.out,by rw[HLk.out];exact HLn.out,Ab.out.trans A2⟩
   .go_wp2_with fail;go_roundg m
    case measure=>omega
    case rel=>exact⟨rfl,by go_num,by omega,oh (λj p h1 h2=>by
     by_cases e:j=m
     .subst e;rw[HP.out] at h2;injection h2 with h2;rw[<- h2];exact An
     .exact HQ.out j p (by omega) h2)⟩
  .obtain rfl:gk=0:=by omega
   obtain⟨g,b,cap,k1,k2,k3,k4,k5,k6,k7,k8⟩:=A4.out.lastC i hi;have HLk:Hid (D.look i=b):=oh (by
    unfold zJ.look;rw[zDz i D.waiting (λp hp=>by obtain⟨j,hj,he⟩:=wF hp;exact HQ.out j p (tH _) (by rw[<- he];exact uB hj))];simp[k2])
   have A6:(((0:Nat):Int)-1) = -1:=by omega
   rw[A6];have HLn:=oh k7;have HK:=oh k8;clear k1 k2 k7 k8 A6 h0 B1;go_wp2_with fail;refine (zDa HBd.out (zAT D.size g) b (zCq HK.out HLn.out (λf=>f) (by omega)) (by have:=HLn.out;omega) (by have:=HLn.out;omega)).mono ?_;rintro e w2 ⟨g2,rfl,A7,Ad,A8,A2⟩;rw[HLn.out];have Ae:=oh A8;have Af:=oh A7;clear A8 A7 Ad;go_wp2_with fail;go_ret2
   exact⟨g2,rfl,uP Ab.out.size Af.out,by rw[HLk.out];exact Ae.out,by rw[HLk.out];exact HLn.out,Ab.out.trans A2⟩
end
section
variable {F:NP}{w:World}{d bl:Nat}{gs ws:List Nat}{wv kv:Value}{D:zJ}
theorem DkR.sizeC(h:DkR w d bl gs ws wv kv D):w.cell? ⟨d,1,none⟩=some (.int .i64 D.size):=by
 obtain⟨cap,_,_,hb,_⟩:=h.own;exact hb.k 1 rfl
theorem Tryz.geoSize:(Tryz.prog.info? 53).map (·.size)=some 2:=by kernel_rfl
theorem zOo(h:DkR w d bl gs ws wv kv D) :
  Calls Tryz.prog 47 #[.pointer (some ⟨d,0,none⟩)] w λe w'=>e=.returned (.agg #[.int .i64 D.blocks,.int .i64 D.size])/\zF w w':=by
 have c0:=h.blocks;have c1:=h.sizeC;have Bf:d<w.heap.size:=yN c0;clear h
 go_enter Tryz.func47, Tryz.ntmps47
 go_wp2_with fail;refine bodyPost_ret (results_cell_row rfl _ _ w.heap.size 53 #[.int .i64 D.blocks,.int .i64 D.size] (0,0) _ rfl (zG.new w _ _) Tryz.underlying53 rfl Tryz.geoSize) rfl ?_;exact⟨rfl,(zss w).alloc _⟩
end
section
variable {F:NP}{w w':World}{d bl:Nat}{gs ws:List Nat}{wv kv:Value}{D:zJ}
def zKT(D:zJ)(bl cap:Nat)(wv kv:Value):Array Value :=
 #[.int .i64 D.blocks,.int .i64 D.size,.slice (some ⟨bl,0,none⟩) D.blocks cap,wv,.bool D.lit,.int .i64 D.after,.int .i64 D.torn,.int .i64 D.cut,kv,.bool D.off,.int .i64 D.count]
theorem DkR.struct(h:DkR w d bl gs ws wv kv D)(m:zA (λk=>k=d) w w')(lit off:Bool)(after torn cut count:Int)
  (hc:∀cap,zG w d (zKT D bl cap wv kv) 130 -> zG w' d (zKT { D with lit:=lit,after:=after,torn:=torn,cut:=cut,off:=off,count:=count } bl cap wv kv) 130) :
  DkR w' d bl gs ws wv kv { D with lit:=lit,after:=after,torn:=torn,cut:=cut,off:=off,count:=count }:=by
 have hn:=h.nodup;have hd:∀k,k∈bl :: (gs++ws)->k≠d:=λk hk e=>(uV.1 hn).1 (e ▸ hk)
 obtain⟨cap,a1,a2,a3,rest,a4,a5⟩:=h.own;exact⟨⟨cap,a1,a2,hc cap a3,rest,a4.mods m (hd bl uK),a5⟩,h.lenB,h.lenL,h.lenW,h.keep.mods m (λg hg e=>h.keep.2 g hg (e ▸ uK)),h.kw,h.few2,
  h.wait.mods m (λg hg e=>h.wait.2 g hg (e ▸ uK)),
  λi g b h1 h2=>⟨(h.row i g b h1 h2).1,(h.row i g b h1 h2).2.mods m (hd g (uJ _ (wE _ (uU h1))))⟩,
  λi g p h1 h2=>⟨(h.wrow i g p h1 h2).1,(h.wrow i g p h1 h2).2.1,(h.wrow i g p h1 h2).2.2.mods m (hd g (uJ _ (wK _ (uU h1))))⟩,
  h.nodup,h.b8,h.b256,h.s256,h.s1024,h.few⟩
theorem zH4(h:DkR w d bl gs ws wv kv D)(hl:D.lit=false) :
  Calls Tryz.prog 121 #[.pointer (some ⟨d,0,none⟩)] w λe w'=>e=.returned (.bool false)/\DkR w' d bl gs ws wv kv D.burns.2/\zA (λk=>k=d) w w':=by
 have HD:=oh h;obtain⟨cap,_,_,hb,_⟩:=h.own;have c4:=hb.k 4 rfl;rw[hl] at c4;have c5:=hb.k 5 rfl;have c10:=hb.k 10 rfl;have Bg:=hb.frozen;clear hb h
 go_enter Tryz.func121, Tryz.ntmps121
 go_wp2_with fail;go_ret;have hB:D.burns.2 = { D with lit:=D.lit,after:=wrap64 (D.after-1),torn:=D.torn,cut:=D.cut,off:=D.off,count:=wrap64 (D.count+1) }:=by
  unfold zJ.burns;rw[hl];rfl
 have m2:zA (λk=>k=d) w ((w.setCell ⟨d,5,none⟩ (.int .i64 (wrap64 (D.after-1)))).setCell ⟨d,10,none⟩ (.int .i64 (wrap64 (D.count+1)))) :=
  ((zA.refl (λk=>k=d) w).setCell (p:=⟨d,5,none⟩) (.inr rfl) _).setCell (p:=⟨d,10,none⟩) (.inr rfl) _
 refine⟨rfl,?_,m2⟩;rw[hB];exact HD.out.struct m2 _ _ _ _ _ _ (λcap hb=>by simpa[zKT] using (hb.set 5 (.int .i64 (wrap64 (D.after-1)))).set 10 (.int .i64 (wrap64 (D.count+1))))
end
theorem p8:∀r:Nat,r<8->((2:Int) ^ r % 256)=((2 ^ r:Nat):Int)/\2 ^ r<256:=by decide
set_option maxHeartbeats 1600000 in
theorem zQK{F:NP}{w:World}(hF:Bd F w)(m:qW)(hm:zA6 m=true)(uv:Value)(hu:Sl F w 1 yI uv (yF m)) :
  Calls Tryz.prog 202 #[zDU m uv] w λe w'=>∃v,e=.returned v/\Sl F w' 1 zZ v (zCw m.blocks m.used)/\(zCw m.blocks m.used).length=(m.blocks+7) / 8/\zF w w':=by
 obtain⟨o1,o2,o3,o4,o5,o6⟩:=(vV m).1 hm;have A0:m.used.length<=m.blocks:=zDM m.used 0 m.blocks o5 (λn hn=>⟨tH _,o6 n hn⟩) (tH _);have HU:=oh hu;have Ag:(yF m).length=m.used.length:=by unfold yF;rw[wS]
 have B2:Hid (∀(k x:Nat),m.used[k]? = some x->(yF m)[k]? = some (x:Int)):=oh (λk x h=>by unfold yF;rw[tQ,h];rfl);have B3:Hid (∀(k x:Nat),m.used[k]? = some x->x<m.blocks):=oh (λk x h=>o6 x (uU h));have Ao:Hid (∀k:Nat,k<m.used.length->∃x,m.used[k]? = some x):=oh (λk h=>⟨_,uB h⟩);obtain⟨ua,uc,rfl,i1,i2,i3, -⟩:=hu;unfold maxLen at i2;have Ap:=oh Ag;rw[Ag] at HU i1 i3 ⊢;obtain⟨g,b,u⟩:=m;simp only at *;unfold zDU;simp only;obtain⟨n,hn⟩:∃n,n=u.length:=⟨_,rfl⟩;have B4:=oh hn;rw[<- hn] at A0 o3 i1 i3 Ao Ap HU ⊢;obtain⟨z,hz⟩:∃z,z=(b+7) / 8:=⟨_,rfl⟩;have HZ:=oh hz;have B5:((b:Int)+7) / 8=(z:Int):=by omega
 have Bh:((b:Int)+7).tdiv 8=(z:Int):=by rw[rL (by omega)];exact B5
 have Bi:1<=z/\z<=32:=by omega
 have Bj:b<=8 * z:=by omega
 have HF:=oh hF;have B6:Hid (∀(k x:Nat),u[k]? = some x->(u.take (k+1)).foldl orB (List.replicate z 0)=orB ((u.take k).foldl orB (List.replicate z 0)) x):=oh (λk x h=>by
  obtain⟨h1,h2⟩:=uA.1 h;rw[rP h1,pS,h2];rfl)
 clear o4 o5 o6 hm Ag hn hz hF;have Ax:=zHy (P:=Tryz.prog) 69 5 (.int .u8 0) 1 Tryz.underlying69 Tryz.mkB rfl z (by omega) (by omega);obtain⟨W0,A9⟩:∃W0,W0=(w.alloc (.cells #[.int .u64 (g:Int),.int .i64 (b:Int),.slice ua n uc] 133)).alloc (.cells (Array.replicate z (.int .u8 0)) 5):=⟨_,rfl⟩;have Aq:zF w W0:=by rw[A9];exact ((zss w).alloc _).alloc _
 have Ar:zG W0 (w.heap.size+1) (qA (List.replicate z 0)) 5:=by
  rw[A9];have e:qA (List.replicate z 0)=Array.replicate z (.int .u8 0):=by unfold qA;simp
  rw[e];exact zS (by simp)
 have As:=oh Ar;have At:=oh Aq;have Bk:W0.heap.size=w.heap.size+2:=by rw[A9];simp
 clear Ar Aq
 go_enter Tryz.func202, Tryz.ntmps202
 go_wp2_with fail;rw[<- A9];clear A9;obtain⟨X,hX⟩:∃X,X=w.heap.size+1:=⟨_,rfl⟩;rw[<- hX] at As ⊢;have B7:w.heap.size<X:=by omega
 have Ah:=oh B7;clear hX;go_loopg [14] n (λr v14 wr=>∃(k:Nat) (l:List UInt8),k+r=n/\v14=.int .i64 k/\Hid (l=(u.take k).foldl orB (List.replicate z 0)/\l.length=z)/\Hid (zA (λx=>x=X) W0 wr/\zG wr X (qA l) 5))
 case atStart=>exact⟨0,List.replicate z 0,by omega,rfl,oh ⟨rfl,by simp⟩,oh ⟨zA.refl _ _,As.out⟩⟩
 case round =>
  obtain⟨k,l,hk,rfl,HL,HW⟩:=hrel;by_cases A1:k<n
  .obtain⟨x,hx⟩:=Ao.out k A1;have Bl:=B3.out k x hx;have Au:zF w wr:=At.out.trans' HW.out.1 (λi hi h=>by have:=Ah.out;omega);obtain⟨qb,qoff,B8,hc⟩:=HU.out.elem (k:=k) (by rw[Ap.out];exact A1) Au;have d0:=hc 0 (.int .i64 x) (by
    have:=B2.out k x hx;obtain⟨h1,h2⟩:=uA.1 this;rw[h2];rfl)
   simp only[uT,wC] at d0;subst B8;obtain⟨p,hp⟩:∃p,p=x / 8:=⟨_,rfl⟩;obtain⟨r,hr⟩:∃r,r=x % 8:=⟨_,rfl⟩;have t1:(x:Int) / 8=(p:Int):=by omega
   have t2:(x:Int).tdiv 8=(p:Int):=by rw[rL (by omega)];exact t1
   have t3:(x:Int) % 8=(r:Int):=by omega
   have t4:(x:Int).tmod 8=(r:Int):=by rw[tD (by omega)];exact t3
   have B9:p<z:=by omega
   have Ai:r<8:=by omega
   have HP:=oh hp;have HR:=oh hr;obtain⟨y,hy⟩:∃y,l[p]? = some y:=⟨_,uB (by rw[HL.out.2];exact B9)⟩;have c0:wr.cell? ⟨X,p,none⟩=some (.int .u8 (y.toNat:Int)):=HW.out.2.cell (by rw[qA];simp[hy]);have fz:=HW.out.2.frozen;have Av:=y.toNat_lt;have HY:=oh hy;have u0:(0:Int)<=(p:Int):=by omega
   have u1:(p:Int)<(z:Int):=by omega
   have Aa:bits .or .u8 (y.toNat:Int) (2 ^ r % 256)=((y.toNat ||| 2 ^ r:Nat):Int):=by
    rw[(p8 r Ai).1];exact u8_or_nat _ _ Av (p8 r Ai).2
   have Aj:=oh Aa;have Aw:Hid (zA (λx=>x=X) W0 (wr.setCell ⟨X,p,none⟩ (.int .u8 ((y.toNat ||| 2 ^ r:Nat):Int)))/\zG (wr.setCell ⟨X,p,none⟩ (.int .u8 ((y.toNat ||| 2 ^ r:Nat):Int))) X (qA (orB l x)) 5):=oh (by
    refine⟨HW.out.1.setCell (.inr rfl) _,?_⟩;have e:=HW.out.2.set p (.int .u8 ((y.toNat ||| 2 ^ r:Nat):Int));have e2:(qA l).setIfInBounds p (.int .u8 ((y.toNat ||| 2 ^ r:Nat):Int))=qA (orB l x):=by
     unfold orB qA;rw[<- HP.out,<- HR.out,show l.getD p 0=y by simp[List.getD,HY.out],List.map_set,List.setIfInBounds_toArray,UInt8.toNat_ofNat',rI (Nat.or_lt_two_pow (n:=8) Av (p8 r Ai).2)]
    rw[e2] at e;exact e)
   have Ba:Hid (orB l x=(u.take (k+1)).foldl orB (List.replicate z 0)/\(orB l x).length=z):=oh ⟨by rw[B6.out k x hx,<- HL.out.1],by rw[zFh];exact HL.out.2⟩;clear hc hx Au hp hr hy Aa;go_wp2_with fail;go_region
   rw[Aj.out];go_wp2_with fail;go_roundg (gk-1)
   case measure=>omega
   case rel=>exact⟨k+1,orB l x,by omega,by go_num,Ba,oh ⟨Aw.out.1.drew,Aw.out.2⟩⟩
  .obtain rfl:k=n:=by omega
   go_wp2_with fail;go_ret;have hl:l=zCw b u:=by rw[HL.out.1,B4.out,wZ,HZ.out];rfl
   rw[<- hl];exact⟨_,rfl,zCq HW.out.2 HL.out.2 (λh=>by have:=HF.out _ h;have:=Ah.out;omega) (by omega),by rw[HL.out.2,HZ.out],At.out.trans' HW.out.1 (λi hi h=>by have:=Ah.out;omega)⟩
end Go.Proofs.YtalpfcaakpgkmaaGreatDoor
