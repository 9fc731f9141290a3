import Derived.Test.YtchklfmggpconaaGreatDoorK07
import Derived.Test.YtchklfmggpconaaGreatDoorK11
namespace Go.Proofs.YtchklfmggpconaaGreatDoor
open Lib renaming hid->oh
set_option maxRecDepth 100000
open Go.RowKit
def zDY(size:Nat)(g:Nat):Value:=.slice (some ⟨g,0,none⟩) size size
def zAr(b:List UInt8):Array Value:=(b.map λx=>.int .u8 (x.toNat:Int)).toArray
def zKW(p:Nat × Nat × Nat):List Value:=[.int .i64 (p.1:Int),zDY p.2.1 p.2.2]
def zSF(b:Bool):List Value:=[.bool b]
structure DkR(w:World)(d bl:Nat)(gs ws:List Nat)(wv kv:Value)(D:yL):Prop where
 own:∃cap,D.blocks<=cap/\cap<=9223372036854775807 /\
  zL w d #[.int .i64 D.blocks,.int .i64 D.size,.slice (some ⟨bl,0,none⟩) D.blocks cap,wv,.bool D.lit,.int .i64 D.after,.int .i64 D.torn,.int .i64 D.cut,kv,.bool D.off,.int .i64 D.count] 133 /\
  ∃rest,zL w bl ((gs.map (zDY D.size))++rest).toArray 134 /\ gs.length+rest.length=cap
 lenB:gs.length=D.blocks
 lenL:D.lasting.length=D.blocks
 lenW:ws.length=D.waiting.length
 keep:zU (λk=>k∈d :: bl :: (gs++ws)) w 0 4 1 zSF kv D.keep
 kw:∀g,kv.ownBlock=some g->wv.ownBlock≠some g
 few2:D.keep.length<=1000000
 wait:zU (λk=>k∈d :: bl :: (gs++ws)) w 0 301 2 zKW wv ((D.waiting.zip ws).map λp=>(p.1.1,D.size,p.2))
 row:∀(i g:Nat) (b:List UInt8),gs[i]? = some g->D.lasting[i]? = some b->b.length=D.size/\zL w g (zAr b) 5
 wrow:∀(i g:Nat) (p:Nat × List UInt8),ws[i]? = some g->D.waiting[i]? = some p->p.1<D.blocks/\p.2.length=D.size/\zL w g (zAr p.2) 5
 nodup:(d :: bl :: (gs++ws)).Nodup
 b8:8<=D.blocks
 b256:D.blocks<=256
 s256:256<=D.size
 s1024:D.size<=1024
 few:D.waiting.length<=1000000
def dkF(d bl:Nat)(gs ws:List Nat)(wv kv:Value):Nat->Prop:=λk=>k∈d :: bl :: (gs++ws)\/wv.ownBlock=some k\/kv.ownBlock=some k
theorem zGf(l:List UInt8):(l.flatMap yE).toArray=zAr l:=by
 rw[zAr];congr 1;induction l with
 | nil=>rfl
 | cons x l ih=>rw[wI,ih];rfl
theorem zD6{F:Nat->Prop}{w:World}(hF:Bd F w)(bv:Value)(l:List UInt8)(hb:Sl F w 1 yE bv l)(h1:0<l.length)(h2:l.length<=100000) :
  Calls Tryz.prog 204 #[bv] w λe w'=>∃g,e=.returned (zDY l.length g)/\w.heap.size<=g/\g<w'.heap.size/\zL w' g (zAr l) 5 /\ zJ w w':=by
 obtain⟨a,cap,rfl,i1,i2,i3,i4⟩:=hb;obtain⟨ad,rfl⟩:∃ad,a=some ad:=by
  rcases i4 with h|⟨b,off,h,_⟩
  .rw[h] at h1;simp at h1
  .exact⟨_,h⟩
 have hs:Sl F w 1 yE (.slice (some ad) l.length cap) l:=⟨_,cap,rfl,i1,i2,i3,i4⟩;have hmk:=zJc (P:=Tryz.prog) 134 5 (.int .u8 0) 1 Tryz.underlying134 Tryz.mkB rfl l.length (by omega) (by omega);have hcp:=zD5 (P:=Tryz.prog) Tryz.elB 3 w.heap.size (Array.replicate l.length (.int .u8 0)) 5 l ad cap (zL.new w _ _) (by simp) (hs.mods ((zA.refl F w).alloc _));obtain⟨hc1,hc2⟩:=hcp;have HB:=oh hc2;have HM:Hid (zJ w ((w.alloc (.cells (Array.replicate l.length (.int .u8 0)) 5)).setCells w.heap.size 0 (l.flatMap yE))):=oh (zA.setMany (.inl (uJ _)) _ _ _ ((zA.refl _ w).alloc _));have HF:=oh hF;unfold maxLen at i2;clear i4 hs hc2 hF
 go_enter Tryz.func204, Tryz.ntmps204
 go_wp2_with (at_builtin;refine Go.Lib.wpList_copy_run _ rfl _ _ 134 134 rfl _ _ rfl rfl hc1 ?_);go_wp2_with fail;go_ret;exact⟨w.heap.size,rfl,uJ _,HB.out.lt,by rw[<- zGf];exact HB.out,HM.out⟩
section
variable {F G:Nat->Prop}{ad:Nat->Addr}{w:World}{d bl:Nat}{gs ws:List Nat}{wv kv:Value}{D:yL}
theorem DkR.blocks(h:DkR w d bl gs ws wv kv D):w.cell? ⟨d,0,none⟩=some (.int .i64 D.blocks):=by
 obtain⟨cap,_,_,hb,_⟩:=h.own;exact hb.cell (o:=0) rfl
theorem DkR.offC(h:DkR w d bl gs ws wv kv D):w.cell? ⟨d,9,none⟩=some (.bool D.off):=by
 obtain⟨cap,_,_,hb,_⟩:=h.own;exact hb.cell (o:=9) rfl
theorem zD7(hL:yW F ad w)(h:DkR w d bl gs ws wv kv D)(op:ByteArray)(i:Int) :
  Calls Tryz.prog 211 #[.pointer (some ⟨d,0,none⟩),.string op,.int .i64 i] w λe w'=>∃ev,e=.returned ev/\zBt F ad w' ev (D.check i)/\zJ w w':=by
 have c0:=h.blocks;have g2:=hL.c2;have hb1:=h.b256;have HL:=oh hL;clear h hL;by_cases h1:i<0\/(D.blocks:Int)<=i
 .have HR:Hid (D.check i=some ([zBs i],2)):=oh (by unfold yL.check;rw[if_pos h1];rfl);by_cases h2:i<0
  .clear h1
   go_enter Tryz.func211, Tryz.ntmps211
   go_wp2_with fail;refine (zAS HL.out _ _ _ _ 2 (.sent 2 (by decide) (by decide))).mono ?_;rintro e w1 ⟨f,rfl,hE,hm⟩;have HE:=oh hE;clear hE;go_wp2
   go_ret;exact⟨_,rfl,by rw[HR.out];exact⟨f,rfl,HE.out⟩,hm⟩
  .have h3:(D.blocks:Int)<=i:=by omega
   clear h1
   go_enter Tryz.func211, Tryz.ntmps211
   go_wp2_with fail;refine (zAS HL.out _ _ _ _ 2 (.sent 2 (by decide) (by decide))).mono ?_;rintro e w1 ⟨f,rfl,hE,hm⟩;have HE:=oh hE;clear hE;go_wp2
   go_ret;exact⟨_,rfl,by rw[HR.out];exact⟨f,rfl,HE.out⟩,hm⟩
 .have HR:Hid (D.check i=none):=oh (by unfold yL.check;rw[if_neg h1]);have h2:0<=i:=by omega
  have h3:i<(D.blocks:Int):=by omega
  clear h1
  go_enter Tryz.func211, Tryz.ntmps211
  go_wp2
  go_ret;exact⟨_,rfl,by rw[HR.out];rfl,zA.refl _ _⟩
theorem DkR.at(h:DkR w d bl gs ws wv kv D){w':World}(m:zJ w w'):DkR w' d bl gs ws wv kv D:=by
 obtain⟨cap,a1,a2,a3,rest,a4,a5⟩:=h.own;exact⟨⟨cap,a1,a2,a3.ext m,rest,a4.ext m,a5⟩,h.lenB,h.lenL,h.lenW,h.keep.ext m,h.kw,h.few2,h.wait.ext m,
  λi g b h1 h2=>⟨(h.row i g b h1 h2).1,(h.row i g b h1 h2).2.ext m⟩,λi g p h1 h2=>⟨(h.wrow i g p h1 h2).1,(h.wrow i g p h1 h2).2.1,(h.wrow i g p h1 h2).2.2.ext m⟩,
  h.nodup,h.b8,h.b256,h.s256,h.s1024,h.few⟩
theorem zKX(hL:yW F ad w)(h:DkR w d bl gs ws wv kv D)(op:ByteArray)(i:Int) :
  Calls Tryz.prog 203 #[.pointer (some ⟨d,0,none⟩),.string op,.int .i64 i] w λe w'=>∃ev,e=.returned ev/\zBt F ad w' ev (D.on i)/\zJ w w':=by
 have HL:=oh hL;have HD:=oh h;clear h hL;cases hc:D.check i with
 | some er =>
  have HR:Hid (D.on i=some er):=oh (by unfold yL.on;rw[hc])
  go_enter Tryz.func203, Tryz.ntmps203
  go_wp2_with fail;refine (zD7 HL.out HD.out _ i).mono ?_;rintro e w1 ⟨ev,rfl,hE,hm⟩;rw[hc] at hE;obtain⟨el,ek⟩:=er;obtain⟨f,rfl,hE⟩:=hE;have HE:=oh hE;clear hE hc;go_wp2
  go_ret;exact⟨_,rfl,by rw[HR.out];exact⟨f,rfl,HE.out⟩,hm⟩
 | none =>
  cases ho:D.off with
  | true =>
   have HR:Hid (D.on i=some ([zBs i],7)):=oh (by unfold yL.on;rw[hc,ho];rfl)
   go_enter Tryz.func203, Tryz.ntmps203
   go_wp2_with fail;refine (zD7 HL.out HD.out _ i).mono ?_;rintro e w1 ⟨ev,rfl,hE,hm⟩;rw[hc] at hE;cases hE
   have c9:=(HD.out.at hm).offC;rw[ho] at c9;have HL1:=oh (HL.out.mods hm.ext);have g7:=HL1.out.c7;clear hc ho;go_wp2_with fail;refine (zAS HL1.out _ _ _ _ 7 (.sent 7 (by decide) (by decide))).mono ?_;rintro e w2 ⟨f,rfl,hE,hm2⟩;have HE:=oh hE;clear hE;go_wp2
   go_ret;exact⟨_,rfl,by rw[HR.out];exact⟨f,rfl,HE.out⟩,hm.trans hm2⟩
  | false =>
   have HR:Hid (D.on i=none):=oh (by unfold yL.on;rw[hc,ho];rfl)
   go_enter Tryz.func203, Tryz.ntmps203
   go_wp2_with fail;refine (zD7 HL.out HD.out _ i).mono ?_;rintro e w1 ⟨ev,rfl,hE,hm⟩;rw[hc] at hE;cases hE
   have c9:=(HD.out.at hm).offC;rw[ho] at c9;clear hc ho;go_wp2_with fail;go_ret;exact⟨_,rfl,by rw[HR.out];rfl,hm⟩
end
section
variable {F:Nat->Prop}{ad:Nat->Addr}{w:World}{d bl:Nat}{gs ws:List Nat}{wv kv:Value}{D:yL}
theorem zPk(x:Nat × Nat × Nat):(zKW x).length=2:=rfl
theorem DkR.lastC(h:DkR w d bl gs ws wv kv D)(i:Nat)(hi:i<D.blocks):∃g b cap,gs[i]? = some g/\D.lasting[i]? = some b /\
  w.cell? ⟨d,2,none⟩=some (.slice (some ⟨bl,0,none⟩) D.blocks cap)/\D.blocks<=cap/\cap<=9223372036854775807/\w.cell? ⟨bl,i,none⟩=some (zDY D.size g)/\b.length=D.size/\zL w g (zAr b) 5:=by
 obtain⟨cap,a1,a2,a3,rest,a4,a5⟩:=h.own;have h1:i<gs.length:=by rw[h.lenB];exact hi
 have h2:i<D.lasting.length:=by rw[h.lenL];exact hi
 have hr:=h.row i gs[i] D.lasting[i] (uA h1) (uA h2);refine⟨gs[i],D.lasting[i],cap,uA h1,uA h2,a3.cell (o:=2) rfl,a1,a2,a4.cell ?_,hr.1,hr.2⟩;rw[pC,uY (by simpa using h1)];simp[h1]
theorem zJf{G:Nat->Prop}{g size:Nat}{b:List UInt8}(hg:zL w g (zAr b) 5)(hb:b.length=size)(hG:¬ G g)(hs:size<=1000000):Sl G w 1 yE (zDY size g) b:=by
 subst hb;refine⟨_,b.length,rfl,uJ _,by simp[maxLen];omega,by omega,.inr ⟨g,0,rfl,hg.lt,hG,λi x hi j u hu=>?_⟩⟩;have hj:j=0:=by
  have:=(uB.1 hu).1;simp[yE] at this;omega
 subst hj;simp[yE] at hu;subst hu;have:=hg.cell (o:=i) (v:=.int .u8 (x.toNat:Int)) (by simp[zAr,hi]);simpa using this
theorem DkR.waitC(h:DkR w d bl gs ws wv kv D)(k:Nat)(p:Nat × List UInt8)(hk:D.waiting[k]? = some p):∃b off n c g,wv=.slice (some ⟨b,off,none⟩) n c/\ws[k]? = some g /\
  w.cell? ⟨b,off+k * 2,none⟩=some (.int .i64 (p.1:Int))/\w.cell? ⟨b,off+k * 2+1,none⟩=some (zDY D.size g)/\p.2.length=D.size/\zL w g (zAr p.2) 5:=by
 have hlt:k<D.waiting.length:=(uB.1 hk).1;have hw:k<ws.length:=by rw[h.lenW];exact hlt
 have hfew:=h.few;have hS:=h.wait.sl zPk (by simp;omega);obtain⟨a,c,he,_,_,_,h4⟩:=hS;have hz:((D.waiting.zip ws).map λp=>(p.1.1,D.size,p.2))[k]? = some (p.1,D.size,ws[k]):=by
  obtain⟨hlt',hp⟩:=uB.1 hk;simp[hk,hw,List.zip,List.getElem?_zipWith]
 rcases h4 with h4|⟨b,off,ha,hb,hF,hc⟩
 .rw[h4] at hz;simp at hz
 .subst ha;have c0:=hc k _ hz 0 (.int .i64 (p.1:Int)) rfl;have c1:=hc k _ hz 1 (zDY D.size ws[k]) rfl;have hr:=h.wrow k ws[k] p (uA hw) hk;exact⟨b,off,_,c,ws[k],he,uA hw,by simpa using c0,c1,hr.2⟩
theorem DkR.wvC(h:DkR w d bl gs ws wv kv D):w.cell? ⟨d,3,none⟩=some wv/\∃a c,wv=.slice a D.waiting.length c:=by
 obtain⟨cap,_,_,hb,_⟩:=h.own;obtain⟨a,c,h1,_⟩:=h.wait.form;refine⟨hb.cell (o:=3) rfl,a,c,?_⟩;rw[h1];simp[h.lenW]
end
section
variable {F G:Nat->Prop}{ad:Nat->Addr}{w:World}{d bl:Nat}{gs ws:List Nat}{wv kv:Value}{D:yL}
theorem zOK(hL:yW F ad w)(h:DkR w d bl gs ws wv kv D)(i:Nat)(hi:i<D.blocks)(ho:D.off=false) :
  Calls Tryz.prog 183 #[.pointer (some ⟨d,0,none⟩),.int .i64 (i:Int)] w λe w'=>∃g,e=.returned (.tuple #[zDY D.size g,.nilIface])/\w.heap.size<=g/\zL w' g (zAr (D.look i)) 5 /\ (D.look i).length=D.size/\zJ w w':=by
 have hon:D.on i=none:=by
  unfold yL.on yL.check;rw[if_neg (by omega),ho];rfl
 have HL:=oh hL;have HD:=oh h;have hfew:=h.few;obtain⟨_,a,c,rfl⟩:=h.wvC;have h256:=h.b256;clear h hL
 go_enter Tryz.func183, Tryz.ntmps183
 go_wp2_with fail;refine (zKX HL.out HD.out _ i).mono ?_;rintro e w1 ⟨ev,rfl,hE,hm⟩;rw[hon] at hE;cases hE
 have HD1:=oh (HD.out.at hm);have c3:=HD1.out.wvC.1;obtain⟨n,hn⟩:∃n,n=D.waiting.length:=⟨_,rfl⟩;rw[<- hn] at c3 hfew;have HN:=oh hn;have HM1:=oh hm;have HBd:Hid (Bd (λ_=>False) w1):=oh (λ_ f=>f.elim);have hs1:=h256;have hsz:D.size<=1024:=HD1.out.s1024;have hsz2:256<=D.size:=HD1.out.s256;clear hon hm hn;go_wp2_with fail;go_loopg [7] n (λm v wr=>wr=w1/\v=.int .i64 ((m:Int)-1)/\m<=n/\Hid (∀(j:Nat) (p:Nat × List UInt8),m<=j->D.waiting[j]? = some p->p.1≠i))
 case atStart=>exact⟨rfl,rfl,uJ _,oh (λj p hj hp=>by have:=(uB.1 hp).1;have:=HN.out;omega)⟩
 case round =>
  obtain⟨rfl,rfl,hmn,HQ⟩:=hrel;by_cases h0:0<gk
  .obtain⟨m,rfl⟩:∃m,gk=m+1:=⟨gk-1,by omega⟩;have hlt:m<D.waiting.length:=by have:=HN.out;omega
   obtain⟨p,hp⟩:∃p,D.waiting[m]? = some p:=⟨_,uA hlt⟩;obtain⟨b,off,n',c',g,he,hg,e0,e1,hlen,hblk⟩:=HD1.out.waitC m p hp;simp only[Value.slice.injEq] at he;obtain⟨rfl,hn',rfl⟩:=he;have hm1:(((m+1:Nat):Int)-1)=(m:Int):=by omega
   rw[hm1];obtain⟨pj,pb⟩:=p;have HP:=oh hp;have HK:=oh hblk;have HLn:Hid (pb.length=D.size):=oh hlen;clear hm1 hp hg hblk hlen hn';by_cases hpi:pj=i
   .subst hpi;have HLk:Hid (D.look pj=pb):=oh (by unfold yL.look;rw[zPT pj D.waiting m pb HP.out (λj p h1 h2=>HQ.out j p (by omega) h2)];rfl);go_wp2_with fail;refine (zD6 HBd.out (zDY D.size g) pb (zJf HK.out HLn.out (λf=>f) (by omega)) (by have:=HLn.out;omega) (by have:=HLn.out;omega)).mono ?_;rintro e w2 ⟨g2,rfl,hg2,hg3,hB2,hm2⟩;rw[HLn.out];have HB2:=oh hB2;have HG2:=oh hg2;clear hB2 hg2 hg3;go_wp2_with fail;go_ret2
    exact⟨g2,rfl,uM HM1.out.size HG2.out,by rw[HLk.out];exact HB2.out,by rw[HLk.out];exact HLn.out,HM1.out.trans hm2⟩
   .go_wp2_with fail;go_roundg m
    case measure=>omega
    case rel=>exact⟨rfl,by go_num,by omega,oh (λj p h1 h2=>by
     by_cases e:j=m
     .subst e;rw[HP.out] at h2;injection h2 with h2;rw[<- h2];exact hpi
     .exact HQ.out j p (by omega) h2)⟩
  .obtain rfl:gk=0:=by omega
   obtain⟨g,b,cap,k1,k2,k3,k4,k5,k6,k7,k8⟩:=HD1.out.lastC i hi;have HLk:Hid (D.look i=b):=oh (by
    unfold yL.look;rw[zE0 i D.waiting (λp hp=>by obtain⟨j,hj,he⟩:=wQ hp;exact HQ.out j p (pS _) (by rw[<- he];exact uA hj))];simp[k2])
   have hm1:(((0:Nat):Int)-1) = -1:=by omega
   rw[hm1];have HLn:=oh k7;have HK:=oh k8;clear k1 k2 k7 k8 hm1 h0 hmn;go_wp2_with fail;refine (zD6 HBd.out (zDY D.size g) b (zJf HK.out HLn.out (λf=>f) (by omega)) (by have:=HLn.out;omega) (by have:=HLn.out;omega)).mono ?_;rintro e w2 ⟨g2,rfl,hg2,hg3,hB2,hm2⟩;rw[HLn.out];have HB2:=oh hB2;have HG2:=oh hg2;clear hB2 hg2 hg3;go_wp2_with fail;go_ret2
   exact⟨g2,rfl,uM HM1.out.size HG2.out,by rw[HLk.out];exact HB2.out,by rw[HLk.out];exact HLn.out,HM1.out.trans hm2⟩
end
section
variable {F:Nat->Prop}{w:World}{d bl:Nat}{gs ws:List Nat}{wv kv:Value}{D:yL}
theorem DkR.sizeC(h:DkR w d bl gs ws wv kv D):w.cell? ⟨d,1,none⟩=some (.int .i64 D.size):=by
 obtain⟨cap,_,_,hb,_⟩:=h.own;exact hb.cell (o:=1) rfl
theorem Tryz.geoSize:(Tryz.prog.info? 77).map (·.size)=some 2:=by kernel_rfl
theorem zOL(h:DkR w d bl gs ws wv kv D) :
  Calls Tryz.prog 134 #[.pointer (some ⟨d,0,none⟩)] w λe w'=>e=.returned (.agg #[.int .i64 D.blocks,.int .i64 D.size])/\zJ w w':=by
 have c0:=h.blocks;have c1:=h.sizeC;have hdl:d<w.heap.size:=qY c0;clear h
 go_enter Tryz.func134, Tryz.ntmps134
 go_wp2_with fail;refine bodyPost_ret (results_cell_row rfl _ _ w.heap.size 77 #[.int .i64 D.blocks,.int .i64 D.size] (0,0) _ rfl (zL.new w _ _) Tryz.underlying77 rfl Tryz.geoSize) rfl ?_;exact⟨rfl,(zA.refl _ w).alloc _⟩
end
section
variable {F:Nat->Prop}{w w':World}{d bl:Nat}{gs ws:List Nat}{wv kv:Value}{D:yL}
def zJg(D:yL)(bl cap:Nat)(wv kv:Value):Array Value :=
 #[.int .i64 D.blocks,.int .i64 D.size,.slice (some ⟨bl,0,none⟩) D.blocks cap,wv,.bool D.lit,.int .i64 D.after,.int .i64 D.torn,.int .i64 D.cut,kv,.bool D.off,.int .i64 D.count]
theorem DkR.struct(h:DkR w d bl gs ws wv kv D)(m:zA (λk=>k=d) w w')(lit off:Bool)(after torn cut count:Int)
  (hc:∀cap,zL w d (zJg D bl cap wv kv) 133 -> zL w' d (zJg { D with lit:=lit,after:=after,torn:=torn,cut:=cut,off:=off,count:=count } bl cap wv kv) 133) :
  DkR w' d bl gs ws wv kv { D with lit:=lit,after:=after,torn:=torn,cut:=cut,off:=off,count:=count }:=by
 have hn:=h.nodup;have hd:∀k,k∈bl :: (gs++ws)->k≠d:=λk hk e=>(tN.1 hn).1 (e ▸ hk)
 obtain⟨cap,a1,a2,a3,rest,a4,a5⟩:=h.own;exact⟨⟨cap,a1,a2,hc cap a3,rest,a4.mods m (hd bl uF),a5⟩,h.lenB,h.lenL,h.lenW,h.keep.mods m (λg hg e=>h.keep.2 g hg (e ▸ uF)),h.kw,h.few2,
  h.wait.mods m (λg hg e=>h.wait.2 g hg (e ▸ uF)),
  λi g b h1 h2=>⟨(h.row i g b h1 h2).1,(h.row i g b h1 h2).2.mods m (hd g (uI _ (tI _ (wM h1))))⟩,
  λi g p h1 h2=>⟨(h.wrow i g p h1 h2).1,(h.wrow i g p h1 h2).2.1,(h.wrow i g p h1 h2).2.2.mods m (hd g (uI _ (wZ _ (wM h1))))⟩,
  h.nodup,h.b8,h.b256,h.s256,h.s1024,h.few⟩
end
section
variable {F:Nat->Prop}{w w':World}{d bl:Nat}{gs ws:List Nat}{wv kv:Value}{D:yL}
theorem zMF(h:DkR w d bl gs ws wv kv D)(hl:D.lit=false) :
  Calls Tryz.prog 208 #[.pointer (some ⟨d,0,none⟩)] w λe w'=>e=.returned (.bool false)/\DkR w' d bl gs ws wv kv D.burns.2/\zA (λk=>k=d) w w':=by
 have HD:=oh h;obtain⟨cap,_,_,hb,_⟩:=h.own;have c4:=hb.cell (o:=4) rfl;rw[hl] at c4;have c5:=hb.cell (o:=5) rfl;have c10:=hb.cell (o:=10) rfl;have hfr:=hb.frozen;clear hb h
 go_enter Tryz.func208, Tryz.ntmps208
 go_wp2_with fail;go_ret;have hB:D.burns.2 = { D with lit:=D.lit,after:=wrap64 (D.after-1),torn:=D.torn,cut:=D.cut,off:=D.off,count:=wrap64 (D.count+1) }:=by
  unfold yL.burns;rw[hl];rfl
 have m2:zA (λk=>k=d) w ((w.setCell ⟨d,5,none⟩ (.int .i64 (wrap64 (D.after-1)))).setCell ⟨d,10,none⟩ (.int .i64 (wrap64 (D.count+1)))) :=
  ((zA.refl (λk=>k=d) w).setCell (p:=⟨d,5,none⟩) (.inr rfl) _).setCell (p:=⟨d,10,none⟩) (.inr rfl) _
 refine⟨rfl,?_,m2⟩;rw[hB];exact HD.out.struct m2 _ _ _ _ _ _ (λcap hb=>by simpa[zJg] using (hb.set 5 (.int .i64 (wrap64 (D.after-1)))).set 10 (.int .i64 (wrap64 (D.count+1))))
end
end Go.Proofs.YtchklfmggpconaaGreatDoor
