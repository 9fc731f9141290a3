import Derived.Test.YteabpacpngaoaaaGreatDoorC18
import Derived.Test.YteabpacpngaoaaaGreatDoorC14
namespace Go.Proofs.YteabpacpngaoaaaGreatDoor
open Lib renaming hid->oh
set_option maxRecDepth 100000
open Go.RowKit
def zAL(size:Nat)(g:Nat):Value:=.slice (some ⟨g,0,none⟩) size size
def yW(b:List UInt8):Array Value:=(b.map λx=>.int .u8 (x.toNat:Int)).toArray
def zKi(p:Nat × Nat × Nat):List Value:=[.int .i64 (p.1:Int),zAL p.2.1 p.2.2]
def zN3(b:Bool):List Value:=[.bool b]
structure DkR(w:World)(d bl:Nat)(gs ws:List Nat)(wv kv:Value)(D:zI):Prop where
 own:∃cap,D.blocks<=cap/\cap<=9223372036854775807 /\
  zH w d #[.int .i64 D.blocks,.int .i64 D.size,.slice (some ⟨bl,0,none⟩) D.blocks cap,wv,.bool D.lit,.int .i64 D.after,.int .i64 D.torn,.int .i64 D.cut,kv,.bool D.off,.int .i64 D.count] 102 /\
  ∃rest,zH w bl ((gs.map (zAL D.size))++rest).toArray 87 /\ gs.length+rest.length=cap
 lenB:gs.length=D.blocks
 lenL:D.lasting.length=D.blocks
 lenW:ws.length=D.waiting.length
 keep:yC (λk=>k∈d :: bl :: (gs++ws)) w 0 4 1 zN3 kv D.keep
 kw:∀g,kv.ownBlock=some g->wv.ownBlock≠some g
 few2:D.keep.length<=1000000
 wait:yC (λk=>k∈d :: bl :: (gs++ws)) w 0 146 2 zKi wv ((D.waiting.zip ws).map λp=>(p.1.1,D.size,p.2))
 row:∀(i g:Nat) (b:List UInt8),gs[i]? = some g->D.lasting[i]? = some b->b.length=D.size/\zH w g (yW b) 5
 wrow:∀(i g:Nat) (p:Nat × List UInt8),ws[i]? = some g->D.waiting[i]? = some p->p.1<D.blocks/\p.2.length=D.size/\zH w g (yW p.2) 5
 nodup:(d :: bl :: (gs++ws)).Nodup
 b8:8<=D.blocks
 b256:D.blocks<=256
 s256:256<=D.size
 s1024:D.size<=1024
 few:D.waiting.length<=1000000
def dkF(d bl:Nat)(gs ws:List Nat)(wv kv:Value):Nat->Prop:=λk=>k∈d :: bl :: (gs++ws)\/wv.ownBlock=some k\/kv.ownBlock=some k
theorem zGW(l:List UInt8):(l.flatMap zZ).toArray=yW l:=by
 rw[yW];congr 1;induction l with
 | nil=>rfl
 | cons x l ih=>rw[List.flatMap_cons,ih];rfl
theorem zDI{F:Nat->Prop}{w:World}(hF:Bd F w)(bv:Value)(l:List UInt8)(hb:Sl F w 1 zZ bv l)(h1:0<l.length)(h2:l.length<=100000) :
  Calls Tryz.prog 81 #[bv] w λe w'=>∃g,e=.returned (zAL l.length g)/\w.heap.size<=g/\g<w'.heap.size/\zH w' g (yW l) 5 /\ zF w w':=by
 obtain⟨a,cap,rfl,i1,i2,i3,i4⟩:=hb;obtain⟨ad,rfl⟩:∃ad,a=some ad:=by
  rcases i4 with h|⟨b,off,h,_⟩
  .rw[h] at h1;simp at h1
  .exact⟨_,h⟩
 have hs:Sl F w 1 zZ (.slice (some ad) l.length cap) l:=⟨_,cap,rfl,i1,i2,i3,i4⟩;have hmk:=zHS (P:=Tryz.prog) 87 5 (.int .u8 0) 1 Tryz.underlying87 Tryz.mkB rfl l.length (by omega) (by omega);have hcp:=zEW (P:=Tryz.prog) Tryz.elB 3 w.heap.size (Array.replicate l.length (.int .u8 0)) 5 l ad cap (zH.new w _ _) (by simp) (hs.mods ((zA.refl F w).alloc _));obtain⟨hc1,hc2⟩:=hcp;have HB:=oh hc2;have HM:Hid (zF w ((w.alloc (.cells (Array.replicate l.length (.int .u8 0)) 5)).setCells w.heap.size 0 (l.flatMap zZ))):=oh (zA.setMany (.inl (Nat.le_refl _)) _ _ _ ((zA.refl _ w).alloc _));have HF:=oh hF;unfold maxLen at i2;clear i4 hs hc2 hF
 go_enter Tryz.func81, Tryz.ntmps81
 go_wp2_with (at_builtin;refine Go.Lib.wpList_copy_run _ rfl _ _ 87 87 rfl _ _ rfl rfl hc1 ?_);go_wp2_with fail;go_ret;exact⟨w.heap.size,rfl,Nat.le_refl _,HB.out.lt,by rw[<- zGW];exact HB.out,HM.out⟩
section
variable {F G:Nat->Prop}{ad:Nat->Addr}{w:World}{d bl:Nat}{gs ws:List Nat}{wv kv:Value}{D:zI}
theorem DkR.blocks(h:DkR w d bl gs ws wv kv D):w.cell? ⟨d,0,none⟩=some (.int .i64 D.blocks):=by
 obtain⟨cap,_,_,hb,_⟩:=h.own;exact hb.cell (o:=0) rfl
theorem DkR.offC(h:DkR w d bl gs ws wv kv D):w.cell? ⟨d,9,none⟩=some (.bool D.off):=by
 obtain⟨cap,_,_,hb,_⟩:=h.own;exact hb.cell (o:=9) rfl
theorem zBa(hL:yG F ad w)(h:DkR w d bl gs ws wv kv D)(op:ByteArray)(i:Int) :
  Calls Tryz.prog 79 #[.pointer (some ⟨d,0,none⟩),.string op,.int .i64 i] w λe w'=>∃ev,e=.returned ev/\zBw F ad w' ev (D.check i)/\zF w w':=by
 have c0:=h.blocks;have g2:=hL.c2;have hb1:=h.b256;have HL:=oh hL;clear h hL;by_cases h1:i<0\/(D.blocks:Int)<=i
 .have HR:Hid (D.check i=some ([zB2 i],2)):=oh (by unfold zI.check;rw[if_pos h1];rfl);by_cases h2:i<0
  .clear h1
   go_enter Tryz.func79, Tryz.ntmps79
   go_wp2_with fail;refine (zAG HL.out _ _ _ _ 2 (.sent 2 (by decide) (by decide))).mono ?_;rintro e w1 ⟨f,rfl,hE,hm⟩;have HE:=oh hE;clear hE;go_wp2
   go_ret;exact⟨_,rfl,by rw[HR.out];exact⟨f,rfl,HE.out⟩,hm⟩
  .have h3:(D.blocks:Int)<=i:=by omega
   clear h1
   go_enter Tryz.func79, Tryz.ntmps79
   go_wp2_with fail;refine (zAG HL.out _ _ _ _ 2 (.sent 2 (by decide) (by decide))).mono ?_;rintro e w1 ⟨f,rfl,hE,hm⟩;have HE:=oh hE;clear hE;go_wp2
   go_ret;exact⟨_,rfl,by rw[HR.out];exact⟨f,rfl,HE.out⟩,hm⟩
 .have HR:Hid (D.check i=none):=oh (by unfold zI.check;rw[if_neg h1]);have h2:0<=i:=by omega
  have h3:i<(D.blocks:Int):=by omega
  clear h1
  go_enter Tryz.func79, Tryz.ntmps79
  go_wp2
  go_ret;exact⟨_,rfl,by rw[HR.out];rfl,zA.refl _ _⟩
theorem DkR.at(h:DkR w d bl gs ws wv kv D){w':World}(m:zF w w'):DkR w' d bl gs ws wv kv D:=by
 obtain⟨cap,a1,a2,a3,rest,a4,a5⟩:=h.own;exact⟨⟨cap,a1,a2,a3.ext m,rest,a4.ext m,a5⟩,h.lenB,h.lenL,h.lenW,h.keep.ext m,h.kw,h.few2,h.wait.ext m,
  λi g b h1 h2=>⟨(h.row i g b h1 h2).1,(h.row i g b h1 h2).2.ext m⟩,λi g p h1 h2=>⟨(h.wrow i g p h1 h2).1,(h.wrow i g p h1 h2).2.1,(h.wrow i g p h1 h2).2.2.ext m⟩,
  h.nodup,h.b8,h.b256,h.s256,h.s1024,h.few⟩
theorem zKj(hL:yG F ad w)(h:DkR w d bl gs ws wv kv D)(op:ByteArray)(i:Int) :
  Calls Tryz.prog 115 #[.pointer (some ⟨d,0,none⟩),.string op,.int .i64 i] w λe w'=>∃ev,e=.returned ev/\zBw F ad w' ev (D.on i)/\zF w w':=by
 have HL:=oh hL;have HD:=oh h;clear h hL;cases hc:D.check i with
 | some er =>
  have HR:Hid (D.on i=some er):=oh (by unfold zI.on;rw[hc])
  go_enter Tryz.func115, Tryz.ntmps115
  go_wp2_with fail;refine (zBa HL.out HD.out _ i).mono ?_;rintro e w1 ⟨ev,rfl,hE,hm⟩;rw[hc] at hE;obtain⟨el,ek⟩:=er;obtain⟨f,rfl,hE⟩:=hE;have HE:=oh hE;clear hE hc;go_wp2
  go_ret;exact⟨_,rfl,by rw[HR.out];exact⟨f,rfl,HE.out⟩,hm⟩
 | none =>
  cases ho:D.off with
  | true =>
   have HR:Hid (D.on i=some ([zB2 i],7)):=oh (by unfold zI.on;rw[hc,ho];rfl)
   go_enter Tryz.func115, Tryz.ntmps115
   go_wp2_with fail;refine (zBa HL.out HD.out _ i).mono ?_;rintro e w1 ⟨ev,rfl,hE,hm⟩;rw[hc] at hE;cases hE
   have c9:=(HD.out.at hm).offC;rw[ho] at c9;have HL1:=oh (HL.out.mods hm.ext);have g7:=HL1.out.c7;clear hc ho;go_wp2_with fail;refine (zAG HL1.out _ _ _ _ 7 (.sent 7 (by decide) (by decide))).mono ?_;rintro e w2 ⟨f,rfl,hE,hm2⟩;have HE:=oh hE;clear hE;go_wp2
   go_ret;exact⟨_,rfl,by rw[HR.out];exact⟨f,rfl,HE.out⟩,hm.trans hm2⟩
  | false =>
   have HR:Hid (D.on i=none):=oh (by unfold zI.on;rw[hc,ho];rfl)
   go_enter Tryz.func115, Tryz.ntmps115
   go_wp2_with fail;refine (zBa HL.out HD.out _ i).mono ?_;rintro e w1 ⟨ev,rfl,hE,hm⟩;rw[hc] at hE;cases hE
   have c9:=(HD.out.at hm).offC;rw[ho] at c9;clear hc ho;go_wp2_with fail;go_ret;exact⟨_,rfl,by rw[HR.out];rfl,hm⟩
end
section
variable {F:Nat->Prop}{ad:Nat->Addr}{w:World}{d bl:Nat}{gs ws:List Nat}{wv kv:Value}{D:zI}
theorem zPZ(x:Nat × Nat × Nat):(zKi x).length=2:=rfl
theorem DkR.lastC(h:DkR w d bl gs ws wv kv D)(i:Nat)(hi:i<D.blocks):∃g b cap,gs[i]? = some g/\D.lasting[i]? = some b /\
  w.cell? ⟨d,2,none⟩=some (.slice (some ⟨bl,0,none⟩) D.blocks cap)/\D.blocks<=cap/\cap<=9223372036854775807/\w.cell? ⟨bl,i,none⟩=some (zAL D.size g)/\b.length=D.size/\zH w g (yW b) 5:=by
 obtain⟨cap,a1,a2,a3,rest,a4,a5⟩:=h.own;have h1:i<gs.length:=by rw[h.lenB];exact hi
 have h2:i<D.lasting.length:=by rw[h.lenL];exact hi
 have hr:=h.row i gs[i] D.lasting[i] (List.getElem?_eq_getElem h1) (List.getElem?_eq_getElem h2);refine⟨gs[i],D.lasting[i],cap,List.getElem?_eq_getElem h1,List.getElem?_eq_getElem h2,a3.cell (o:=2) rfl,a1,a2,a4.cell ?_,hr.1,hr.2⟩;rw[List.getElem?_toArray,List.getElem?_append_left (by simpa using h1)];simp[h1]
theorem zDW{G:Nat->Prop}{g size:Nat}{b:List UInt8}(hg:zH w g (yW b) 5)(hb:b.length=size)(hG:¬ G g)(hs:size<=1000000):Sl G w 1 zZ (zAL size g) b:=by
 subst hb;refine⟨_,b.length,rfl,Nat.le_refl _,by simp[maxLen];omega,by omega,.inr ⟨g,0,rfl,hg.lt,hG,λi x hi j u hu=>?_⟩⟩;have hj:j=0:=by
  have:=(List.getElem?_eq_some_iff.1 hu).1;simp[zZ] at this;omega
 subst hj;simp[zZ] at hu;subst hu;have:=hg.cell (o:=i) (v:=.int .u8 (x.toNat:Int)) (by simp[yW,hi]);simpa using this
theorem DkR.waitC(h:DkR w d bl gs ws wv kv D)(k:Nat)(p:Nat × List UInt8)(hk:D.waiting[k]? = some p):∃b off n c g,wv=.slice (some ⟨b,off,none⟩) n c/\ws[k]? = some g /\
  w.cell? ⟨b,off+k * 2,none⟩=some (.int .i64 (p.1:Int))/\w.cell? ⟨b,off+k * 2+1,none⟩=some (zAL D.size g)/\p.2.length=D.size/\zH w g (yW p.2) 5:=by
 have hlt:k<D.waiting.length:=(List.getElem?_eq_some_iff.1 hk).1;have hw:k<ws.length:=by rw[h.lenW];exact hlt
 have hfew:=h.few;have hS:=h.wait.sl zPZ (by simp;omega);obtain⟨a,c,he,_,_,_,h4⟩:=hS;have hz:((D.waiting.zip ws).map λp=>(p.1.1,D.size,p.2))[k]? = some (p.1,D.size,ws[k]):=by
  obtain⟨hlt',hp⟩:=List.getElem?_eq_some_iff.1 hk;simp[hk,hw,List.zip,List.getElem?_zipWith]
 rcases h4 with h4|⟨b,off,ha,hb,hF,hc⟩
 .rw[h4] at hz;simp at hz
 .subst ha;have c0:=hc k _ hz 0 (.int .i64 (p.1:Int)) rfl;have c1:=hc k _ hz 1 (zAL D.size ws[k]) rfl;have hr:=h.wrow k ws[k] p (List.getElem?_eq_getElem hw) hk;exact⟨b,off,_,c,ws[k],he,List.getElem?_eq_getElem hw,by simpa using c0,c1,hr.2⟩
theorem DkR.wvC(h:DkR w d bl gs ws wv kv D):w.cell? ⟨d,3,none⟩=some wv/\∃a c,wv=.slice a D.waiting.length c:=by
 obtain⟨cap,_,_,hb,_⟩:=h.own;obtain⟨a,c,h1,_⟩:=h.wait.form;refine⟨hb.cell (o:=3) rfl,a,c,?_⟩;rw[h1];simp[h.lenW]
end
section
variable {F G:Nat->Prop}{ad:Nat->Addr}{w:World}{d bl:Nat}{gs ws:List Nat}{wv kv:Value}{D:zI}
theorem zN5(hL:yG F ad w)(h:DkR w d bl gs ws wv kv D)(i:Nat)(hi:i<D.blocks)(ho:D.off=false) :
  Calls Tryz.prog 157 #[.pointer (some ⟨d,0,none⟩),.int .i64 (i:Int)] w λe w'=>∃g,e=.returned (.tuple #[zAL D.size g,.nilIface])/\w.heap.size<=g/\zH w' g (yW (D.look i)) 5 /\ (D.look i).length=D.size/\zF w w':=by
 have hon:D.on i=none:=by
  unfold zI.on zI.check;rw[if_neg (by omega),ho];rfl
 have HL:=oh hL;have HD:=oh h;have hfew:=h.few;obtain⟨_,a,c,rfl⟩:=h.wvC;have h256:=h.b256;clear h hL
 go_enter Tryz.func157, Tryz.ntmps157
 go_wp2_with fail;refine (zKj HL.out HD.out _ i).mono ?_;rintro e w1 ⟨ev,rfl,hE,hm⟩;rw[hon] at hE;cases hE
 have HD1:=oh (HD.out.at hm);have c3:=HD1.out.wvC.1;obtain⟨n,hn⟩:∃n,n=D.waiting.length:=⟨_,rfl⟩;rw[<- hn] at c3 hfew;have HN:=oh hn;have HM1:=oh hm;have HBd:Hid (Bd (λ_=>False) w1):=oh (λ_ f=>f.elim);have hs1:=h256;have hsz:D.size<=1024:=HD1.out.s1024;have hsz2:256<=D.size:=HD1.out.s256;clear hon hm hn;go_wp2_with fail;go_loopg [7] n (λm v wr=>wr=w1/\v=.int .i64 ((m:Int)-1)/\m<=n/\Hid (∀(j:Nat) (p:Nat × List UInt8),m<=j->D.waiting[j]? = some p->p.1≠i))
 case atStart=>exact⟨rfl,rfl,Nat.le_refl _,oh (λj p hj hp=>by have:=(List.getElem?_eq_some_iff.1 hp).1;have:=HN.out;omega)⟩
 case round =>
  obtain⟨rfl,rfl,hmn,HQ⟩:=hrel;by_cases h0:0<gk
  .obtain⟨m,rfl⟩:∃m,gk=m+1:=⟨gk-1,by omega⟩;have hlt:m<D.waiting.length:=by have:=HN.out;omega
   obtain⟨p,hp⟩:∃p,D.waiting[m]? = some p:=⟨_,List.getElem?_eq_getElem hlt⟩;obtain⟨b,off,n',c',g,he,hg,e0,e1,hlen,hblk⟩:=HD1.out.waitC m p hp;simp only[Value.slice.injEq] at he;obtain⟨rfl,hn',rfl⟩:=he;have hm1:(((m+1:Nat):Int)-1)=(m:Int):=by omega
   rw[hm1];obtain⟨pj,pb⟩:=p;have HP:=oh hp;have HK:=oh hblk;have HLn:Hid (pb.length=D.size):=oh hlen;clear hm1 hp hg hblk hlen hn';by_cases hpi:pj=i
   .subst hpi;have HLk:Hid (D.look pj=pb):=oh (by unfold zI.look;rw[zPC pj D.waiting m pb HP.out (λj p h1 h2=>HQ.out j p (by omega) h2)];rfl);go_wp2_with fail;refine (zDI HBd.out (zAL D.size g) pb (zDW HK.out HLn.out (λf=>f) (by omega)) (by have:=HLn.out;omega) (by have:=HLn.out;omega)).mono ?_;rintro e w2 ⟨g2,rfl,hg2,hg3,hB2,hm2⟩;rw[HLn.out];have HB2:=oh hB2;have HG2:=oh hg2;clear hB2 hg2 hg3;go_wp2_with fail;go_ret2
    exact⟨g2,rfl,Nat.le_trans HM1.out.size HG2.out,by rw[HLk.out];exact HB2.out,by rw[HLk.out];exact HLn.out,HM1.out.trans hm2⟩
   .go_wp2_with fail;go_roundg m
    case measure=>omega
    case rel=>exact⟨rfl,by go_num,by omega,oh (λj p h1 h2=>by
     by_cases e:j=m
     .subst e;rw[HP.out] at h2;injection h2 with h2;rw[<- h2];exact hpi
     .exact HQ.out j p (by omega) h2)⟩
  .obtain rfl:gk=0:=by omega
   obtain⟨g,b,cap,k1,k2,k3,k4,k5,k6,k7,k8⟩:=HD1.out.lastC i hi;have HLk:Hid (D.look i=b):=oh (by
    unfold zI.look;rw[zDl i D.waiting (λp hp=>by obtain⟨j,hj,he⟩:=List.getElem_of_mem hp;exact HQ.out j p (Nat.zero_le _) (by rw[<- he];exact List.getElem?_eq_getElem hj))];simp[k2])
   have hm1:(((0:Nat):Int)-1) = -1:=by omega
   rw[hm1];have HLn:=oh k7;have HK:=oh k8;clear k1 k2 k7 k8 hm1 h0 hmn;go_wp2_with fail;refine (zDI HBd.out (zAL D.size g) b (zDW HK.out HLn.out (λf=>f) (by omega)) (by have:=HLn.out;omega) (by have:=HLn.out;omega)).mono ?_;rintro e w2 ⟨g2,rfl,hg2,hg3,hB2,hm2⟩;rw[HLn.out];have HB2:=oh hB2;have HG2:=oh hg2;clear hB2 hg2 hg3;go_wp2_with fail;go_ret2
   exact⟨g2,rfl,Nat.le_trans HM1.out.size HG2.out,by rw[HLk.out];exact HB2.out,by rw[HLk.out];exact HLn.out,HM1.out.trans hm2⟩
end
section
variable {F:Nat->Prop}{w:World}{d bl:Nat}{gs ws:List Nat}{wv kv:Value}{D:zI}
theorem DkR.sizeC(h:DkR w d bl gs ws wv kv D):w.cell? ⟨d,1,none⟩=some (.int .i64 D.size):=by
 obtain⟨cap,_,_,hb,_⟩:=h.own;exact hb.cell (o:=1) rfl
theorem Tryz.geoSize:(Tryz.prog.info? 24).map (·.size)=some 2:=by kernel_rfl
theorem zN6(h:DkR w d bl gs ws wv kv D) :
  Calls Tryz.prog 45 #[.pointer (some ⟨d,0,none⟩)] w λe w'=>e=.returned (.agg #[.int .i64 D.blocks,.int .i64 D.size])/\zF w w':=by
 have c0:=h.blocks;have c1:=h.sizeC;have hdl:d<w.heap.size:=yH c0;clear h
 go_enter Tryz.func45, Tryz.ntmps45
 go_wp2_with fail;refine bodyPost_ret (results_cell_row rfl _ _ w.heap.size 24 #[.int .i64 D.blocks,.int .i64 D.size] (0,0) _ rfl (zH.new w _ _) Tryz.underlying24 rfl Tryz.geoSize) rfl ?_;exact⟨rfl,(zA.refl _ w).alloc _⟩
end
section
variable {F:Nat->Prop}{w w':World}{d bl:Nat}{gs ws:List Nat}{wv kv:Value}{D:zI}
def zEo(D:zI)(bl cap:Nat)(wv kv:Value):Array Value :=
 #[.int .i64 D.blocks,.int .i64 D.size,.slice (some ⟨bl,0,none⟩) D.blocks cap,wv,.bool D.lit,.int .i64 D.after,.int .i64 D.torn,.int .i64 D.cut,kv,.bool D.off,.int .i64 D.count]
theorem DkR.struct(h:DkR w d bl gs ws wv kv D)(m:zA (λk=>k=d) w w')(lit off:Bool)(after torn cut count:Int)
  (hc:∀cap,zH w d (zEo D bl cap wv kv) 102 -> zH w' d (zEo { D with lit:=lit,after:=after,torn:=torn,cut:=cut,off:=off,count:=count } bl cap wv kv) 102) :
  DkR w' d bl gs ws wv kv { D with lit:=lit,after:=after,torn:=torn,cut:=cut,off:=off,count:=count }:=by
 have hn:=h.nodup;have hd:∀k,k∈bl :: (gs++ws)->k≠d:=λk hk e=>(List.nodup_cons.1 hn).1 (e ▸ hk)
 obtain⟨cap,a1,a2,a3,rest,a4,a5⟩:=h.own;exact⟨⟨cap,a1,a2,hc cap a3,rest,a4.mods m (hd bl List.mem_cons_self),a5⟩,h.lenB,h.lenL,h.lenW,h.keep.mods m (λg hg e=>h.keep.2 g hg (e ▸ List.mem_cons_self)),h.kw,h.few2,
  h.wait.mods m (λg hg e=>h.wait.2 g hg (e ▸ List.mem_cons_self)),
  λi g b h1 h2=>⟨(h.row i g b h1 h2).1,(h.row i g b h1 h2).2.mods m (hd g (List.mem_cons_of_mem _ (List.mem_append_left _ (List.mem_of_getElem? h1))))⟩,
  λi g p h1 h2=>⟨(h.wrow i g p h1 h2).1,(h.wrow i g p h1 h2).2.1,(h.wrow i g p h1 h2).2.2.mods m (hd g (List.mem_cons_of_mem _ (List.mem_append_right _ (List.mem_of_getElem? h1))))⟩,
  h.nodup,h.b8,h.b256,h.s256,h.s1024,h.few⟩
end
section
variable {F:Nat->Prop}{w w':World}{d bl:Nat}{gs ws:List Nat}{wv kv:Value}{D:zI}
theorem zHX(h:DkR w d bl gs ws wv kv D)(hl:D.lit=false) :
  Calls Tryz.prog 72 #[.pointer (some ⟨d,0,none⟩)] w λe w'=>e=.returned (.bool false)/\DkR w' d bl gs ws wv kv D.burns.2/\zA (λk=>k=d) w w':=by
 have HD:=oh h;obtain⟨cap,_,_,hb,_⟩:=h.own;have c4:=hb.cell (o:=4) rfl;rw[hl] at c4;have c5:=hb.cell (o:=5) rfl;have c10:=hb.cell (o:=10) rfl;have hfr:=hb.frozen;clear hb h
 go_enter Tryz.func72, Tryz.ntmps72
 go_wp2_with fail;go_ret;have hB:D.burns.2 = { D with lit:=D.lit,after:=wrap64 (D.after-1),torn:=D.torn,cut:=D.cut,off:=D.off,count:=wrap64 (D.count+1) }:=by
  unfold zI.burns;rw[hl];rfl
 have m2:zA (λk=>k=d) w ((w.setCell ⟨d,5,none⟩ (.int .i64 (wrap64 (D.after-1)))).setCell ⟨d,10,none⟩ (.int .i64 (wrap64 (D.count+1)))) :=
  ((zA.refl (λk=>k=d) w).setCell (p:=⟨d,5,none⟩) (.inr rfl) _).setCell (p:=⟨d,10,none⟩) (.inr rfl) _
 refine⟨rfl,?_,m2⟩;rw[hB];exact HD.out.struct m2 _ _ _ _ _ _ (λcap hb=>by simpa[zEo] using (hb.set 5 (.int .i64 (wrap64 (D.after-1)))).set 10 (.int .i64 (wrap64 (D.count+1))))
end
theorem p8:∀r:Nat,r<8->((2:Int) ^ r % 256)=((2 ^ r:Nat):Int)/\2 ^ r<256:=by decide
set_option maxHeartbeats 1600000 in
theorem zPa{F:Nat->Prop}{w:World}(hF:Bd F w)(m:vF)(hm:zAa m=true)(uv:Value)(hu:Sl F w 1 yK uv (yA m)) :
  Calls Tryz.prog 137 #[zB5 m uv] w λe w'=>∃v,e=.returned v/\Sl F w' 1 zZ v (zCg m.blocks m.used)/\(zCg m.blocks m.used).length=(m.blocks+7) / 8/\zF w w':=by
 obtain⟨o1,o2,o3,o4,o5,o6⟩:=(jC m).1 hm;have hlen:m.used.length<=m.blocks:=zDd m.used 0 m.blocks o5 (λn hn=>⟨Nat.zero_le _,o6 n hn⟩) (Nat.zero_le _);have HU:=oh hu;have hul:(yA m).length=m.used.length:=by unfold yA;rw[List.length_map]
 have HUG:Hid (∀(k x:Nat),m.used[k]? = some x->(yA m)[k]? = some (x:Int)):=oh (λk x h=>by unfold yA;rw[List.getElem?_map,h];rfl);have HLT:Hid (∀(k x:Nat),m.used[k]? = some x->x<m.blocks):=oh (λk x h=>o6 x (List.mem_of_getElem? h));have HGE:Hid (∀k:Nat,k<m.used.length->∃x,m.used[k]? = some x):=oh (λk h=>⟨_,List.getElem?_eq_getElem h⟩);obtain⟨ua,uc,rfl,i1,i2,i3, -⟩:=hu;unfold maxLen at i2;have HUL:=oh hul;rw[hul] at HU i1 i3 ⊢;obtain⟨g,b,u⟩:=m;simp only at *;unfold zB5;simp only;obtain⟨n,hn⟩:∃n,n=u.length:=⟨_,rfl⟩;have HNU:=oh hn;rw[<- hn] at hlen o3 i1 i3 HGE HUL HU ⊢;obtain⟨z,hz⟩:∃z,z=(b+7) / 8:=⟨_,rfl⟩;have HZ:=oh hz;have hz1:((b:Int)+7) / 8=(z:Int):=by omega
 have hz2:((b:Int)+7).tdiv 8=(z:Int):=by rw[Int.tdiv_eq_ediv_of_nonneg (by omega)];exact hz1
 have hz3:1<=z/\z<=32:=by omega
 have hz8:b<=8 * z:=by omega
 have HF:=oh hF;have HST:Hid (∀(k x:Nat),u[k]? = some x->(u.take (k+1)).foldl orB (List.replicate z 0)=orB ((u.take k).foldl orB (List.replicate z 0)) x):=oh (λk x h=>by
  obtain⟨h1,h2⟩:=List.getElem?_eq_some_iff.1 h;rw[List.take_succ_eq_append_getElem h1,List.foldl_append,h2];rfl)
 clear o4 o5 o6 hm hul hn hz hF;have hmk:=zHS (P:=Tryz.prog) 87 5 (.int .u8 0) 1 Tryz.underlying87 Tryz.mkB rfl z (by omega) (by omega);obtain⟨W0,hW0⟩:∃W0,W0=(w.alloc (.cells #[.int .u64 (g:Int),.int .i64 (b:Int),.slice ua n uc] 106)).alloc (.cells (Array.replicate z (.int .u8 0)) 5):=⟨_,rfl⟩;have hM0:zF w W0:=by rw[hW0];exact ((zA.refl _ w).alloc _).alloc _
 have hB0:zH W0 (w.heap.size+1) (yW (List.replicate z 0)) 5:=by
  rw[hW0];have e:yW (List.replicate z 0)=Array.replicate z (.int .u8 0):=by unfold yW;simp
  rw[e];exact zR (by simp)
 have HB0:=oh hB0;have HM0:=oh hM0;have hs0:W0.heap.size=w.heap.size+2:=by rw[hW0];simp
 clear hB0 hM0
 go_enter Tryz.func137, Tryz.ntmps137
 go_wp2_with fail;rw[<- hW0];clear hW0;obtain⟨X,hX⟩:∃X,X=w.heap.size+1:=⟨_,rfl⟩;rw[<- hX] at HB0 ⊢;have hXw:w.heap.size<X:=by omega
 have HXW:=oh hXw;clear hX;go_loopg [14] n (λr v14 wr=>∃(k:Nat) (l:List UInt8),k+r=n/\v14=.int .i64 k/\Hid (l=(u.take k).foldl orB (List.replicate z 0)/\l.length=z)/\Hid (zA (λx=>x=X) W0 wr/\zH wr X (yW l) 5))
 case atStart=>exact⟨0,List.replicate z 0,by omega,rfl,oh ⟨rfl,by simp⟩,oh ⟨zA.refl _ _,HB0.out⟩⟩
 case round =>
  obtain⟨k,l,hk,rfl,HL,HW⟩:=hrel;by_cases hlt:k<n
  .obtain⟨x,hx⟩:=HGE.out k hlt;have hxb:=HLT.out k x hx;have hMr:zF w wr:=HM0.out.trans' HW.out.1 (λi hi h=>by have:=HXW.out;omega);obtain⟨qb,qoff,hqa,hc⟩:=HU.out.elem (k:=k) (by rw[HUL.out];exact hlt) hMr;have d0:=hc 0 (.int .i64 x) (by
    have:=HUG.out k x hx;obtain⟨h1,h2⟩:=List.getElem?_eq_some_iff.1 this;rw[h2];rfl)
   simp only[Nat.add_zero,Nat.mul_one] at d0;subst hqa;obtain⟨p,hp⟩:∃p,p=x / 8:=⟨_,rfl⟩;obtain⟨r,hr⟩:∃r,r=x % 8:=⟨_,rfl⟩;have t1:(x:Int) / 8=(p:Int):=by omega
   have t2:(x:Int).tdiv 8=(p:Int):=by rw[Int.tdiv_eq_ediv_of_nonneg (by omega)];exact t1
   have t3:(x:Int) % 8=(r:Int):=by omega
   have t4:(x:Int).tmod 8=(r:Int):=by rw[Int.tmod_eq_emod_of_nonneg (by omega)];exact t3
   have hpz:p<z:=by omega
   have hr8:r<8:=by omega
   have HP:=oh hp;have HR:=oh hr;obtain⟨y,hy⟩:∃y,l[p]? = some y:=⟨_,List.getElem?_eq_getElem (by rw[HL.out.2];exact hpz)⟩;have c0:wr.cell? ⟨X,p,none⟩=some (.int .u8 (y.toNat:Int)):=HW.out.2.cell (by rw[yW];simp[hy]);have fz:=HW.out.2.frozen;have hy8:=y.toNat_lt;have HY:=oh hy;have u0:(0:Int)<=(p:Int):=by omega
   have u1:(p:Int)<(z:Int):=by omega
   have hval:bits .or .u8 (y.toNat:Int) (2 ^ r % 256)=((y.toNat ||| 2 ^ r:Nat):Int):=by
    rw[(p8 r hr8).1];exact u8_or_nat _ _ hy8 (p8 r hr8).2
   have HVAL:=oh hval;have HNX:Hid (zA (λx=>x=X) W0 (wr.setCell ⟨X,p,none⟩ (.int .u8 ((y.toNat ||| 2 ^ r:Nat):Int)))/\zH (wr.setCell ⟨X,p,none⟩ (.int .u8 ((y.toNat ||| 2 ^ r:Nat):Int))) X (yW (orB l x)) 5):=oh (by
    refine⟨HW.out.1.setCell (.inr rfl) _,?_⟩;have e:=HW.out.2.set p (.int .u8 ((y.toNat ||| 2 ^ r:Nat):Int));have e2:(yW l).setIfInBounds p (.int .u8 ((y.toNat ||| 2 ^ r:Nat):Int))=yW (orB l x):=by
     unfold orB yW;rw[<- HP.out,<- HR.out,show l.getD p 0=y by simp[List.getD,HY.out],List.map_set,List.setIfInBounds_toArray,UInt8.toNat_ofNat',Nat.mod_eq_of_lt (Nat.or_lt_two_pow (n:=8) hy8 (p8 r hr8).2)]
    rw[e2] at e;exact e)
   have HLX:Hid (orB l x=(u.take (k+1)).foldl orB (List.replicate z 0)/\(orB l x).length=z):=oh ⟨by rw[HST.out k x hx,<- HL.out.1],by rw[zFF];exact HL.out.2⟩;clear hc hx hMr hp hr hy hval;go_wp2_with fail;go_region
   rw[HVAL.out];go_wp2_with fail;go_roundg (gk-1)
   case measure=>omega
   case rel=>exact⟨k+1,orB l x,by omega,by go_num,HLX,oh ⟨HNX.out.1.drew,HNX.out.2⟩⟩
  .obtain rfl:k=n:=by omega
   go_wp2_with fail;go_ret;have hl:l=zCg b u:=by rw[HL.out.1,HNU.out,List.take_length,HZ.out];rfl
   rw[<- hl];exact⟨_,rfl,zDW HW.out.2 HL.out.2 (λh=>by have:=HF.out _ h;have:=HXW.out;omega) (by omega),by rw[HL.out.2,HZ.out],HM0.out.trans' HW.out.1 (λi hi h=>by have:=HXW.out;omega)⟩
end Go.Proofs.YteabpacpngaoaaaGreatDoor
