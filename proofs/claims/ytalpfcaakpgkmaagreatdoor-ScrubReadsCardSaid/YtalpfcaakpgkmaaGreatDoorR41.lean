import Derived.Test.YtalpfcaakpgkmaaGreatDoorR40
namespace Go.Proofs.YtalpfcaakpgkmaaGreatDoor
open Lib renaming hid->oh
section
open Go.RowKit
attribute [local go_sem ↓] Go.wp_at_zero Go.wp_at_succ
theorem Tryz.mkP:(Tryz.prog.info? 48).map (λi=>(i.zero,i.size,i.bytes))=some (some (.agg #[.string ⟨#[]⟩,.string ⟨#[]⟩]),2,32):=by kernel_rfl
theorem Tryz.elP:ElT Tryz.prog 22 48 (.agg #[.string ⟨#[]⟩,.string ⟨#[]⟩]) 2 32:=⟨Tryz.underlying22,Tryz.mkP,rfl,by decide,by decide⟩
section
variable {F:NP}{w w' wr w2:World}
def zQ7(w:World)(l:List zL)(e:Ending)(w':World):Prop:=∃v,e=.returned v/\yC NoF w' w.heap.size 48 2 zCE v l/\zF w w'
set_option maxRecDepth 100000 in
set_option maxHeartbeats 2000000 in
theorem zQ8(l:List zL)(lv:Value)(hl:Sl F w 2 zCE lv l)(B7:l.length<=1000)(key value:ByteArray)(over:Bool) :
  Calls Tryz.prog 40 #[lv,.string key,.string value,.bool over] w (zQ7 w (yV key value over l)):=by
 obtain⟨la,lc,rfl,h1,h2,h3,Av⟩:=hl;unfold maxLen at h2;have B8:=oh Av;clear Av
 go_enter Tryz.func40, Tryz.ntmps40
 go_wp2_with fail;have B9:Hid (yC NoF (w.alloc (.cells #[] 48)) w.heap.size 48 2 zCE (.slice (some ⟨w.heap.size,0,none⟩) 0 0) []):=oh
  (yC.made (l:=([]:List zL)) (cur:=#[]) (cap:=0) (zS (by simp)) (by omega) (λf=>f) (uD _) (by simp[maxLen]) (by simp) (by simp) (λ_=>rfl))
 have Ba:Hid (zF w (w.alloc (.cells #[] 48))):=oh ((zss w).alloc _);go_loopg [9,10,11] l.length (λm v9 v10 v11 wr=>∃(k:Nat) (dn:Bool) (out:List zL),k+m=l.length/\v11=.int .i64 (k:Int)/\v10=.bool dn/\Hid (yC NoF wr w.heap.size 48 2 zCE v9 out/\zF w wr/\zCA key value over l k dn out))
 case atStart=>exact⟨0,false,[],by omega,rfl,rfl,oh ⟨B9.out,Ba.out,zCA.start⟩⟩
 case round =>
  obtain⟨k,dn,out,Bk,rfl,rfl,HS⟩:=hrel;by_cases A5:k<l.length
  .obtain⟨b,off,rfl,hb,hF,hc⟩:=Sl.at B8.out HS.out.2.1 (λ_ _ f=>f.elim) k A5;obtain⟨x,hx⟩:∃x,l[k]? = some x:=⟨_,uB A5⟩;have hx':l[k]=x:=by rw[uB A5] at hx;exact Option.some.inj hx
   rw[hx'] at hc;have c0:=hc 0 _ rfl;simp only[uT] at c0;have c1:=hc 1 _ rfl;have HX:=oh hx;have Ad:Hid (out.length<=k+1):=oh (by have:=HS.out.2.2.1;omega);clear hc hx hx';have i1:(0:Int)<=(k:Int):=by omega
   have i2:(k:Int)<(l.length:Int):=by omega
   have A8:Hid (w.heap.size<=wr.heap.size):=oh HS.out.2.1.size;cases dn with
   | true =>
    go_wp2_with (at_builtin;refine yX Tryz.elP zDi rfl _ _ rfl w.heap.size _ _ out [x] rfl rfl (HS.out.1.ext (zr.alloc _)) (Sl.one (F:=NoF) (zS (by simp)) (λf=>f)) (by have:=Ad.out;simp only[uG,uL];omega) (by have:=hb;have:=A8.out;simp;omega) (λf=>f) ?_;intro a4 c4 w4 A2 A0 A1);have A6:Hid (yC NoF w4 w.heap.size 48 2 zCE _ _/\zF w w4/\zCA key value over l (k+1) true (out++[x])):=oh ⟨A2,(HS.out.2.1.alloc _).trans' A0 (λi hi e=>by have:=(HS.out.1.lt i e).1;omega),HS.out.2.2.pass HX.out⟩;clear A2 A0 A1;go_wp2_with fail;go_roundg (gk-1)
    case measure=>omega
    case rel=>exact⟨k+1,true,_,by omega,by go_num,rfl,A6⟩
   | false =>
    by_cases hl:ltS x.1 key=true
    .have e1:Op.bytesLess x.1.toList key.toList=true:=hl;have HE:=oh hl;clear hl;go_wp2_with (at_builtin;refine yX Tryz.elP zDi rfl _ _ rfl w.heap.size _ _ out [x] rfl rfl (HS.out.1.ext (zr.alloc _)) (Sl.one (F:=NoF) (zS (by simp)) (λf=>f)) (by have:=Ad.out;simp only[uG,uL];omega) (by have:=hb;have:=A8.out;simp;omega) (λf=>f) ?_;intro a4 c4 w4 A2 A0 A1);have A6:Hid (yC NoF w4 w.heap.size 48 2 zCE _ _/\zF w w4/\zCA key value over l (k+1) false (out++[x])):=oh ⟨A2,(HS.out.2.1.alloc _).trans' A0 (λi hi e=>by have:=(HS.out.1.lt i e).1;omega),HS.out.2.2.lt HX.out HE.out⟩;clear A2 A0 A1;go_wp2_with fail;go_roundg (gk-1)
     case measure=>omega
     case rel=>exact⟨k+1,false,_,by omega,by go_num,rfl,A6⟩
    .have hl':ltS x.1 key=false:=by simpa using hl
     have e1:Op.bytesLess x.1.toList key.toList=false:=hl';have HE:=oh hl';clear hl hl';by_cases hk:x.1=key
     .obtain⟨xk,xv⟩:=x;simp only at hk;subst hk;cases over with
      | true =>
       go_wp2_with (at_builtin;refine yX Tryz.elP zDi rfl _ _ rfl w.heap.size _ _ out [(xk,value)] rfl rfl (HS.out.1.ext (zr.alloc _)) (Sl.one (F:=NoF) (zS (by simp)) (λf=>f)) (by have:=Ad.out;simp only[uG,uL];omega) (by have:=A8.out;simp;omega) (λf=>f) ?_;intro a4 c4 w4 A2 A0 A1;have y0:=zEW A0 (zE ((zss wr).alloc (.cells #[.string xk,.string value] 48)) c0) (λe=>by have:=(HS.out.1.lt _ e).1;omega);have y1:=zEW A0 (zE ((zss wr).alloc (.cells #[.string xk,.string value] 48)) c1) (λe=>by have:=(HS.out.1.lt _ e).1;omega));have A6:Hid (yC NoF w4 w.heap.size 48 2 zCE _ _/\zF w w4/\zCA xk value true l (k+1) true (out++[(xk,value)])):=oh ⟨A2,(HS.out.2.1.alloc _).trans' A0 (λi hi e=>by have:=(HS.out.1.lt i e).1;omega),HS.out.2.2.eqO HX.out rfl⟩;clear A2 A0 A1;go_wp2_with fail;go_roundg (gk-1)
       case measure=>omega
       case rel=>exact⟨k+1,true,_,by omega,by go_num,rfl,A6⟩
      | false =>
       go_wp2_with (at_builtin;refine yX Tryz.elP zDi rfl _ _ rfl w.heap.size _ _ out [(xk,xv)] rfl rfl (HS.out.1.ext (zr.alloc _)) (Sl.one (F:=NoF) (zS (by simp)) (λf=>f)) (by have:=Ad.out;simp only[uG,uL];omega) (by have:=A8.out;simp;omega) (λf=>f) ?_;intro a4 c4 w4 A2 A0 A1);have A6:Hid (yC NoF w4 w.heap.size 48 2 zCE _ _/\zF w w4/\zCA xk value false l (k+1) true (out++[(xk,xv)])):=oh ⟨A2,(HS.out.2.1.alloc _).trans' A0 (λi hi e=>by have:=(HS.out.1.lt i e).1;omega),HS.out.2.2.eqN HX.out rfl⟩;clear A2 A0 A1;go_wp2_with fail;go_roundg (gk-1)
       case measure=>omega
       case rel=>exact⟨k+1,true,_,by omega,by go_num,rfl,A6⟩
     .have Am:ltS key x.1=true:=(zDX HE.out).resolve_right hk;have e2:Op.bytesLess key.toList x.1.toList=true:=Am;have e3:¬ x.1.toList=key.toList:=λe=>hk (toList_inj e)
      have e4:¬ x.1=key:=hk;have HK:=oh hk;clear hk Am;go_wp2_with (first|(at_builtin;refine yX Tryz.elP zDi rfl _ _ rfl w.heap.size _ _ out [(key,value)] rfl rfl (HS.out.1.ext (zr.alloc _)) (Sl.one (F:=NoF) (zS (by simp)) (λf=>f)) (by have:=Ad.out;simp only[uG,uL];omega) (by have:=A8.out;simp;omega) (λf=>f) ?_;intro a4 c4 w4 A2 A0 A1;have y0:=zEW A0 (zE ((zss wr).alloc (.cells #[.string key,.string value] 48)) c0) (λe=>by have:=(HS.out.1.lt _ e).1;omega);have y1:=zEW A0 (zE ((zss wr).alloc (.cells #[.string key,.string value] 48)) c1) (λe=>by have:=(HS.out.1.lt _ e).1;omega))|(at_builtin;refine yX Tryz.elP zDi rfl _ _ rfl w.heap.size _ _ (out++[(key,value)]) [x] rfl rfl (A2.ext (zr.alloc _)) (Sl.one (F:=NoF) (zS (by simp)) (λf=>f)) (by have:=Ad.out;simp only[uC,uG,uL];omega) (by have:=A0.size;have:=A8.out;simp at *;omega) (λf=>f) ?_;intro a5 c5 w5 Aw Ax Aq));have Ay:Hid (yC NoF w4 w.heap.size 48 2 zCE _ (out++[(key,value)])/\zF w w4):=oh ⟨A2,(HS.out.2.1.alloc _).trans' A0 (λi hi e=>by have:=(HS.out.1.lt i e).1;omega)⟩;have A6:Hid (yC NoF w5 w.heap.size 48 2 zCE (.slice a5 (out.length+1+1) c5) (out++[(key,value)]++[x])/\zF w w5/\zCA key value over l (k+1) true (out++[(key,value)]++[x])):=oh ⟨by have e:=Aw;simp only[uC,uG,uL,wG] at e;exact e,(Ay.out.2.alloc _).trans' Ax (λi hi e=>by have:=(Ay.out.1.lt i e).1;omega),HS.out.2.2.gt HX.out HE.out HK.out⟩;clear Aw Ax Aq;go_wp2_with fail;go_roundg (gk-1)
      case measure=>omega
      case rel=>exact⟨k+1,true,_,by omega,by go_num,rfl,A6⟩
  .have Az:Hid (l.length<=k):=oh (by omega);have A8:Hid (w.heap.size<=wr.heap.size):=oh HS.out.2.1.size;have Ad:Hid (out.length<=k+1):=oh (by have:=HS.out.2.2.1;omega);have hb:w.heap.size<=wr.heap.size:=A8.out;cases dn with
   | true =>
    go_wp2_with fail;go_ret;exact⟨_,rfl,by rw[<- HS.out.2.2.done Az.out];exact HS.out.1,HS.out.2.1⟩
   | false =>
    go_wp2_with (at_builtin;refine yX Tryz.elP zDi rfl _ _ rfl w.heap.size _ _ out [(key,value)] rfl rfl (HS.out.1.ext (zr.alloc _)) (Sl.one (F:=NoF) (zS (by simp)) (λf=>f)) (by have:=Ad.out;simp only[uG,uL];omega) (by have:=A8.out;simp;omega) (λf=>f) ?_;intro a4 c4 w4 A2 A0 A1);have A6:Hid (yC NoF w4 w.heap.size 48 2 zCE _ (yV key value over l)/\zF w w4):=oh ⟨by rw[<- HS.out.2.2.last Az.out];exact A2,(HS.out.2.1.alloc _).trans' A0 (λi hi e=>by have:=(HS.out.1.lt i e).1;omega)⟩;clear A2 A0 A1;go_wp2_with fail;go_ret;exact⟨_,rfl,A6.out.1,A6.out.2⟩
end
end
section
open Go.RowKit
structure zCD(G G':GA)(b:Nat):Prop where
 blocks:G'.blocks=G.blocks
 size:G'.size=G.size
 same:∀i,i≠b->G'.view i=G.view i
 bad:∃l,G'.view b=some (.inr (l,5))
structure zEQ(b:Nat)(what:Int)(A A':yP)(q:List Nat)(lst:List ByteArray)(n:Nat):Prop where
 seen:∃y,A'.seen=A.seen++y/\y.Sublist (iL q)
 finds:A'.finds=A.finds++[((b:Int),what)]
 blind:A'.blind=(A.blind || decide (what=3))
 lost:A'.lost=A.lost++lst
 ids:A'.ids.length<=A.ids.length+q.length
 keys:A'.keys<=A.keys+n
 one:lst.length<=1
section
variable {b k n m:Nat}{what:Int}{A A':yP}{q x:List Nat}{lost:List ByteArray}
theorem zEQ.many(h:zEQ b what A A' q lost n)(hm:n<=m):zEQ b what A A' q lost m:=⟨h.seen,h.finds,h.blind,h.lost,h.ids,uP h.keys (Nat.add_le_add_left hm _),h.one⟩
theorem zEQ.after(h:zEQ b what (A.add (iL x) k) A' q lost n):zEQ b what A A' (x++q) lost (k+n):=by
 obtain⟨⟨y,h1,h2⟩,h3,h4,h5,h6,h7,h8⟩:=h;refine⟨⟨iL x++y,?_,?_⟩,h3,h4,h5,?_,?_,h8⟩
 .rw[h1];show A.seen++iL x++y=_;rw[uN]
 .rw[zDq];exact (List.Sublist.refl _).append h2
 .have:(A.add (iL x) k).ids.length=A.ids.length+x.length:=by simp[yP.add,iL]
  rw[uC];omega
 .have:(A.add (iL x) k).keys=A.keys+k:=rfl;omega
theorem zEQ.ahead(h:zEQ b what A A' q lost n):zEQ b what A (A'.add (iL x) k) (q++x) lost (n+k):=by
 obtain⟨⟨y,h1,h2⟩,h3,h4,h5,h6,h7,h8⟩:=h;refine⟨⟨y++iL x,?_,?_⟩,h3,h4,h5,?_,?_,h8⟩
 .show A'.seen++iL x=_;rw[h1,uN]
 .rw[zDq];exact h2.append (List.Sublist.refl _)
 .have:(A'.add (iL x) k).ids.length=A'.ids.length+x.length:=by simp[yP.add,iL]
  rw[uC];omega
 .have:(A'.add (iL x) k).keys=A'.keys+k:=rfl;omega
theorem zEQ.nodup(h:zEQ b what A A' q lost n)(hn:(A.seen++iL (q++x)).Nodup):(A'.seen++iL x).Nodup:=by
 obtain⟨⟨y,h1,h2⟩,_⟩:=h;refine hn.sublist ?_;rw[h1,zDq,uN];exact (List.Sublist.refl _).append (h2.append (List.Sublist.refl _))
end
section
variable {Q:Int->Option zY}{gen gen' z b:Nat}{G G':GA}{T:zDR}{lo:ByteArray}{hi:Option ByteArray}{l:List zL}{q ids:List Nat}{c s:Int}{v:ByteArray}
theorem zMP{v:List UInt8}{m nn g blocks:Nat}(hm:ids.length=m)(hf:Fit v.length nn m)(hs:z=nn+28)(A5:∀i∈ids,2<=i/\i<blocks)(Ai:blocks<=256)(hg:g<=gen)(hQ:Q (b:Int)=none)
  (h:∀i,i<m->ids.getD i 0≠b->Q ((ids.getD i 0:Nat):Int)=some (zAU g v nn ids i)) :
  ∀(k i f:Nat) (A:yP),i+k=m->v.length-i * nn<=f->(A.seen++iL (ids.drop i)).Nodup->b∈ids.drop i ->
   zEQ b 4 A (yU Q gen z f ((ids.getD i 0:Nat):Int) ((v.length-i * nn:Nat):Int) A).1 (ids.drop i) [] 0/\(yU Q gen z f ((ids.getD i 0:Nat):Int) ((v.length-i * nn:Nat):Int) A).2=false
 | 0,i,f,A,hc,_,_,hb=>by
  rw[tG (by omega)] at hb;cases hb
 | k+1,i,f,A,hc,Bb,hn,hb=>by
  have hi:i<m:=by omega
  have hl:=hf.left hi;obtain⟨f,rfl⟩:∃f',f=f'+1:=⟨f-1,by omega⟩;have Bc:=hf.n228;have A7:i<ids.length:=by omega
  have hid:=A5 _ (zAm A7);have Ar:ids.drop i=ids.getD i 0 :: ids.drop (i+1):=by
   rw[wD A7];simp[List.getD,A7]
  rw[Ar] at hn hb ⊢;obtain⟨n1,n2⟩:=zDh hn;by_cases he:ids.getD i 0=b
  .rw[yU,if_neg (by omega),zCQ n1 (by rw[he];exact hQ)];refine⟨⟨⟨[((ids.getD i 0:Nat):Int)],rfl,?_⟩,?_,?_,?_,?_,?_,tH _⟩,rfl⟩
   .show List.Sublist _ (((ids.getD i 0:Nat):Int) :: iL (ids.drop (i+1)));exact List.Sublist.cons_cons _ (List.nil_sublist _)
   .rw[he];rfl
   .rfl
   .show A.lost=A.lost++[];rw[wJ]
   .exact Nat.le_add_right _ _
   .exact uD _
  .have A3:=zKo (size:=z) hm hf hs A5 Ai hi g;have As:ids.getD (i+1) 0<4294967296:=by
    rcases tK (i+1) ids.length with h|h
    .have:=A5 _ (zAm h);omega
    .rw[zE3 h];omega
   have ht:vC (zAU g v nn ids i).body 0 4=(ids.getD (i+1) 0,none):=zDO _ _ As;have A9:((v.length-i * nn:Nat):Int)-min ((v.length-i * nn:Nat):Int) ((z:Int)-28)=((v.length-(i+1) * nn:Nat):Int):=by
    rw[wY];omega
   rw[yU,if_neg (by omega),zBa n1 (h i hi he) (by show ¬ gen<g;omega)];simp only[A3,ht,A9];rw[if_neg (by simp),yP.add_one];have hb2':b∈ids.drop (i+1):=by
    rcases uQ.1 hb with h|h
    .exact absurd h.symm he
    .exact h
   obtain⟨r1,r2⟩:=zMP hm hf hs A5 Ai hg hQ h k (i+1) f (A.add [((ids.getD i 0:Nat):Int)] 0) (by omega) (by rw[wY];omega) n2 hb2';exact⟨zEQ.after (x:=[ids.getD i 0]) r1,r2⟩
theorem zCD.right(hS:zCD G G' b)(h:∀i∈q,i≠b):∀i∈q,G'.view i=G.view i:=λi hi=>hS.same i (h i hi)
theorem zRv(hS:zCD G G' b)(hQ:zBp Q G')(Ae:Q (b:Int)=none)(h:ChG G gen' c s v ids)(hg:gen'<=gen)(hs:256<=G.size)(hb:G.blocks<=256)(hm:b∈ids){A:yP}(hn:(A.seen++iL ids).Nodup) :
  zEQ b 4 A (yU Q gen G.size s.toNat c s A).1 ids [] 0/\(yU Q gen G.size s.toNat c s A).2=false:=by
 obtain⟨g,Bl,hp⟩:=h.page;have hl:v.data.toList.length=v.size:=jB v;have Bd:=h.lo;have hf:Fit v.data.toList.length (G.size-28) (ndS G.size v.size):=by rw[hl];exact zHj _ _ (by omega) hs
 have e:=zMP (Q:=Q) (gen:=gen) (z:=G.size) (g:=g) h.len hf (by omega) h.lt hb (by omega) Ae (λi hi Aa=>by
  have A7:i<ids.length:=by rw[h.len];exact hi
  exact hQ _ _ (by rw[hS.blocks];exact (h.lt _ (zAm A7)).2) ((hS.same _ Aa).trans (hp i A7))) (ndS G.size v.size) 0 v.size A (by omega) (by rw[hl];omega) (by simpa using hn) (by simpa using hm)
 rw[hl] at e;simp only[pU,nO,List.drop_zero] at e;rw[h.size,h.first,uH];exact e
end
section
variable {gen gen' b:Nat}{G G':GA}{T:zDR}{lo:ByteArray}{hi:Option ByteArray}{l:List zL}{q ids:List Nat}{c s:Int}{v key:ByteArray}
theorem zMQ{v:List UInt8}{m nn g:Nat}(hm:ids.length=m)(hf:Fit v.length nn m)(hs:G.size=nn+28)(A5:∀i∈ids,2<=i/\i<G.blocks)(Ai:G.blocks<=256)(A3:∃l,G.view b=some (.inr (l,5)))
  (h:∀i,i<m->ids.getD i 0≠b->G.view (ids.getD i 0)=some (.inl (zAU g v nn ids i))) :
  ∀(k i f:Nat),i+k=m->v.length-i * nn<=f->b∈ids.drop i ->
   (∃l,(qN G f ((ids.getD i 0:Nat):Int) ((v.length-i * nn:Nat):Int)).2=some (l,5))/\zAi G f ((ids.getD i 0:Nat):Int) ((v.length-i * nn:Nat):Int)
 | 0,i,f,hc,_,hb=>by
  rw[tG (by omega)] at hb;cases hb
 | k+1,i,f,hc,Bb,hb=>by
  have hi:i<m:=by omega
  have hl:=hf.left hi;obtain⟨f,rfl⟩:∃f',f=f'+1:=⟨f-1,by omega⟩;have Bc:=hf.n228;have A7:i<ids.length:=by omega
  have hid:=A5 _ (zAm A7);have Ar:ids.drop i=ids.getD i 0 :: ids.drop (i+1):=by
   rw[wD A7];simp[List.getD,A7]
  rw[Ar] at hb;by_cases he:ids.getD i 0=b
  .obtain⟨l,hv⟩:=A3;have hg:G.get ((ids.getD i 0:Nat):Int)=.inr (-1 :: l,5):=zN8 hid.2 (by rw[he];exact hv);constructor
   .rw[qN,if_neg (by omega),hg];exact⟨_,rfl⟩
   .rw[zAi];intro _;refine⟨λ_=>⟨_,by rw[uH,he];exact hv⟩,λx hx _=>?_⟩;rw[hg] at hx;cases hx
  .have An:=h i hi he;have hg:G.get ((ids.getD i 0:Nat):Int)=.inl (zAU g v nn ids i):=zEs hid.2 An;have Be:=zKo (size:=G.size) hm hf hs A5 Ai hi g;have As:ids.getD (i+1) 0<4294967296:=by
    rcases tK (i+1) ids.length with h|h
    .have:=A5 _ (zAm h);omega
    .rw[zE3 h];omega
   have ht:vC (zAU g v nn ids i).body 0 4=(ids.getD (i+1) 0,none):=zDO _ _ As;have A9:((v.length-i * nn:Nat):Int)-min ((v.length-i * nn:Nat):Int) ((G.size:Int)-28)=((v.length-(i+1) * nn:Nat):Int):=by
    rw[wY];omega
   have hb2':b∈ids.drop (i+1):=by
    rcases uQ.1 hb with h|h
    .exact absurd h.symm he
    .exact h
   obtain⟨⟨l,r1⟩,r2⟩:=zMQ hm hf hs A5 Ai A3 h k (i+1) f (by omega) (by rw[wY];omega) hb2';constructor
   .rw[qN,if_neg (by omega),hg];simp only[Be,ht,A9];exact⟨l,by simpa using r1⟩
   .rw[zAi];intro _;refine⟨λ_=>⟨_,by rw[uH];exact An⟩,λx hx _=>?_⟩;rw[hg] at hx;injection hx with hx;subst hx;rw[ht,A9];exact r2
theorem ChG.stop(h:ChG G gen c s v ids)(hS:zCD G G' b)(hs:256<=G.size)(hb:G.blocks<=256)(hm:b∈ids):(∃l,zAZ G' c s=some (l,5))/\zAi G' s.toNat c s:=by
 obtain⟨g,_,hp⟩:=h.page;have hl:v.data.toList.length=v.size:=jB v;have Bd:=h.lo;have Bm:=h.hi;have hf:Fit v.data.toList.length (G.size-28) (ndS G.size v.size):=by rw[hl];exact zHj _ _ (by omega) hs
 obtain⟨⟨l,w1⟩,w2⟩:=zMQ (G:=G') (g:=g) (b:=b) h.len hf (by rw[hS.size];omega) (by rw[hS.blocks];exact h.lt) (by rw[hS.blocks];exact hb) hS.bad (λi hi Aa=>by
  rw[hS.same _ Aa];exact hp i (by rw[h.len];exact hi)) (ndS G.size v.size) 0 v.size (by omega) (by rw[hl];omega) (by simpa using hm)
 rw[hl] at w1 w2;simp only[pU,nO] at w1 w2;rw[h.size,h.first,uH];refine⟨?_,w2⟩;unfold zAZ zAl;rw[if_neg (by omega),uH,w1];exact⟨_,rfl⟩
theorem zDv.stop{e:zM}(h:zDv G gen e v ids)(hS:zCD G G' b)(hs:256<=G.size)(hb:G.blocks<=256)(hm:b∈ids):(∃l,jQ G' e=.inr (l,5))/\zCU G' e:=by
 rcases h with ⟨_,_,rfl⟩|⟨c1,c2⟩
 .cases hm
 .obtain⟨⟨l,h1⟩,h2⟩:=c2.stop hS hs hb hm;refine⟨?_,λ_ _ _=>h2⟩;unfold jQ;rw[if_neg c1,h1];exact⟨_,rfl⟩
theorem zDv.value{e:zM}(h:zDv G gen e v ids)(hs:256<=G.size)(hb:G.blocks<=256):jQ G e=.inl v/\zCU G e:=zDb (h.tells hs hb)
def lkF(G:GA)(key:ByteArray):(List (Int × Nat) × zI) ⊕ Err->Option ByteArray ⊕ Nat
 | .inr e=>.inr e.2
 | .inl r=>match r.2.entries[(zAN r.2 key).1]? with
  | none=>.inl none
  | some e=>if (zAN r.2 key).2=true then (match jQ G e with | .inl v=>.inl (some v) | .inr e=>.inr e.2) else .inl none
structure LkR(G:GA)(key:ByteArray)(f:Nat)(st:List (Int × Nat))(id:Int)(r:Option ByteArray ⊕ Nat):Prop where
 val:lkF G key (jM G key f st id)=r
 ok:zD9 G key f id
 vok:∀st' n e,jM G key f st id=.inl (st',n)->n.entries[(zAN n key).1]? = some e->zCU G e
theorem LkR.bad{f:Nat}{st:List (Int × Nat)}{id:Int}{e:List Int}(hk:G.knows id)(h:G.load id=.inr (e,5)):LkR G key (f+1) st id (.inr 5):=by
 refine⟨?_,?_,?_⟩
 .rw[jM,h];rfl
 .rw[zD9];exact⟨hk,λn hn=>by rw[h] at hn;cases hn⟩
 .intro st' n e hf;rw[jM,h] at hf;cases hf
theorem LkR.down{f:Nat}{st:List (Int × Nat)}{id:Int}{n:zI}{r:Option ByteArray ⊕ Nat}(hk:G.knows id)(h:G.load id=.inl n)(hl:n.leaf=false)
  (hr:LkR G key f (st++[(id,vZ key n.keys)]) (n.kids.getD (vZ key n.keys) 0) r):LkR G key (f+1) st id r:=by
 have e1:(zAN n key).1=vZ key n.keys:=by rw[zEu hl]
 have e2:jM G key (f+1) st id=jM G key f (st++[(id,vZ key n.keys)]) (n.kids.getD (vZ key n.keys) 0):=by
  rw[jM,h];simp only;rw[hl,if_neg (by simp),e1]
 refine⟨by rw[e2];exact hr.val,?_,λst' m e hf=>hr.vok st' m e (e2 ▸ hf)⟩;rw[zD9];refine⟨hk,λm hm _=>?_⟩;rw[h] at hm;injection hm with hm;subst hm;rw[e1];exact hr.ok
theorem LkR.leaf{f:Nat}{st:List (Int × Nat)}{id:Int}{n:zI}{r:Option ByteArray ⊕ Nat}(hk:G.knows id)(h:G.load id=.inl n)(hl:n.leaf=true)
  (hv:∀e,n.entries[jA key n.entries]? = some e->zCU G e)
  (hr:(match n.entries[jA key n.entries]? with
   | none=>.inl none
   | some e=>if zAY key n.entries=true then (match jQ G e with | .inl v=>.inl (some v) | .inr e=>.inr e.2) else .inl none)=r):LkR G key (f+1) st id r:=by
 have e2:jM G key (f+1) st id=.inl (st++[(id,(zAN n key).1)],n):=by
  rw[jM,h];simp only;rw[hl,if_pos rfl]
 refine⟨?_,?_,λst' m e hf=>?_⟩
 .rw[e2];unfold lkF;simp only;rw[zFm hl];exact hr
 .rw[zD9];refine⟨hk,λm hm B0=>?_⟩;rw[h] at hm;injection hm with hm;subst hm;rw[hl] at B0;cases B0
 .rw[e2] at hf;injection hf with hf;injection hf with _ hf;subst hf;rw[zFm hl];exact hv e
theorem LkR.ents{f:Nat}{st:List (Int × Nat)}{id:Int}{n:zI}(hS:zCD G G' b)(hs:256<=G.size)(hb:G.blocks<=256)(hk:G'.knows id)(h:G'.load id=.inl n)(hr:zO n=true)(hl:n.leaf=true)(he:vU G gen n.entries l q) :
  (LkR G' key (f+1) st id (.inl (qI key l))/\∀(e:zM) (v:ByteArray) (ids:List Nat),e∈n.entries->e.key=key->zDv G gen e v ids->jQ G' e=.inl v) \/
  (LkR G' key (f+1) st id (.inr 5)/\∃(e:zM) (l:List Int),e∈n.entries/\e.key=key/\jQ G' e=.inr (l,5)):=by
 have hL:zGe G.R2 n l:=⟨hl,hr,he.len,he.tells hs hb⟩;have hv:∀(i:Nat) (e:zM),n.entries[i]? = some e->zCU G' e/\((∃l,jQ G' e=.inr (l,5))\/∃v,jQ G e=.inl v/\jQ G' e=.inl v):=λi e hi=>by
  obtain⟨v,ids,a1,a2⟩:=he.nth i e hi;by_cases hm:b∈ids
  .obtain⟨h1,h2⟩:=a1.stop hS hs hb hm;exact⟨h2,.inl h1⟩
  .obtain⟨h1,h2⟩:=(a1.mono (uD _) hS.blocks hS.size (hS.right (λi hi e=>hm (e ▸ hi)))).value (by rw[hS.size];exact hs) (by rw[hS.blocks];exact hb);exact⟨h2,.inr ⟨v,(a1.value hs hb).1,h1⟩⟩
 have Af:=zBS hr hl;rcases zJh hL key with ⟨j1,e,v,j2,j3,j4,j5⟩|⟨j1,j2⟩
 .obtain⟨h1,h2⟩:=hv _ e j2;have B1:e∈n.entries:=uU j2;have Bf:∀e'∈n.entries,e'.key=key->e'=e:=λe' he' hk'=>by
   obtain⟨i,hi⟩:=rT he';obtain⟨i',hi'⟩:=rT B1;rcases Nat.lt_trichotomy i i' with hh|hh|hh
   .have:=tO.1 Af i i' (by simpa using (uA.1 hi).1) (by simpa using (uA.1 hi').1) hh;simp only[List.getElem_map,(uA.1 hi).2,(uA.1 hi').2,hk',j3,jJ] at this;cases this
   .subst hh;rw[hi] at hi';exact Option.some.inj hi'
   .have:=tO.1 Af i' i (by simpa using (uA.1 hi').1) (by simpa using (uA.1 hi).1) hh;simp only[List.getElem_map,(uA.1 hi).2,(uA.1 hi').2,hk',j3,jJ] at this;cases this
  rcases h2 with ⟨l',h2⟩|⟨v',h2,h3⟩
  .refine .inr ⟨.leaf hk h hl (λe' he'=>(hv _ e' he').1) ?_,e,l',B1,j3,h2⟩;rw[j2];simp only[j1,tU,h2]
  .rw[(zDb j4).1] at h2;injection h2 with h2;subst h2;refine .inl ⟨.leaf hk h hl (λe' he'=>(hv _ e' he').1) ?_,λe' v' ids' he' hk' hc'=>?_⟩
   .rw[j2];simp only[j1,tU,h3,j5]
   .rw[Bf e' he' hk'] at hc' ⊢;rw[h3];have:=(hc'.value hs hb).1;rw[(zDb j4).1] at this;exact this
 .refine .inl ⟨.leaf hk h hl (λe' he'=>(hv _ e' he').1) ?_,λe v ids he' hk' _=>?_⟩
  .rw[j1,j2];split
   .rfl
   .rw[if_neg (by simp)]
  .exfalso;obtain⟨i,hi⟩:=rT he';have A7:=(uA.1 hi).1;have B2:i<l.length:=by rw[<- he.len];exact A7
   have:=(he.tells hs hb i e l[i] hi (uB B2)).1;unfold qI at j2;rw[Option.map_eq_none_iff,rY] at j2;exact absurd (this.symm.trans hk') (by simpa using j2 l[i] (tB B2))
end
theorem zMR{a q:List Nat}{s:List Int}{b:Nat}(hn:(s++iL (a++q)).Nodup)(ha:b∈a):b ∉ q:=λhq=>by
 rw[zDq,uX] at hn;have h2:=hn.2.1;rw[uX] at h2;exact h2.2.2 _ (pM ha) _ (pM hq) rfl
theorem zKz{a q:List Nat}{s:List Int}(hn:(s++iL (a++q)).Nodup):(s++iL a).Nodup:=hn.sublist (by rw[zDq,<- uN];exact rU _ _)
theorem zQ9{a q:List Nat}{A:yP}{k:Nat}(hn:(A.seen++iL (a++q)).Nodup):((A.add (iL a) k).seen++iL q).Nodup:=by
 show (A.seen++iL a++iL q).Nodup;rw[uN,<- zDq];exact hn
section
variable {Q:Int->Option zY}{gen gen' b:Nat}{G G':GA}{T:zDR}{lo:ByteArray}{hi:Option ByteArray}{l:List zL}{q ids:List Nat}{c s:Int}{v key:ByteArray}
theorem zK0(hS:zCD G G' b)(hQ:zBp Q G')(hg:gen'<=gen)(hs:256<=G.size)(hb:G.blocks<=256){es:List zM}(h:vU G gen' es l q)(hm:b ∉ q){A:yP}(hn:(A.seen++iL q).Nodup):es.foldl (zBD Q gen G.size) A=A.add (iL q) l.length:=by
 have h':=h.mono (uD _) hS.blocks hS.size (hS.right (λi hi e=>hm (e ▸ hi)));have:=zOH hQ hg (by rw[hS.size];exact hs) (by rw[hS.blocks];exact hb) h' A hn;rw[hS.size] at this;exact this
theorem zDv.valueS{e:zM}(h:zDv G gen e v ids)(hS:zCD G G' b)(hs:256<=G.size)(hb:G.blocks<=256)(hm:b ∉ ids):jQ G' e=.inl v :=
 ((h.mono (uD _) hS.blocks hS.size (hS.right (λi hi e=>hm (e ▸ hi)))).value (by rw[hS.size];exact hs) (by rw[hS.blocks];exact hb)).1
theorem zNc(hS:zCD G G' b)(hQ:zBp Q G')(Ae:Q (b:Int)=none)(hg:gen'<=gen)(hs:256<=G.size)(hb:G.blocks<=256){es:List zM}(h:vU G gen' es l q):b∈q->(es.map (·.key)).Pairwise (λa b=>ltS a b=true)->∀(A:yP),(A.seen++iL q).Nodup ->
  ∃k0,k0∈es.map (·.key)/\zEQ b 4 A (es.foldl (zBD Q gen G.size) A) q [k0] l.length/\∀e∈es,(e.key=k0->∃l,jQ G' e=.inr (l,5))/\(e.key≠k0->∃v,jQ G' e=.inl v):=by
 induction h with
 | nil=>intro hm;cases hm
 | @cons e x ids es l q h1 h2 h3 ih =>
  intro hm Af A hn;rw[tS,wW] at Af;by_cases hi:b∈ids
  .have hq:=zMR hn hi;refine⟨e.key,by simp,?_,λf hf=>?_⟩
   .have hl:zEQ b 4 A (zBD Q gen G.size A e) ids [e.key] 1:=by
     rcases h2 with ⟨_,_,rfl⟩|⟨c1,c2⟩
     .cases hi
     .obtain⟨r1,r2⟩:=zRv hS hQ Ae c2 hg hs hb hi (A:=A.key) (zKz hn);unfold zBD;rw[if_neg c1,r2,if_neg (by simp)];refine⟨r1.seen,r1.finds,r1.blind,?_,r1.ids,r1.keys,uD _⟩;show (yU Q gen G.size e.size.toNat e.chain e.size A.key).1.lost++[e.key]=_;rw[r1.lost,wJ];rfl
    rw[tM,zK0 hS hQ hg hs hb h3 hq (hl.nodup hn)];exact hl.ahead.many (by rw[uG];omega)
   .rcases uQ.1 hf with rfl|hf
    .exact⟨λ_=>(h2.stop hS hs hb hi).1,λAa=>absurd rfl Aa⟩
    .have Aa:f.key≠e.key:=λe'=>by
      have:=Af.1 _ (pM hf);rw[e',jJ] at this;cases this
     obtain⟨i,hf'⟩:=rT hf;obtain⟨v,ids',a1,a2⟩:=h3.nth i f hf';exact⟨λe'=>absurd e' Aa,λ_=>⟨v,a1.valueS hS hs hb (λhh=>hq (a2.subset hh))⟩⟩
  .have hq:b∈q:=(uM.1 hm).resolve_left hi;have he:zBD Q gen G.size A e=A.add (iL ids) 1:=by
    have:=zQt hQ (h2.mono (uD _) hS.blocks hS.size (hS.right (λi hi' e=>hi (e ▸ hi')))) hg (by rw[hS.size];exact hs) (by rw[hS.blocks];exact hb) (A:=A) (zKz hn);rw[hS.size] at this;exact this
   obtain⟨k0,r1,r2,r3⟩:=ih hq Af.2 (A.add (iL ids) 1) (zQ9 hn);refine⟨k0,by rw[tS];exact uJ _ r1,?_,λf hf=>?_⟩
   .rw[tM,he];exact r2.after.many (by rw[uG];omega)
   .rcases uQ.1 hf with rfl|hf
    .refine⟨λe'=>?_,λ_=>⟨_,h2.valueS hS hs hb hi⟩⟩;have:=Af.1 _ r1;rw[e',jJ] at this;cases this
    .exact r3 f hf
theorem zGQ:∀(f:Nat) (st:List (Int × Nat)) (id:Int),jM G key f st id=match jM G key f [] id with
  | .inr e=>.inr e
  | .inl r=>.inl (st++r.1,r.2)
 | 0,_,_=>rfl
 | f+1,st,id=>by
  rw[jM,jM];cases G.load id with
  | inr e=>rfl
  | inl n =>
   simp only;by_cases hl:n.leaf=true
   .rw[if_pos hl,if_pos hl];rfl
   .rw[if_neg hl,if_neg hl,zGQ f (st++_),zGQ f ([]++_)];cases jM G key f [] (n.kids.getD (zAN n key).1 0) with
    | inr e=>rfl
    | inl r=>simp
theorem LkR.st{f:Nat}{st st':List (Int × Nat)}{id:Int}{r:Option ByteArray ⊕ Nat}(h:LkR G key f st id r):LkR G key f st' id r:=by
 have e1:=zGQ (G:=G) (key:=key) f st id;have e2:=zGQ (G:=G) (key:=key) f st' id;obtain⟨h1,h2,h3⟩:=h;rw[e1] at h1 h3;refine⟨?_,h2,?_⟩
 .rw[e2];cases hf:jM G key f [] id with
  | inr e=>rw[hf] at h1;exact h1
  | inl p=>rw[hf] at h1;exact h1
 .intro s n e hh;rw[e2] at hh;cases hf:jM G key f [] id with
  | inr e=>rw[hf] at hh;cases hh
  | inl p =>
   rw[hf] at hh h3;injection hh with hh;injection hh with _ hh;exact h3 _ n e (by rw[<- hh])
def zIr(w:Int)(lost:List ByteArray)(key:ByteArray)(r:Option ByteArray)(LR:(Option ByteArray ⊕ Nat)->Prop):Prop :=
 (key∈lost->LR (.inr 5))/\(key ∉ lost->LR (.inl r)\/(w=3/\LR (.inr 5)))
def zRw(b:Nat)(lo:ByteArray)(hi:Option ByteArray)(l:List zL)(q:List Nat)(A A':yP)(LK:ByteArray->(Option ByteArray ⊕ Nat)->Prop):Prop :=
 ∃w lost,zEQ b w A A' q lost l.length/\(w=3\/w=4)/\(∀k∈lost,∃x∈l,x.1=k)/\∀key,inB lo hi key->zIr w lost key (qI key l) (LK key)
theorem vX.lkR(hs:256<=G.size)(hb:G.blocks<=256):∀(d:Nat) (lo:ByteArray) (hi:Option ByteArray) (id:Nat) (l:List zL) (q:List Nat),vX G gen d lo hi id l q->∀(f:Nat) (st:List (Int × Nat)) (key:ByteArray),d<=f->inB lo hi key->LkR G key f st (id:Int) (.inl (qI key l))
 | 0,_,_,_,_,_,h,_,_,_,_,_=>h.elim
 | d+1,lo,hi,id,l,pgs,h,0,_,_,hf,_=>by omega
 | d+1,lo,hi,id,l,pgs,h,f+1,st,key,hf,hk=>by
  obtain⟨n,q,hp,hr,rfl,h⟩:=h;obtain⟨p,hv,An,Ab⟩:=hp.page;have Ag:G.knows (id:Int):=λ_=>⟨_,by rw[uH];exact hv⟩
  have Ah:G.load (id:Int)=.inl n:=by
   unfold GA.load;rw[zEs hp.lt hv];simp only[Ab]
  rcases h with ⟨hl,rfl,Aa,he,At⟩|⟨hl,Am⟩
  .have hL:zGe G.R2 n l:=⟨hl,hr,he.len,he.tells hs hb⟩;refine .leaf Ag Ah hl (λe he'=>?_) ?_
   .obtain⟨v,ids,a1,_⟩:=he.nth _ e he';exact (a1.value hs hb).2
   .rcases zJh hL key with ⟨j1,e,v,j2,j3,j4,j5⟩|⟨j1,j2⟩
    .rw[j2];simp only[j1,tU,(zDb j4).1,j5]
    .rw[j1,j2];split
     .rfl
     .rw[if_neg (by simp)]
  .obtain⟨k1,k2,c1,c,c2,l1,lm,l2,q1,qm,q2,lo',hi',e1,e2,e3,e4,rfl,rfl,e7,e8,e9,e10,_⟩:=Am.at_ (λlo hi c l q hT=>vX.bounds d lo hi c l q hT) hk;refine .down Ag Ah hl ?_;have hg:n.kids.getD (vZ key n.keys) 0=(c:Int):=by
    rw[e4,e2,<- e3];simp[List.getD]
   rw[hg,zGh e9 e10];exact vX.lkR hs hb d lo' hi' c lm qm e7 f _ key (by omega) e8
end
section
variable {Q:Int->Option zY}{gen gen' b d f:Nat}{G G':GA}{lo:ByteArray}{hi:Option ByteArray}{kk:List ByteArray}{cc:List Int}{l:List zL}{q:List Nat}{key:ByteArray}
theorem vX.toS(hS:zCD G G' b){id:Nat}(h:vX G gen' d lo hi id l q)(hm:b ∉ q):vX G' gen' d lo hi id l q :=
 vX.mono (uD _) hS.blocks hS.size d lo hi id l q (hS.right (λ_i hi e=>hm (e ▸ hi))) h
theorem qY.toS(hS:zCD G G' b)(h:qY (vX G gen' d) lo hi kk cc l q)(hm:b ∉ q):qY (vX G' gen' d) lo hi kk cc l q :=
 h.mono (λ_ _ _ _ _ hp hT=>hT.toS hS (λe=>hm (hp _ e)))
theorem zNd(hS:zCD G G' b)(hQ:zBp Q G')(hg:gen'<=gen)(hs:256<=G.size)(hb:G.blocks<=256)(hd:d<=f){id:Nat}(h:vX G gen' d lo hi id l q)(hm:b ∉ q){A:yP}(hn:(A.seen++iL q).Nodup) :
  yZ Q gen G.size f (id:Int) A=A.add (iL q) l.length:=by
 have:=zOJ hQ hg (by rw[hS.size];exact hs) (by rw[hS.blocks];exact hb) d lo hi id l q (h.toS hS hm) f A hd hn;rw[hS.size] at this;exact this
theorem zK1(hS:zCD G G' b)(hQ:zBp Q G')(hg:gen'<=gen)(hs:256<=G.size)(hb:G.blocks<=256)(hd:d<=f)(h:qY (vX G gen' d) lo hi kk cc l q)(hm:b ∉ q){A:yP}(hn:(A.seen++iL q).Nodup) :
  cc.foldl (λB k=>yZ Q gen G.size f k B) A=A.add (iL q) l.length:=by
 have:=zOI (rec_:=λk B=>yZ Q gen G'.size f k B) (λlo hi c l q hT A hn=>zOJ hQ hg (by rw[hS.size];exact hs) (by rw[hS.blocks];exact hb) d lo hi c l q hT f A hd hn) (h.toS hS hm) A hn;rw[hS.size] at this;exact this
theorem vX.lkS(hS:zCD G G' b)(hs:256<=G.size)(hb:G.blocks<=256)(hd:d<=f){id:Nat}(h:vX G gen' d lo hi id l q)(hm:b ∉ q)(hk:inB lo hi key):LkR G' key f [] (id:Int) (.inl (qI key l)) :=
 vX.lkR (by rw[hS.size];exact hs) (by rw[hS.blocks];exact hb) d lo hi id l q (h.toS hS hm) f [] key hd hk
theorem qY.lkS(hS:zCD G G' b)(hs:256<=G.size)(hb:G.blocks<=256)(hd:d<=f)(h:qY (vX G gen' d) lo hi kk cc l q)(hm:b ∉ q)(hk:inB lo hi key):LkR G' key f [] (cc.getD (vZ key kk) 0) (.inl (qI key l)):=by
 obtain⟨k1,k2,c1,c,c2,l1,lm,l2,q1,qm,q2,lo',hi',rfl,rfl,e3,e4,rfl,rfl,e7,e8,e9,e10,_⟩:=h.at_ (λlo hi c l q hT=>vX.bounds d lo hi c l q hT) hk;have hg:(c1++(c:Int) :: c2).getD (vZ key (k1++k2)) 0=(c:Int):=by
  rw[e4,<- e3];simp[List.getD]
 rw[hg,zGh e9 e10];exact e7.lkS hS hs hb hd (λe=>hm (by simp[e])) e8
theorem zNe(hS:zCD G G' b)(hQ:zBp Q G')(hg:gen'<=gen)(hs:256<=G.size)(hb:G.blocks<=256)(hd:d<=f)
  (hT:∀lo hi c l q,vX G gen' d lo hi c l q->b∈q->∀(A:yP),(A.seen++iL q).Nodup->zRw b lo hi l q A (yZ Q gen G.size f (c:Int) A) (λkey r=>LkR G' key f [] (c:Int) r))
  (h:qY (vX G gen' d) lo hi kk cc l q):b∈q->∀(A:yP),(A.seen++iL q).Nodup->zRw b lo hi l q A (cc.foldl (λB k=>yZ Q gen G.size f k B) A) (λkey r=>LkR G' key f [] (cc.getD (vZ key kk) 0) r):=by
 induction h with
 | @one lo hi c l q h =>
  intro hm A hn;exact hT _ _ _ _ _ h hm A hn
 | @cons lo hi s c keys kids l1 l2 q1 q2 h1 h2 h3 ih =>
  intro hm A hn;have Aj:∀x∈l1,ltS x.1 s=true:=λx hx=>(vX.bounds d _ _ _ _ _ h1 x hx).2 s rfl
  have Ak:∀x∈l2,ltS x.1 s=false:=λx hx=>(h3.bounds (λlo hi c l q hT=>vX.bounds d lo hi c l q hT) x hx).1
  have Ac:∀key,vZ key (s :: keys)=if ltS key s=true then 0 else vZ key keys+1:=λkey=>by
   unfold vZ;rw[List.findIdx_cons];cases ltS key s <;> simp
  have B3:∀key,ltS key s=true->qI key (l1++l2)=qI key l1:=λkey hk=>by
   rw[zAy,zF0 (l:=l2) (λx hx=>zB1 hk (Ak x hx))];simp
  have B4:∀key,ltS key s=false->qI key (l1++l2)=qI key l2:=λkey hk=>by
   rw[zAy,zEi (l:=l1) (λx hx=>zB1 (Aj x hx) hk)];simp
  by_cases Al:b∈q1
  .have Ao:=zMR hn Al;obtain⟨w,lost,r1,r2,r3,r4⟩:=hT _ _ _ _ _ h1 Al A (zKz hn);refine⟨w,lost,?_,r2,λk hk=>?_,λkey hk=>?_⟩
   .rw[tM,zK1 hS hQ hg hs hb hd h3 Ao (r1.nodup hn)];exact r1.ahead.many (by rw[uC];omega)
   .obtain⟨x,hx,e⟩:=r3 k hk;exact⟨x,wE _ hx,e⟩
   .cases A4:ltS key s with
    | true =>
     have:=r4 key ⟨hk.1,λh e=>by injection e with e;subst e;exact A4⟩;show zIr _ _ _ _ (λr=>LkR G' key f [] (((c:Int) :: kids).getD (vZ key (s :: keys)) 0) r);rw[B3 key A4,Ac,if_pos A4];exact this
    | false =>
     show zIr _ _ _ _ (λr=>LkR G' key f [] (((c:Int) :: kids).getD (vZ key (s :: keys)) 0) r);rw[B4 key A4,Ac,if_neg (by rw[A4];simp)];refine⟨λhl=>?_,λ_=>.inl ?_⟩
     .obtain⟨x,hx,e⟩:=r3 key hl;have:=Aj x hx;rw[e,A4] at this;cases this
     .have:=h3.lkS hS hs hb hd Ao ⟨A4,hk.2⟩;simpa using this
  .have Ao:b∈q2:=(uM.1 hm).resolve_left Al;obtain⟨w,lost,r1,r2,r3,r4⟩:=ih Ao (A.add (iL q1) l1.length) (zQ9 hn);refine⟨w,lost,?_,r2,λk hk=>?_,λkey hk=>?_⟩
   .rw[tM,zNd hS hQ hg hs hb hd h1 Al (zKz hn)];exact r1.after.many (by rw[uC];omega)
   .obtain⟨x,hx,e⟩:=r3 k hk;exact⟨x,wK _ hx,e⟩
   .cases A4:ltS key s with
    | true =>
     show zIr _ _ _ _ (λr=>LkR G' key f [] (((c:Int) :: kids).getD (vZ key (s :: keys)) 0) r);rw[B3 key A4,Ac,if_pos A4];refine⟨λhl=>?_,λ_=>.inl ?_⟩
     .obtain⟨x,hx,e⟩:=r3 key hl;have:=Ak x hx;rw[e,A4] at this;cases this
     .exact h1.lkS hS hs hb hd Al ⟨hk.1,λh e=>by injection e with e;subst e;exact A4⟩
    | false =>
     have:=r4 key ⟨A4,hk.2⟩;show zIr _ _ _ _ (λr=>LkR G' key f [] (((c:Int) :: kids).getD (vZ key (s :: keys)) 0) r);rw[B4 key A4,Ac,if_neg (by rw[A4];simp)];simpa using this
theorem zMS(hS:zCD G G' b)(hQ:zBp Q G')(Ae:Q (b:Int)=none)(hg:gen'<=gen)(hs:256<=G.size)(hb:G.blocks<=256):∀(d:Nat) (lo:ByteArray) (hi:Option ByteArray) (id:Nat) (l:List zL) (q:List Nat),vX G gen' d lo hi id l q->b∈q->∀(f:Nat) (A:yP),d<=f->(A.seen++iL q).Nodup ->
  zRw b lo hi l q A (yZ Q gen G.size f (id:Int) A) (λkey r=>LkR G' key f [] (id:Int) r)
 | 0,_,_,_,_,_,h,_,_,_,_,_=>h.elim
 | d+1,lo,hi,id,l,pgs,h,_,0,_,hf,_=>by omega
 | d+1,lo,hi,id,l,pgs,h,hm,f+1,A,hf,hn=>by
  obtain⟨n,q,hp,hr,rfl,h⟩:=h;obtain⟨p,hv,An,Ab⟩:=hp.page;obtain⟨n1,n2⟩:=zDh hn;by_cases he:id=b
  .subst he;obtain⟨lb,A3⟩:=hS.bad;refine⟨3,[],?_,.inl rfl,λk hk=>(by cases hk),λkey _=>⟨λhk=>(by cases hk),λ_=>.inr ⟨rfl,?_⟩⟩⟩
   .rw[yZ,zCQ n1 Ae];refine⟨⟨[(id:Int)],rfl,?_⟩,rfl,rfl,?_,Nat.le_add_right _ _,Nat.le_add_right _ _,tH _⟩
    .show List.Sublist _ ((id:Int) :: iL q);exact List.Sublist.cons_cons _ (List.nil_sublist _)
    .show A.lost=A.lost++[];rw[wJ]
   .refine .bad (e:=-1 :: -1 :: lb) (λ_=>⟨_,by rw[uH];exact A3⟩) ?_;unfold GA.load;rw[zN8 (by rw[hS.blocks];exact hp.lt) A3]
  .have B5:b∈q:=(uQ.1 hm).resolve_left (λe=>he e.symm);have hv':G'.view id=some (.inl p):=(hS.same id he).trans hv;have hlt':id<G'.blocks:=by rw[hS.blocks];exact hp.lt
   have Ag:G'.knows (id:Int):=λ_=>⟨_,by rw[uH];exact hv'⟩
   have Ah:G'.load (id:Int)=.inl n:=by
    unfold GA.load;rw[zEs hlt' hv'];simp only[Ab]
   have Bg:yZ Q gen G.size (f+1) (id:Int) A=n.kids.foldl (λB k=>yZ Q gen G.size f k B) (n.entries.foldl (zBD Q gen G.size) (A.add [(id:Int)] 0)):=by
    rw[yZ,zBa n1 (hQ id p hlt' hv') (by omega)];simp only[Ab,yP.add_one]
   rw[Bg];rcases h with ⟨hl,rfl,Aa,Ap,At⟩|⟨hl,hk⟩
   .have Bh:n.kids=[]:=by
     unfold zO at hr;rw[if_pos hl] at hr;simp only[uI,wR] at hr;exact hr.1.1.2
    obtain⟨k0,r1,r2,r3⟩:=zNc hS hQ Ae hg hs hb Ap B5 (zBS hr hl) (A.add [(id:Int)] 0) n2;rw[Bh,nT];refine⟨4,[k0],(zEQ.after (x:=[id]) r2).many (by omega),.inr rfl,λk hk=>?_,λkey _=>?_⟩
    .rw[wO] at hk;subst hk;rw[Ap.keys] at r1;obtain⟨x,hx,e⟩:=nP.1 r1;exact⟨x,hx,e⟩
    .rcases LkR.ents (key:=key) (f:=f) (st:=[]) hS hs hb Ag Ah hr hl Ap with ⟨e1,e2⟩|⟨e1,e,le,e2,e3,e4⟩
     .refine⟨λhk=>?_,λ_=>.inl e1⟩;exfalso;rw[wO] at hk;obtain⟨e,Au,B6⟩:=nP.1 r1;obtain⟨i,hi⟩:=rT Au;obtain⟨v,ids,a1,_⟩:=Ap.nth i e hi;obtain⟨lx,hx⟩:=(r3 e Au).1 B6;rw[e2 e v ids Au (B6.trans hk.symm) a1] at hx;cases hx
     .refine⟨λ_=>e1,λhk=>?_⟩;exfalso;rw[wO] at hk;obtain⟨v,hx⟩:=(r3 e e2).2 (λe'=>hk (e3.symm.trans e'));rw[e4] at hx;cases hx
   .have Bi:n.entries=[]:=by
     unfold zO at hr;rw[if_neg (by rw[hl];simp)] at hr;simp only[uI,wR] at hr;exact hr.1.1.1.1.1.1.1
    rw[Bi,nT];obtain⟨w,lost,r1,r2,r3,r4⟩:=zNe hS hQ hg hs hb (show d<=f by omega) (λlo hi c l q hT hm A hn=>zMS hS hQ Ae hg hs hb d lo hi c l q hT hm f A (by omega) hn) hk B5 (A.add [(id:Int)] 0) n2;refine⟨w,lost,(zEQ.after (x:=[id]) r1).many (by omega),r2,r3,λkey Bj=>?_⟩;obtain⟨s1,s2⟩:=r4 key Bj;exact⟨λh=>.down Ag Ah hl (s1 h).st,λh=>(s2 h).imp (λh=>.down Ag Ah hl h.st) (λh=>⟨h.1,.down Ag Ah hl h.2.st⟩)⟩
end
end
end Go.Proofs.YtalpfcaakpgkmaaGreatDoor
