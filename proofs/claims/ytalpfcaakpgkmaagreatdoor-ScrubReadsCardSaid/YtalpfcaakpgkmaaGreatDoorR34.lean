import Derived.Test.YtalpfcaakpgkmaaGreatDoorR33
namespace Go.Proofs.YtalpfcaakpgkmaaGreatDoor
open Go.RowKit
def zDS(f:Nat->Int):Nat->Int
 | 0=>0
 | n+1=>zDS f n+f n
theorem zCk(f g:Nat->Int):∀n,zDS (λi=>f i+g i) n=zDS f n+zDS g n
 | 0=>rfl
 | n+1=>by simp only[zDS,zCk f g n];omega
theorem zL8(x:Nat):∀n,zDS (λi=>if i=x then 1 else 0) n=if x<n then 1 else 0
 | 0=>by simp[zDS]
 | n+1=>by
  rw[zDS,zL8 x n];by_cases h1:n=x
  .subst h1;simp
  .rw[if_neg h1];by_cases h2:x<n
   .rw[if_pos h2,if_pos (by omega)];rfl
   .rw[if_neg h2,if_neg (by omega)];rfl
theorem zJ1:∀n,zDS (λ_=>0) n=0
 | 0=>rfl
 | n+1=>by rw[zDS,zJ1 n];rfl
theorem zFI:∀(a:List Nat) (n:Nat),a.Nodup->(∀i∈a,i<n)->zDS (λi=>if i∈a then 1 else 0) n=a.length
 | [],n,_,_=>by simpa using zJ1 n
 | x :: a,n,hn,h=>by
  have Bd:=uV.1 hn;have e:(λi=>if i∈x :: a then (1:Int) else 0)=λi=>(if i=x then 1 else 0)+(if i∈a then 1 else 0):=by
   funext i
   by_cases h1:i=x
   .subst h1;simp[Bd.1]
   .simp[h1]
  rw[e,zCk,zL8,if_pos (h x uK),zFI a n Bd.2 (λi hi=>h i (uJ _ hi)),uG];omega
def wtL(x:Option Nat):Int:=if x=some 0 then 1 else if x=some 1 then -1 else 0
theorem zHl(l:List Nat):∀n,n<=l.length->zA4 (l.take n)=zDS (λi=>wtL l[i]?) n
 | 0,_=>by simp[zA4,zDS]
 | n+1,h=>by
  have hx:l[n]? = some l[n]:=uB (by omega);rw[zDS,<- zHl l n (by omega),vO l n _ hx,hx];unfold zA4 wtL;rw[List.countP_append,List.countP_append];simp only[List.countP_cons,List.countP_nil,rE,Option.some.injEq];generalize l[n]=x
  by_cases h0:x=0
  .subst h0;simp;omega
  .by_cases h1:x=1
   .subst h1;simp;omega
   .simp[h0,h1]
section
variable {G G' G1:GA}{l l' l1:List Nat}{gen:Nat}{lo:ByteArray}{hi:Option ByteArray}{ps:List zL}{q:List Nat}
theorem Upd.phi{a b:List Nat}(h:Upd G l (λk=>k∈a) G' l' (λk=>k∈b))(hu:zAk l (λk=>k∈a))(ha:a.Nodup)(hb:b.Nodup):zA4 l'+b.length=zA4 l+a.length:=by
 have Bq:=h.use hu;have Br:∀i∈a,i<l.length:=λi hi=>by
  rcases hu i hi with e|e <;> exact (uA.1 e).1
 have Bs:∀i∈b,i<l.length:=λi hi=>by
  rw[<- h.len];rcases Bq i hi with e|e <;> exact (uA.1 e).1
 have e1:=zHl l l.length (uD _);have e2:=zHl l' l.length (by rw[h.len];exact uD _);rw[wZ] at e1;rw[uY (by rw[h.len];exact uD _)] at e2;rw[e1,e2,<- zFI a l.length ha Br,<- zFI b l.length hb Bs,<- zCk,<- zCk];congr 1
 funext i
 unfold wtL;by_cases Aa:i∈a
 .by_cases A7:i∈b
  .rcases h.inn i A7 with ⟨_,e⟩|⟨e,_⟩
   .rw[e,if_pos Aa,if_pos A7]
   .exact absurd e (hu.ne0 Aa)
  .rw[if_pos Aa,if_neg A7];rcases h.gone i Aa A7 with ⟨e,f⟩|⟨e,f⟩ <;> simp[e,f]
 .by_cases A7:i∈b
  .rw[if_neg Aa,if_pos A7];rcases h.inn i A7 with ⟨e,_⟩|⟨e,f⟩
   .exact absurd e Aa
   .simp[e,f]
  .rw[if_neg Aa,if_neg A7,(h.rest i Aa A7).1]
theorem zPQ.pre{A A1:NP}{d:Nat}{o:zBH}{pgs:List Nat}(h:zPQ G1 l1 A1 gen d lo hi ps G' l' o pgs)(u:Upd G l A G1 l1 A1)(hu:zAk l A):zPQ G l A gen d lo hi ps G' l' o pgs :=
 ⟨u.trans h.upd hu,h.nodup,h.two,h.kids,h.keys,h.ctx,h.use⟩
theorem zGK:∀es:List zM,2 * (es.length:Int)<=yM es
 | []=>by simp[yM]
 | e :: es=>by
  have h1:=zBO e;have h2:=zGK es;rw[yM,uG];omega
theorem zFr{α:Type}{l:List α}{i:Nat}{x:α}(h:l[i]? = some x):l=l.take i++(x :: l.drop (i+1)):=by
 obtain⟨h1,rfl⟩:=uA.1 h;rw[<- wD h1,uZ]
theorem vU.at_{es:List zM}(h:vU G gen es ps q)(Af:(es.map (·.key)).Pairwise λa b=>ltS a b=true)(key:ByteArray)(hs:256<=G.size)(hb:G.blocks<=256) :
  ∃l1 lm l2 q1 qm q2,vU G gen (es.take (jA key es)) l1 q1/\vU G gen (es.drop (jA key es+if zAY key es=true then 1 else 0)) l2 q2/\ps=l1++(lm++l2)/\q=q1++(qm++q2) /\
   (∀x∈l1,ltS x.1 key=true)/\(∀x∈l2,ltS key x.1=true)/\(zAY key es=(qI key ps).isSome)/\(lm=[]\/∃old,lm=[(key,old)]) /\
   (∀n:zI,n.entries=es->qV G n key=qm)/\yM (es.take (jA key es))+yM (es.drop (jA key es+if zAY key es=true then 1 else 0))<=yM es:=by
 have Ad:∀(i:Nat) (e:zM),i<jA key es->es[i]? = some e->ltS e.key key=true:=λi e hi he=>by
  have:=zH1 (f:=λe:zM=>!ltS e.key key) (show i<es.findIdx _ from hi) he;simpa using this
 have Ab:∀(l1:List zL) (q1:List Nat),vU G gen (es.take (jA key es)) l1 q1->∀x∈l1,ltS x.1 key=true:=λl1 q1 h1 x hx=>by
  have hk:=h1.keys;have hm:x.1∈(es.take (jA key es)).map (·.key):=by rw[hk];exact pM hx
  obtain⟨e,he,Bt⟩:=nP.1 hm;obtain⟨i,hi,Bu⟩:=wF he;rw[wB] at hi;rw[<- Bt];refine Ad i e (by omega) ?_;rw[<- Bu,pV];exact uB (by omega)
 cases hm:es[jA key es]? with
 | none =>
  have A8:zAY key es=false:=by unfold zAY;rw[hm]
  have A2:es.length<=jA key es:=List.getElem?_eq_none_iff.1 hm;have Be:es.take (jA key es)=es:=uY A2;rw[A8];simp only[wI,tX,uT];rw[tG A2,Be];have hl:=Ab ps q (by rw[Be];exact h);refine⟨ps,[],[],q,[],[],h,.nil,by simp,by simp,hl,by simp,by rw[zEi hl];rfl,.inl rfl,λn hn=>?_,by simp[yM]⟩;unfold qV;rw[hn,hm]
 | some e =>
  have Bf:=zFr hm;have Bv:ltS e.key key=false:=by
   have:=zH2 (f:=λe:zM=>!ltS e.key key) (l:=es) (a:=e) hm;simpa using this
  have h2:vU G gen (es.take (jA key es)++(e :: es.drop (jA key es+1))) ps q:=by rw[<- Bf];exact h
  obtain⟨l1,l2,q1,q2,e1,e2,rfl,rfl⟩:=vU.split _ h2;have hl:=Ab l1 q1 e1;generalize hr:es.drop (jA key es+1)=r at *
  obtain⟨x,ids,l3,q3,e3,e4,e5,rfl,rfl⟩:∃x ids l3 q3,e.key=x.1/\zDv G gen e x.2 ids/\vU G gen r l3 q3/\l2=x :: l3/\q2=ids++q3:=by
   cases e2 with
   | cons a b c=>exact⟨_,_,_,_,a,b,c,rfl,rfl⟩
  have A5:zAx (l1++x :: l3):=by
   rw[h.keys] at Af;exact tI.1 Af
  have Bw:=(List.pairwise_append.1 A5).2.1;have Bg:=(wW.1 Bw).1;have Ah:=congrArg yM Bf;rw[zAK,yM] at Ah;have hw:=zBO e;by_cases hk:e.key=key
  .have A8:zAY key es=true:=by unfold zAY;rw[hm];simp[hk]
   rw[A8];simp only[tU];rw[hr];refine⟨l1,[x],l3,q1,ids,q3,e1,e5,rfl,rfl,hl,λy hy=>by rw[<- hk,e3];exact Bg y hy,?_,.inr ⟨x.2,by rw[<- hk,e3]⟩,λn hn=>?_,by omega⟩
   .rw[zAy,zEi hl,zDH,if_pos (by rw[<- e3,hk])];rfl
   .unfold qV;rw[hn,hm];simp only[A8,true_and];rcases e4 with ⟨c1,_,c3⟩|⟨c1,c2⟩
    .rw[if_neg (by rw[c1];simp),c3]
    .rw[if_pos c1];have hw:=(c2.walk hs hb).2.2.1;have:=congrArg (List.map Int.toNat) hw;simp only[List.map_map] at this;rw[show (λx:Int × List UInt8=>x.1.toNat)=Int.toNat ∘ (·.1) from rfl,this];rw[show (Int.toNat ∘ λk:Nat=>(k:Int))=id from funext λk=>uH k,List.map_id]
  .have A8:zAY key es=false:=by unfold zAY;rw[hm];simp[hk]
   have Ae:ltS key e.key=true:=(zDX Bv).resolve_right hk;rw[A8];simp only[wI,tX,uT];have hd:es.drop (jA key es)=e :: r:=by
    rw[<- hr];obtain⟨h3,rfl⟩:=uA.1 hm;exact wD h3
   rw[hd];have Bh:∀y∈x :: l3,ltS key y.1=true:=λy hy=>by
    rcases uQ.1 hy with rfl|hy
    .rw[<- e3];exact Ae
    .refine zAq (b:=x.1) (by rw[<- e3];exact Ae) (Bg y hy)
   refine⟨l1,[],x :: l3,q1,[],ids++q3,e1,.cons e3 e4 e5,rfl,rfl,hl,Bh,?_,.inl rfl,λn hn=>?_,by rw[yM];omega⟩
   .rw[zAy,zEi hl,zF0 Bh];rfl
   .unfold qV;rw[hn,hm];simp only[A8];simp
def ndV(sz:Nat)(v:ByteArray):Nat:=if v.size<=24 then 0 else ndS sz v.size
theorem zL9{key v:ByteArray}(hc:zCB G l)(hk:jO key=true)(hv:v.size<=4096) :
  (zBI G l gen key v=.inr 3/\zA4 l<ndV G.size v) \/
  ∃G' l' e ids,zBI G l gen key v=.inl (G',l',e)/\Upd G l (λ_=>False) G' l' (λi=>i∈ids)/\ids.Nodup/\ids.length=ndV G.size v/\e.key=key/\zDv G' gen e v ids/\qR e=true/\zA4 l'=zA4 l-ndV G.size v:=by
 unfold zBI ndV;by_cases Ai:v.size<=24
 .rw[if_pos Ai,if_pos Ai];refine .inr ⟨G,l,_,[],rfl,(Upd.refl G l (λ_=>False)).iff (λ_=>rQ) (λi=>by simp),rM,rfl,rfl,.inl ⟨rfl,rfl,rfl⟩,?_,by simp⟩;unfold qR;simp[hk,Ai]
 .rw[if_neg Ai,if_neg Ai];have A6:=zIY G.size v.size (by omega) hc.s256 hc.s1024;have Bi:(zDG (v.size:Int) (G.size:Int)).toNat=ndS G.size v.size:=by rw[A6,uH]
  rw[Bi];cases ht:zA7 (ndS G.size v.size) l with
  | none =>
   refine .inl ⟨rfl,?_⟩;rcases Int.lt_or_le (zA4 l) (ndS G.size v.size:Int) with h|h
   .exact h
   .obtain⟨ids,l1,h1⟩:=zIZ _ _ h;rw[ht] at h1;cases h1
  | some x =>
   obtain⟨ids,l1⟩:=x;obtain⟨t1,t2,t3,t4,t5,t6⟩:=zBY _ _ _ _ ht;have A2:ids.length=ndS G.size v.size:=t1;have Ay:=zRm (G:=G) ht rfl (by omega) hv (by rw[hc.low.1];simp) (by rw[hc.low.2];simp) (Nat.le_of_eq hc.len) gen;have Bx:=zPO (G:=G) ht gen v.data.toList (G.size-28);simp only;rw[A2];refine .inr ⟨_,_,_,ids,rfl,Bx,t3,A2,rfl,.inr ⟨?_,?_⟩,?_,t6⟩
   .have h1:0<ids.length:=by rw[A2];exact Nat.succ_pos _
    have:=Ay.lt _ (zAm h1);show ((ids.getD 0 0:Nat):Int)≠0;omega
   .exact Ay
   .have h1:0<ids.length:=by rw[A2];exact Nat.succ_pos _
    have h2:=Ay.lt _ (zAm h1);have h3:=hc.b256;have h4:(zAH gen v.data.toList (G.size-28) ids (ndS G.size v.size) G).blocks=G.blocks:=(vG _ _ _ _ _ G).1;rw[h4] at h2;unfold qR;have A4:¬ ((ids.getD 0 0:Nat):Int)=0:=by omega
    simp only[hk,Bool.true_and];rw[if_neg A4];unfold zCn;simp only[uI,uO];have:(e0:ByteArray).size=0:=rfl;omega
theorem zDg{old:Nat}{A A1:NP}(h:Upd G l A G1 l1 A1)(ho:vK l old)(hn:old≠0->¬ A old):vK l1 old:=by
 rcases ho with ho|⟨h1,h2⟩
 .exact .inl ho
 .have h0:l[old]? ≠ some 0:=λe=>by rcases h2 with h2|h2 <;> rw[e] at h2 <;> simp at h2
  exact .inr ⟨h1,by rw[(h.view (hn (by omega)) h0).2.1];exact h2⟩
theorem zFs{old:Nat}{n:zI}{key v:ByteArray}(hc:zCB G l)(ho:vK l old)(hl:n.leaf=true)(hr:zO n=true)(hw:zH n<=(G.size:Int)-24)(he:vU G gen n.entries ps q)(Av:∀x∈ps,inB lo hi x.1)(hk:inB lo hi key)(Ac:jO key=true)(hv:v.size<=4096)
  (hq:q.Nodup) (hu:zAk l (λk=>k∈q)) (Aj:old≠0->old ∉ q) :
  (zB6 G l gen old n key v=.inr 3/\zA4 l<=1+(ndV G.size v:Nat)) \/
  ∃G' l' o pgs,zB6 G l gen old n key v=.inl (G',l',o)/\o.news=(qI key ps).isNone/\zPQ G l (λk=>(k=old/\old≠0)\/k∈q) gen 1 lo hi (yV key v true ps) G' l' o pgs/\pgs.length<=q.length+ndV G.size v+2/\(n.entries=[]->o.two=false):=by
 have Af:=zBS hr hl;have Bj:∀i∈q,2<=i:=λi hi=>(he.lt i hi).1
 obtain⟨l1,lm,l2,q1,qm,q2,e1,e2,rfl,rfl,Ad,Ak,A8,By,Az,Ah⟩:=he.at_ Af key hc.s256 hc.b256;have A5:zAx (l1++(lm++l2)):=by
  rw[he.keys] at Af;exact tI.1 Af
 have A6:=uX.1 hq;have A3:=uX.1 A6.2.1;have Ag:zAk l (λk=>k∈qm):=λk hk=>hu k (by simp[hk])
 obtain⟨u1,u2,u3⟩:=zFE (G:=G) qm l A3.1 (λi hi=>Bj i (by simp[hi])) Ag;have Bk:∀k,k∈qm->2<=k:=λk hk=>Bj k (by simp[hk])
 have Bz:=hc.upd u1 Bk;unfold zB6;rw[Az n rfl];have Al:(jY G qm).size=G.size:=u1.sz;rcases zL9 (gen:=gen) Bz Ac hv with ⟨f1,f2⟩|⟨Gw,lw,e,ids,f1,f2,f3,f4,f5,f6,f7,f8⟩
 .rw[f1];rw[Al] at f2;exact .inl ⟨rfl,by omega⟩
 .rw[f1];simp only;rw[Al] at f4 f8;have u4:=u1.trans f2 Ag
  -- what stays
  have Am:∀k∈q1++q2,¬ (k∈qm):=λk hk hm=>by
   rcases uM.1 hk with hk|hk
   .exact A6.2.2 k hk k (by simp[hm]) rfl
   .exact A3.2.2 k hm k hk rfl
  obtain⟨z1,z2⟩:=u4.views Am (λk hk=>hu k (by rcases uM.1 hk with hk|hk <;> simp[hk]));have C0:=hc.upd u4 Bk;have B0:=zDg u4 ho (λhz hm=>Aj hz (by simp[hm]));have A9:Gw.size=G.size:=u4.sz;have An:Gw.blocks=G.blocks:=u4.bl
  -- the entries then
  have hE:vU Gw gen (n.entries.take (jA key n.entries)++[e]++n.entries.drop (jA key n.entries+if zAY key n.entries=true then 1 else 0)) (l1++([(key,v)]++l2)) (q1++(ids++q2)):=by
   rw[uN];exact (e1.mono (uD _) An A9 (λi hi=>(z1 i (by simp[hi])).1)).append ((vU.one f5 f6).append (e2.mono (uD _) An A9 (λi hi=>(z1 i (by simp[hi])).1)))
  have Aw:yV key v true (l1++(lm++l2))=l1++([(key,v)]++l2):=by
   rw[zFF _ Ad,zEM Ak];congr 1
   congr 1
   rcases By with rfl|⟨ov,rfl⟩
   .rfl
   .simp[yV,jJ]
  obtain⟨n',hn'⟩:∃n',n'=zDd n key e:=⟨_,rfl⟩;have hent':n'.entries=n.entries.take (jA key n.entries)++[e]++n.entries.drop (jA key n.entries+if zAY key n.entries=true then 1 else 0):=by rw[hn'];rfl
  have A0:=vB hr;unfold zBB at A0;rw[if_pos hl] at A0;have hleaf':n'.leaf=true:=by rw[hn'];exact hl
  have hkeys':n'.keys=[]:=by rw[hn'];exact A0.1
  have hkids':n'.kids=[]:=by rw[hn'];exact A0.2
  have hse':yM n'.entries<=yM n.entries+59:=by
   rw[hent',zAK,zAK];have:=zFG f7;simp only[yM];omega
  have C1:zH n=2+yM n.entries:=by unfold zH;rw[hl,A0.1];simp[yW]
  have hwt':zH n'=2+yM n'.entries:=by unfold zH;rw[hleaf',hkeys'];simp[yW]
  have hsort':zAx (l1++([(key,v)]++l2)):=by rw[<- Aw];exact zD3 A5
  have hr':zO n'=true:=by
   have e:n'=⟨true,n'.entries,[],[]⟩:=by rw[<- hleaf',<- hkeys',<- hkids']
   rw[e];refine zDf (λx hx=>?_) ?_ ?_
   .rw[hent'] at hx;rcases uM.1 hx with hx|hx
    .rcases uM.1 hx with hx|hx
     .exact zAO hr x (rG hx)
     .rw[wO.1 hx];exact f7
    .exact zAO hr x (rS hx)
   .rw[hent',hE.keys];exact tI.2 hsort'
   .have:=zGK n'.entries;have:=hc.s1024;omega
  have hb':zIb Gw gen (vX Gw gen 0) 0 lo hi n' (l1++([(key,v)]++l2)) (q1++(ids++q2)):=by
   refine .inl ⟨hleaf',rfl,by simp,by rw[hent'];exact hE,λx hx=>?_⟩;rcases uM.1 hx with hx|hx
   .exact Av x (by simp[hx])
   .rcases uM.1 hx with hx|hx
    .rw[wO.1 hx];exact hk
    .exact Av x (by simp[hx])
  have hid:∀i∈ids,i ∉ q1++q2/\(old≠0->i≠old):=λi hi=>by
   refine⟨λhm=>(z1 i hm).2.2 hi,λhz e=>?_⟩;rcases ho with h|⟨_,h⟩
   .exact hz h
   .have h0:l[old]? ≠ some 0:=λe=>by rcases h with h|h <;> rw[e] at h <;> simp at h
    have:=(u4.view (i:=old) (λhm=>Aj hz (by simp[hm])) h0).2.2;exact this (e ▸ hi)
  have hq':(q1++(ids++q2)).Nodup:=by
   refine uX.2 ⟨A6.1,uX.2 ⟨f3,A3.2.1,λa ha b hb e=>?_⟩,λa ha b hb e=>?_⟩
   .subst e;exact (hid a ha).1 (by simp[hb])
   .subst e;rcases uM.1 hb with hb|hb
    .exact (hid a hb).1 (by simp[ha])
    .exact A6.2.2 a ha a (by simp[hb]) rfl
  have Ao:=u4.use Ag;have hu':zAk lw (λk=>k∈q1++(ids++q2)):=λk hk=>by
   rcases uM.1 hk with hk|hk
   .exact z2 k (by simp[hk])
   .rcases uM.1 hk with hk|hk
    .exact Ao k hk
    .exact z2 k (by simp[hk])
  have hoq':old≠0->old ∉ q1++(ids++q2):=λhz hm=>by
   rcases uM.1 hm with hm|hm
   .exact Aj hz (by simp[hm])
   .rcases uM.1 hm with hm|hm
    .exact (hid old hm).2 hz rfl
    .exact Aj hz (by simp[hm])
  have h2':∀k∈q1++(ids++q2),2<=k:=λk hk=>(hE.lt k hk).1
  have B1:=zJ0 C0 B0 hr' (by rw[A9,hwt'];omega) hb' hq' hu' hoq' h2';rw[<- hn'];have Ap:(q1++(ids++q2)).length<=(q1++(qm++q2)).length+ndV G.size v:=by simp only[uC];omega
  rcases B1 with ⟨s1,s2⟩|⟨G2,ll2,o,pgs,s1,s2,s3,s4,s5⟩
  .rw[s1];exact .inl ⟨rfl,by omega⟩
  .rw[s1];simp only;have hB:∀k,((k=old/\old≠0)\/k∈q1++q2)->¬ (k∈qm)/\l[k]? ≠ some 0:=λk hk=>by
    rcases hk with ⟨rfl,hz⟩|hk
    .refine⟨λhm=>Aj hz (by simp[hm]),λe=>?_⟩;rcases ho with h|⟨_,h⟩
     .exact hz h
     .rcases h with h|h <;> rw[e] at h <;> simp at h
    .exact⟨Am k hk,hu.ne0 (by rcases uM.1 hk with hk|hk <;> simp[hk])⟩
   have u5:=(u4.frame hB).iff (A':=λk=>(k=old/\old≠0)\/k∈q1++(qm++q2)) (A1':=λk=>(k=old/\old≠0)\/k∈q1++(ids++q2)) (λk=>by simp only[uM];grind) (λk=>by simp only[uM];grind);have C2:zAk l (λk=>(k=old/\old≠0)\/k∈q1++(qm++q2)):=λk hk=>by
    rcases hk with ⟨rfl,hz⟩|hk
    .rcases ho with h|⟨_,h⟩
     .exact absurd h hz
     .exact h
    .exact hu k hk
   have s6:=s3.pre u5 C2;rw[Aw];refine .inr ⟨G2,ll2,{ o with news:=!zAY key n.entries },pgs,rfl,?_,⟨s6.upd,s6.nodup,s6.two,s6.kids,s6.keys,s6.ctx,s6.use⟩,by omega,λA4=>?_⟩
   .simp only[A8];cases qI key (l1++(lm++l2)) <;> rfl
   .refine s5 ?_;have h9:yM n.entries=0:=by rw[A4];rfl
    rw[hwt',A9];have:=hc.s256;omega
theorem zMA(n:zI)(i:Nat)(o:zBH):zDe n i o = { n with kids:=n.kids.take i++zBL o++n.kids.drop (i+1),keys:=n.keys.take i++jH o++n.keys.drop (i+0) }:=by
 unfold zDe zBL jH;by_cases h:o.two=true
 .simp[h]
 .simp[h]
theorem zKu{id:Nat}{n:zI}(h:PgN G gen id n):G.load (id:Int)=.inl n/\G.node id=some n:=by
 obtain⟨p,h1,_,h3⟩:=h.page;have h4:G.node id=some n:=by
  unfold GA.node;rw[if_pos h.lt,h1];simp only[h3]
 exact⟨(GA.node_load h4).2,h4⟩
theorem zKv{key v:ByteArray}(Ac:jO key=true)(hv:v.size<=4096):∀(d f:Nat) (G:GA) (l:List Nat) (id:Nat) (lo:ByteArray) (hi:Option ByteArray) (ps:List zL) (pgs:List Nat),zCB G l->vX G gen d lo hi id ps pgs->pgs.Nodup->zAk l (λk=>k∈pgs)->inB lo hi key->d<=f ->
  (zC7 gen key v f G l id=.inr 3/\zA4 l<=(ndV G.size v:Nat)+d) \/
  ∃G' l' o pgs',zC7 gen key v f G l id=.inl (G',l',o)/\o.news=(qI key ps).isNone/\zPQ G l (λk=>k∈pgs) gen d lo hi (yV key v true ps) G' l' o pgs'/\pgs'.length<=pgs.length+ndV G.size v+d
 | 0,_,_,_,_,_,_,_,_,_,h,_,_,_,_=>h.elim
 | d+1,0,_,_,_,_,_,_,_,_,_,_,_,_,h=>by omega
 | d+1,f+1,G,l,id,lo,hi,ps,pgs,hc,hT,hn,hu,hk,hf=>by
  obtain⟨n,q,hp,hr,rfl,hb⟩:=hT;obtain⟨Aq,_⟩:=zKu hp;have hid:id ∉ q/\q.Nodup:=uV.1 hn;have B2:id≠0:=by have:=hp.lo;omega
  have Ax:zAk l (λk=>k∈q):=λk hk=>hu k (uJ _ hk)
  have Bl:vK l id:=.inr ⟨hp.lo,hu id uK⟩;have hA:∀k,(k∈id :: q) ↔ ((k=id/\id≠0)\/k∈q):=λk=>by
   rw[uQ];exact⟨λh=>h.imp (λh=>⟨h,B2⟩) (λh=>h),λh=>h.imp (λh=>h.1) (λh=>h)⟩
  rw[zC7,Aq];simp only;rcases hb with ⟨hl,hd,A4,he,Av⟩|⟨hl,B3⟩
  .subst hd;rw[if_pos hl];rcases zFs (key:=key) (v:=v) hc Bl hl hr hp.fit he Av hk Ac hv hid.2 Ax (λ_=>hid.1) with ⟨a1,a2⟩|⟨G2,l2,o,pgs,a1,a2,a3,a4,a5⟩
   .exact .inl ⟨a1,by omega⟩
   .exact .inr ⟨G2,l2,o,pgs,a1,a2,⟨a3.upd.iff hA (λ_=>rQ),a3.nodup,a3.two,a3.kids,a3.keys,a3.ctx,a3.use⟩,by rw[uG];omega⟩
  .rw[if_neg (by rw[hl];simp)];obtain⟨k1,k2,c1,c,c2,l1,lm,l2,q1,qm,q2,lo',hi',e1,e2,e3,e4,rfl,rfl,e7,e8,e9,e10,e11⟩:=B3.at_ (vX.bounds d) hk;have B4:n.kids.getD (vZ key n.keys) 0=(c:Int):=by
    rw[e4,e2,<- e3];simp[List.getD]
   rw[B4,uH];have A6:=uX.1 hid.2;have A3:=uX.1 A6.2.1;have Ag:zAk l (λk=>k∈qm):=λk hk=>Ax k (by simp[hk])
   have ih:=zKv Ac hv d f G l c lo' hi' lm qm hc e7 A3.1 Ag e8 (by omega);rcases ih with ⟨a1,a2⟩|⟨G1,l1',o,qm',a1,a2,a3,a4⟩
   .rw[a1];exact .inl ⟨rfl,by omega⟩
   .rw[a1];simp only;have u4:=a3.upd;have Am:∀k∈q1++q2,¬ (k∈qm):=λk hk hm=>by
     rcases uM.1 hk with hk|hk
     .exact A6.2.2 k hk k (by simp[hm]) rfl
     .exact A3.2.2 k hm k hk rfl
    obtain⟨z1,z2⟩:=u4.views Am (λk hk=>Ax k (by rcases uM.1 hk with hk|hk <;> simp[hk]));have B0:=zDg u4 Bl (λ_ hm=>hid.1 (by simp[hm]));obtain⟨n',hn'⟩:∃n',n'=zDe n (vZ key n.keys) o:=⟨_,rfl⟩;have hK:=e11 (vX G1 gen d) _ _ _ _ a3.kids (λlo hi c l p hp h=>vX.mono (uD _) u4.bl u4.sz d lo hi c l p (λi hi=>(z1 i (by rcases hp i hi with h|h <;> simp[h])).1) h);have hj:n' = { n with kids:=c1++(zBL o++c2),keys:=k1++(jH o++k2) }:=by
     rw[hn',zMA,e1,e2,show vZ key (k1++k2)=k1.length by rw[<- e1];exact e4];have t1:(c1++(c:Int) :: c2).take k1.length=c1:=by rw[<- e3];simp
     have t2:(c1++(c:Int) :: c2).drop (k1.length+1)=c2:=by rw[<- e3];simp
     rw[t1,t2];simp
    have hleaf':n'.leaf=false:=by rw[hj];exact hl
    have hents':n'.entries=n.entries:=by rw[hj]
    have A0:=vB hr;unfold zBB at A0;rw[if_neg (by rw[hl];simp)] at A0;have hkeys':n'.keys=k1++(jH o++k2):=by rw[hj]
    have hkids':n'.kids=c1++(zBL o++c2):=by rw[hj]
    have C8:yW n'.keys<=yW n.keys+37:=by
     rw[hkeys',e1,jP,jP,jP];have:yW (jH o)<=37:=by
      unfold jH;split
      .rename_i h2;have:=a3.keys o.key (by unfold jH;rw[if_pos h2];simp);have:=(zA5 _).1 this;simp[yW];omega
      .simp[yW]
     omega
    have C1:zH n=6+yW n.keys:=by unfold zH;rw[hl,A0.1];simp[yM]
    have hwt':zH n'=6+yW n'.keys:=by unfold zH;rw[hleaf',hents',A0.1];simp[yM]
    have B5:∀i∈qm',i ∉ q1++q2/\i≠id:=λi hi=>by
     refine⟨λhm=>(z1 i hm).2.2 hi,λe=>?_⟩;subst e;exact (u4.view (i:=i) (λhm=>hid.1 (by simp[hm])) (hu.ne0 uK)).2.2 hi
    have hq':(q1++(qm'++q2)).Nodup:=by
     refine uX.2 ⟨A6.1,uX.2 ⟨a3.nodup,A3.2.1,λa ha b hb e=>?_⟩,λa ha b hb e=>?_⟩
     .subst e;exact (B5 a ha).1 (by simp[hb])
     .subst e;rcases uM.1 hb with hb|hb
      .exact (B5 a hb).1 (by simp[ha])
      .exact A6.2.2 a ha a (by simp[hb]) rfl
    have hr':zO n'=true:=by
     have e:n'=⟨false,[],n'.keys,n'.kids⟩:=by rw[hj];simp[hl,A0.1]
     rw[e,hkeys',hkids'];refine hK.right hq' (λs hs=>?_) ?_ a3.ctx.b256
     .rcases uM.1 hs with hs|hs
      .exact zBt hr s (by rw[e1];simp[hs])
      .rcases uM.1 hs with hs|hs
       .exact a3.keys s hs
       .exact zBt hr s (by rw[e1];simp[hs])
     .have h2:2<=n.kids.length:=(zFH hr).2.2 hl;rw[e2] at h2;have:1<=(zBL o).length:=by unfold zBL;split <;> simp
      simp at h2 ⊢;omega
    have hu':zAk l1' (λk=>k∈q1++(qm'++q2)):=λk hk=>by
     rcases uM.1 hk with hk|hk
     .exact z2 k (by simp[hk])
     .rcases uM.1 hk with hk|hk
      .exact a3.use k hk
      .exact z2 k (by simp[hk])
    have hoq':id≠0->id ∉ q1++(qm'++q2):=λhz hm=>by
     rcases uM.1 hm with hm|hm
     .exact hid.1 (by simp[hm])
     .rcases uM.1 hm with hm|hm
      .exact (B5 id hm).2 rfl
      .exact hid.1 (by simp[hm])
    have h2':∀k∈q1++(qm'++q2),2<=k:=λk hk=>(hK.ltq (vX.ltq d) k hk).1
    have B1:=zJ0 (gen:=gen) a3.ctx B0 hr' (by rw[u4.sz,hwt'];have:=hp.fit;omega) (.inr ⟨hleaf',by rw[hkeys',hkids'];exact hK⟩) hq' hu' hoq' h2';rw[<- hn'];have C3:=u4.phi Ag A3.1 a3.nodup;have Ap:(q1++(qm'++q2)).length<=(q1++(qm++q2)).length+ndV G.size v+d:=by simp only[uC];omega
    rcases B1 with ⟨s1,s2⟩|⟨G2,ll2,o2,pgs2,s1,s2,s3,s4,s5⟩
    .rw[s1];exact .inl ⟨rfl,by omega⟩
    .rw[s1];simp only;have hB:∀k,(k=id\/k∈q1++q2)->¬ (k∈qm)/\l[k]? ≠ some 0:=λk hk=>by
      rcases hk with rfl|hk
      .exact⟨λhm=>hid.1 (by simp[hm]),hu.ne0 uK⟩
      .exact⟨Am k hk,Ax.ne0 (by rcases uM.1 hk with hk|hk <;> simp[hk])⟩
     have u5:=(u4.frame hB).iff (A':=λk=>k∈id :: (q1++(qm++q2))) (A1':=λk=>(k=id/\id≠0)\/k∈q1++(qm'++q2)) (λk=>by simp only[uM,uQ];grind) (λk=>by simp only[uM];grind);have s6:=s3.pre u5 hu;have Aw:yV key v true (l1++(lm++l2))=l1++(yV key v true lm++l2):=by rw[zFF _ e9,zEM e10]
     rw[Aw];refine .inr ⟨G2,ll2,{ o2 with news:=o.news },pgs2,rfl,?_,⟨s6.upd,s6.nodup,s6.two,s6.kids,s6.keys,s6.ctx,s6.use⟩,by rw[uG];omega⟩;show o.news=_;rw[a2,zGh e9 e10]
end
def chS(sz:Nat)(l:List zL):Nat:=(l.map λx=>ndV sz x.2).sum
theorem zIf(sz:Nat)(a b:List zL):chS sz (a++b)=chS sz a+chS sz b:=by unfold chS;simp
theorem zMB(sz:Nat)(x:zL)(b:List zL):chS sz (x :: b)=ndV sz x.2+chS sz b:=by unfold chS;simp
section
variable {G G':GA}{gen:Nat}{T:zDR}{lo:ByteArray}{hi:Option ByteArray}{l:List zL}{q:List Nat}{kk:List ByteArray}{cc:List Int}
theorem vU.count{es:List zM}(h:vU G gen es l q)(hr:∀e∈es,qR e=true):q.length=chS G.size l:=by
 induction h with
 | nil=>rfl
 | @cons e x ids es l q h1 h2 _ ih =>
  rw[uC,zMB,ih (λy hy=>hr y (uJ _ hy))];congr 1
  have he:=hr e uK;unfold qR at he;simp only[uI] at he;unfold ndV;rcases h2 with ⟨c1,c2,c3⟩|⟨c1,c2⟩
  .have h4:=he.2;rw[if_pos c1] at h4;simp only[uI,uO] at h4;rw[c2] at h4;rw[if_pos h4.2,c3];rfl
  .rw[if_neg (by have:=c2.lo;omega)];exact c2.len
theorem qY.count{P:List zL->List Nat->Prop}(hT:∀lo hi c l q,T lo hi c l q->P l q)(h:qY T lo hi kk cc l q){sz a:Nat}(hP:∀l q,P l q->q.length+1<=2 * l.length+chS sz l/\a<=l.length/\a+a<=q.length+1/\chS sz l+1<=q.length):q.length+kk.length+1<=2 * l.length+chS sz l/\(kk.length+1) * a<=l.length/\(kk.length+1) * (a+a)<=q.length+kk.length+1/\chS sz l+kk.length+1<=q.length:=by
 induction h with
 | one h=>have:=hP _ _ (hT _ _ _ _ _ h);simpa using this
 | cons h _ _ ih =>
  have h1:=hP _ _ (hT _ _ _ _ _ h);have h2:=ih;simp only[uC,uG,zIf];have m1:∀k:Nat,(k+1+1) * a=(k+1) * a+a:=λk=>wY _ _
  have m2:∀k:Nat,(k+1+1) * (a+a)=(k+1) * (a+a)+(a+a):=λk=>wY _ _
  rw[m1,m2];omega
theorem qY.pos(h:qY (vX G gen 0) lo hi kk cc l q):False:=by
 cases h with
 | one h=>exact h
 | cons h _ _=>exact h
theorem vX.count:∀(d:Nat) (lo:ByteArray) (hi:Option ByteArray) (id:Nat) (l:List zL) (q:List Nat),vX G gen d lo hi id l q->q.length+1<=2 * l.length+chS G.size l/\2 ^ (d-1)<=l.length/\2 ^ (d-1)+2 ^ (d-1)<=q.length+1/\chS G.size l+1<=q.length
 | 0,_,_,_,_,_,h=>h.elim
 | d+1,lo,hi,id,l,q,h=>by
  obtain⟨n,q,hp,hr,rfl,h⟩:=h;rcases h with ⟨hl,rfl,A4,he,_⟩|⟨hl,hk⟩
  .have hc:=he.count (zAO hr);have:1<=l.length:=List.length_pos_iff.2 A4;simp only[uG];refine⟨by omega,by simpa using this,by simp,by omega⟩
  .have A2:=hk.len;have h2:=(zFH hr).2.2 hl;have h3:=hk.count (P:=λl q=>q.length+1<=2 * l.length+chS G.size l/\2 ^ (d-1)<=l.length/\2 ^ (d-1)+2 ^ (d-1)<=q.length+1/\chS G.size l+1<=q.length) (λlo hi c l q h=>vX.count d lo hi c l q h) (sz:=G.size) (a:=2 ^ (d-1)) (λ_ _ h=>h);have hd:1<=d:=by
    rcases tV d with h0|h0
    .subst h0;exact hk.pos.elim
    .exact h0
   obtain⟨k,Ar⟩:∃k,n.keys.length=k+1:=⟨n.keys.length-1,by omega⟩;rw[Ar] at h3;have e:2 ^ (d+1-1)=2 ^ (d-1)+2 ^ (d-1):=by
    rw[show d+1-1=(d-1)+1 by omega,pH];omega
   rw[e];generalize 2 ^ (d-1)=a at *
   have m1:(k+1+1) * a=k * a+a+a:=by rw[wY,wY]
   have m2:(k+1+1) * (a+a)=k * (a+a)+(a+a)+(a+a):=by rw[wY,wY]
   rw[m1,m2] at h3;have m3:k<=k * (a+a)\/a=0:=by
    rcases tV a with h|h
    .exact .inr h
    .exact .inl (Nat.le_mul_of_pos_right k (by omega))
   simp only[uG];refine⟨by omega,by omega,?_,by omega⟩;omega
theorem qY.sorted(hb:∀lo hi c l q,T lo hi c l q->∀x∈l,inB lo hi x.1)(hT:∀lo hi c l q,T lo hi c l q->zAx l)(h:qY T lo hi kk cc l q):zAx l:=by
 induction h with
 | one h=>exact hT _ _ _ _ _ h
 | @cons lo hi s c keys kids l1 l2 q1 q2 h h2 h3 ih =>
  refine List.pairwise_append.2 ⟨hT _ _ _ _ _ h,ih,λx hx y hy=>?_⟩;exact zB1 ((hb _ _ _ _ _ h x hx).2 s rfl) (h3.bounds hb y hy).1
theorem vX.sorted:∀(d:Nat) (lo:ByteArray) (hi:Option ByteArray) (id:Nat) (l:List zL) (q:List Nat),vX G gen d lo hi id l q->zAx l
 | 0,_,_,_,_,_,h=>h.elim
 | d+1,lo,hi,id,l,q,h=>by
  obtain⟨n,q,hp,hr,rfl,h⟩:=h;rcases h with ⟨hl,rfl,A4,he,_⟩|⟨hl,hk⟩
  .have:=zBS hr hl;rw[he.keys] at this;exact tI.1 this
  .exact hk.sorted (vX.bounds d) (vX.sorted d)
def zIg(x:zL):Prop:=jO x.1=true/\x.2.size<=4096
theorem vU.ok{es:List zM}(h:vU G gen es l q)(hr:∀e∈es,qR e=true):∀x∈l,zIg x:=by
 induction h with
 | nil=>intro x hx;simp at hx
 | @cons e x ids es l q h1 h2 _ ih =>
  intro y hy;rcases uQ.1 hy with rfl|hy
  .have he:=hr e uK;unfold qR at he;simp only[uI] at he;refine⟨by rw[<- h1];exact he.1,?_⟩;rcases h2 with ⟨c1,c2,c3⟩|⟨c1,c2⟩
   .have h4:=he.2;rw[if_pos c1] at h4;simp only[uI,uO] at h4;rw[<- c2];omega
   .exact c2.hi
  .exact ih (λz hz=>hr z (uJ _ hz)) y hy
theorem qY.ok(hT:∀lo hi c l q,T lo hi c l q->∀x∈l,zIg x)(h:qY T lo hi kk cc l q):∀x∈l,zIg x:=by
 induction h with
 | one h=>exact hT _ _ _ _ _ h
 | cons h _ _ ih =>
  intro x hx;rcases uM.1 hx with hx|hx
  .exact hT _ _ _ _ _ h x hx
  .exact ih x hx
theorem vX.ok:∀(d:Nat) (lo:ByteArray) (hi:Option ByteArray) (id:Nat) (l:List zL) (q:List Nat),vX G gen d lo hi id l q->∀x∈l,zIg x
 | 0,_,_,_,_,_,h=>h.elim
 | d+1,lo,hi,id,l,q,h=>by
  obtain⟨n,q,hp,hr,rfl,h⟩:=h;rcases h with ⟨hl,rfl,A4,he,_⟩|⟨hl,hk⟩
  .exact he.ok (zAO hr)
  .exact hk.ok (vX.ok d)
end
structure TD(G:GA)(gen root d:Nat)(ps:List zL)(pgs:List Nat):Prop where
 tree:(root=0/\d=0/\ps=[]/\pgs=[])\/(1<=d/\vX G gen d e0 none root ps pgs)
 nodup:pgs.Nodup
section
variable {G G':GA}{l l':List Nat}{gen root d:Nat}{ps:List zL}{pgs:List Nat}
theorem TD.none(G:GA)(gen:Nat):TD G gen 0 0 [] []:=⟨.inl ⟨rfl,rfl,rfl,rfl⟩,rM⟩
theorem TD.sorted(h:TD G gen root d ps pgs):zAx ps:=by
 rcases h.tree with ⟨_,_,rfl,_⟩|⟨_,h⟩
 .exact List.Pairwise.nil
 .exact vX.sorted _ _ _ _ _ _ h
theorem TD.ok(h:TD G gen root d ps pgs):∀x∈ps,zIg x:=by
 rcases h.tree with ⟨_,_,rfl,_⟩|⟨_,h⟩
 .intro x hx;simp at hx
 .exact vX.ok _ _ _ _ _ _ h
theorem TD.lt(h:TD G gen root d ps pgs):∀i∈pgs,2<=i/\i<G.blocks:=by
 rcases h.tree with ⟨_,_,_,rfl⟩|⟨_,h⟩
 .intro x hx;simp at hx
 .exact vX.ltq _ _ _ _ _ _ h
theorem TD.count(h:TD G gen root d ps pgs):pgs.length+(if ps=[] then 0 else 1)<=2 * ps.length+chS G.size ps/\(ps≠[]->2 ^ (d-1)<=ps.length)/\(if d=0 then 0 else 2 ^ (d-1)+2 ^ (d-1))<=pgs.length+1/\chS G.size ps+(if ps=[] then 0 else 1)<=pgs.length:=by
 rcases h.tree with ⟨_,rfl,rfl,rfl⟩|⟨hd,h⟩
 .simp[chS]
 .obtain⟨h1,h2,h3,h4⟩:=vX.count _ _ _ _ _ _ h;have A4:=vX.ne _ _ _ _ _ _ h;rw[if_neg A4,if_neg (by omega)];exact⟨h1,λ_=>h2,h3,h4⟩
theorem TD.few(h:TD G gen root d ps pgs)(hb:G.blocks<=256):pgs.length<=254/\d<=7:=by
 have hl:pgs.length<=254:=by
  have h1:=zEF 254 (pgs.map λ(i:Nat)=>(i:Int)-2) (tI.2 (h.nodup.imp (λA4 e=>A4 (by omega)))) (λi hi=>by
   obtain⟨j,hj,rfl⟩:=nP.1 hi;have:=h.lt j hj;omega)
  simpa using h1
 refine⟨hl,?_⟩;have h3:=h.count.2.2.1;rcases tK 7 d with hd|hd
 .rw[if_neg (by omega)] at h3;have:2 ^ 7<=2 ^ (d-1):=wX (by omega) (by omega);omega
 .exact hd
theorem TD.mono(h:TD G gen root d ps pgs){gen':Nat}(hg:gen<=gen')(hb:G'.blocks=G.blocks)(hs:G'.size=G.size)(hv:∀i∈pgs,G'.view i=G.view i):TD G' gen' root d ps pgs :=
 ⟨h.tree.imp id (λh=>⟨h.1,vX.mono hg hb hs _ _ _ _ _ _ hv h.2⟩),h.nodup⟩
theorem zRo{key v:ByteArray}(hc:zCB G l)(hT:TD G gen root d ps pgs)(hu:zAk l (λk=>k∈pgs))(Ac:jO key=true)(hv:v.size<=4096) :
  (zHX G l gen root key v=.inr 3/\zA4 l<=(ndV G.size v:Nat)+d+1) \/
  ∃G' l' root' d' pgs',zHX G l gen root key v=.inl (G',l',(root',(qI key ps).isNone))/\Upd G l (λk=>k∈pgs) G' l' (λk=>k∈pgs')/\TD G' gen root' d' (yV key v true ps) pgs'/\zAk l' (λk=>k∈pgs')/\zCB G' l'/\2<=root'/\d'<=d+1:=by
 have B6:zDQ key v=none:=by unfold zDQ;rw[if_neg (by rw[Ac];simp),if_neg (by omega)]
 have hs:=hc.s256;unfold zHX;rw[B6];simp only;rcases hT.tree with ⟨rfl,rfl,rfl,rfl⟩|⟨hd,Bm⟩
 .rw[if_pos rfl];rcases zFs (gen:=gen) (lo:=e0) (hi:=none) (n:=zFY) (key:=key) (v:=v) (ps:=[]) (q:=[]) hc (.inl rfl) rfl rfl (by unfold zH zFY;simp[yM,yW];omega) .nil (λx hx=>by simp at hx) (zEA key) Ac hv rM (λk hk=>by simp at hk) (λh=>absurd rfl h) with ⟨a1,a2⟩|⟨G2,l2,o,pgs,a1,a2,a3,a4,a5⟩
  .rw[a1];exact .inl ⟨rfl,by omega⟩
  .rw[a1];simp only;have h2:=a5 rfl;rw[if_pos h2];have hk:=a3.kids;unfold jH zBL at hk;rw[if_neg (by rw[h2];simp),if_neg (by rw[h2];simp)] at hk;generalize Ar:[(o.id0:Int)]=kk at hk
   cases hk with
   | @one _ _ c _ _ As =>
    simp only[List.cons.injEq,and_true] at Ar;have B7:c=o.id0:=by omega
    subst B7;refine .inr ⟨G2,l2,o.id0,1,pgs,by rw[a2],a3.upd.iff (λk=>by simp) (λ_=>rQ),⟨.inr ⟨uD _,As⟩,a3.nodup⟩,a3.use,a3.ctx,?_,by omega⟩;obtain⟨r,hr⟩:=vX.head _ _ _ _ _ _ As;exact a3.two _ (by rw[hr];simp)
 .have C9:=(hT.few hc.b256).2;have At:root≠0:=by
   obtain⟨r,hr⟩:=vX.head _ _ _ _ _ _ Bm;have:=hT.lt root (by rw[hr];simp);omega
  rw[if_neg At];rcases zKv (gen:=gen) Ac hv d 16 G l root e0 none ps pgs hc Bm hT.nodup hu (zEA key) (by omega) with ⟨a1,a2⟩|⟨G2,l2,o,pgs',a1,a2,a3,a4⟩
  .rw[a1];exact .inl ⟨rfl,by omega⟩
  .rw[a1];simp only;have hk:=a3.kids;by_cases h2:o.two=false
   .rw[if_pos h2];unfold jH zBL at hk;rw[if_neg (by rw[h2];simp),if_neg (by rw[h2];simp)] at hk;generalize Ar:[(o.id0:Int)]=kk at hk
    cases hk with
    | @one _ _ c _ _ As =>
     simp only[List.cons.injEq,and_true] at Ar;have B7:c=o.id0:=by omega
     subst B7;refine .inr ⟨G2,l2,o.id0,d,pgs',by rw[a2],a3.upd,⟨.inr ⟨hd,As⟩,a3.nodup⟩,a3.use,a3.ctx,?_,by omega⟩;obtain⟨r,hr⟩:=vX.head _ _ _ _ _ _ As;exact a3.two _ (by rw[hr];simp)
   .have B8:o.two=true:=by simpa using h2
    rw[if_neg h2];have Au:=a3.keys o.key (by unfold jH;rw[if_pos B8];simp);unfold jH zBL at hk;rw[if_pos B8,if_pos B8] at hk;have hr:zO (zCj o)=true:=hk.right a3.nodup (λs hs=>by rw[wO.1 hs];exact Au) (by simp) a3.ctx.b256;have C4:=(zA5 o.key).1 Au;have hw:zH (zCj o)<=(G2.size:Int)-24:=by
     unfold zH zCj;have:=a3.ctx.s256;simp[yM,yW];omega
    cases Bn:qU G2 l2 0 (zCj o) with
    | none =>
     simp only;refine .inl ⟨by unfold zBX;rw[if_pos ⟨hr,hw⟩],?_⟩;have h3:=zEN Bn ⟨hr,hw⟩ (.inl rfl);have h4:=a3.upd.phi hu hT.nodup a3.nodup;omega
    | some i =>
     simp only;obtain⟨b1,b2,b3,b4,b5,b6,_⟩:=zHk (gen:=gen) (lo:=e0) (hi:=none) (d:=d) a3.ctx (.inl rfl) Bn hr (.inr ⟨rfl,hk⟩) a3.nodup a3.use (λh=>absurd rfl h) a3.two;refine .inr ⟨_,_,i,d+1,i :: pgs',by rw[a2],?_,⟨.inr ⟨by omega,b2⟩,b3⟩,λk hk=>b6 k (uQ.1 hk),b5,b4,by omega⟩;have b7:=b1.iff (A':=λk=>k∈pgs') (A1':=λk=>k∈i :: pgs') (λk=>by simp) (λk=>by rw[uQ]);exact a3.upd.trans b7 hu
end
section
variable {G G':GA}{gen:Nat}{T:zDR}{lo:ByteArray}{hi:Option ByteArray}{l:List zL}{q:List Nat}{kk:List ByteArray}{cc:List Int}
theorem zDv.tells{e:zM}{v:ByteArray}{ids:List Nat}(h:zDv G gen e v ids)(hs:256<=G.size)(hb:G.blocks<=256):zDK G.R2 e=some v:=by
 unfold zDK;rcases h with ⟨c1,c2,_⟩|⟨c1,c2⟩
 .rw[if_pos c1,c2]
 .rw[if_neg c1];obtain⟨_,w2,_,w4⟩:=c2.walk hs hb;unfold GA.R2;rw[if_pos w2,w4]
theorem vU.tells{es:List zM}(h:vU G gen es l q)(hs:256<=G.size)(hb:G.blocks<=256):∀(i:Nat) (e:zM) (x:zL),es[i]? = some e->l[i]? = some x->e.key=x.1/\zDK G.R2 e=some x.2:=by
 induction h with
 | nil=>intro i e x he;simp at he
 | @cons e x ids es l q h1 h2 _ ih =>
  intro i f y hf hy;match i,hf,hy with
  | 0,hf,hy =>
   simp at hf hy;subst hf hy;exact⟨h1,h2.tells hs hb⟩
  | i+1,hf,hy=>exact ih i f y (by simpa using hf) (by simpa using hy)
end
structure yP where
 seen:List Int
 finds:List (Int × Int)
 ids:List Int
 keys:Nat
 lost:List ByteArray
 blind:Bool
def yP.find(A:yP)(id what:Int):yP:={ A with finds:=A.finds++[(id,what)],blind:=A.blind || decide (what=3) }
def yP.good(A:yP)(id:Int):yP:={ A with ids:=A.ids++[id] }
def yP.see(A:yP)(id:Int):yP:={ A with seen:=A.seen++[id] }
def yP.key(A:yP):yP:={ A with keys:=A.keys+1 }
def yP.lose(A:yP)(k:ByteArray):yP:={ A with lost:=A.lost++[k] }
def yP.few(A:yP):Prop:=A.seen.length<=1000/\A.finds.length<=1000/\A.ids.length<=1000/\A.lost.length<=100000/\A.keys<=1000000
def yP.le(A B:yP):Prop:=A.seen.length<=B.seen.length/\A.finds.length<=B.finds.length/\A.ids.length<=B.ids.length/\A.lost.length<=B.lost.length/\A.keys<=B.keys
theorem yP.le_refl(A:yP):A.le A:=⟨uD _,uD _,uD _,uD _,uD _⟩
theorem yP.le.trans{A B C:yP}(h:A.le B)(k:B.le C):A.le C :=
 ⟨uP h.1 k.1,uP h.2.1 k.2.1,uP h.2.2.1 k.2.2.1,uP h.2.2.2.1 k.2.2.2.1,uP h.2.2.2.2 k.2.2.2.2⟩
theorem yP.le.few{A B:yP}(h:A.le B)(k:B.few):A.few :=
 ⟨uP h.1 k.1,uP h.2.1 k.2.1,uP h.2.2.1 k.2.2.1,uP h.2.2.2.1 k.2.2.2.1,uP h.2.2.2.2 k.2.2.2.2⟩
theorem yP.le_find(A:yP)(id what:Int):A.le (A.find id what):=⟨uD _,by simp[yP.find],uD _,uD _,uD _⟩
theorem yP.le_good(A:yP)(id:Int):A.le (A.good id):=⟨uD _,uD _,by simp[yP.good],uD _,uD _⟩
theorem yP.le_see(A:yP)(id:Int):A.le (A.see id):=⟨by simp[yP.see],uD _,uD _,uD _,uD _⟩
theorem yP.le_key(A:yP):A.le A.key:=⟨uD _,uD _,uD _,uD _,by simp[yP.key]⟩
theorem yP.le_lose(A:yP)(k:ByteArray):A.le (A.lose k):=⟨uD _,uD _,uD _,by simp[yP.lose],uD _⟩
def dkQ(D:zJ)(id:Int):Option zY:=if 0<=id/\id<D.blocks then match zV (D.lasting.getD id.toNat []) id with
 | .inl p=>some p
 | .inr _=>none
 else none
section
variable {Q:Int->Option zY}{gen z:Nat}{A:yP}{id what:Int}{p:zY}
def jE(Q:Int->Option zY)(gen:Nat)(A:yP)(id what:Int):yP × Option zY :=
 if id∈A.seen then (A,none) else match Q id with
  | none=>((A.see id).find id what,none)
  | some p=>if gen<p.gen then ((A.see id).find id what,none) else (A.see id,some p)
theorem zHK(h:id∈A.seen):jE Q gen A id what=(A,none):=by unfold jE;rw[if_pos h]
theorem zCQ(h:id ∉ A.seen)(hq:Q id=none):jE Q gen A id what=((A.see id).find id what,none):=by unfold jE;rw[if_neg h,hq]
theorem zEO(h:id ∉ A.seen)(hq:Q id=some p)(hg:gen<p.gen):jE Q gen A id what=((A.see id).find id what,none):=by unfold jE;rw[if_neg h,hq];simp only;rw[if_pos hg]
theorem zBa(h:id ∉ A.seen)(hq:Q id=some p)(hg:¬ gen<p.gen):jE Q gen A id what=(A.see id,some p):=by unfold jE;rw[if_neg h,hq];simp only;rw[if_neg hg]
theorem zFJ(Q:Int->Option zY)(gen:Nat)(A:yP)(id what:Int):A.le (jE Q gen A id what).1:=by
 by_cases h:id∈A.seen
 .rw[zHK h];exact A.le_refl
 .cases hq:Q id with
  | none=>rw[zCQ h hq];exact (A.le_see id).trans (yP.le_find _ _ _)
  | some p =>
   by_cases hg:gen<p.gen
   .rw[zEO h hq hg];exact (A.le_see id).trans (yP.le_find _ _ _)
   .rw[zBa h hq hg];exact A.le_see id
theorem zNO{D:zJ}{id:Nat}(h:id<D.blocks):dkQ D (id:Int)=match zV (D.lasting.getD id []) (id:Int) with
  | .inl p=>some p
  | .inr _=>none:=by unfold dkQ;rw[if_pos ⟨by omega,by omega⟩,uH]
theorem zRp{D:zJ}{id:Int}(h:id<0\/(D.blocks:Int)<=id):dkQ D id=none:=by unfold dkQ;rw[if_neg (by omega)]
def yU(Q:Int->Option zY)(gen z:Nat):Nat->Int->Int->yP->yP × Bool
 | 0,_,_,A=>(A,true)
 | f+1,id,n,A=>if n<=0 then (A,true) else
  match jE Q gen A id 4 with
  | (A1,none)=>(A1,false)
  | (A1,some x)=>if yS z x n=true then (A1.find id 4,false) else yU Q gen z f ((vC x.body 0 4).1:Nat) (n-min n ((z:Int)-28)) (A1.good id)
theorem zDT(Q:Int->Option zY)(gen z:Nat):∀(f:Nat) (id n:Int) (A:yP),A.le (yU Q gen z f id n A).1
 | 0,_,_,A=>A.le_refl
 | f+1,id,n,A=>by
  rw[yU];split
  .exact A.le_refl
  .have h:=zFJ Q gen A id 4;split
   .rename_i A1 he;rw[he] at h;exact h
   .rename_i A1 x he;rw[he] at h;split
    .exact h.trans (yP.le_find _ _ _)
    .exact (h.trans (yP.le_good _ _)).trans (zDT Q gen z f _ _ _)
def zBD(Q:Int->Option zY)(gen z:Nat)(A:yP)(e:zM):yP:=if e.chain=0 then A.key else
 if (yU Q gen z e.size.toNat e.chain e.size A.key).2=true then (yU Q gen z e.size.toNat e.chain e.size A.key).1 else (yU Q gen z e.size.toNat e.chain e.size A.key).1.lose e.key
theorem zGL(Q:Int->Option zY)(gen z:Nat)(A:yP)(e:zM):A.le (zBD Q gen z A e):=by
 unfold zBD;split
 .exact A.le_key
 .have h:=A.le_key.trans (zDT Q gen z e.size.toNat e.chain e.size A.key);split
  .exact h
  .exact h.trans (yP.le_lose _ _)
theorem zCV{α:Type}{f:yP->α->yP}(h:∀(A:yP) (x:α),A.le (f A x)):∀(l:List α) (A:yP),A.le (l.foldl f A)
 | [],A=>A.le_refl
 | x :: l,A=>(h A x).trans (zCV h l (f A x))
def yZ(Q:Int->Option zY)(gen z:Nat):Nat->Int->yP->yP
 | 0,id,A=>match jE Q gen A id 3 with
  | (A1,none)=>A1
  | (A1,some _)=>A1.find id 3
 | f+1,id,A=>match jE Q gen A id 3 with
  | (A1,none)=>A1
  | (A1,some p)=>match qJ p with
   | .inr _=>A1.find id 3
   | .inl n=>n.kids.foldl (λB k=>yZ Q gen z f k B) (n.entries.foldl (zBD Q gen z) (A1.good id))
theorem zDw(Q:Int->Option zY)(gen z:Nat):∀(f:Nat) (id:Int) (A:yP),A.le (yZ Q gen z f id A)
 | 0,id,A=>by
  rw[yZ];have h:=zFJ Q gen A id 3;split
  .rename_i A1 he;rw[he] at h;exact h
  .rename_i A1 x he;rw[he] at h;exact h.trans (yP.le_find _ _ _)
 | f+1,id,A=>by
  rw[yZ];have h:=zFJ Q gen A id 3;split
  .rename_i A1 he;rw[he] at h;exact h
  .rename_i A1 x he;rw[he] at h;split
   .exact h.trans (yP.le_find _ _ _)
   .exact ((h.trans (yP.le_good _ _)).trans (zCV (zGL Q gen z) _ _)).trans (zCV (λB k=>zDw Q gen z f k B) _ _)
end
def yP.add(A:yP)(x:List Int)(k:Nat):yP:={ A with seen:=A.seen++x,ids:=A.ids++x,keys:=A.keys+k }
theorem yP.add_nil(A:yP):A.add [] 0=A:=by unfold yP.add;simp
theorem yP.add_add(A:yP)(x y:List Int)(k j:Nat):(A.add x k).add y j=A.add (x++y) (k+j):=by unfold yP.add;simp[p4]
theorem yP.add_one(A:yP)(i:Int):(A.see i).good i=A.add [i] 0:=rfl
theorem yP.key_add(A:yP)(x:List Int)(k:Nat):A.key.add x k=A.add x (1+k):=by unfold yP.add yP.key;simp[p4]
theorem yP.key_eq(A:yP):A.key=A.add [] 1:=by unfold yP.add yP.key;simp
section
variable {Q:Int->Option zY}{gen gen' z:Nat}{G:GA}{T:zDR}{lo:ByteArray}{hi:Option ByteArray}{l:List zL}{q ids:List Nat}{c s:Int}{v:ByteArray}
theorem zDh{A:yP}{i:Nat}{r:List Nat}(hn:(A.seen++iL (i :: r)).Nodup):(i:Int) ∉ A.seen/\((A.add [(i:Int)] 0).seen++iL r).Nodup:=by
 refine⟨λhm=>?_,?_⟩
 .rw[uX] at hn;exact hn.2.2 _ hm (i:Int) (by simp[iL]) rfl
 .show (A.seen++[(i:Int)]++iL r).Nodup;simpa[iL] using hn
theorem zOG{v:List UInt8}{m nn g blocks:Nat}(hm:ids.length=m)(hf:Fit v.length nn m)(hs:z=nn+28)(Ae:∀i∈ids,2<=i/\i<blocks)(Bo:blocks<=256)(hg:g<=gen)
  (h:∀i,i<m->Q ((ids.getD i 0:Nat):Int)=some (zAU g v nn ids i)) :
  ∀(k i f:Nat) (A:yP),i+k=m->v.length-i * nn<=f->(A.seen++iL (ids.drop i)).Nodup ->
   yU Q gen z f ((ids.getD i 0:Nat):Int) ((v.length-i * nn:Nat):Int) A=(A.add (iL (ids.drop i)) 0,true)
 | 0,i,f,A,hc,_,_=>by
  have hz:v.length-i * nn=0:=by have:=hf.hi;rw[<- hc,uT] at this;omega
  have hd:ids.drop i=[]:=tG (by omega);rw[hz,hd];show yU Q gen z f _ _ A=(A.add [] 0,true);rw[yP.add_nil];cases f with
  | zero=>rfl
  | succ f=>rw[yU,if_pos (by simp)]
 | k+1,i,f,A,hc,Ca,hn=>by
  have hi:i<m:=by omega
  have hl:=hf.left hi;obtain⟨f,rfl⟩:∃f',f=f'+1:=⟨f-1,by omega⟩;have Bi:=hf.n228;have B9:i<ids.length:=by omega
  have hid:=Ae _ (zAm B9);have Bp:ids.drop i=ids.getD i 0 :: ids.drop (i+1):=by
   rw[wD B9];simp[List.getD,B9]
  rw[Bp] at hn;obtain⟨n1,n2⟩:=zDh hn;have Ba:=zKo (size:=z) hm hf hs Ae Bo hi g;have C5:ids.getD (i+1) 0<4294967296:=by
   rcases tK (i+1) ids.length with h|h
   .have:=Ae _ (zAm h);omega
   .rw[zE3 h];omega
  have ht:vC (zAU g v nn ids i).body 0 4=(ids.getD (i+1) 0,none):=zDO _ _ C5;have Bb:((v.length-i * nn:Nat):Int)-min ((v.length-i * nn:Nat):Int) ((z:Int)-28)=((v.length-(i+1) * nn:Nat):Int):=by
   rw[wY];omega
  rw[yU,if_neg (by omega),zBa n1 (h i hi) (by show ¬ gen<g;omega)];simp only[Ba,ht,Bb];rw[if_neg (by simp),yP.add_one,zOG hm hf hs Ae Bo hg h k (i+1) f _ (by omega) (by rw[wY];omega) n2,yP.add_add,Bp];rfl
def zBp(Q:Int->Option zY)(G:GA):Prop:=∀(i:Nat) (p:zY),i<G.blocks->G.view i=some (.inl p)->Q (i:Int)=some p
theorem zS2(hQ:zBp Q G)(h:ChG G gen' c s v ids)(hg:gen'<=gen)(hs:256<=G.size)(hb:G.blocks<=256){A:yP}(hn:(A.seen++iL ids).Nodup) :
  yU Q gen G.size s.toNat c s A=(A.add (iL ids) 0,true):=by
 obtain⟨g,Cb,hp⟩:=h.page;have hl:v.data.toList.length=v.size:=jB v;have Cc:=h.lo;have hf:Fit v.data.toList.length (G.size-28) (ndS G.size v.size):=by rw[hl];exact zHj _ _ (by omega) hs
 have e:=zOG (Q:=Q) (gen:=gen) (z:=G.size) (g:=g) h.len hf (by omega) h.lt hb (by omega) (λi hi=>hQ _ _ (h.lt _ (zAm (by rw[h.len];exact hi))).2 (hp i (by rw[h.len];exact hi))) (ndS G.size v.size) 0 v.size A (by omega) (by rw[hl];omega) (by simpa using hn);rw[hl] at e;simp only[pU,nO,List.drop_zero] at e;rw[h.size,h.first,uH];exact e
theorem zQt(hQ:zBp Q G){e:zM}(h:zDv G gen' e v ids)(hg:gen'<=gen)(hs:256<=G.size)(hb:G.blocks<=256){A:yP}(hn:(A.seen++iL ids).Nodup):zBD Q gen G.size A e=A.add (iL ids) 1:=by
 unfold zBD;rcases h with ⟨h1,_,rfl⟩|⟨h1,h2⟩
 .rw[if_pos h1,yP.key_eq];rfl
 .rw[if_neg h1,zS2 hQ h2 hg hs hb (A:=A.key) hn];rw[if_pos rfl,yP.key_add]
theorem zOH(hQ:zBp Q G)(hg:gen'<=gen)(hs:256<=G.size)(hb:G.blocks<=256){es:List zM}(h:vU G gen' es l q):∀(A:yP),(A.seen++iL q).Nodup->es.foldl (zBD Q gen G.size) A=A.add (iL q) l.length:=by
 induction h with
 | nil=>intro A _;exact A.add_nil.symm
 | @cons e x ids es l q h1 h2 _ ih =>
  intro A hn;rw[zDq] at hn;rw[tM,zQt hQ h2 hg hs hb (hn.sublist (by rw[<- uN];exact rU _ _)),ih _ (by show (A.seen++iL ids++iL q).Nodup;rw[uN];exact hn),yP.add_add,zDq,uG,Nat.add_comm]
theorem zOI{keys:List ByteArray}{kids:List Int}{rec_:Int->yP->yP}(hT:∀lo hi c l q,T lo hi c l q->∀(A:yP),(A.seen++iL q).Nodup->rec_ (c:Int) A=A.add (iL q) l.length)(h:qY T lo hi keys kids l q):∀(A:yP),(A.seen++iL q).Nodup->kids.foldl (λB k=>rec_ k B) A=A.add (iL q) l.length:=by
 induction h with
 | one h=>intro A hn;exact hT _ _ _ _ _ h A hn
 | @cons lo hi s c keys kids l1 l2 q1 q2 h1 h2 _ ih =>
  intro A hn;rw[zDq] at hn;rw[tM,hT _ _ _ _ _ h1 A (hn.sublist (by rw[<- uN];exact rU _ _)),ih _ (by show (A.seen++iL q1++iL q2).Nodup;rw[uN];exact hn),yP.add_add,zDq,uC]
theorem zOJ(hQ:zBp Q G)(hg:gen'<=gen)(hs:256<=G.size)(hb:G.blocks<=256):∀(d:Nat) (lo:ByteArray) (hi:Option ByteArray) (id:Nat) (l:List zL) (q:List Nat),vX G gen' d lo hi id l q->∀(f:Nat) (A:yP),d<=f->(A.seen++iL q).Nodup ->
  yZ Q gen G.size f (id:Int) A=A.add (iL q) l.length
 | 0,_,_,_,_,_,h,_,_,_,_=>h.elim
 | d+1,lo,hi,id,l,pgs,h,0,_,hf,_=>by omega
 | d+1,lo,hi,id,l,pgs,h,f+1,A,hf,hn=>by
  obtain⟨n,q,hp,hr,rfl,h⟩:=h;obtain⟨p,hv,Cd,Bc⟩:=hp.page;obtain⟨n1,n2⟩:=zDh hn;rw[yZ,zBa n1 (hQ id p hp.lt hv) (by omega)];simp only[Bc,yP.add_one];rcases h with ⟨hl,rfl,A4,he,C6⟩|⟨hl,hk⟩
  .have B3:n.kids=[]:=by
    unfold zO at hr;rw[if_pos hl] at hr;simp only[uI,wR] at hr;exact hr.1.1.2
   rw[B3,nT,zOH hQ hg hs hb he _ n2,yP.add_add,wG];rfl
  .have C7:n.entries=[]:=by
    unfold zO at hr;rw[if_neg (by rw[hl];simp)] at hr;simp only[uI,wR] at hr;exact hr.1.1.1.1.1.1.1
   rw[C7,nT,zOI (λlo hi c l q hT A hn=>zOJ hQ hg hs hb d lo hi c l q hT f A (by omega) hn) hk _ n2,yP.add_add,wG];rfl
end
end Go.Proofs.YtalpfcaakpgkmaaGreatDoor
