import Derived.Test.YtchklfmggpconaaGreatDoorK27
namespace Go.Proofs.YtchklfmggpconaaGreatDoor
open Go.RowKit
def zFr(f:Nat->Int):Nat->Int
 | 0=>0
 | n+1=>zFr f n+f n
theorem zFs(f g:Nat->Int):∀n,zFr (λi=>f i+g i) n=zFr f n+zFr g n
 | 0=>rfl
 | n+1=>by simp only[zFr,zFs f g n];omega
theorem zLP(x:Nat):∀n,zFr (λi=>if i=x then 1 else 0) n=if x<n then 1 else 0
 | 0=>by simp[zFr]
 | n+1=>by
  rw[zFr,zLP x n];by_cases h1:n=x
  .subst h1;simp
  .rw[if_neg h1];by_cases h2:x<n
   .rw[if_pos h2,if_pos (by omega)];rfl
   .rw[if_neg h2,if_neg (by omega)];rfl
theorem zJD:∀n,zFr (λ_=>0) n=0
 | 0=>rfl
 | n+1=>by rw[zFr,zJD n];rfl
theorem zJ8:∀(a:List Nat) (n:Nat),a.Nodup->(∀i∈a,i<n)->zFr (λi=>if i∈a then 1 else 0) n=a.length
 | [],n,_,_=>by simpa using zJD n
 | x :: a,n,hn,h=>by
  have hn2:=tN.1 hn;have e:(λi=>if i∈x :: a then (1:Int) else 0)=λi=>(if i=x then 1 else 0)+(if i∈a then 1 else 0):=by
   funext i
   by_cases h1:i=x
   .subst h1;simp[hn2.1]
   .simp[h1]
  rw[e,zFs,zLP,if_pos (h x uF),zJ8 a n hn2.2 (λi hi=>h i (uI _ hi)),uD];omega
def wtL(x:Option Nat):Int:=if x=some 0 then 1 else if x=some 1 then -1 else 0
theorem zJ9(l:List Nat):∀n,n<=l.length->zAJ (l.take n)=zFr (λi=>wtL l[i]?) n
 | 0,_=>by simp[zAJ,zFr]
 | n+1,h=>by
  have hx:l[n]? = some l[n]:=uA (by omega);rw[zFr,<- zJ9 l n (by omega),yJ l n _ hx,hx];unfold zAJ wtL;rw[List.countP_append,List.countP_append];simp only[List.countP_cons,List.countP_nil,tU,Option.some.injEq];generalize l[n]=x
  by_cases h0:x=0
  .subst h0;simp;omega
  .by_cases h1:x=1
   .subst h1;simp;omega
   .simp[h0,h1]
section
variable {G G' G1:GA}{l l' l1:List Nat}{gen:Nat}{lo:ByteArray}{hi:Option ByteArray}{ps:List zE}{q:List Nat}
theorem Upd.phi{a b:List Nat}(h:Upd G l (λk=>k∈a) G' l' (λk=>k∈b))(hu:vX l (λk=>k∈a))(ha:a.Nodup)(hb:b.Nodup):zAJ l'+b.length=zAJ l+a.length:=by
 have hub:=h.use hu;have hla:∀i∈a,i<l.length:=λi hi=>by
  rcases hu i hi with e|e <;> exact (uB.1 e).1
 have hlb:∀i∈b,i<l.length:=λi hi=>by
  rw[<- h.len];rcases hub i hi with e|e <;> exact (uB.1 e).1
 have e1:=zJ9 l l.length (uJ _);have e2:=zJ9 l' l.length (by rw[h.len];exact uJ _);rw[wU] at e1;rw[wE (by rw[h.len];exact uJ _)] at e2;rw[e1,e2,<- zJ8 a l.length ha hla,<- zJ8 b l.length hb hlb,<- zFs,<- zFs];congr 1
 funext i
 unfold wtL;by_cases hia:i∈a
 .by_cases hib:i∈b
  .rcases h.inn i hib with ⟨_,e⟩|⟨e,_⟩
   .rw[e,if_pos hia,if_pos hib]
   .exact absurd e (hu.ne0 hia)
  .rw[if_pos hia,if_neg hib];rcases h.gone i hia hib with ⟨e,f⟩|⟨e,f⟩ <;> simp[e,f]
 .by_cases hib:i∈b
  .rw[if_neg hia,if_pos hib];rcases h.inn i hib with ⟨e,_⟩|⟨e,f⟩
   .exact absurd e hia
   .simp[e,f]
  .rw[if_neg hia,if_neg hib,(h.rest i hia hib).1]
theorem zOw.pre{A A1:Nat->Prop}{d:Nat}{o:zBY}{pgs:List Nat}(h:zOw G1 l1 A1 gen d lo hi ps G' l' o pgs)(u:Upd G l A G1 l1 A1)(hu:vX l A):zOw G l A gen d lo hi ps G' l' o pgs :=
 ⟨u.trans h.upd hu,h.nodup,h.two,h.kids,h.keys,h.ctx,h.use⟩
theorem zBj:∀es:List zI,2 * (es.length:Int)<=zY es
 | []=>by simp[zY]
 | e :: es=>by
  have h1:=zBZ e;have h2:=zBj es;rw[zY,uD];omega
theorem zFH{α:Type}{l:List α}{i:Nat}{x:α}(h:l[i]? = some x):l=l.take i++(x :: l.drop (i+1)):=by
 obtain⟨h1,rfl⟩:=uB.1 h;rw[<- wO h1,uZ]
theorem vM.at_{es:List zI}(h:vM G gen es ps q)(hpw:(es.map (·.key)).Pairwise λa b=>qJ a b=true)(key:ByteArray)(hs:256<=G.size)(hb:G.blocks<=256) :
  ∃l1 lm l2 q1 qm q2,vM G gen (es.take (vY key es)) l1 q1/\vM G gen (es.drop (vY key es+if zAt key es=true then 1 else 0)) l2 q2/\ps=l1++(lm++l2)/\q=q1++(qm++q2) /\
   (∀x∈l1,qJ x.1 key=true)/\(∀x∈l2,qJ key x.1=true)/\(zAt key es=(zAe key ps).isSome)/\(lm=[]\/∃old,lm=[(key,old)]) /\
   (∀n:zF,n.entries=es->qX G n key=qm)/\zY (es.take (vY key es))+zY (es.drop (vY key es+if zAt key es=true then 1 else 0))<=zY es:=by
 have hlow:∀(i:Nat) (e:zI),i<vY key es->es[i]? = some e->qJ e.key key=true:=λi e hi he=>by
  have:=zDV (f:=λe:zI=>!qJ e.key key) (show i<es.findIdx _ from hi) he;simpa using this
 have h1low:∀(l1:List zE) (q1:List Nat),vM G gen (es.take (vY key es)) l1 q1->∀x∈l1,qJ x.1 key=true:=λl1 q1 h1 x hx=>by
  have hk:=h1.keys;have hm:x.1∈(es.take (vY key es)).map (·.key):=by rw[hk];exact tK hx
  obtain⟨e,he,hex⟩:=wY.1 hm;obtain⟨i,hi,hie⟩:=wQ he;rw[uP] at hi;rw[<- hex];refine hlow i e (by omega) ?_;rw[<- hie,nC];exact uA (by omega)
 cases hm:es[vY key es]? with
 | none =>
  have his:zAt key es=false:=by unfold zAt;rw[hm]
  have hlen:es.length<=vY key es:=List.getElem?_eq_none_iff.1 hm;have htk:es.take (vY key es)=es:=wE hlen;rw[his];simp only[wG,tP,uO];rw[tG hlen,htk];have hl:=h1low ps q (by rw[htk];exact h);refine⟨ps,[],[],q,[],[],h,.nil,by simp,by simp,hl,by simp,by rw[zFX hl];rfl,.inl rfl,λn hn=>?_,by simp[zY]⟩;unfold qX;rw[hn,hm]
 | some e =>
  have hes:=zFH hm;have hge:qJ e.key key=false:=by
   have:=zDW (f:=λe:zI=>!qJ e.key key) (l:=es) (a:=e) hm;simpa using this
  have h2:vM G gen (es.take (vY key es)++(e :: es.drop (vY key es+1))) ps q:=by rw[<- hes];exact h
  obtain⟨l1,l2,q1,q2,e1,e2,rfl,rfl⟩:=vM.split _ h2;have hl:=h1low l1 q1 e1;generalize hr:es.drop (vY key es+1)=r at *
  obtain⟨x,ids,l3,q3,e3,e4,e5,rfl,rfl⟩:∃x ids l3 q3,e.key=x.1/\zGL G gen e x.2 ids/\vM G gen r l3 q3/\l2=x :: l3/\q2=ids++q3:=by
   cases e2 with
   | cons a b c=>exact⟨_,_,_,_,a,b,c,rfl,rfl⟩
  have hsort:yZ (l1++x :: l3):=by
   rw[h.keys] at hpw;exact wW.1 hpw
  have hse:=(rN.1 hsort).2.1;have hx3:=(wV.1 hse).1;have hsum:=congrArg zY hes;rw[yM,zY] at hsum;have hw:=zBZ e;by_cases hk:e.key=key
  .have his:zAt key es=true:=by unfold zAt;rw[hm];simp[hk]
   rw[his];simp only[t8];rw[hr];refine⟨l1,[x],l3,q1,ids,q3,e1,e5,rfl,rfl,hl,λy hy=>by rw[<- hk,e3];exact hx3 y hy,?_,.inr ⟨x.2,by rw[<- hk,e3]⟩,λn hn=>?_,by omega⟩
   .rw[zA4,zFX hl,zE2,if_pos (by rw[<- e3,hk])];rfl
   .unfold qX;rw[hn,hm];simp only[his,true_and];rcases e4 with ⟨c1,_,c3⟩|⟨c1,c2⟩
    .rw[if_neg (by rw[c1];simp),c3]
    .rw[if_pos c1];have hw:=(c2.walk hs hb).2.2.1;have:=congrArg (List.map Int.toNat) hw;simp only[p7] at this;rw[show (λx:Int × List UInt8=>x.1.toNat)=Int.toNat ∘ (·.1) from rfl,this];rw[show (Int.toNat ∘ λk:Nat=>(k:Int))=id from funext λk=>uL k,List.map_id]
  .have his:zAt key es=false:=by unfold zAt;rw[hm];simp[hk]
   have hlt:qJ key e.key=true:=(zCr hge).resolve_right hk;rw[his];simp only[wG,tP,uO];have hd:es.drop (vY key es)=e :: r:=by
    rw[<- hr];obtain⟨h3,rfl⟩:=uB.1 hm;exact wO h3
   rw[hd];have hgt:∀y∈x :: l3,qJ key y.1=true:=λy hy=>by
    rcases uN.1 hy with rfl|hy
    .rw[<- e3];exact hlt
    .refine vU (b:=x.1) (by rw[<- e3];exact hlt) (hx3 y hy)
   refine⟨l1,[],x :: l3,q1,[],ids++q3,e1,.cons e3 e4 e5,rfl,rfl,hl,hgt,?_,.inl rfl,λn hn=>?_,by rw[zY];omega⟩
   .rw[zA4,zFX hl,zKR hgt];rfl
   .unfold qX;rw[hn,hm];simp only[his];simp
def ndV(sz:Nat)(v:ByteArray):Nat:=if v.size<=24 then 0 else ndS sz v.size
theorem zHr{key v:ByteArray}(hc:zAK G l)(hk:qC key=true)(hv:v.size<=4096) :
  (jF G l gen key v=.inr 3/\zAJ l<ndV G.size v) \/
  ∃G' l' e ids,jF G l gen key v=.inl (G',l',e)/\Upd G l (λ_=>False) G' l' (λi=>i∈ids)/\ids.Nodup/\ids.length=ndV G.size v/\e.key=key/\zGL G' gen e v ids/\yC e=true/\zAJ l'=zAJ l-ndV G.size v:=by
 unfold jF ndV;by_cases h24:v.size<=24
 .rw[if_pos h24,if_pos h24];refine .inr ⟨G,l,_,[],rfl,(Upd.refl G l (λ_=>False)).iff (λ_=>rZ) (λi=>by simp),rM,rfl,rfl,.inl ⟨rfl,rfl,rfl⟩,?_,by simp⟩;unfold yC;simp[hk,h24]
 .rw[if_neg h24,if_neg h24];have hnd:=zFo G.size v.size (by omega) hc.s256 hc.s1024;have hnn:(zCP (v.size:Int) (G.size:Int)).toNat=ndS G.size v.size:=by rw[hnd,uL]
  rw[hnn];cases ht:zAf (ndS G.size v.size) l with
  | none =>
   refine .inl ⟨rfl,?_⟩;rcases Int.lt_or_le (zAJ l) (ndS G.size v.size:Int) with h|h
   .exact h
   .obtain⟨ids,l1,h1⟩:=zHn _ _ h;rw[ht] at h1;cases h1
  | some x =>
   obtain⟨ids,l1⟩:=x;obtain⟨t1,t2,t3,t4,t5,t6⟩:=zA0 _ _ _ _ ht;have hlen:ids.length=ndS G.size v.size:=t1;have hch:=zQx (G:=G) ht rfl (by omega) hv (by rw[hc.low.1];simp) (by rw[hc.low.2];simp) (Nat.le_of_eq hc.len) gen;have hup:=zOs (G:=G) ht gen v.data.toList (G.size-28);simp only;rw[hlen];refine .inr ⟨_,_,_,ids,rfl,hup,t3,hlen,rfl,.inr ⟨?_,?_⟩,?_,t6⟩
   .have h1:0<ids.length:=by rw[hlen];exact Nat.succ_pos _
    have:=hch.lt _ (zCw h1);show ((ids.getD 0 0:Nat):Int)≠0;omega
   .exact hch
   .have h1:0<ids.length:=by rw[hlen];exact Nat.succ_pos _
    have h2:=hch.lt _ (zCw h1);have h3:=hc.b256;have h4:(zAG gen v.data.toList (G.size-28) ids (ndS G.size v.size) G).blocks=G.blocks:=(qV _ _ _ _ _ G).1;rw[h4] at h2;unfold yC;have hne:¬ ((ids.getD 0 0:Nat):Int)=0:=by omega
    simp only[hk,pO];rw[if_neg hne];unfold zCL;simp only[uK,uQ];have:(e0:ByteArray).size=0:=rfl;omega
end
section
variable {G G' G1:GA}{l l' l1:List Nat}{gen:Nat}{lo:ByteArray}{hi:Option ByteArray}{ps:List zE}{q:List Nat}
theorem zCx{old:Nat}{A A1:Nat->Prop}(h:Upd G l A G1 l1 A1)(ho:vG l old)(hn:old≠0->¬ A old):vG l1 old:=by
 rcases ho with ho|⟨h1,h2⟩
 .exact .inl ho
 .have h0:l[old]? ≠ some 0:=λe=>by rcases h2 with h2|h2 <;> rw[e] at h2 <;> simp at h2
  exact .inr ⟨h1,by rw[(h.view (hn (by omega)) h0).2.1];exact h2⟩
theorem zFI{old:Nat}{n:zF}{key v:ByteArray}(hc:zAK G l)(ho:vG l old)(hl:n.leaf=true)(hr:zM n=true)(hw:zD n<=(G.size:Int)-24)(he:vM G gen n.entries ps q)(hbd:∀x∈ps,inB lo hi x.1)(hk:inB lo hi key)(hkb:qC key=true)(hv:v.size<=4096)
  (hq:q.Nodup) (hu:vX l (λk=>k∈q)) (hoq:old≠0->old ∉ q) :
  (zCk G l gen old n key v=.inr 3/\zAJ l<=1+(ndV G.size v:Nat)) \/
  ∃G' l' o pgs,zCk G l gen old n key v=.inl (G',l',o)/\o.news=(zAe key ps).isNone/\zOw G l (λk=>(k=old/\old≠0)\/k∈q) gen 1 lo hi (qL key v true ps) G' l' o pgs/\pgs.length<=q.length+ndV G.size v+2/\(n.entries=[]->o.two=false):=by
 have hpw:=zB9 hr hl;have h2q:∀i∈q,2<=i:=λi hi=>(he.lt i hi).1
 obtain⟨l1,lm,l2,q1,qm,q2,e1,e2,rfl,rfl,hlow,hhigh,his,hlm,hold,hsum⟩:=he.at_ hpw key hc.s256 hc.b256;have hsort:yZ (l1++(lm++l2)):=by
  rw[he.keys] at hpw;exact wW.1 hpw
 have hnd:=wD.1 hq;have hnd2:=wD.1 hnd.2.1;have hum:vX l (λk=>k∈qm):=λk hk=>hu k (by simp[hk])
 obtain⟨u1,u2,u3⟩:=zDL (G:=G) qm l hnd2.1 (λi hi=>h2q i (by simp[hi])) hum;have hA2:∀k,k∈qm->2<=k:=λk hk=>h2q k (by simp[hk])
 have hcg:=hc.upd u1 hA2;unfold zCk;rw[hold n rfl];have hszg:(qM G qm).size=G.size:=u1.sz;rcases zHr (gen:=gen) hcg hkb hv with ⟨f1,f2⟩|⟨Gw,lw,e,ids,f1,f2,f3,f4,f5,f6,f7,f8⟩
 .rw[f1];rw[hszg] at f2;exact .inl ⟨rfl,by omega⟩
 .rw[f1];simp only;rw[hszg] at f4 f8;have u4:=u1.trans f2 hum
  -- what stays
  have hd1:∀k∈q1++q2,¬ (k∈qm):=λk hk hm=>by
   rcases uG.1 hk with hk|hk
   .exact hnd.2.2 k hk k (by simp[hm]) rfl
   .exact hnd2.2.2 k hm k hk rfl
  obtain⟨z1,z2⟩:=u4.views hd1 (λk hk=>hu k (by rcases uG.1 hk with hk|hk <;> simp[hk]));have hcw:=hc.upd u4 hA2;have how:=zCx u4 ho (λhz hm=>hoq hz (by simp[hm]));have hszw:Gw.size=G.size:=u4.sz;have hblw:Gw.blocks=G.blocks:=u4.bl
  -- the entries then
  have hE:vM Gw gen (n.entries.take (vY key n.entries)++[e]++n.entries.drop (vY key n.entries+if zAt key n.entries=true then 1 else 0)) (l1++([(key,v)]++l2)) (q1++(ids++q2)):=by
   rw[uS];exact (e1.mono (uJ _) hblw hszw (λi hi=>(z1 i (by simp[hi])).1)).append ((vM.one f5 f6).append (e2.mono (uJ _) hblw hszw (λi hi=>(z1 i (by simp[hi])).1)))
  have hwp:qL key v true (l1++(lm++l2))=l1++([(key,v)]++l2):=by
   rw[zEc _ hlow,zDm hhigh];congr 1
   congr 1
   rcases hlm with rfl|⟨ov,rfl⟩
   .rfl
   .simp[qL,jJ]
  obtain⟨n',hn'⟩:∃n',n'=zEt n key e:=⟨_,rfl⟩;have hent':n'.entries=n.entries.take (vY key n.entries)++[e]++n.entries.drop (vY key n.entries+if zAt key n.entries=true then 1 else 0):=by rw[hn'];rfl
  have hform:=qD hr;unfold zAo at hform;rw[if_pos hl] at hform;have hleaf':n'.leaf=true:=by rw[hn'];exact hl
  have hkeys':n'.keys=[]:=by rw[hn'];exact hform.1
  have hkids':n'.kids=[]:=by rw[hn'];exact hform.2
  have hse':zY n'.entries<=zY n.entries+59:=by
   rw[hent',yM,yM];have:=zBS f7;simp only[zY];omega
  have hwt:zD n=2+zY n.entries:=by unfold zD;rw[hl,hform.1];simp[yA]
  have hwt':zD n'=2+zY n'.entries:=by unfold zD;rw[hleaf',hkeys'];simp[yA]
  have hsort':yZ (l1++([(key,v)]++l2)):=by rw[<- hwp];exact zCY hsort
  have hr':zM n'=true:=by
   have e:n'=⟨true,n'.entries,[],[]⟩:=by rw[<- hleaf',<- hkeys',<- hkids']
   rw[e];refine zCH (λx hx=>?_) ?_ ?_
   .rw[hent'] at hx;rcases uG.1 hx with hx|hx
    .rcases uG.1 hx with hx|hx
     .exact zAQ hr x (tC hx)
     .rw[wS.1 hx];exact f7
    .exact zAQ hr x (rV hx)
   .rw[hent',hE.keys];exact wW.2 hsort'
   .have:=zBj n'.entries;have:=hc.s1024;omega
  have hb':zG0 Gw gen (vJ Gw gen 0) 0 lo hi n' (l1++([(key,v)]++l2)) (q1++(ids++q2)):=by
   refine .inl ⟨hleaf',rfl,by simp,by rw[hent'];exact hE,λx hx=>?_⟩;rcases uG.1 hx with hx|hx
   .exact hbd x (by simp[hx])
   .rcases uG.1 hx with hx|hx
    .rw[wS.1 hx];exact hk
    .exact hbd x (by simp[hx])
  have hid:∀i∈ids,i ∉ q1++q2/\(old≠0->i≠old):=λi hi=>by
   refine⟨λhm=>(z1 i hm).2.2 hi,λhz e=>?_⟩;rcases ho with h|⟨_,h⟩
   .exact hz h
   .have h0:l[old]? ≠ some 0:=λe=>by rcases h with h|h <;> rw[e] at h <;> simp at h
    have:=(u4.view (i:=old) (λhm=>hoq hz (by simp[hm])) h0).2.2;exact this (e ▸ hi)
  have hq':(q1++(ids++q2)).Nodup:=by
   refine wD.2 ⟨hnd.1,wD.2 ⟨f3,hnd2.2.1,λa ha b hb e=>?_⟩,λa ha b hb e=>?_⟩
   .subst e;exact (hid a ha).1 (by simp[hb])
   .subst e;rcases uG.1 hb with hb|hb
    .exact (hid a hb).1 (by simp[ha])
    .exact hnd.2.2 a ha a (by simp[hb]) rfl
  have huids:=u4.use hum;have hu':vX lw (λk=>k∈q1++(ids++q2)):=λk hk=>by
   rcases uG.1 hk with hk|hk
   .exact z2 k (by simp[hk])
   .rcases uG.1 hk with hk|hk
    .exact huids k hk
    .exact z2 k (by simp[hk])
  have hoq':old≠0->old ∉ q1++(ids++q2):=λhz hm=>by
   rcases uG.1 hm with hm|hm
   .exact hoq hz (by simp[hm])
   .rcases uG.1 hm with hm|hm
    .exact (hid old hm).2 hz rfl
    .exact hoq hz (by simp[hm])
  have h2':∀k∈q1++(ids++q2),2<=k:=λk hk=>(hE.lt k hk).1
  have hcs:=zJC hcw how hr' (by rw[hszw,hwt'];omega) hb' hq' hu' hoq' h2';rw[<- hn'];have hlenq:(q1++(ids++q2)).length<=(q1++(qm++q2)).length+ndV G.size v:=by simp only[uC];omega
  rcases hcs with ⟨s1,s2⟩|⟨G2,ll2,o,pgs,s1,s2,s3,s4,s5⟩
  .rw[s1];exact .inl ⟨rfl,by omega⟩
  .rw[s1];simp only;have hB:∀k,((k=old/\old≠0)\/k∈q1++q2)->¬ (k∈qm)/\l[k]? ≠ some 0:=λk hk=>by
    rcases hk with ⟨rfl,hz⟩|hk
    .refine⟨λhm=>hoq hz (by simp[hm]),λe=>?_⟩;rcases ho with h|⟨_,h⟩
     .exact hz h
     .rcases h with h|h <;> rw[e] at h <;> simp at h
    .exact⟨hd1 k hk,hu.ne0 (by rcases uG.1 hk with hk|hk <;> simp[hk])⟩
   have u5:=(u4.frame hB).iff (A':=λk=>(k=old/\old≠0)\/k∈q1++(qm++q2)) (A1':=λk=>(k=old/\old≠0)\/k∈q1++(ids++q2)) (λk=>by simp only[uG];grind) (λk=>by simp only[uG];grind);have huA:vX l (λk=>(k=old/\old≠0)\/k∈q1++(qm++q2)):=λk hk=>by
    rcases hk with ⟨rfl,hz⟩|hk
    .rcases ho with h|⟨_,h⟩
     .exact absurd h hz
     .exact h
    .exact hu k hk
   have s6:=s3.pre u5 huA;rw[hwp];refine .inr ⟨G2,ll2,{ o with news:=!zAt key n.entries },pgs,rfl,?_,⟨s6.upd,s6.nodup,s6.two,s6.kids,s6.keys,s6.ctx,s6.use⟩,by omega,λhne=>?_⟩
   .simp only[his];cases zAe key (l1++(lm++l2)) <;> rfl
   .refine s5 ?_;have h9:zY n.entries=0:=by rw[hne];rfl
    rw[hwt',hszw];have:=hc.s256;omega
theorem zLQ(n:zF)(i:Nat)(o:zBY):zDw n i o = { n with kids:=n.kids.take i++zAu o++n.kids.drop (i+1),keys:=n.keys.take i++vS o++n.keys.drop (i+0) }:=by
 unfold zDw zAu vS;by_cases h:o.two=true
 .simp[h]
 .simp[h]
theorem zFt{id:Nat}{n:zF}(h:PgN G gen id n):G.load (id:Int)=.inl n/\G.node id=some n:=by
 obtain⟨p,h1,_,h3⟩:=h.page;have h4:G.node id=some n:=by
  unfold GA.node;rw[if_pos h.lt,h1];simp only[h3]
 exact⟨(GA.node_load h4).2,h4⟩
theorem zKB{key v:ByteArray}(hkb:qC key=true)(hv:v.size<=4096):∀(d f:Nat) (G:GA) (l:List Nat) (id:Nat) (lo:ByteArray) (hi:Option ByteArray) (ps:List zE) (pgs:List Nat),zAK G l->vJ G gen d lo hi id ps pgs->pgs.Nodup->vX l (λk=>k∈pgs)->inB lo hi key->d<=f ->
  (zC4 gen key v f G l id=.inr 3/\zAJ l<=(ndV G.size v:Nat)+d) \/
  ∃G' l' o pgs',zC4 gen key v f G l id=.inl (G',l',o)/\o.news=(zAe key ps).isNone/\zOw G l (λk=>k∈pgs) gen d lo hi (qL key v true ps) G' l' o pgs'/\pgs'.length<=pgs.length+ndV G.size v+d
 | 0,_,_,_,_,_,_,_,_,_,h,_,_,_,_=>h.elim
 | d+1,0,_,_,_,_,_,_,_,_,_,_,_,_,h=>by omega
 | d+1,f+1,G,l,id,lo,hi,ps,pgs,hc,hT,hn,hu,hk,hf=>by
  obtain⟨n,q,hp,hr,rfl,hb⟩:=hT;obtain⟨hload,_⟩:=zFt hp;have hid:id ∉ q/\q.Nodup:=tN.1 hn;have hqid:id≠0:=by have:=hp.lo;omega
  have huq:vX l (λk=>k∈q):=λk hk=>hu k (uI _ hk)
  have hpl:vG l id:=.inr ⟨hp.lo,hu id uF⟩;have hA:∀k,(k∈id :: q) ↔ ((k=id/\id≠0)\/k∈q):=λk=>by
   rw[uN];exact⟨λh=>h.imp (λh=>⟨h,hqid⟩) (λh=>h),λh=>h.imp (λh=>h.1) (λh=>h)⟩
  rw[zC4,hload];simp only;rcases hb with ⟨hl,hd,hne,he,hbd⟩|⟨hl,hkd⟩
  .subst hd;rw[if_pos hl];rcases zFI (key:=key) (v:=v) hc hpl hl hr hp.fit he hbd hk hkb hv hid.2 huq (λ_=>hid.1) with ⟨a1,a2⟩|⟨G2,l2,o,pgs,a1,a2,a3,a4,a5⟩
   .exact .inl ⟨a1,by omega⟩
   .exact .inr ⟨G2,l2,o,pgs,a1,a2,⟨a3.upd.iff hA (λ_=>rZ),a3.nodup,a3.two,a3.kids,a3.keys,a3.ctx,a3.use⟩,by rw[uD];omega⟩
  .rw[if_neg (by rw[hl];simp)];obtain⟨k1,k2,c1,c,c2,l1,lm,l2,q1,qm,q2,lo',hi',e1,e2,e3,e4,rfl,rfl,e7,e8,e9,e10,e11⟩:=hkd.at_ (vJ.bounds d) hk;have hkd0:n.kids.getD (zAY key n.keys) 0=(c:Int):=by
    rw[e4,e2,<- e3];simp[List.getD]
   rw[hkd0,uL];have hnd:=wD.1 hid.2;have hnd2:=wD.1 hnd.2.1;have hum:vX l (λk=>k∈qm):=λk hk=>huq k (by simp[hk])
   have ih:=zKB hkb hv d f G l c lo' hi' lm qm hc e7 hnd2.1 hum e8 (by omega);rcases ih with ⟨a1,a2⟩|⟨G1,l1',o,qm',a1,a2,a3,a4⟩
   .rw[a1];exact .inl ⟨rfl,by omega⟩
   .rw[a1];simp only;have u4:=a3.upd;have hd1:∀k∈q1++q2,¬ (k∈qm):=λk hk hm=>by
     rcases uG.1 hk with hk|hk
     .exact hnd.2.2 k hk k (by simp[hm]) rfl
     .exact hnd2.2.2 k hm k hk rfl
    obtain⟨z1,z2⟩:=u4.views hd1 (λk hk=>huq k (by rcases uG.1 hk with hk|hk <;> simp[hk]));have how:=zCx u4 hpl (λ_ hm=>hid.1 (by simp[hm]));obtain⟨n',hn'⟩:∃n',n'=zDw n (zAY key n.keys) o:=⟨_,rfl⟩;have hK:=e11 (vJ G1 gen d) _ _ _ _ a3.kids (λlo hi c l p hp h=>vJ.mono (uJ _) u4.bl u4.sz d lo hi c l p (λi hi=>(z1 i (by rcases hp i hi with h|h <;> simp[h])).1) h);have hj:n' = { n with kids:=c1++(zAu o++c2),keys:=k1++(vS o++k2) }:=by
     rw[hn',zLQ,e1,e2,show zAY key (k1++k2)=k1.length by rw[<- e1];exact e4];have t1:(c1++(c:Int) :: c2).take k1.length=c1:=by rw[<- e3];simp
     have t2:(c1++(c:Int) :: c2).drop (k1.length+1)=c2:=by rw[<- e3];simp
     rw[t1,t2];simp
    have hleaf':n'.leaf=false:=by rw[hj];exact hl
    have hents':n'.entries=n.entries:=by rw[hj]
    have hform:=qD hr;unfold zAo at hform;rw[if_neg (by rw[hl];simp)] at hform;have hkeys':n'.keys=k1++(vS o++k2):=by rw[hj]
    have hkids':n'.kids=c1++(zAu o++c2):=by rw[hj]
    have hsk:yA n'.keys<=yA n.keys+37:=by
     rw[hkeys',e1,qI,qI,qI];have:yA (vS o)<=37:=by
      unfold vS;split
      .rename_i h2;have:=a3.keys o.key (by unfold vS;rw[if_pos h2];simp);have:=(vC _).1 this;simp[yA];omega
      .simp[yA]
     omega
    have hwt:zD n=6+yA n.keys:=by unfold zD;rw[hl,hform.1];simp[zY]
    have hwt':zD n'=6+yA n'.keys:=by unfold zD;rw[hleaf',hents',hform.1];simp[zY]
    have hd2:∀i∈qm',i ∉ q1++q2/\i≠id:=λi hi=>by
     refine⟨λhm=>(z1 i hm).2.2 hi,λe=>?_⟩;subst e;exact (u4.view (i:=i) (λhm=>hid.1 (by simp[hm])) (hu.ne0 uF)).2.2 hi
    have hq':(q1++(qm'++q2)).Nodup:=by
     refine wD.2 ⟨hnd.1,wD.2 ⟨a3.nodup,hnd2.2.1,λa ha b hb e=>?_⟩,λa ha b hb e=>?_⟩
     .subst e;exact (hd2 a ha).1 (by simp[hb])
     .subst e;rcases uG.1 hb with hb|hb
      .exact (hd2 a hb).1 (by simp[ha])
      .exact hnd.2.2 a ha a (by simp[hb]) rfl
    have hr':zM n'=true:=by
     have e:n'=⟨false,[],n'.keys,n'.kids⟩:=by rw[hj];simp[hl,hform.1]
     rw[e,hkeys',hkids'];refine hK.right hq' (λs hs=>?_) ?_ a3.ctx.b256
     .rcases uG.1 hs with hs|hs
      .exact zBT hr s (by rw[e1];simp[hs])
      .rcases uG.1 hs with hs|hs
       .exact a3.keys s hs
       .exact zBT hr s (by rw[e1];simp[hs])
     .have h2:2<=n.kids.length:=(zDM hr).2.2 hl;rw[e2] at h2;have:1<=(zAu o).length:=by unfold zAu;split <;> simp
      simp at h2 ⊢;omega
    have hu':vX l1' (λk=>k∈q1++(qm'++q2)):=λk hk=>by
     rcases uG.1 hk with hk|hk
     .exact z2 k (by simp[hk])
     .rcases uG.1 hk with hk|hk
      .exact a3.use k hk
      .exact z2 k (by simp[hk])
    have hoq':id≠0->id ∉ q1++(qm'++q2):=λhz hm=>by
     rcases uG.1 hm with hm|hm
     .exact hid.1 (by simp[hm])
     .rcases uG.1 hm with hm|hm
      .exact (hd2 id hm).2 rfl
      .exact hid.1 (by simp[hm])
    have h2':∀k∈q1++(qm'++q2),2<=k:=λk hk=>(hK.ltq (vJ.ltq d) k hk).1
    have hcs:=zJC (gen:=gen) a3.ctx how hr' (by rw[u4.sz,hwt'];have:=hp.fit;omega) (.inr ⟨hleaf',by rw[hkeys',hkids'];exact hK⟩) hq' hu' hoq' h2';rw[<- hn'];have hphi:=u4.phi hum hnd2.1 a3.nodup;have hlenq:(q1++(qm'++q2)).length<=(q1++(qm++q2)).length+ndV G.size v+d:=by simp only[uC];omega
    rcases hcs with ⟨s1,s2⟩|⟨G2,ll2,o2,pgs2,s1,s2,s3,s4,s5⟩
    .rw[s1];exact .inl ⟨rfl,by omega⟩
    .rw[s1];simp only;have hB:∀k,(k=id\/k∈q1++q2)->¬ (k∈qm)/\l[k]? ≠ some 0:=λk hk=>by
      rcases hk with rfl|hk
      .exact⟨λhm=>hid.1 (by simp[hm]),hu.ne0 uF⟩
      .exact⟨hd1 k hk,huq.ne0 (by rcases uG.1 hk with hk|hk <;> simp[hk])⟩
     have u5:=(u4.frame hB).iff (A':=λk=>k∈id :: (q1++(qm++q2))) (A1':=λk=>(k=id/\id≠0)\/k∈q1++(qm'++q2)) (λk=>by simp only[uG,uN];grind) (λk=>by simp only[uG];grind);have s6:=s3.pre u5 hu;have hwp:qL key v true (l1++(lm++l2))=l1++(qL key v true lm++l2):=by rw[zEc _ e9,zDm e10]
     rw[hwp];refine .inr ⟨G2,ll2,{ o2 with news:=o.news },pgs2,rfl,?_,⟨s6.upd,s6.nodup,s6.two,s6.kids,s6.keys,s6.ctx,s6.use⟩,by rw[uD];omega⟩;show o.news=_;rw[a2,zOt e9 e10]
end
section
variable {α:Type}(mk:List α->zF)(z:Int)
def yP:List (List α)->List α->List (List α)
 | out,[]=>out
 | out,x :: l=>match out.getLast? with
  | some g=>if zD (mk (g++[x]))<=z then yP (out.dropLast++[g++[x]]) l else yP (out++[[x]]) l
  | none=>yP (out++[[x]]) l
def zCI(out:List (List α)):List (List α) :=
 match out.reverse with
 | b :: a :: r=>if zAT (mk b) (z+24)=true then (if zD (mk (a++b))<=z then r.reverse++[a++b] else match zCG (mk (a++b)) with
   | none=>out
   | some k=>r.reverse++[(a++b).take k,(a++b).drop k]) else out
 | _=>out
def zV(l:List α):List (List α):=zCI mk z (yP mk z [] l)
theorem vN:∀(l:List α) (out:List (List α)),(yP mk z out l).flatten=out.flatten++l
 | [],out=>by simp[yP]
 | x :: l,out=>by
  rw[yP];cases h:out.getLast? with
  | none =>
   simp only;rw[vN l];simp
  | some g =>
   simp only;obtain⟨pre,rfl⟩:∃pre,out=pre++[g]:=by
    rw[List.getLast?_eq_some_iff] at h;exact h
   split
   .rw[vN l];simp
   .rw[vN l];simp
theorem zA2:∀(l:List α) (out:List (List α)),(∀g∈out,g≠[])->∀g∈yP mk z out l,g≠[]
 | [],out,h=>by simpa[yP] using h
 | x :: l,out,h=>by
  rw[yP];cases hg:out.getLast? with
  | none =>
   simp only;refine zA2 l _ (λg hm=>?_);rcases uG.1 hm with hm|hm
   .exact h g hm
   .simp at hm;rw[hm];simp
  | some g0 =>
   simp only;split
   .refine zA2 l _ (λg hm=>?_);rcases uG.1 hm with hm|hm
    .exact h g ((List.dropLast_sublist _).subset hm)
    .simp at hm;rw[hm];simp
   .refine zA2 l _ (λg hm=>?_);rcases uG.1 hm with hm|hm
    .exact h g hm
    .simp at hm;rw[hm];simp
theorem zAl(A:α->Prop)(h1:∀x,A x->zD (mk [x])<=z):∀(l:List α) (out:List (List α)),(∀x∈l,A x)->(∀g∈out,zD (mk g)<=z)->∀g∈yP mk z out l,zD (mk g)<=z
 | [],out,_,h=>by simpa[yP] using h
 | x :: l,out,hA,h=>by
  have hx:=h1 x (hA x uF);have hA2:∀y∈l,A y:=λy hy=>hA y (uI _ hy)
  rw[yP];cases hg:out.getLast? with
  | none =>
   simp only;refine zAl A h1 l _ hA2 (λg hm=>?_);rcases uG.1 hm with hm|hm
   .exact h g hm
   .simp at hm;rw[hm];exact hx
  | some g0 =>
   simp only;split
   .rename_i hw;refine zAl A h1 l _ hA2 (λg hm=>?_);rcases uG.1 hm with hm|hm
    .exact h g ((List.dropLast_sublist _).subset hm)
    .simp at hm;rw[hm];exact hw
   .refine zAl A h1 l _ hA2 (λg hm=>?_);rcases uG.1 hm with hm|hm
    .exact h g hm
    .simp at hm;rw[hm];exact hx
def zCS:List (List α)->Prop
 | []=>True
 | g :: r=>(match r with|[]=>True|h :: _=>∃x t,h=x :: t/\z<zD (mk (g++[x])))/\zCS r
theorem zCS.more:∀(pre:List (List α)) (g:List α) (x:α),g≠[]->zCS mk z (pre++[g])->zCS mk z (pre++[g++[x]])
 | [],g,x,_,_=>⟨trivial,trivial⟩
 | [p],g,x,hg,h=>by
  obtain⟨⟨y,t,h1,h2⟩,_⟩:=h;exact⟨⟨y,t++[x],by rw[h1];rfl,h2⟩,trivial,trivial⟩
 | p :: p2 :: pre,g,x,hg,h=>⟨h.1,zCS.more (p2 :: pre) g x hg h.2⟩
theorem zCS.next:∀(pre:List (List α)) (g:List α) (x:α),z<zD (mk (g++[x]))->zCS mk z (pre++[g])->zCS mk z (pre++[g]++[[x]])
 | [],_g,x,hx,_=>⟨⟨x,[],rfl,hx⟩,trivial,trivial⟩
 | [_],_g,x,hx,h=>⟨h.1,⟨x,[],rfl,hx⟩,trivial,trivial⟩
 | _p :: p2 :: pre,g,x,hx,h=>⟨h.1,zCS.next (p2 :: pre) g x hx h.2⟩
theorem zDn:∀(l:List α) (out:List (List α)),(∀g∈out,g≠[])->zCS mk z out->zCS mk z (yP mk z out l)
 | [],out,_,h=>by simpa[yP] using h
 | x :: l,out,hne,h=>by
  rw[yP];cases hg:out.getLast? with
  | none =>
   simp only;rw[List.getLast?_eq_none_iff] at hg;subst hg;exact zDn l _ (by simp) ⟨trivial,trivial⟩
  | some g0 =>
   simp only;obtain⟨pre,rfl⟩:∃pre,out=pre++[g0]:=by
    rw[List.getLast?_eq_some_iff] at hg;exact hg
   have hg0:=hne g0 (by simp);split
   .rw[List.dropLast_concat];refine zDn l _ (λg hm=>?_) (zCS.more mk z pre g0 x hg0 h);rcases uG.1 hm with hm|hm
    .exact hne g (by simp[hm])
    .simp at hm;rw[hm];simp
   .rename_i hw;refine zDn l _ (λg hm=>?_) (zCS.next mk z pre g0 x (by omega) h);rcases uG.1 hm with hm|hm
    .exact hne g hm
    .simp at hm;rw[hm];simp
theorem zCS.at_:∀{out:List (List α)},zCS mk z out->∀(r:List (List α)) (g h:List α) (s:List (List α)),out=r++g :: h :: s->∃x t,h=x :: t/\z<zD (mk (g++[x]))
 | out,hf,[],g,h,s,e=>by subst e;exact hf.1
 | out,hf,p :: r,g,h,s,e=>by subst e;exact zCS.at_ hf.2 r g h s rfl
theorem zBU{z:Int}(out:List (List α)):zCI mk z out=out \/
  (∃r a b,out=r++[a,b]/\zAT (mk b) (z+24)=true/\((zD (mk (a++b))<=z/\zCI mk z out=r++[a++b])\/(z<zD (mk (a++b))/\∃k,zCG (mk (a++b))=some k/\zCI mk z out=r++[(a++b).take k,(a++b).drop k]))):=by
 unfold zCI;cases h:out.reverse with
 | nil=>exact .inl rfl
 | cons b t =>
  cases t with
  | nil=>exact .inl rfl
  | cons a r =>
   have ho:out=r.reverse++[a,b]:=by
    have:=congrArg List.reverse h;simpa using this
   simp only;by_cases hl:zAT (mk b) (z+24)=true
   .rw[if_pos hl];by_cases hw:zD (mk (a++b))<=z
    .rw[if_pos hw];exact .inr ⟨r.reverse,a,b,ho,hl,.inl ⟨hw,rfl⟩⟩
    .rw[if_neg hw];cases hc:zCG (mk (a++b)) with
     | none=>exact .inl rfl
     | some k=>exact .inr ⟨r.reverse,a,b,ho,hl,.inr ⟨by omega,k,hc,rfl⟩⟩
   .rw[if_neg hl];exact .inl rfl
theorem zFJ(z:Int)(out:List (List α)):(zCI mk z out).flatten=out.flatten:=by
 rcases zBU mk (z:=z) out with h|⟨r,a,b,rfl,_,⟨_,h⟩|⟨_,k,_,h⟩⟩
 .rw[h]
 .rw[h];simp
 .rw[h];simp
theorem zEK(r:List (List α))(a b:List α)(h:zAT (mk b) (z+24)=false):zCI mk z (r++[a,b])=r++[a,b]:=by
 unfold zCI;simp only[r6,tR,pL,uT,wN];rw[if_neg (by rw[h];simp)]
theorem zDo(z:Int)(r:List (List α))(a b:List α)(h:zAT (mk b) (z+24)=true):(zD (mk (a++b))<=z/\zCI mk z (r++[a,b])=r++[a++b])\/(z<zD (mk (a++b))/\∀k,zCG (mk (a++b))=some k->zCI mk z (r++[a,b])=r++[(a++b).take k,(a++b).drop k]):=by
 unfold zCI;simp only[r6,tR,pL,uT,wN,pH];rw[if_pos h];by_cases hw:zD (mk (a++b))<=z
 .exact .inl ⟨hw,by rw[if_pos hw]⟩
 .refine .inr ⟨by omega,λk hk=>?_⟩;rw[if_neg hw,hk]
end
def jD(es:List zI):zF:=⟨true,es,[],[]⟩
theorem jM(es:List zI):zD (jD es)=2+zY es:=by unfold zD jD;simp[yA]
def zCM(es:List zI):Prop:=(∀e∈es,yC e=true)/\(es.map (·.key)).Pairwise λa b=>qJ a b=true
theorem zCM.sub{es es':List zI}(h:zCM es)(hs:es'.Sublist es):zCM es' :=
 ⟨λe he=>h.1 e (hs.subset he),h.2.sublist (hs.map _)⟩
theorem zDN{es:List zI}(h:zCM es)(hl:es.length<=65535):zM (jD es)=true:=zCH h.1 h.2 hl
theorem zNm{a b:List zI}{z:Int}(hz:232<=z)(hz2:z<=1000)(h:zCM (a++b))(ha:zD (jD a)<=z)(hb:zAT (jD b) (z+24)=true)(hw:z<zD (jD (a++b))) :
  ∃k,zCG (jD (a++b))=some k/\0<k/\k<(a++b).length/\zD (jD ((a++b).take k))<=z/\zD (jD ((a++b).drop k))<=z:=by
 have hb2:b=[]\/3 * zD (jD b)<z:=by
  unfold zAT jD at hb;simp only[pO,Bool.not_true,nD,Bool.or_false,rR,uQ] at hb;rcases hb with hb|hb
  .exact .inl (wL.1 (by omega))
  .exact .inr (by unfold jD;omega)
 rcases hb2 with rfl|hb2
 .rw[wR] at hw;omega
 .rw[jM] at ha hb2;rw[jM,yM] at hw;have hlen:=zBj (a++b);rw[yM] at hlen;have hr:=zDN h (by omega);obtain⟨k,p1,p2,p3,p4⟩:=zHq hr hz (by rw[jM,yM];omega) (by rw[jM,yM];omega);have hp:=p1.leaf rfl;rw[zCt rfl] at p3;rw[zCu rfl] at p4;exact⟨k,p2,by omega,hp.2,p3,p4⟩
abbrev jQ:=Nat × ByteArray
def mkI(ks:List jQ):zF:=⟨false,[],ks.tail.map (·.2),ks.map λk=>(k.1:Int)⟩
theorem zBk(ks:List jQ):zD (mkI ks)=6+yA (ks.tail.map (·.2)):=by unfold zD mkI;simp[zY]
def zDp(ks:List jQ):Prop:=(∀k∈ks,2<=k.1/\k.1<256/\qC k.2=true)/\(ks.map (·.2)).Pairwise (λa b=>qJ a b=true)/\(ks.map (·.1)).Nodup
theorem zDp.sub{es es':List jQ}(h:zDp es)(hs:es'.Sublist es):zDp es' :=
 ⟨λe he=>h.1 e (hs.subset he),h.2.1.sublist (hs.map _),h.2.2.sublist (hs.map _)⟩
theorem zJE{ks:List jQ}(h:zDp ks)(h2:2<=ks.length):zM (mkI ks)=true:=by
 refine zFq (by simpa using h2) (by simp;omega) (λk hk=>?_) ?_ (λs hs=>?_) ?_
 .obtain⟨x,hx,rfl⟩:=wY.1 hk;have:=h.1 x hx;omega
 .have:=h.2.2;rw[List.nodup_iff_pairwise_ne,wW] at this ⊢;exact this.imp (λhne e=>hne (by omega))
 .obtain⟨x,hx,rfl⟩:=wY.1 hs;exact (h.1 x (List.mem_of_mem_tail hx)).2.2
 .exact h.2.1.sublist ((List.tail_sublist ks).map _)
theorem zOx{ks:List jQ}{z:Int}(hne:ks≠[])(h:zAT (mkI ks) (z+24)=true)(_hz:18<z):ks.length=1\/3 * zD (mkI ks)<z:=by
 unfold zAT mkI at h;simp only[nD,Bool.not_false,pO,Bool.false_or,rR,uQ,uU] at h;have:=tE.2 hne;rcases h with h|h
 .exact .inl (by omega)
 .exact .inr (by unfold mkI;omega)
theorem zBV{α:Type}{a b:List α}(h:a≠[]):(a++b).tail=a.tail++b:=by
 cases a with
 | nil=>exact absurd rfl h
 | cons x a=>rfl
theorem zFK{α:Type}(l:List α)(k:Nat):(l.take k).tail=l.tail.take (k-1):=by
 cases l with
 | nil=>simp
 | cons x l =>
  cases k with
  | zero=>simp
  | succ k=>simp
theorem zOy{ks:List jQ}(h:zDp ks):yA (ks.map (·.2))<=yA (ks.tail.map (·.2))+37:=by
 cases ks with
 | nil=>simp[yA]
 | cons k ks =>
  have:=(vC _).1 (h.1 k uF).2.2;simp only[uW,pF,yA];omega
theorem zQy{a b:List jQ}{z:Int}(hz:232<=z)(h:zDp (a++b))(hna:a≠[])(hnb:b≠[])(ha:zD (mkI a)<=z)(hb:zAT (mkI b) (z+24)=true)(hw:z<zD (mkI (a++b))) :
  ∃k,zCG (mkI (a++b))=some k/\2<=k/\k+2<=(a++b).length/\zD (mkI ((a++b).take k))<=z/\zD (mkI ((a++b).drop k))<=z:=by
 have hb2:=zOx hnb hb (by omega);have hkb:=zOy (h.sub (tZ a b));have h2:2<=(a++b).length:=by
  have:=tE.2 hna;have:=tE.2 hnb;simp;omega
 have hr:=zJE h h2;have hsb:yA (b.tail.map (·.2))<=77 * z/\(3 * (6+yA (b.tail.map (·.2)))<z\/yA (b.tail.map (·.2))=0):=by
  rcases hb2 with hb2|hb2
  .have:b.tail=[]:=by rw[<- wL,rI];omega
   rw[this];simp[yA];omega
  .rw[zBk] at hb2;omega
 rw[zBk] at ha;have hwt:zD (mkI (a++b))=6+(yA (a.tail.map (·.2))+yA (b.map (·.2))):=by
  rw[zBk,zBV hna,wF,qI]
 obtain⟨k,p1,p2,p3,p4⟩:=zHq hr hz hw (by rw[hwt];omega);have hp:=p1.inner rfl;have e1:(mkI (a++b)).kids.length=(a++b).length:=by simp[mkI]
 rw[e1] at hp;rw[zCc rfl] at p3;rw[zCd rfl] at p4;have q3:(⟨false,[],(mkI (a++b)).keys.take (k-1),(mkI (a++b)).kids.take k⟩:zF)=mkI ((a++b).take k):=by
  unfold mkI;simp only[pP,zF.mk.injEq,true_and,and_true];rw[zFK,pP]
 have q4:(⟨false,[],(mkI (a++b)).keys.drop k,(mkI (a++b)).kids.drop k⟩:zF)=mkI ((a++b).drop k):=by
  unfold mkI;simp only[rX,zF.mk.injEq,true_and,and_true];rw[List.tail_drop,<- rX,List.drop_tail]
 rw[q3] at p3;rw[q4] at p4;exact⟨k,p2,hp.1,by omega,p3,p4⟩
def chS(sz:Nat)(l:List zE):Nat:=(l.map λx=>ndV sz x.2).sum
theorem zMm(sz:Nat)(a b:List zE):chS sz (a++b)=chS sz a+chS sz b:=by unfold chS;simp
theorem zFu(sz:Nat)(x:zE)(b:List zE):chS sz (x :: b)=ndV sz x.2+chS sz b:=by unfold chS;simp
section
variable {G G':GA}{gen:Nat}{T:zEJ}{lo:ByteArray}{hi:Option ByteArray}{l:List zE}{q:List Nat}{kk:List ByteArray}{cc:List Int}
theorem vM.count{es:List zI}(h:vM G gen es l q)(hr:∀e∈es,yC e=true):q.length=chS G.size l:=by
 induction h with
 | nil=>rfl
 | @cons e x ids es l q h1 h2 _ ih =>
  rw[uC,zFu,ih (λy hy=>hr y (uI _ hy))];congr 1
  have he:=hr e uF;unfold yC at he;simp only[uK] at he;unfold ndV;rcases h2 with ⟨c1,c2,c3⟩|⟨c1,c2⟩
  .have h4:=he.2;rw[if_pos c1] at h4;simp only[uK,uQ] at h4;rw[c2] at h4;rw[if_pos h4.2,c3];rfl
  .rw[if_neg (by have:=c2.lo;omega)];exact c2.len
theorem qF.count{P:List zE->List Nat->Prop}(hT:∀lo hi c l q,T lo hi c l q->P l q)(h:qF T lo hi kk cc l q){sz a:Nat}(hP:∀l q,P l q->q.length+1<=2 * l.length+chS sz l/\a<=l.length/\a+a<=q.length+1/\chS sz l+1<=q.length):q.length+kk.length+1<=2 * l.length+chS sz l/\(kk.length+1) * a<=l.length/\(kk.length+1) * (a+a)<=q.length+kk.length+1/\chS sz l+kk.length+1<=q.length:=by
 induction h with
 | one h=>have:=hP _ _ (hT _ _ _ _ _ h);simpa using this
 | cons h _ _ ih =>
  have h1:=hP _ _ (hT _ _ _ _ _ h);have h2:=ih;simp only[uC,uD,zMm];have m1:∀k:Nat,(k+1+1) * a=(k+1) * a+a:=λk=>t9 _ _
  have m2:∀k:Nat,(k+1+1) * (a+a)=(k+1) * (a+a)+(a+a):=λk=>t9 _ _
  rw[m1,m2];omega
theorem qF.pos(h:qF (vJ G gen 0) lo hi kk cc l q):False:=by
 cases h with
 | one h=>exact h
 | cons h _ _=>exact h
theorem vJ.count:∀(d:Nat) (lo:ByteArray) (hi:Option ByteArray) (id:Nat) (l:List zE) (q:List Nat),vJ G gen d lo hi id l q->q.length+1<=2 * l.length+chS G.size l/\2 ^ (d-1)<=l.length/\2 ^ (d-1)+2 ^ (d-1)<=q.length+1/\chS G.size l+1<=q.length
 | 0,_,_,_,_,_,h=>h.elim
 | d+1,lo,hi,id,l,q,h=>by
  obtain⟨n,q,hp,hr,rfl,h⟩:=h;rcases h with ⟨hl,rfl,hne,he,_⟩|⟨hl,hk⟩
  .have hc:=he.count (zAQ hr);have:1<=l.length:=tE.2 hne;simp only[uD];refine⟨by omega,by simpa using this,by simp,by omega⟩
  .have hlen:=hk.len;have h2:=(zDM hr).2.2 hl;have h3:=hk.count (P:=λl q=>q.length+1<=2 * l.length+chS G.size l/\2 ^ (d-1)<=l.length/\2 ^ (d-1)+2 ^ (d-1)<=q.length+1/\chS G.size l+1<=q.length) (λlo hi c l q h=>vJ.count d lo hi c l q h) (sz:=G.size) (a:=2 ^ (d-1)) (λ_ _ h=>h);have hd:1<=d:=by
    rcases rJ d with h0|h0
    .subst h0;exact hk.pos.elim
    .exact h0
   obtain⟨k,hkk⟩:∃k,n.keys.length=k+1:=⟨n.keys.length-1,by omega⟩;rw[hkk] at h3;have e:2 ^ (d+1-1)=2 ^ (d-1)+2 ^ (d-1):=by
    rw[show d+1-1=(d-1)+1 by omega,pU];omega
   rw[e];generalize 2 ^ (d-1)=a at *
   have m1:(k+1+1) * a=k * a+a+a:=by rw[t9,t9]
   have m2:(k+1+1) * (a+a)=k * (a+a)+(a+a)+(a+a):=by rw[t9,t9]
   rw[m1,m2] at h3;have m3:k<=k * (a+a)\/a=0:=by
    rcases rJ a with h|h
    .exact .inr h
    .exact .inl (r9 k (by omega))
   simp only[uD];refine⟨by omega,by omega,?_,by omega⟩;omega
theorem qF.sorted(hb:∀lo hi c l q,T lo hi c l q->∀x∈l,inB lo hi x.1)(hT:∀lo hi c l q,T lo hi c l q->yZ l)(h:qF T lo hi kk cc l q):yZ l:=by
 induction h with
 | one h=>exact hT _ _ _ _ _ h
 | @cons lo hi s c keys kids l1 l2 q1 q2 h h2 h3 ih =>
  refine rN.2 ⟨hT _ _ _ _ _ h,ih,λx hx y hy=>?_⟩;exact zBb ((hb _ _ _ _ _ h x hx).2 s rfl) (h3.bounds hb y hy).1
theorem vJ.sorted:∀(d:Nat) (lo:ByteArray) (hi:Option ByteArray) (id:Nat) (l:List zE) (q:List Nat),vJ G gen d lo hi id l q->yZ l
 | 0,_,_,_,_,_,h=>h.elim
 | d+1,lo,hi,id,l,q,h=>by
  obtain⟨n,q,hp,hr,rfl,h⟩:=h;rcases h with ⟨hl,rfl,hne,he,_⟩|⟨hl,hk⟩
  .have:=zB9 hr hl;rw[he.keys] at this;exact wW.1 this
  .exact hk.sorted (vJ.bounds d) (vJ.sorted d)
def zCN(x:zE):Prop:=qC x.1=true/\x.2.size<=4096
theorem vM.ok{es:List zI}(h:vM G gen es l q)(hr:∀e∈es,yC e=true):∀x∈l,zCN x:=by
 induction h with
 | nil=>intro x hx;simp at hx
 | @cons e x ids es l q h1 h2 _ ih =>
  intro y hy;rcases uN.1 hy with rfl|hy
  .have he:=hr e uF;unfold yC at he;simp only[uK] at he;refine⟨by rw[<- h1];exact he.1,?_⟩;rcases h2 with ⟨c1,c2,c3⟩|⟨c1,c2⟩
   .have h4:=he.2;rw[if_pos c1] at h4;simp only[uK,uQ] at h4;rw[<- c2];omega
   .exact c2.hi
  .exact ih (λz hz=>hr z (uI _ hz)) y hy
theorem qF.ok(hT:∀lo hi c l q,T lo hi c l q->∀x∈l,zCN x)(h:qF T lo hi kk cc l q):∀x∈l,zCN x:=by
 induction h with
 | one h=>exact hT _ _ _ _ _ h
 | cons h _ _ ih =>
  intro x hx;rcases uG.1 hx with hx|hx
  .exact hT _ _ _ _ _ h x hx
  .exact ih x hx
theorem vJ.ok:∀(d:Nat) (lo:ByteArray) (hi:Option ByteArray) (id:Nat) (l:List zE) (q:List Nat),vJ G gen d lo hi id l q->∀x∈l,zCN x
 | 0,_,_,_,_,_,h=>h.elim
 | d+1,lo,hi,id,l,q,h=>by
  obtain⟨n,q,hp,hr,rfl,h⟩:=h;rcases h with ⟨hl,rfl,hne,he,_⟩|⟨hl,hk⟩
  .exact he.ok (zAQ hr)
  .exact hk.ok (vJ.ok d)
end
structure TD(G:GA)(gen root d:Nat)(ps:List zE)(pgs:List Nat):Prop where
 tree:(root=0/\d=0/\ps=[]/\pgs=[])\/(1<=d/\vJ G gen d e0 none root ps pgs)
 nodup:pgs.Nodup
section
variable {G G':GA}{l l':List Nat}{gen root d:Nat}{ps:List zE}{pgs:List Nat}
theorem TD.none(G:GA)(gen:Nat):TD G gen 0 0 [] []:=⟨.inl ⟨rfl,rfl,rfl,rfl⟩,rM⟩
theorem TD.sorted(h:TD G gen root d ps pgs):yZ ps:=by
 rcases h.tree with ⟨_,_,rfl,_⟩|⟨_,h⟩
 .exact List.Pairwise.nil
 .exact vJ.sorted _ _ _ _ _ _ h
theorem TD.ok(h:TD G gen root d ps pgs):∀x∈ps,zCN x:=by
 rcases h.tree with ⟨_,_,rfl,_⟩|⟨_,h⟩
 .intro x hx;simp at hx
 .exact vJ.ok _ _ _ _ _ _ h
theorem TD.lt(h:TD G gen root d ps pgs):∀i∈pgs,2<=i/\i<G.blocks:=by
 rcases h.tree with ⟨_,_,_,rfl⟩|⟨_,h⟩
 .intro x hx;simp at hx
 .exact vJ.ltq _ _ _ _ _ _ h
theorem TD.count(h:TD G gen root d ps pgs):pgs.length+(if ps=[] then 0 else 1)<=2 * ps.length+chS G.size ps/\(ps≠[]->2 ^ (d-1)<=ps.length)/\(if d=0 then 0 else 2 ^ (d-1)+2 ^ (d-1))<=pgs.length+1/\chS G.size ps+(if ps=[] then 0 else 1)<=pgs.length:=by
 rcases h.tree with ⟨_,rfl,rfl,rfl⟩|⟨hd,h⟩
 .simp[chS]
 .obtain⟨h1,h2,h3,h4⟩:=vJ.count _ _ _ _ _ _ h;have hne:=vJ.ne _ _ _ _ _ _ h;rw[if_neg hne,if_neg (by omega)];exact⟨h1,λ_=>h2,h3,h4⟩
theorem TD.few(h:TD G gen root d ps pgs)(hb:G.blocks<=256):pgs.length<=254/\d<=7:=by
 have hl:pgs.length<=254:=by
  have h1:=zCi 254 (pgs.map λ(i:Nat)=>(i:Int)-2) (wW.2 (h.nodup.imp (λhne e=>hne (by omega)))) (λi hi=>by
   obtain⟨j,hj,rfl⟩:=wY.1 hi;have:=h.lt j hj;omega)
  simpa using h1
 refine⟨hl,?_⟩;have h3:=h.count.2.2.1;rcases pI 7 d with hd|hd
 .rw[if_neg (by omega)] at h3;have:2 ^ 7<=2 ^ (d-1):=tT (by omega) (by omega);omega
 .exact hd
theorem TD.mono(h:TD G gen root d ps pgs){gen':Nat}(hg:gen<=gen')(hb:G'.blocks=G.blocks)(hs:G'.size=G.size)(hv:∀i∈pgs,G'.view i=G.view i):TD G' gen' root d ps pgs :=
 ⟨h.tree.imp id (λh=>⟨h.1,vJ.mono hg hb hs _ _ _ _ _ _ hv h.2⟩),h.nodup⟩
theorem zQz{key v:ByteArray}(hc:zAK G l)(hT:TD G gen root d ps pgs)(hu:vX l (λk=>k∈pgs))(hkb:qC key=true)(hv:v.size<=4096) :
  (zIW G l gen root key v=.inr 3/\zAJ l<=(ndV G.size v:Nat)+d+1) \/
  ∃G' l' root' d' pgs',zIW G l gen root key v=.inl (G',l',(root',(zAe key ps).isNone))/\Upd G l (λk=>k∈pgs) G' l' (λk=>k∈pgs')/\TD G' gen root' d' (qL key v true ps) pgs'/\vX l' (λk=>k∈pgs')/\zAK G' l'/\2<=root'/\d'<=d+1:=by
 have hchk:zEG key v=none:=by unfold zEG;rw[if_neg (by rw[hkb];simp),if_neg (by omega)]
 have hs:=hc.s256;unfold zIW;rw[hchk];simp only;rcases hT.tree with ⟨rfl,rfl,rfl,rfl⟩|⟨hd,hT2⟩
 .rw[if_pos rfl];rcases zFI (gen:=gen) (lo:=e0) (hi:=none) (n:=zEu) (key:=key) (v:=v) (ps:=[]) (q:=[]) hc (.inl rfl) rfl rfl (by unfold zD zEu;simp[zY,yA];omega) .nil (λx hx=>by simp at hx) (zCa key) hkb hv rM (λk hk=>by simp at hk) (λh=>absurd rfl h) with ⟨a1,a2⟩|⟨G2,l2,o,pgs,a1,a2,a3,a4,a5⟩
  .rw[a1];exact .inl ⟨rfl,by omega⟩
  .rw[a1];simp only;have h2:=a5 rfl;rw[if_pos h2];have hk:=a3.kids;unfold vS zAu at hk;rw[if_neg (by rw[h2];simp),if_neg (by rw[h2];simp)] at hk;generalize hkk:[(o.id0:Int)]=kk at hk
   cases hk with
   | @one _ _ c _ _ hT3 =>
    simp only[List.cons.injEq,and_true] at hkk;have hcc:c=o.id0:=by omega
    subst hcc;refine .inr ⟨G2,l2,o.id0,1,pgs,by rw[a2],a3.upd.iff (λk=>by simp) (λ_=>rZ),⟨.inr ⟨uJ _,hT3⟩,a3.nodup⟩,a3.use,a3.ctx,?_,by omega⟩;obtain⟨r,hr⟩:=vJ.head _ _ _ _ _ _ hT3;exact a3.two _ (by rw[hr];simp)
 .have hd7:=(hT.few hc.b256).2;have hroot:root≠0:=by
   obtain⟨r,hr⟩:=vJ.head _ _ _ _ _ _ hT2;have:=hT.lt root (by rw[hr];simp);omega
  rw[if_neg hroot];rcases zKB (gen:=gen) hkb hv d 16 G l root e0 none ps pgs hc hT2 hT.nodup hu (zCa key) (by omega) with ⟨a1,a2⟩|⟨G2,l2,o,pgs',a1,a2,a3,a4⟩
  .rw[a1];exact .inl ⟨rfl,by omega⟩
  .rw[a1];simp only;have hk:=a3.kids;by_cases h2:o.two=false
   .rw[if_pos h2];unfold vS zAu at hk;rw[if_neg (by rw[h2];simp),if_neg (by rw[h2];simp)] at hk;generalize hkk:[(o.id0:Int)]=kk at hk
    cases hk with
    | @one _ _ c _ _ hT3 =>
     simp only[List.cons.injEq,and_true] at hkk;have hcc:c=o.id0:=by omega
     subst hcc;refine .inr ⟨G2,l2,o.id0,d,pgs',by rw[a2],a3.upd,⟨.inr ⟨hd,hT3⟩,a3.nodup⟩,a3.use,a3.ctx,?_,by omega⟩;obtain⟨r,hr⟩:=vJ.head _ _ _ _ _ _ hT3;exact a3.two _ (by rw[hr];simp)
   .have h2t:o.two=true:=by simpa using h2
    rw[if_neg h2];have hkey:=a3.keys o.key (by unfold vS;rw[if_pos h2t];simp);unfold vS zAu at hk;rw[if_pos h2t,if_pos h2t] at hk;have hr:zM (zCF o)=true:=hk.right a3.nodup (λs hs=>by rw[wS.1 hs];exact hkey) (by simp) a3.ctx.b256;have hksz:=(vC o.key).1 hkey;have hw:zD (zCF o)<=(G2.size:Int)-24:=by
     unfold zD zCF;have:=a3.ctx.s256;simp[zY,yA];omega
    cases hdn:qW G2 l2 0 (zCF o) with
    | none =>
     simp only;refine .inl ⟨by unfold zAp;rw[if_pos ⟨hr,hw⟩],?_⟩;have h3:=zCl hdn ⟨hr,hw⟩ (.inl rfl);have h4:=a3.upd.phi hu hT.nodup a3.nodup;omega
    | some i =>
     simp only;obtain⟨b1,b2,b3,b4,b5,b6,_⟩:=zEd (gen:=gen) (lo:=e0) (hi:=none) (d:=d) a3.ctx (.inl rfl) hdn hr (.inr ⟨rfl,hk⟩) a3.nodup a3.use (λh=>absurd rfl h) a3.two;refine .inr ⟨_,_,i,d+1,i :: pgs',by rw[a2],?_,⟨.inr ⟨by omega,b2⟩,b3⟩,λk hk=>b6 k (uN.1 hk),b5,b4,by omega⟩;have b7:=b1.iff (A':=λk=>k∈pgs') (A1':=λk=>k∈i :: pgs') (λk=>by simp) (λk=>by rw[uN]);exact a3.upd.trans b7 hu
end
end Go.Proofs.YtchklfmggpconaaGreatDoor
