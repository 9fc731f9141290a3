import Derived.Test.YteabpacpngaoaaaGreatDoorS06
namespace Go.Proofs.YteabpacpngaoaaaGreatDoor
open Lib renaming hid->oh
set_option maxHeartbeats 4000000
set_option maxRecDepth 100000
section
open Go.RowKit
structure zA where
 seen:List Int
 finds:List (Int × Int)
 ids:List Int
 keys:Nat
 lost:List ByteArray
 blind:Bool
def zA.find(A:zA)(id what:Int):zA:={ A with finds:=A.finds++[(id,what)],blind:=A.blind || decide (what=3) }
def zA.good(A:zA)(id:Int):zA:={ A with ids:=A.ids++[id] }
def zA.see(A:zA)(id:Int):zA:={ A with seen:=A.seen++[id] }
def zA.key(A:zA):zA:={ A with keys:=A.keys+1 }
def zA.lose(A:zA)(k:ByteArray):zA:={ A with lost:=A.lost++[k] }
def zA.few(A:zA):Prop:=A.seen.length<=1000/\A.finds.length<=1000/\A.ids.length<=1000/\A.lost.length<=100000/\A.keys<=1000000
def zA.le(A B:zA):Prop:=A.seen.length<=B.seen.length/\A.finds.length<=B.finds.length/\A.ids.length<=B.ids.length/\A.lost.length<=B.lost.length/\A.keys<=B.keys
theorem zA.le_refl(A:zA):A.le A:=⟨uA _,uA _,uA _,uA _,uA _⟩
theorem zA.le.trans{A B C:zA}(h:A.le B)(k:B.le C):A.le C :=
 ⟨uJ h.1 k.1,uJ h.2.1 k.2.1,uJ h.2.2.1 k.2.2.1,uJ h.2.2.2.1 k.2.2.2.1,uJ h.2.2.2.2 k.2.2.2.2⟩
theorem zA.le.few{A B:zA}(h:A.le B)(k:B.few):A.few :=
 ⟨uJ h.1 k.1,uJ h.2.1 k.2.1,uJ h.2.2.1 k.2.2.1,uJ h.2.2.2.1 k.2.2.2.1,uJ h.2.2.2.2 k.2.2.2.2⟩
theorem zA.le_find(A:zA)(id what:Int):A.le (A.find id what):=⟨uA _,by simp[zA.find],uA _,uA _,uA _⟩
theorem zA.le_good(A:zA)(id:Int):A.le (A.good id):=⟨uA _,uA _,by simp[zA.good],uA _,uA _⟩
theorem zA.le_see(A:zA)(id:Int):A.le (A.see id):=⟨by simp[zA.see],uA _,uA _,uA _,uA _⟩
theorem zA.le_key(A:zA):A.le A.key:=⟨uA _,uA _,uA _,uA _,by simp[zA.key]⟩
theorem zA.le_lose(A:zA)(k:ByteArray):A.le (A.lose k):=⟨uA _,uA _,uA _,by simp[zA.lose],uA _⟩
def zP(D:DiskA)(id:Int):Option PageA:=if 0<=id/\id<D.blocks then match openAtP (D.lasting.getD id.toNat []) id with
 | .inl p=>some p
 | .inr _=>none
 else none
section
variable {Q:Int->Option PageA}{gen z:Nat}{A:zA}{id what:Int}{p:PageA}
def zG(Q:Int->Option PageA)(gen:Nat)(A:zA)(id what:Int):zA × Option PageA :=
 if id∈A.seen then (A,none) else match Q id with
  | none=>((A.see id).find id what,none)
  | some p=>if gen<p.gen then ((A.see id).find id what,none) else (A.see id,some p)
theorem qR(h:id∈A.seen):zG Q gen A id what=(A,none):=by unfold zG;rw[if_pos h]
theorem yO(h:id ∉ A.seen)(hq:Q id=none):zG Q gen A id what=((A.see id).find id what,none):=by unfold zG;rw[if_neg h,hq]
theorem yP(h:id ∉ A.seen)(hq:Q id=some p)(hg:gen<p.gen):zG Q gen A id what=((A.see id).find id what,none):=by unfold zG;rw[if_neg h,hq];simp only;rw[if_pos hg]
theorem zW(h:id ∉ A.seen)(hq:Q id=some p)(hg:¬ gen<p.gen):zG Q gen A id what=(A.see id,some p):=by unfold zG;rw[if_neg h,hq];simp only;rw[if_neg hg]
theorem yT(Q:Int->Option PageA)(gen:Nat)(A:zA)(id what:Int):A.le (zG Q gen A id what).1:=by
 by_cases h:id∈A.seen
 .rw[qR h];exact A.le_refl
 .cases hq:Q id with
  | none=>rw[yO h hq];exact (A.le_see id).trans (zA.le_find _ _ _)
  | some p =>
   by_cases hg:gen<p.gen
   .rw[yP h hq hg];exact (A.le_see id).trans (zA.le_find _ _ _)
   .rw[zW h hq hg];exact A.le_see id
theorem zBJ{D:DiskA}{id:Nat}(h:id<D.blocks):zP D (id:Int)=match openAtP (D.lasting.getD id []) (id:Int) with
  | .inl p=>some p
  | .inr _=>none:=by unfold zP;rw[if_pos ⟨by omega,by omega⟩,uK]
theorem zBY{D:DiskA}{id:Int}(h:id<0\/(D.blocks:Int)<=id):zP D id=none:=by unfold zP;rw[if_neg (by omega)]
def zD(Q:Int->Option PageA)(gen z:Nat):Nat->Int->Int->zA->zA × Bool
 | 0,_,_,A=>(A,true)
 | f+1,id,n,A=>if n<=0 then (A,true) else
  match zG Q gen A id 4 with
  | (A1,none)=>(A1,false)
  | (A1,some x)=>if pieceBad z x n=true then (A1.find id 4,false) else zD Q gen z f ((takeF x.body 0 4).1:Nat) (n-min n ((z:Int)-28)) (A1.good id)
theorem yD(Q:Int->Option PageA)(gen z:Nat):∀(f:Nat) (id n:Int) (A:zA),A.le (zD Q gen z f id n A).1
 | 0,_,_,A=>A.le_refl
 | f+1,id,n,A=>by
  rw[zD];split
  .exact A.le_refl
  .have h:=yT Q gen A id 4;split
   .rename_i A1 he;rw[he] at h;exact h
   .rename_i A1 x he;rw[he] at h;split
    .exact h.trans (zA.le_find _ _ _)
    .exact (h.trans (zA.le_good _ _)).trans (yD Q gen z f _ _ _)
def zN(Q:Int->Option PageA)(gen z:Nat)(A:zA)(e:EntryA):zA:=if e.chain=0 then A.key else
 if (zD Q gen z e.size.toNat e.chain e.size A.key).2=true then (zD Q gen z e.size.toNat e.chain e.size A.key).1 else (zD Q gen z e.size.toNat e.chain e.size A.key).1.lose e.key
theorem qE(Q:Int->Option PageA)(gen z:Nat)(A:zA)(e:EntryA):A.le (zN Q gen z A e):=by
 unfold zN;split
 .exact A.le_key
 .have h:=A.le_key.trans (yD Q gen z e.size.toNat e.chain e.size A.key);split
  .exact h
  .exact h.trans (zA.le_lose _ _)
theorem zU{α:Type}{f:zA->α->zA}(h:∀(A:zA) (x:α),A.le (f A x)):∀(l:List α) (A:zA),A.le (l.foldl f A)
 | [],A=>A.le_refl
 | x :: l,A=>(h A x).trans (zU h l (f A x))
def zH(Q:Int->Option PageA)(gen z:Nat):Nat->Int->zA->zA
 | 0,id,A=>match zG Q gen A id 3 with
  | (A1,none)=>A1
  | (A1,some _)=>A1.find id 3
 | f+1,id,A=>match zG Q gen A id 3 with
  | (A1,none)=>A1
  | (A1,some p)=>match decodeA p with
   | .inr _=>A1.find id 3
   | .inl n=>n.kids.foldl (λB k=>zH Q gen z f k B) (n.entries.foldl (zN Q gen z) (A1.good id))
theorem yI(Q:Int->Option PageA)(gen z:Nat):∀(f:Nat) (id:Int) (A:zA),A.le (zH Q gen z f id A)
 | 0,id,A=>by
  rw[zH];have h:=yT Q gen A id 3;split
  .rename_i A1 he;rw[he] at h;exact h
  .rename_i A1 x he;rw[he] at h;exact h.trans (zA.le_find _ _ _)
 | f+1,id,A=>by
  rw[zH];have h:=yT Q gen A id 3;split
  .rename_i A1 he;rw[he] at h;exact h
  .rename_i A1 x he;rw[he] at h;split
   .exact h.trans (zA.le_find _ _ _)
   .exact ((h.trans (zA.le_good _ _)).trans (zU (qE Q gen z) _ _)).trans (zU (λB k=>yI Q gen z f k B) _ _)
end
def zA.add(A:zA)(x:List Int)(k:Nat):zA:={ A with seen:=A.seen++x,ids:=A.ids++x,keys:=A.keys+k }
theorem zA.add_nil(A:zA):A.add [] 0=A:=by unfold zA.add;simp
theorem zA.add_add(A:zA)(x y:List Int)(k j:Nat):(A.add x k).add y j=A.add (x++y) (k+j):=by unfold zA.add;simp[Nat.add_assoc]
theorem zA.add_one(A:zA)(i:Int):(A.see i).good i=A.add [i] 0:=rfl
theorem zA.key_add(A:zA)(x:List Int)(k:Nat):A.key.add x k=A.add x (1+k):=by unfold zA.add zA.key;simp[Nat.add_assoc]
theorem zA.key_eq(A:zA):A.key=A.add [] 1:=by unfold zA.add zA.key;simp
section
variable {Q:Int->Option PageA}{gen gen' z:Nat}{G:GA}{T:TreeT}{lo:ByteArray}{hi:Option ByteArray}{l:List PairS}{q ids:List Nat}{c s:Int}{v:ByteArray}
theorem qS{A:zA}{i:Nat}{r:List Nat}(hn:(A.seen++iL (i :: r)).Nodup):(i:Int) ∉ A.seen/\((A.add [(i:Int)] 0).seen++iL r).Nodup:=by
 refine⟨λhm=>?_,?_⟩
 .rw[List.nodup_append] at hn;exact hn.2.2 _ hm (i:Int) (by simp[iL]) rfl
 .show (A.seen++[(i:Int)]++iL r).Nodup;simpa[iL] using hn
theorem zAn{v:List UInt8}{m nn g blocks:Nat}(hm:ids.length=m)(hf:Fit v.length nn m)(hs:z=nn+28)(Ai:∀i∈ids,2<=i/\i<blocks)(B7:blocks<=256)(hg:g<=gen)
  (h:∀i,i<m->Q ((ids.getD i 0:Nat):Int)=some (chPage g v nn ids i)) :
  ∀(k i f:Nat) (A:zA),i+k=m->v.length-i * nn<=f->(A.seen++iL (ids.drop i)).Nodup ->
   zD Q gen z f ((ids.getD i 0:Nat):Int) ((v.length-i * nn:Nat):Int) A=(A.add (iL (ids.drop i)) 0,true)
 | 0,i,f,A,hc,_,_=>by
  have hz:v.length-i * nn=0:=by have:=hf.hi;rw[<- hc,wJ] at this;omega
  have hd:ids.drop i=[]:=List.drop_eq_nil_of_le (by omega);rw[hz,hd];show zD Q gen z f _ _ A=(A.add [] 0,true);rw[zA.add_nil];cases f with
  | zero=>rfl
  | succ f=>rw[zD,if_pos (by simp)]
 | k+1,i,f,A,hc,D5,hn=>by
  have hi:i<m:=by omega
  have hl:=hf.left hi;obtain⟨f,rfl⟩:∃f',f=f'+1:=⟨f-1,by omega⟩;have D6:=hf.n228;have Be:i<ids.length:=by omega
  have hid:=Ai _ (getD_in Be);have Bu:ids.drop i=ids.getD i 0 :: ids.drop (i+1):=by
   rw[List.drop_eq_getElem_cons Be];simp[List.getD,Be]
  rw[Bu] at hn;obtain⟨n1,n2⟩:=qS hn;have Bf:=chI_ok (size:=z) hm hf hs Ai B7 hi g;have Ca:ids.getD (i+1) 0<4294967296:=by
   rcases uZ (i+1) ids.length with h|h
   .have:=Ai _ (getD_in h);omega
   .rw[getD_out h];omega
  have ht:takeF (chPage g v nn ids i).body 0 4=(ids.getD (i+1) 0,none):=takeF_head _ _ Ca;have Bg:((v.length-i * nn:Nat):Int)-min ((v.length-i * nn:Nat):Int) ((z:Int)-28)=((v.length-(i+1) * nn:Nat):Int):=by
   rw[wR];omega
  rw[zD,if_neg (by omega),zW n1 (h i hi) (by show ¬ gen<g;omega)];simp only[Bf,ht,Bg];rw[if_neg (by simp),zA.add_one,zAn hm hf hs Ai B7 hg h k (i+1) f _ (by omega) (by rw[wR];omega) n2,zA.add_add,Bu];rfl
def yX(Q:Int->Option PageA)(G:GA):Prop:=∀(i:Nat) (p:PageA),i<G.blocks->G.view i=some (.inl p)->Q (i:Int)=some p
theorem zBv(hQ:yX Q G)(h:ChG G gen' c s v ids)(hg:gen'<=gen)(hs:256<=G.size)(hb:G.blocks<=256){A:zA}(hn:(A.seen++iL ids).Nodup) :
  zD Q gen G.size s.toNat c s A=(A.add (iL ids) 0,true):=by
 obtain⟨g,D7,hp⟩:=h.page;have hl:v.data.toList.length=v.size:=size_toList v;have D8:=h.lo;have hf:Fit v.data.toList.length (G.size-28) (ndS G.size v.size):=by rw[hl];exact ndS_fit _ _ (by omega) hs
 have e:=zAn (Q:=Q) (gen:=gen) (z:=G.size) (g:=g) h.len hf (by omega) h.lt hb (by omega) (λi hi=>hQ _ _ (h.lt _ (getD_in (by rw[h.len];exact hi))).2 (hp i (by rw[h.len];exact hi))) (ndS G.size v.size) 0 v.size A (by omega) (by rw[hl];omega) (by simpa using hn);rw[hl] at e;simp only[Nat.zero_mul,Nat.sub_zero,List.drop_zero] at e;rw[h.size,h.first,uK];exact e
theorem zBj(hQ:yX Q G){e:EntryA}(h:EntC G gen' e v ids)(hg:gen'<=gen)(hs:256<=G.size)(hb:G.blocks<=256){A:zA}(hn:(A.seen++iL ids).Nodup):zN Q gen G.size A e=A.add (iL ids) 1:=by
 unfold zN;rcases h with ⟨h1,_,rfl⟩|⟨h1,h2⟩
 .rw[if_pos h1,zA.key_eq];rfl
 .rw[if_neg h1,zBv hQ h2 hg hs hb (A:=A.key) hn];rw[if_pos rfl,zA.key_add]
theorem zBZ(hQ:yX Q G)(hg:gen'<=gen)(hs:256<=G.size)(hb:G.blocks<=256){es:List EntryA}(h:Ents G gen' es l q):∀(A:zA),(A.seen++iL q).Nodup->es.foldl (zN Q gen G.size) A=A.add (iL q) l.length:=by
 induction h with
 | nil=>intro A _;exact A.add_nil.symm
 | @cons e x ids es l q h1 h2 _ ih =>
  intro A hn;rw[jN] at hn;rw[wP,zBj hQ h2 hg hs hb (hn.sublist (by rw[<- uS];exact List.sublist_append_left _ _)),ih _ (by show (A.seen++iL ids++iL q).Nodup;rw[uS];exact hn),zA.add_add,jN,uB,Nat.add_comm]
theorem zBa{keys:List ByteArray}{kids:List Int}{rec_:Int->zA->zA}(hT:∀lo hi c l q,T lo hi c l q->∀(A:zA),(A.seen++iL q).Nodup->rec_ (c:Int) A=A.add (iL q) l.length)(h:Kids T lo hi keys kids l q):∀(A:zA),(A.seen++iL q).Nodup->kids.foldl (λB k=>rec_ k B) A=A.add (iL q) l.length:=by
 induction h with
 | one h=>intro A hn;exact hT _ _ _ _ _ h A hn
 | @cons lo hi s c keys kids l1 l2 q1 q2 h1 h2 _ ih =>
  intro A hn;rw[jN] at hn;rw[wP,hT _ _ _ _ _ h1 A (hn.sublist (by rw[<- uS];exact List.sublist_append_left _ _)),ih _ (by show (A.seen++iL q1++iL q2).Nodup;rw[uS];exact hn),zA.add_add,jN,uC]
theorem zBe(hQ:yX Q G)(hg:gen'<=gen)(hs:256<=G.size)(hb:G.blocks<=256):∀(d:Nat) (lo:ByteArray) (hi:Option ByteArray) (id:Nat) (l:List PairS) (q:List Nat),TrD G gen' d lo hi id l q->∀(f:Nat) (A:zA),d<=f->(A.seen++iL q).Nodup ->
  zH Q gen G.size f (id:Int) A=A.add (iL q) l.length
 | 0,_,_,_,_,_,h,_,_,_,_=>h.elim
 | d+1,lo,hi,id,l,pgs,h,0,_,hf,_=>by omega
 | d+1,lo,hi,id,l,pgs,h,f+1,A,hf,hn=>by
  obtain⟨n,q,hp,hr,rfl,h⟩:=h;obtain⟨p,hv,D9,Bh⟩:=hp.page;obtain⟨n1,n2⟩:=qS hn;rw[zH,zW n1 (hQ id p hp.lt hv) (by omega)];simp only[Bh,zA.add_one];rcases h with ⟨hl,rfl,Da,he,Cb⟩|⟨hl,hk⟩
  .have Cc:n.kids=[]:=by
    unfold rightN at hr;rw[if_pos hl] at hr;simp only[uM,wO] at hr;exact hr.1.1.2
   rw[Cc,List.foldl_nil,zBZ hQ hg hs hb he _ n2,zA.add_add,wF];rfl
  .have Cd:n.entries=[]:=by
    unfold rightN at hr;rw[if_neg (by rw[hl];simp)] at hr;simp only[uM,wO] at hr;exact hr.1.1.1.1.1.1.1
   rw[Cd,List.foldl_nil,zBa (λlo hi c l q hT A hn=>zBe hQ hg hs hb d lo hi c l q hT f A (by omega) hn) hk _ n2,zA.add_add,wF];rfl
end
structure qI(D:DiskA)(s:SupA)(m:MapA)(dd:Nat)(ps:List PairS)(pgs:List Nat):Prop where
 well:WellD D s m
 td:TD (mountG D) s.gen s.root dd ps pgs
 hi:∀i∈pgs,6<=i
 keys:s.keys=ps.length
theorem zAz[GhoI]{C:CaA}{G:GA}(hI:CaInv C)(hR:CaRel C G){id:Nat}{p:PageA}{b:List UInt8}(hv:G.view id=some (.inl p))(hl:G.look id=some b):openAtP (C.disk.look id) id=.inl p:=by
 have h1:=hR.view id _ hv;have h2:=(hR.look id b (.inl hl)).2;unfold CaA.vw at h1;split at h1
 .rename_i s hf;have hs:=List.find?_some hf;obtain⟨j,hj,e⟩:=List.getElem_of_mem (List.mem_of_find?_eq_some hf);have Bv:C.slots[j]? = some s:=by rw[<- e];exact uG hj
  obtain⟨a1,a2⟩:=has_iff.1 hs;have hc:=hI.clean j s Bv a1 (h2 j s Bv hs);rw[a2,uK] at hc;rw[hc];exact h1
 .exact h1
section
variable {P F:Nat->Prop}{ad:Nat->Addr}{w:World}{d S c sp n z:Nat}{s:SupA}{G:GA}{l:List Nat}
theorem zBb[i0:GhoI]{hh root dd:Nat}{ps:List PairS}{pgs pgs0:List Nat}(hL:Env F ad w)(hP:∀k,P k->F k)(h:qB F w P z n S d c sp s hh (sealG G) l root dd ps pgs pgs0)(hr:s.root=root)(hk:s.keys=ps.length)(hT:TD G s.gen root dd ps pgs)(hg:s.gen<1000000) :
  ∃D Pd m,DkS w Pd d D/\(∀k,Pd k->F k)/\qI D s m dd ps pgs/\D.blocks=n/\D.size=z:=by
 obtain⟨m,Ac,B8,Ce,Cf⟩:=h.gho.low;have h6:=Ac.low;obtain⟨C,hS,hI,hR,B9,Db⟩:=h.st.open h.gho.disk;obtain⟨Pd,hD,Cg, -⟩:=hS.dk hL hP;have hb:C.disk.blocks=n:=hR.blocks.trans h.lawn.blk;have hz:C.disk.size=z:=hR.size.trans h.lawn.size;have hw:C.disk.waiting=[]:=by
  have h1:=hR.cost;unfold CaA.cost at h1;have h2:(sealG G).cost=0:=rfl;exact List.eq_nil_of_length_eq_zero (by omega)
 have Ba:∀j,j<6->C.disk.look j=gBlk j:=λj hj=>(hR.look j (gBlk j) (.inr ⟨by omega,rfl⟩)).1
 have Au:=place_lt s.gen 0 (by omega);have Ch:=place_lt s.gen 1 (by omega);refine⟨C.disk,Pd,m,hD,Cg,⟨⟨⟨hI.off,hI.lit,hw,hI.lenL,hI.len,hI.b8,hI.b256,hI.s256,hI.s1024⟩,h.gho.blk.trans hb.symm,h.gho.siz.trans hz.symm,h.gho.ok,by omega,?_,?_,B8,Ce,Cf,?_,?_⟩,?_,h.lawn.hi,hk⟩,hb,hz⟩
 .rw[Ba 0 (by omega)];exact Ac.sup0
 .rw[Ba 1 (by omega)];exact Ac.sup1
 .rw[Ba _ Au.2,Ac.map0,h.gho.siz,hz]
 .rw[Ba _ Ch.2,Ac.map1,h.gho.siz,hz]
 .rw[hr];refine hT.mono (uA _) (by show C.disk.blocks=_;exact hR.blocks) (by show C.disk.size=_;exact hR.size) (λi hi=>?_);obtain⟨p,hp⟩:=hT.seen i hi;have Ai:=(hT.lt i hi).2;have B7:i<C.disk.blocks:=by rw[hR.blocks];exact Ai
  have hv:(sealG G).view i=some (.inl p):=hp;have hl:(sealG G).look i=some (sealP p G.size):=by
   show (match G.view i with|some (.inl p)=>some (sealP p G.size)|_=>G.look i)=_;rw[hp]
  rw[hp];show (if i<C.disk.blocks then some (openAtP (C.disk.look i) i) else none)=_;rw[if_pos B7,zAz hI hR hv hl]
end
def vG(v:ByteArray):ByteArray:=v.extract 0 (min v.size 300)
theorem zAW(v:ByteArray):(vG v).size<=300:=by unfold vG;rw[ByteArray.size_extract];omega
def zK(L:List PairS):Nat->List PairS × Nat
 | 0=>([],1)
 | k+1=>match L[k]? with
  | none=>zK L k
  | some x=>if keyB x.1=true then (withP x.1 (vG x.2) true (zK L k).1,if k % 5=4 then (zK L k).2+1 else (zK L k).2) else zK L k
theorem zAX{L:List PairS}{k:Nat}{x:PairS}(h:L[k]? = some x)(hk:keyB x.1=false):zK L (k+1)=zK L k:=by
 rw[zK,h];simp only;rw[if_neg (by rw[hk];simp)]
theorem jF{L:List PairS}{k:Nat}{x:PairS}(h:L[k]? = some x)(hk:keyB x.1=true):zK L (k+1)=(withP x.1 (vG x.2) true (zK L k).1,if k % 5=4 then (zK L k).2+1 else (zK L k).2):=by
 rw[zK,h];simp only;rw[if_pos hk]
theorem zBk{g:Nat}{G:GA}{l:List Nat}{root d:Nat}{ps:List PairS}{pgs pgs0:List Nat}{v:ByteArray}(h:zR 256 120 g G l root d ps pgs pgs0)(hF:2<=ps.length->∀i∈pgs,zZ (G.view i))(hk:ps.length<=19)(h0:pgs0.length<=44)(hv:v.size<=300):(ndV G.size v:Nat)+(d:Int)+1<phiL l:=by
 have Ci:=h.phi;have hn:=zAl v (by omega);have hz:G.size=256:=h.size;rw[hz];have hb:=h.ctx.b256;obtain⟨c1,c2,c3⟩:=h.td.count2 hF;rw[hz] at c1 c2;have hc:=jP ps h.val;rcases uZ 1 ps.length with h2|h2
 .obtain⟨e1,e2⟩:=c2 h2;have hd:d<=4:=by
   rcases uZ 4 d with h5|h5
   .have:2 ^ 5<=2 ^ d:=uQ (by omega) h5;omega
   .exact h5
  omega
 .have:=c3 (by omega);omega
theorem zBl{g:Nat}{G:GA}{l:List Nat}{root d:Nat}{ps:List PairS}{pgs pgs0:List Nat}(h:zR 256 120 g G l root d ps pgs pgs0)(hF:2<=ps.length->∀i∈pgs,zZ (G.view i)){k:Nat}(hk:ps.length<=5 * (k+1)):pgs.length<=15 * (k+1)-1:=by
 have hz:G.size=256:=h.size;obtain⟨c1,c2,c3⟩:=h.td.count2 hF;rw[hz] at c1 c2;have hc:=jP ps h.val;rcases uZ 1 ps.length with h2|h2
 .have:=(c2 h2).1;omega
 .omega
end
section
open Go.RowKit
attribute [local go_sem ↓] Go.wp_at_zero Go.wp_at_succ
theorem Tryz.geoSz:(Tryz.prog.info? 24).map (·.size)=some 2:=by kernel_rfl
theorem jG(w:World) : Calls Tryz.prog 23 #[] w λe w'=>e=.returned (.agg #[.int .i64 120,.int .i64 256])/\Ext w w':=by
 go_enter Tryz.func23, Tryz.ntmps23
 go_wp2_with fail;have hb:=Blk.new w #[.int .i64 120,.int .i64 256] 24;refine bodyPost_ret (results_cell_row rfl _ _ w.heap.size 24 #[.int .i64 120,.int .i64 256] (0,0) _ rfl hb Tryz.underlying24 rfl Tryz.geoSz) rfl ?_;exact⟨rfl,(Mods.refl _ w).alloc _⟩
def MdS(ad:Nat->Addr)(w0:World)(S d c sp k:Nat)(L:List PairS)(wv:Value)(wr:World):Prop :=
 ∃(_:GhoI) (P F:Nat->Prop) (s:SupA) (hh:Nat) (G:GA) (l:List Nat) (root dd:Nat) (ps:List PairS) (pgs pgs0:List Nat),
  qB F wr P 256 120 S d c sp s hh G l root dd ps pgs pgs0/\Nxt NoB (plusR P S) NoB F ad w0 wr/\Sl F wr 2 encP wv ps/\ps=(zK L k).1/\s.gen=(zK L k).2/\ps.length<=k/\pgs0.length<=15 * (k / 5)-1/\(2<=ps.length->∀i∈pgs,zZ (G.view i))/\G.cost<=61 * k/\s.gen<=k+1
def zBf(ad:Nat->Addr)(w:World)(L:List PairS)(e:Ending)(w':World):Prop :=
 ∃(d:Nat) (D:DiskA) (Pd F:Nat->Prop) (s:SupA) (m:MapA) (dd:Nat) (pgs:List Nat) (wa:Option Addr) (wc:Nat),
  e=.returned (.tuple #[.pointer (some ⟨d,0,none⟩),.slice wa (zK L (min L.length 20)).1.length wc,.bool true])/\DkS w' Pd d D/\qI D s m dd (zK L (min L.length 20)).1 pgs/\D.blocks=120/\D.size=256/\s.gen=(zK L (min L.length 20)).2+1/\s.gen<=22/\(zK L (min L.length 20)).1.length<=20 /\
  Nxt NoB Pd NoB F ad w w'/\Sl F w' 2 encP (.slice wa (zK L (min L.length 20)).1.length wc) (zK L (min L.length 20)).1
section
variable {ad:Nat->Addr}{w:World}
theorem zBK{P F Pd:Nat->Prop}{w w':World}(n:Nxt NoB P NoB F ad w w')(h1:∀k,Pd k->F k)(h2:∀k,Pd k->k<w'.heap.size):Nxt NoB Pd NoB F ad w w' :=
 ⟨⟨n.stp.mods,λk hk h=>n.oldF k hk (h1 k h),h2⟩,h1,n.grow,n.oldF,n.env⟩
theorem qB.atS[GhoI]{P F:Nat->Prop}{wr w':World}{z n S d c sp:Nat}{s:SupA}{hh root dd:Nat}{G:GA}{l:List Nat}{ps:List PairS}{pgs pgs0:List Nat}(h:qB F wr P z n S d c sp s hh G l root dd ps pgs pgs0)(m:Ext wr w'):qB F w' P z n S d c sp s hh G l root dd ps pgs pgs0:=⟨h.gho,h.home,h.st.at m,h.lawn⟩
theorem zAY{P F F0:Nat->Prop}{w w':World}{S:Nat}(n:Nxt NoB P F0 F ad w w')(hS:w.heap.size<=S)(h2:S<w'.heap.size)(hF:F S):Nxt NoB (plusR P S) F0 F ad w w' :=
 ⟨⟨n.stp.mods,λk hk h=>h.elim (n.stp.old k hk) (λe=>by omega),λk h=>h.elim (n.stp.bd k) (λe=>by rw[e];exact h2)⟩,λk h=>h.elim (n.sub k) (λe=>by rw[e];exact hF),n.grow,n.oldF,n.env⟩
theorem zA0{b s:Nat}(h8:8<=b)(Bi:b<=256)(h1:256<=s)(h2:s<=1024):DryD (newDisk b s) :=
 ⟨rfl,rfl,rfl,by simp[newDisk],λid hid=>by
  have hid':id<b:=hid;unfold DiskA.look newDisk;simp[lookW,hid'],h8,Bi,h1,h2⟩
theorem Sl.lenX{F:Nat->Prop}{α:Type}{sz:Nat}{enc:α->List Value}{a:Option Addr}{n c:Nat}{l:List α}(h:Sl F w sz enc (.slice a n c) l):l.length=n:=by
 obtain⟨_,_,he,_⟩:=h;injection he with _ he;exact he.symm
theorem vH(hL:Env NoB ad w)(lv:Value)(L:List PairS)(hl:Sl NoB w 2 encP lv L) :
  Calls Tryz.prog 20 #[lv] w (zBf ad w L):=by
 obtain⟨la,lc,rfl,Ak,Cj,Dc, -⟩:=id hl;unfold maxLen at Cj;have HL:=oh hL;have Bw:=oh hl;clear hL hl
 go_enter Tryz.func20, Tryz.ntmps20
 go_wp2_with fail;refine (jG _).mono ?_;rintro e w0 ⟨rfl,B8⟩;have Bb:=oh B8;clear B8;go_wp2_with fail;refine (dkNew_ok 120 256 (by omega) (by omega) (by omega) (by omega)).mono ?_;rintro e w1 ⟨d,Pd,rfl,hD,hn,hm⟩;have Bx:=oh (Nxt.of (P:=NoB) (P':=Pd) (HL.out.mods Bb.out.ext) (λ_ h=>h.elim) ⟨hm,λk hk h=>by have:=hn k h;omega,hD.bd⟩);have HD:Hid (DkS w1 Pd d (newDisk 120 256)):=oh hD;clear hD hn hm;go_wp2_with fail;refine (zBX Bx.out.env (λ_ h=>.inr h) HD.out (zA0 (by omega) (by omega) (by omega) (by omega)) (by show 16<=120;omega) rfl 5 (by omega) (by omega)).mono ?_;rintro e w2 ⟨S,c,sp,P2,F2,rfl,h2,n2⟩;have Av:=Bx.out.trans n2;obtain⟨iK,G,l,hK,Ck⟩:=h2;have Bj:F2 S:=hK.st.2.2.2;have By:w0.heap.size<=S:=Nat.le_of_not_lt λh=>(Av.oldF S h Bj).elim
 have hN2':=zAY Av By hK.st.lt Bj;have Cl:Hid (MdS ad w0 S d c sp 0 L (.slice (some ⟨w2.heap.size,0,none⟩) 0 0) (w2.alloc (.cells #[] 38))):=oh (by
  have m3:Ext w2 (w2.alloc (.cells #[] 38)):=(Mods.refl _ w2).alloc _;refine⟨iK,P2,F2,sup1A (newDisk 120 256),0,G,l,0,0,[],[],[],hK.atS m3,hN2'.trans (Nxt.ext hN2'.env hN2'.sub m3),?_,rfl,rfl,by simp,by simp,λh=>by simp at h,by omega,by show 1<=0+1;omega⟩;exact⟨_,0,rfl,by simp,by simp[maxLen],by simp,.inl rfl⟩)
 clear Av hK Ck Bj By n2 hN2';clear iK;go_wp2_with fail;obtain⟨T,hT⟩:∃T,T=min L.length 20:=⟨_,rfl⟩;have HT:=oh hT;clear hT;go_loopg [9,10] T (λm v9 v10 wr=>∃(k:Nat) (wa:Option Addr) (wn wc:Nat),k+m=T/\v9=.slice wa wn wc/\v10=.int .i64 (k:Int)/\Hid (MdS ad w0 S d c sp k L (.slice wa wn wc) wr))
 case atStart=>exact⟨0,_,_,_,by omega,rfl,rfl,Cl⟩
 case round =>
  obtain⟨k,wa,wn,wc,hk,rfl,rfl,HR⟩:=hrel;by_cases Ai:k<T
  .obtain⟨iK,P,F,s,hh,G,l,root,dd,ps,pgs,pgs0,hK,hN,Al,Ay,Az,B0,Au,Bc,A8,B1⟩:=HR.out;have B2:k<L.length/\k<20:=by have:=HT.out;omega
   have Aw:wn=ps.length:=Al.lenX.symm;have Bz:=hN.sl (λ_ h=>h) (Bw.out.ext Bb.out);obtain⟨qb,qoff,Cm,Dd,B9⟩:=Bz.elemF (k:=k) B2.1;have d0:=B9 0 (.string L[k].1) rfl;have d1:=B9 1 (.string L[k].2) rfl;simp only[wJ] at d0;obtain⟨x,hx⟩:∃x,x=L[k]:=⟨_,rfl⟩;have C0:Hid (L[k]? = some x):=oh (by rw[hx];exact uG B2.1);rw[<- hx] at d0 d1;obtain⟨key,v0⟩:=x;simp only at d0 d1;obtain⟨z,hz⟩:∃z,z=min v0.size 300:=⟨_,rfl⟩;have Bk:min (v0.size:Int) 300=(z:Int):=by omega
   have Cn:(0:Int)<=(z:Int):=by omega
   have Co:(z:Int)<=(v0.size:Int):=by omega
   have Cp:Hid (v0.extract 0 z=vG v0):=oh (by unfold vG;rw[hz]);have Bl:=oh (zAW v0);have A5:Hid (qB F wr P 256 120 S d c sp s hh G l root dd ps pgs pgs0/\Nxt NoB (plusR P S) NoB F ad w0 wr/\Sl F wr 2 encP (.slice wa ps.length wc) ps):=oh ⟨hK,hN,by rw[<- Aw];exact Al⟩;have A4:Hid (ps=(zK L k).1/\s.gen=(zK L k).2/\ps.length<=k/\pgs0.length<=15 * (k / 5)-1/\(2<=ps.length->∀i∈pgs,zZ (G.view i))/\G.cost<=61 * k/\s.gen<=k+1/\k<20):=oh ⟨Ay,Az,B0,Au,Bc,A8,B1,B2.2⟩;have De:=oh Aw;subst Cm;have i1:(k:Int)<(L.length:Int):=by omega
   have i2:(k:Int)<20:=by omega
   have i0:(0:Int)<=(k:Int):=by omega
   have Cq:k+gk=T:=hk;have C1:Hid (∀W,Ext w0 W->W.cell? ⟨qb,qoff+k * 2,none⟩=some (.string key)/\W.cell? ⟨qb,qoff+k * 2+1,none⟩=some (.string v0)):=oh (by
    intro W m;have Cr:=(Bw.out.ext Bb.out).mods m.ext;obtain⟨qb2,qoff2,Am,_,An⟩:=Cr.elemF (k:=k) B2.1;injection Am with Am;injection Am with e1 e2;subst e1 e2;rw[<- hx] at An;exact⟨by simpa using An 0 (.string key) rfl,An 1 (.string v0) rfl⟩)
   have Cs:Hid (Ext w0 wr):=oh (hN.stp.mods.mono (λ_ hk=>hk.elim));have Df:=HR;clear hK hN Al Ay Az B0 Au Bc A8 B1 Bz B9 hx hz HR B2 hk d0;subst Aw;go_wp2_with fail;go_quiet (fail)
   rw[Cp.out];obtain⟨W5,Bm⟩:∃W,W=wr.drewN nq:=⟨_,rfl⟩;have m5:Ext wr W5:=by rw[Bm];exact (Mods.refl _ wr).drewN nq
   rw[<- Bm];obtain⟨v,hv⟩:∃v,v=vG v0:=⟨_,rfl⟩;have Ct:=oh hv;rw[<- hv] at Bl ⊢;have Ao:=oh m5;have e0:=(C1.out W5 (Cs.out.trans m5)).1;clear Bm m5 hv d1 Bk Cn Co;cases Aj:keyB key with
   | false =>
    have Bn:=oh (λW=>key07_t key W false Aj);have Ax:=oh (zAX C0.out Aj);clear Aj;go_wp2_with fail;refine (Bn.out _).mono ?_;rintro e w6 ⟨rfl,rfl⟩;go_wp2_with fail;go_roundg (gk-1)
    case measure=>omega
    case rel=>exact⟨k+1,wa,ps.length,wc,by omega,rfl,by go_num,oh (by
     have hu:=A4.out;have hn:=A5.out.2.1;exact⟨iK,P,F,s,hh,G,l,root,dd,ps,pgs,pgs0,A5.out.1.atS Ao.out,hn.trans (Nxt.ext hn.env hn.sub Ao.out),A5.out.2.2.ext Ao.out,by rw[Ax.out];exact hu.1,by rw[Ax.out];exact hu.2.1,by omega,by omega,hu.2.2.2.2.1,by omega,by omega⟩)⟩
   | true =>
    have Bn:=oh (λW=>key07_t key W true Aj);have Ax:=oh (jF C0.out Aj);have Dg:=oh Aj;have Cu:=oh (zB0 (w:=W5) (A5.out.2.1.env.mods Ao.out.ext) (λj hj=>A5.out.2.1.sub j (.inl hj)) (A5.out.1.atS Ao.out) (by have:=A4.out;omega) (by have:=A4.out;omega) (by have:=A4.out;omega) Aj (by have:=Bl.out;show v.size<=400;omega) (zBk A5.out.1.lawn A4.out.2.2.2.2.1 (by have:=A4.out;omega) (by have:=A4.out;omega) Bl.out));clear Aj;go_wp2_with fail;refine (Bn.out _).mono ?_;rintro e w6 ⟨rfl,rfl⟩;go_wp2_with fail;refine Cu.out.mono ?_;rintro e w10 ⟨rfl,P10,F10,G10,l10,root10,dd10,pgs10,B3,Ap,A9,Ad⟩;have Ae:=(A5.out.2.1.trans (Nxt.ext A5.out.2.1.env A5.out.2.1.sub Ao.out)).trans Ap;have Aq:=Ap.sl (λj hj=>A5.out.2.1.sub j hj) (A5.out.2.2.ext Ao.out);have e0:=(C1.out w10 (Ae.stp.mods.mono (λ_ hk=>hk.elim))).1;have Cv:=oh (zBI ps _ Aq (by have:=A4.out;omega) key v true);have Ab:=oh (And.intro B3 (And.intro Ae Aq));have Af:=oh (And.intro A9 (Ad A4.out.2.2.2.2.1));have C2:(k:Int).tmod 5=((k % 5:Nat):Int):=by rw[uT (by omega)];omega
    obtain⟨q5,Bo⟩:∃q,q=k % 5:=⟨_,rfl⟩;have C3:=oh Bo;rw[<- Bo] at C2;clear Bo B3 Ap Ae Aq A9 Ad;go_wp2_with fail;refine Cv.out.mono ?_;rintro e w11 ⟨v11,rfl,Ar,As⟩;obtain⟨a11,c11,rfl, -⟩:=Ar.form;have Ak:=withP_len key v true ps;have B4:Sl F10 w11 2 encP (.slice a11 (withP key v true ps).length c11) (withP key v true ps):=Ar.slF (λq hq=>Ab.out.2.1.env.lt q hq) yF.len (by have:=A4.out;omega);have Ah:=oh (And.intro (Ab.out.1.atS As) (And.intro (Ab.out.2.1.trans (Nxt.ext Ab.out.2.1.env Ab.out.2.1.sub As)) B4));have Bp:=oh Ak;have C4:Hid (withP key v true ps=(zK L (k+1)).1):=oh (by rw[Ax.out,Ct.out,<- A4.out.1]);clear Ar B4 As Ak e0;by_cases h4:q5=4
    .subst h4;rw[show ((4:Nat):Int)=4 from rfl] at C2;have Bq:=oh (zAm (w:=w11) Ah.out.2.1.env (λj hj=>Ah.out.2.1.sub j (.inl hj)) Ah.out.1 (by have:=A4.out;omega) (by have:=A4.out;have:=Bp.out;omega) (by have:=Af.out.1;have:=A4.out;omega));have Cw:=oh (λh=>zBl Ab.out.1.lawn Af.out.2 (k:=(k+1) / 5-1) h);go_wp2_with fail;refine Bq.out.mono ?_;rintro e w12 ⟨rfl,P12,F12,⟨iC,A6⟩,A3⟩;have Ag:Hid (MdS ad w0 S d c sp (k+1) L (.slice a11 (withP key v true ps).length c11) w12):=oh (by
      have hu:=A4.out;have h5:=C3.out;have Cx:=Bp.out;refine⟨iC,P12,F12,nextS s root10 (withP key v true ps).length,1-hh,sealG G10,spCommit l10,root10,dd10,withP key v true ps,pgs10,pgs10,A6,Ah.out.2.1.trans A3,A3.sl (λj hj=>Ah.out.2.1.sub j hj) Ah.out.2.2,C4.out,?_,by omega,?_,Af.out.2,by show 0<=_;omega,by show s.gen+1<=_;omega⟩
      .rw[Ax.out];show s.gen+1=_;simp only;rw[if_pos h5.symm,hu.2.1]
      .have Dh:=Cw.out (by omega);omega)
     clear A6 A3;go_wp2_with fail;go_roundg (gk-1)
     case measure=>omega
     case rel=>exact⟨k+1,a11,_,c11,by omega,rfl,by go_num,Ag⟩
    .have Di:¬ (q5:Int)=4:=by omega
     have Ag:Hid (MdS ad w0 S d c sp (k+1) L (.slice a11 (withP key v true ps).length c11) w11):=oh (by
      have hu:=A4.out;have h5:=C3.out;have Cx:=Bp.out;refine⟨iK,P10,F10,s,hh,G10,l10,root10,dd10,withP key v true ps,pgs10,pgs0,Ah.out.1,Ah.out.2.1,Ah.out.2.2,C4.out,?_,by omega,by omega,Af.out.2,by have:=Af.out.1;omega,by omega⟩;rw[Ax.out];simp only;rw[if_neg (by rw[<- h5];exact h4),hu.2.1])
     go_wp2_with fail;go_roundg (gk-1)
     case measure=>omega
     case rel=>exact⟨k+1,a11,_,c11,by omega,rfl,by go_num,Ag⟩
  .obtain rfl:k=T:=by omega
   obtain⟨iK,P,F,s,hh,G,l,root,dd,ps,pgs,pgs0,hK,hN,Al,Ay,Az,B0,Au,Bc,A8,B1⟩:=HR.out;have Aw:wn=ps.length:=Al.lenX.symm;have B5:k<=20:=by have:=HT.out;omega
   have Bq:=oh (λW (m:Ext wr W)=>zAm (w:=W) (hN.env.mods m.ext) (λj hj=>hN.sub j (.inl hj)) (hK.atS m) (by omega) (by omega) (by omega));have A5:Hid (qB F wr P 256 120 S d c sp s hh G l root dd ps pgs pgs0/\Nxt NoB (plusR P S) NoB F ad w0 wr/\Sl F wr 2 encP (.slice wa ps.length wc) ps):=oh ⟨hK,hN,by rw[<- Aw];exact Al⟩;have A4:Hid (ps=(zK L k).1/\s.gen=(zK L k).2/\ps.length<=k/\s.gen<=k+1):=oh ⟨Ay,Az,B0,B1⟩;have Cy:=oh hK.lawn.td;have i0:(0:Int)<=(k:Int):=by omega
   have Br:¬ ((k:Int)<(L.length:Int))\/((k:Int)<(L.length:Int)/\¬ ((k:Int)<20)):=by have:=HT.out;omega
   have Cz:=oh B5;subst Aw;have Ag:Hid (∀(w12:World) (P12 F12:Nat->Prop) (iC:GhoI),qB F12 w12 P12 256 120 S d c sp (nextS s root ps.length) (1-hh) (sealG G) (spCommit l) root dd ps pgs pgs->Nxt (plusR P S) (plusR P12 S) F F12 ad wr.drew w12->zBf ad w L (.returned (.tuple #[.pointer (some ⟨d,0,none⟩),.slice wa ps.length wc,.bool true])) w12):=oh (by
    intro w12 P12 F12 iC A6 A3;have Av:=A5.out.2.1.trans (Nxt.ext A5.out.2.1.env A5.out.2.1.sub (Mods.refl _ wr).drew);have Bs:=Av.trans A3;have hu:=A4.out;obtain⟨D,Pd,m,q1,q2,q3,q4,q5⟩:=zBb Bs.env (λj hj=>Bs.sub j (.inl hj)) A6 rfl rfl Cy.out (by show s.gen+1<_;omega);have B6:k=min L.length 20:=HT.out;have D0:Nxt NoB Pd NoB F12 ad w w12:=(Nxt.ext HL.out (P:=NoB) (λ_ h=>h.elim) Bb.out).trans (zBK Bs q2 q1.bd);refine⟨d,D,Pd,F12,_,m,dd,pgs,wa,wc,by rw[<- B6,<- hu.1],q1,by rw[<- B6,<- hu.1];exact q3,q4,q5,by rw[<- B6,<- hu.2.1];rfl,by show s.gen+1<=_;omega,by rw[<- B6,<- hu.1];omega,D0,?_⟩;rw[<- B6,<- hu.1];exact A3.sl (λj hj=>Av.sub j hj) (A5.out.2.2.ext (Mods.refl _ wr).drew))
   clear hK hN Al Ay Az B0 Au Bc A8 B1 HR Ai B5;rcases Br with i1|⟨i1,i2⟩
   all_goals
    go_wp2_with fail;go_region_held3 (λ_=>True) (exact trivial)
     (first
      | (go_at_call 16;(with_reducible refine (Bq.out _ (Mods.refl _ wr).drew).mono ?_);rintro e w12 ⟨rfl,P12,F12,⟨iC,A6⟩,A3⟩)
      | fail)
    have At:=oh (Ag.out w12 P12 F12 iC A6 A3);clear A6 A3;go_wp2_with fail;go_ret3
    exact At.out
end
def zBL(x:Int × Int):List Value:=[.int .i64 x.1,.int .i64 x.2]
theorem zBc:EncOk zBL 2:=⟨λ_=>rfl,by intro x u hu;simp[zBL] at hu;rcases hu with rfl|rfl <;> rfl⟩
def lkC(d mb:Nat)(s:SupA)(g:Int)(A:zA)(fv iv lv:Value):Array Value :=
 #[.pointer (some ⟨d,0,none⟩),.int .u64 (s.gen:Int),.int .i64 (s.blocks:Int),.int .i64 (s.size:Int),.int .i64 (s.root:Int),.int .i64 (s.keys:Int),.map (some mb),.int .u64 g,fv,.int .i64 (A.ids.length:Int),iv,.int .i64 (A.keys:Int),lv,.bool A.blind]
theorem Tryz.elF:ElT Tryz.prog 69 137 (.agg #[.int .i64 0,.int .i64 0]) 2 16:=⟨Tryz.underlying69,by kernel_rfl,rfl,by decide,by decide⟩
def qH(kb mb:Nat)(fv iv lv:Value):Nat->Prop:=λk=>k=kb\/k=mb\/fv.ownBlock=some k\/iv.ownBlock=some k\/lv.ownBlock=some k
structure zQ(w0 w:World)(kb mb d:Nat)(s:SupA)(g:Int)(A:zA)(fv iv lv:Value):Prop where
 ext:Ext w0 w
 new:w0.heap.size<=kb/\w0.heap.size<=mb
 blk:Blk w kb (lkC d mb s g A fv iv lv) 135
 seen:zV w mb A.seen
 rf:Own (λ_=>False) w w0.heap.size 137 2 zBL fv A.finds
 ri:Own (λ_=>False) w w0.heap.size 3 1 encI iv A.ids
 rl:Own (λ_=>False) w w0.heap.size 9 1 encS lv A.lost
 few:A.few
structure zJ(kb mb:Nat)(fv iv lv fv' iv' lv':Value)(w w':World):Prop where
 mods:Mods (qH kb mb fv iv lv) w w'
 sub:∀k,qH kb mb fv' iv' lv' k->qH kb mb fv iv lv k\/w.heap.size<=k
def zBM(w0:World)(kb mb d:Nat)(s:SupA)(g:Int)(fv iv lv:Value)(w:World)(A':zA)(w':World):Prop:=∃fv' iv' lv',zQ w0 w' kb mb d s g A' fv' iv' lv'/\zJ kb mb fv iv lv fv' iv' lv' w w'
section
variable {ad:Nat->Addr}{w0 w w' w2:World}{kb mb d:Nat}{s:SupA}{g:Int}{A A':zA}{fv iv lv fv' iv' lv' fv2 iv2 lv2:Value}
theorem zJ.ext(m:Ext w w'):zJ kb mb fv iv lv fv iv lv w w':=⟨m.ext,λ_ h=>.inl h⟩
theorem zJ.trans(h:zJ kb mb fv iv lv fv' iv' lv' w w')(k:zJ kb mb fv' iv' lv' fv2 iv2 lv2 w' w2):zJ kb mb fv iv lv fv2 iv2 lv2 w w2 :=
 ⟨h.1.trans' k.1 (λi hi hb=>(h.2 i hb).elim id (λe=>by omega)),λi hb=>(k.2 i hb).elim (h.2 i) (λe=>.inr (uJ h.1.size e))⟩
theorem zJ.res(h:zJ kb mb fv iv lv fv' iv' lv' w w'){R:Nat}(m:Mods (λk=>k=R) w' w2)(hR:w.heap.size<=R):zJ kb mb fv iv lv fv' iv' lv' w w2 :=
 ⟨h.1.trans' m (λi hi e=>by omega),h.2⟩
theorem zJ.sl{α:Type}{sz:Nat}{enc:α->List Value}{v:Value}{x:List α}(h:zJ kb mb fv iv lv fv' iv' lv' w w')(k:Sl (qH kb mb fv iv lv) w sz enc v x):Sl (qH kb mb fv' iv' lv') w' sz enc v x :=
 k.step h.1 (λi hi hn hb=>(h.2 i hb).elim hn (λe=>by omega))
theorem zJ.blk{cs:Array Value}{t:TypeId}{R:Nat}(h:zJ kb mb fv iv lv fv' iv' lv' w w')(k:Blk w R cs t)(hn:¬ qH kb mb fv iv lv R):Blk w' R cs t/\¬ qH kb mb fv' iv' lv' R :=
 ⟨k.mods h.1 hn,λhb=>(h.2 R hb).elim hn (λe=>by have:=k.lt;omega)⟩
theorem zQ.lt(h:zQ w0 w kb mb d s g A fv iv lv):∀k,qH kb mb fv iv lv k->w0.heap.size<=k/\k<w.heap.size:=by
 rintro k (e|e|e|e|e)
 .subst e;exact⟨h.new.1,h.blk.lt⟩
 .subst e;exact⟨h.new.2,h.seen.lt⟩
 .exact h.rf.lt k e
 .exact h.ri.lt k e
 .exact h.rl.lt k e
theorem zQ.env(h:zQ w0 w kb mb d s g A fv iv lv)(hL:Env NoB ad w0):Env (qH kb mb fv iv lv) ad w :=
 hL.step h.ext.ext (λk hk _ hb=>by have:=(h.lt k hb).1;omega) (λk hb=>(h.lt k hb).2)
theorem zQ.envX(h:zQ w0 w kb mb d s g A fv iv lv)(hL:Env NoB ad w0){X:Nat}(h1:w0.heap.size<=X)(h2:X<w.heap.size):Env (plusR (qH kb mb fv iv lv) X) ad w :=
 hL.step h.ext.ext (λk hk _ hb=>hb.elim (λhb=>by have:=(h.lt k hb).1;omega) (λe=>by omega)) (λk hb=>hb.elim (λhb=>(h.lt k hb).2) (λe=>by omega))
theorem zQ.at(h:zQ w0 w kb mb d s g A fv iv lv)(m:Ext w w'):zQ w0 w' kb mb d s g A fv iv lv :=
 ⟨h.ext.trans m,h.new,h.blk.ext m,h.seen.mods m (λf=>f),h.rf.ext m,h.ri.ext m,h.rl.ext m,h.few⟩
theorem zQ.off(h:zQ w0 w kb mb d s g A fv iv lv):kb≠mb:=Blk.notM h.blk h.seen
theorem vI(h:zQ w0 w kb mb d s g A fv iv lv)(id:Int)(hf:(A.good id).few) :
  Calls Tryz.prog 178 #[.pointer (some ⟨kb,0,none⟩),.int .i64 id] w λe w'=>e=.returned (.tuple #[])/\zBM w0 kb mb d s g fv iv lv w (A.good id) w':=by
 have HK:=oh h;obtain⟨ia,ic,rfl, -, -⟩:=_root_.id h.ri.form;have hB:=h.blk;unfold lkC at hB;have HB:=oh hB;have k10:=hB.cell (o:=10) (v:=.slice ia A.ids.length ic) rfl;have HF:=oh hf;have Bd:Hid (A.ids.length<1000):=oh (by have:=hf.2.2.1;simp only[zA.good,uC,uB,uD] at this;omega);have Dj:=Bd.out;have e1:A.ids.length + [id].length=A.ids.length+1:=by simp
 clear h hB
 go_enter Tryz.func178, Tryz.ntmps178
 go_wp2_with (first
  | (at_builtin;refine wpl_app2 Tryz.elI encI_ok rfl _ _ rfl w0.heap.size (.slice ia A.ids.length ic) (.slice (some ⟨w.heap.size,0,none⟩) 1 1) A.ids [id] rfl rfl (HK.out.ri.ext ((Mods.refl _ _).alloc _)) (Sl.one (F:=λ_=>False) (x:=id) (t := 3) (fz:=(0,0)) (heap_at rfl) (λf=>f)) (by have:=Bd.out;simp;omega) (uJ HK.out.ext.size (by simp)) (λf=>f) ?_;intro a' c' w4 A0 A2 A7;rw[e1] at A0 A7 ⊢;have Aa:=(HB.out.alloc (.cells #[.int .i64 id] 3)).mods A2 (λe=>Own.notB HK.out.ri HB.out (by decide) _ e rfl);have Bt:=oh Aa;have z10:=Aa.cell (o:=10) (v:=.slice ia A.ids.length ic) rfl;have z9:=Aa.cell (o:=9) (v:=.int .i64 (A.ids.length:Int)) rfl;have zf:=Aa.frozen;clear Aa)
  | fail)
 have C5:=oh A0;have D1:=oh A7;have D2:Hid (Mods (λk=>(Value.slice ia A.ids.length ic).ownBlock=some k) (w.alloc (.cells #[.int .i64 id] 3)) w4):=oh A2;clear A0 A2 A7 z10 z9 zf k10;go_end0
 refine⟨rfl,fv,.slice a' (A.ids.length+1) c',lv,?_⟩;have m5:Mods (λk=>k=kb) w4 ((w4.setCell ⟨kb,10,none⟩ (.slice a' (A.ids.length+1) c')).setCell ⟨kb,9,none⟩ (.int .i64 ((A.ids.length:Int)+1))):=Mods.setCell (F:=λk=>k=kb) (Mods.setCell (F:=λk=>k=kb) (Mods.refl _ w4) (p:=⟨kb,10,none⟩) (.inr rfl) _) (p:=⟨kb,9,none⟩) (.inr rfl) _;have m4:Mods (λk=>(Value.slice ia A.ids.length ic).ownBlock=some k\/k=kb) w ((w4.setCell ⟨kb,10,none⟩ (.slice a' (A.ids.length+1) c')).setCell ⟨kb,9,none⟩ (.int .i64 ((A.ids.length:Int)+1))) :=
  (((Mods.refl _ w).alloc _).trans (D2.out.mono (λk e=>.inl e))).trans (m5.mono (λk e=>.inr e))
 refine⟨⟨HK.out.ext.trans' m4 (λi hi hq=>?_),HK.out.new,?_,HK.out.seen.mods m4 (λhq=>?_),HK.out.rf.mods m4 (λg hg hq=>?_),C5.out.mods m5 (λg hg e=>Own.notB C5.out Bt.out (by decide) g hg e),HK.out.rl.mods m4 (λg hg hq=>?_),HF.out⟩,m4.mono (λk hk=>hk.elim (λe=>.inr (.inr (.inr (.inl e)))) .inl),?_⟩
 .rcases hq with e|e
  .have:=(HK.out.ri.lt i e).1;omega
  .have:=HK.out.new.1;omega
 .have h:=(Bt.out.set 10 (.slice a' (A.ids.length+1) c')).set 9 (.int .i64 ((A.ids.length:Int)+1));simpa[lkC,zA.good] using h
 .rcases hq with e|e
  .exact Own.notM HK.out.ri HK.out.seen _ e rfl
  .exact HK.out.off e.symm
 .rcases hq with e|e
  .exact Own.notO HK.out.rf HK.out.ri (by decide) g hg e
  .exact Own.notB HK.out.rf HB.out (by decide) g hg e
 .rcases hq with e|e
  .exact Own.notO HK.out.rl HK.out.ri (by decide) g hg e
  .exact Own.notB HK.out.rl HB.out (by decide) g hg e
 .rintro k (e|e|e|e|e)
  .exact .inl (.inl e)
  .exact .inl (.inr (.inl e))
  .exact .inl (.inr (.inr (.inl e)))
  .rcases D1.out with h|h
   .exact .inl (.inr (.inr (.inr (.inl (h ▸ e)))))
   .rw[h] at e;injection e with e;simp at e;right;omega
  .exact .inl (.inr (.inr (.inr (.inr e))))
theorem zS(h:zQ w0 w kb mb d s g A fv iv lv)(id what:Int)(hf:(A.find id what).few) :
  Calls Tryz.prog 174 #[.pointer (some ⟨kb,0,none⟩),.int .i64 id,.int .i64 what] w λe w'=>e=.returned (.tuple #[])/\∃fv',zQ w0 w' kb mb d s g (A.find id what) fv' iv lv/\zJ kb mb fv iv lv fv' iv lv w w':=by
 have HK:=oh h;obtain⟨ia,ic,rfl, -, -⟩:=_root_.id h.rf.form;have hB:=h.blk;unfold lkC at hB;have HB:=oh hB;have k8:=hB.cell (o:=8) (v:=.slice ia A.finds.length ic) rfl;have HF:=oh hf;have Bd:Hid (A.finds.length<1000):=oh (by have:=hf.2.1;simp only[zA.find,uC,uB,uD] at this;omega);have e1:A.finds.length + [(id,what)].length=A.finds.length+1:=by simp
 have At:Hid (∀(a':Option Addr) (c':Nat) (w4:World),Own (λ_=>False) w4 w0.heap.size 137 2 zBL (.slice a' (A.finds.length+1) c') (A.finds++[(id,what)])->Mods (λk=>(Value.slice ia A.finds.length ic).ownBlock=some k) (w.alloc (.cells #[.int .i64 id,.int .i64 what] 137)) w4->((Value.slice a' (A.finds.length+1) c').ownBlock=(Value.slice ia A.finds.length ic).ownBlock\/(Value.slice a' (A.finds.length+1) c').ownBlock=some (w.alloc (.cells #[.int .i64 id,.int .i64 what] 137)).heap.size)->∀b:Bool,b=(A.blind || decide (what=3)) ->
   zQ w0 ((w4.setCell ⟨kb,8,none⟩ (.slice a' (A.finds.length+1) c')).setCell ⟨kb,13,none⟩ (.bool b)) kb mb d s g (A.find id what) (.slice a' (A.finds.length+1) c') iv lv/\zJ kb mb (.slice ia A.finds.length ic) iv lv (.slice a' (A.finds.length+1) c') iv lv w ((w4.setCell ⟨kb,8,none⟩ (.slice a' (A.finds.length+1) c')).setCell ⟨kb,13,none⟩ (.bool b))):=oh (by
  intro a' c' w4 C6 C7 D3 b hb;have Aa:=(HB.out.alloc (.cells #[.int .i64 id,.int .i64 what] 137)).mods C7 (λe=>Own.notB HK.out.rf HB.out (by decide) _ e rfl);have m5:Mods (λk=>k=kb) w4 ((w4.setCell ⟨kb,8,none⟩ (.slice a' (A.finds.length+1) c')).setCell ⟨kb,13,none⟩ (.bool b)):=Mods.setCell (F:=λk=>k=kb) (Mods.setCell (F:=λk=>k=kb) (Mods.refl _ w4) (p:=⟨kb,8,none⟩) (.inr rfl) _) (p:=⟨kb,13,none⟩) (.inr rfl) _;have m4:Mods (λk=>(Value.slice ia A.finds.length ic).ownBlock=some k\/k=kb) w ((w4.setCell ⟨kb,8,none⟩ (.slice a' (A.finds.length+1) c')).setCell ⟨kb,13,none⟩ (.bool b)) :=
   (((Mods.refl _ w).alloc _).trans (C7.mono (λk e=>.inl e))).trans (m5.mono (λk e=>.inr e))
  refine⟨⟨HK.out.ext.trans' m4 (λi hi hq=>?_),HK.out.new,?_,HK.out.seen.mods m4 (λhq=>?_),C6.mods m5 (λg hg e=>Own.notB C6 Aa (by decide) g hg e),HK.out.ri.mods m4 (λg hg hq=>?_),HK.out.rl.mods m4 (λg hg hq=>?_),HF.out⟩,m4.mono (λk hk=>hk.elim (λe=>.inr (.inr (.inl e))) .inl),?_⟩
  .rcases hq with e|e
   .have:=(HK.out.rf.lt i e).1;omega
   .have:=HK.out.new.1;omega
  .have h:=(Aa.set 8 (.slice a' (A.finds.length+1) c')).set 13 (.bool b);rw[hb] at h ⊢;simpa[lkC,zA.find] using h
  .rcases hq with e|e
   .exact Own.notM HK.out.rf HK.out.seen _ e rfl
   .exact HK.out.off e.symm
  .rcases hq with e|e
   .exact Own.notO HK.out.ri HK.out.rf (by decide) g hg e
   .exact Own.notB HK.out.ri HB.out (by decide) g hg e
  .rcases hq with e|e
   .exact Own.notO HK.out.rl HK.out.rf (by decide) g hg e
   .exact Own.notB HK.out.rl HB.out (by decide) g hg e
  .rintro k (e|e|e|e|e)
   .exact .inl (.inl e)
   .exact .inl (.inr (.inl e))
   .rcases D3 with h|h
    .exact .inl (.inr (.inr (.inl (h ▸ e))))
    .rw[h] at e;injection e with e;simp at e;right;omega
   .exact .inl (.inr (.inr (.inr (.inl e))))
   .exact .inl (.inr (.inr (.inr (.inr e)))))
 obtain⟨bl,C8⟩:∃bl,bl=A.blind:=⟨_,rfl⟩;have C9:=oh C8;clear h hB C8;cases bl
 all_goals
  go_enter Tryz.func174, Tryz.ntmps174
  go_wp2_with (first
   | (at_builtin;refine wpl_app2 Tryz.elF zBc rfl _ _ rfl w0.heap.size (.slice ia A.finds.length ic) (.slice (some ⟨w.heap.size,0,none⟩) 1 1) A.finds [(id,what)] rfl rfl (HK.out.rf.ext ((Mods.refl _ _).alloc _)) (Sl.one (F:=λ_=>False) (x:=(id,what)) (t := 137) (fz:=(0,0)) (heap_at rfl) (λf=>f)) (by have:=Bd.out;simp;omega) (uJ HK.out.ext.size (by simp)) (λf=>f) ?_;intro a' c' w4 A0 A2 A7;rw[e1] at A0 A7 ⊢;have Aa:=(HB.out.alloc (.cells #[.int .i64 id,.int .i64 what] 137)).mods A2 (λe=>Own.notB HK.out.rf HB.out (by decide) _ e rfl);have Bt:=oh Aa;have z8:=Aa.cell (o:=8) (v:=.slice ia A.finds.length ic) rfl;have z13:=Aa.cell (o:=13) (v:=.bool A.blind) rfl;rw[<- C9.out] at z13;have zf:=Aa.frozen;clear Aa;have D4:=oh (At.out a' c' w4 A0 A2 A7);clear A0 A2 A7)
   | fail)
  go_end0
  exact⟨rfl,_,D4.out _ (by rw[<- C9.out];by_cases h:what=3 <;> simp[h])⟩
end
end
end Go.Proofs.YteabpacpngaoaaaGreatDoor
