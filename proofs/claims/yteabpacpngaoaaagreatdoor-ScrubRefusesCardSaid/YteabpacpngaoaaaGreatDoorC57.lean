import Derived.Test.YteabpacpngaoaaaGreatDoorC56
namespace Go.Proofs.YteabpacpngaoaaaGreatDoor
open Lib renaming hid->oh
set_option maxHeartbeats 4000000
set_option maxRecDepth 100000
section
open Go.RowKit
structure yQ where
 seen:List Int
 finds:List (Int × Int)
 ids:List Int
 keys:Nat
 lost:List ByteArray
 blind:Bool
def yQ.find(A:yQ)(id what:Int):yQ:={ A with finds:=A.finds++[(id,what)],blind:=A.blind || decide (what=3) }
def yQ.good(A:yQ)(id:Int):yQ:={ A with ids:=A.ids++[id] }
def yQ.see(A:yQ)(id:Int):yQ:={ A with seen:=A.seen++[id] }
def yQ.key(A:yQ):yQ:={ A with keys:=A.keys+1 }
def yQ.lose(A:yQ)(k:ByteArray):yQ:={ A with lost:=A.lost++[k] }
def yQ.few(A:yQ):Prop:=A.seen.length<=1000/\A.finds.length<=1000/\A.ids.length<=1000/\A.lost.length<=100000/\A.keys<=1000000
def yQ.le(A B:yQ):Prop:=A.seen.length<=B.seen.length/\A.finds.length<=B.finds.length/\A.ids.length<=B.ids.length/\A.lost.length<=B.lost.length/\A.keys<=B.keys
theorem yQ.le_refl(A:yQ):A.le A:=⟨Nat.le_refl _,Nat.le_refl _,Nat.le_refl _,Nat.le_refl _,Nat.le_refl _⟩
theorem yQ.le.trans{A B C:yQ}(h:A.le B)(k:B.le C):A.le C :=
 ⟨Nat.le_trans h.1 k.1,Nat.le_trans h.2.1 k.2.1,Nat.le_trans h.2.2.1 k.2.2.1,Nat.le_trans h.2.2.2.1 k.2.2.2.1,Nat.le_trans h.2.2.2.2 k.2.2.2.2⟩
theorem yQ.le.few{A B:yQ}(h:A.le B)(k:B.few):A.few :=
 ⟨Nat.le_trans h.1 k.1,Nat.le_trans h.2.1 k.2.1,Nat.le_trans h.2.2.1 k.2.2.1,Nat.le_trans h.2.2.2.1 k.2.2.2.1,Nat.le_trans h.2.2.2.2 k.2.2.2.2⟩
theorem yQ.le_find(A:yQ)(id what:Int):A.le (A.find id what):=⟨Nat.le_refl _,by simp[yQ.find],Nat.le_refl _,Nat.le_refl _,Nat.le_refl _⟩
theorem yQ.le_good(A:yQ)(id:Int):A.le (A.good id):=⟨Nat.le_refl _,Nat.le_refl _,by simp[yQ.good],Nat.le_refl _,Nat.le_refl _⟩
theorem yQ.le_see(A:yQ)(id:Int):A.le (A.see id):=⟨by simp[yQ.see],Nat.le_refl _,Nat.le_refl _,Nat.le_refl _,Nat.le_refl _⟩
theorem yQ.le_key(A:yQ):A.le A.key:=⟨Nat.le_refl _,Nat.le_refl _,Nat.le_refl _,Nat.le_refl _,by simp[yQ.key]⟩
theorem yQ.le_lose(A:yQ)(k:ByteArray):A.le (A.lose k):=⟨Nat.le_refl _,Nat.le_refl _,Nat.le_refl _,by simp[yQ.lose],Nat.le_refl _⟩
def dkQ(D:zI)(id:Int):Option zX:=if 0<=id/\id<D.blocks then match zQ (D.lasting.getD id.toNat []) id with
 | .inl p=>some p
 | .inr _=>none
 else none
section
variable {Q:Int->Option zX}{gen z:Nat}{A:yQ}{id what:Int}{p:zX}
def vT(Q:Int->Option zX)(gen:Nat)(A:yQ)(id what:Int):yQ × Option zX :=
 if id∈A.seen then (A,none) else match Q id with
  | none=>((A.see id).find id what,none)
  | some p=>if gen<p.gen then ((A.see id).find id what,none) else (A.see id,some p)
theorem zGv(h:id∈A.seen):vT Q gen A id what=(A,none):=by unfold vT;rw[if_pos h]
theorem zEA(h:id ∉ A.seen)(hq:Q id=none):vT Q gen A id what=((A.see id).find id what,none):=by unfold vT;rw[if_neg h,hq]
theorem zEB(h:id ∉ A.seen)(hq:Q id=some p)(hg:gen<p.gen):vT Q gen A id what=((A.see id).find id what,none):=by unfold vT;rw[if_neg h,hq];simp only;rw[if_pos hg]
theorem zCZ(h:id ∉ A.seen)(hq:Q id=some p)(hg:¬ gen<p.gen):vT Q gen A id what=(A.see id,some p):=by unfold vT;rw[if_neg h,hq];simp only;rw[if_neg hg]
theorem zEx(Q:Int->Option zX)(gen:Nat)(A:yQ)(id what:Int):A.le (vT Q gen A id what).1:=by
 by_cases h:id∈A.seen
 .rw[zGv h];exact A.le_refl
 .cases hq:Q id with
  | none=>rw[zEA h hq];exact (A.le_see id).trans (yQ.le_find _ _ _)
  | some p =>
   by_cases hg:gen<p.gen
   .rw[zEB h hq hg];exact (A.le_see id).trans (yQ.le_find _ _ _)
   .rw[zCZ h hq hg];exact A.le_see id
theorem zQM{D:zI}{id:Nat}(h:id<D.blocks):dkQ D (id:Int)=match zQ (D.lasting.getD id []) (id:Int) with
  | .inl p=>some p
  | .inr _=>none:=by unfold dkQ;rw[if_pos ⟨by omega,by omega⟩,Int.toNat_natCast]
theorem zQ8{D:zI}{id:Int}(h:id<0\/(D.blocks:Int)<=id):dkQ D id=none:=by unfold dkQ;rw[if_neg (by omega)]
def qI(Q:Int->Option zX)(gen z:Nat):Nat->Int->Int->yQ->yQ × Bool
 | 0,_,_,A=>(A,true)
 | f+1,id,n,A=>if n<=0 then (A,true) else
  match vT Q gen A id 4 with
  | (A1,none)=>(A1,false)
  | (A1,some x)=>if yP z x n=true then (A1.find id 4,false) else qI Q gen z f ((vI x.body 0 4).1:Nat) (n-min n ((z:Int)-28)) (A1.good id)
theorem zDC(Q:Int->Option zX)(gen z:Nat):∀(f:Nat) (id n:Int) (A:yQ),A.le (qI Q gen z f id n A).1
 | 0,_,_,A=>A.le_refl
 | f+1,id,n,A=>by
  rw[qI];split
  .exact A.le_refl
  .have h:=zEx Q gen A id 4;split
   .rename_i A1 he;rw[he] at h;exact h
   .rename_i A1 x he;rw[he] at h;split
    .exact h.trans (yQ.le_find _ _ _)
    .exact (h.trans (yQ.le_good _ _)).trans (zDC Q gen z f _ _ _)
def zBs(Q:Int->Option zX)(gen z:Nat)(A:yQ)(e:zV):yQ:=if e.chain=0 then A.key else
 if (qI Q gen z e.size.toNat e.chain e.size A.key).2=true then (qI Q gen z e.size.toNat e.chain e.size A.key).1 else (qI Q gen z e.size.toNat e.chain e.size A.key).1.lose e.key
theorem zF0(Q:Int->Option zX)(gen z:Nat)(A:yQ)(e:zV):A.le (zBs Q gen z A e):=by
 unfold zBs;split
 .exact A.le_key
 .have h:=A.le_key.trans (zDC Q gen z e.size.toNat e.chain e.size A.key);split
  .exact h
  .exact h.trans (yQ.le_lose _ _)
theorem zCI{α:Type}{f:yQ->α->yQ}(h:∀(A:yQ) (x:α),A.le (f A x)):∀(l:List α) (A:yQ),A.le (l.foldl f A)
 | [],A=>A.le_refl
 | x :: l,A=>(h A x).trans (zCI h l (f A x))
def vU(Q:Int->Option zX)(gen z:Nat):Nat->Int->yQ->yQ
 | 0,id,A=>match vT Q gen A id 3 with
  | (A1,none)=>A1
  | (A1,some _)=>A1.find id 3
 | f+1,id,A=>match vT Q gen A id 3 with
  | (A1,none)=>A1
  | (A1,some p)=>match qH p with
   | .inr _=>A1.find id 3
   | .inl n=>n.kids.foldl (λB k=>vU Q gen z f k B) (n.entries.foldl (zBs Q gen z) (A1.good id))
theorem zDg(Q:Int->Option zX)(gen z:Nat):∀(f:Nat) (id:Int) (A:yQ),A.le (vU Q gen z f id A)
 | 0,id,A=>by
  rw[vU];have h:=zEx Q gen A id 3;split
  .rename_i A1 he;rw[he] at h;exact h
  .rename_i A1 x he;rw[he] at h;exact h.trans (yQ.le_find _ _ _)
 | f+1,id,A=>by
  rw[vU];have h:=zEx Q gen A id 3;split
  .rename_i A1 he;rw[he] at h;exact h
  .rename_i A1 x he;rw[he] at h;split
   .exact h.trans (yQ.le_find _ _ _)
   .exact ((h.trans (yQ.le_good _ _)).trans (zCI (zF0 Q gen z) _ _)).trans (zCI (λB k=>zDg Q gen z f k B) _ _)
end
def yQ.add(A:yQ)(x:List Int)(k:Nat):yQ:={ A with seen:=A.seen++x,ids:=A.ids++x,keys:=A.keys+k }
theorem yQ.add_nil(A:yQ):A.add [] 0=A:=by unfold yQ.add;simp
theorem yQ.add_add(A:yQ)(x y:List Int)(k j:Nat):(A.add x k).add y j=A.add (x++y) (k+j):=by unfold yQ.add;simp[Nat.add_assoc]
theorem yQ.add_one(A:yQ)(i:Int):(A.see i).good i=A.add [i] 0:=rfl
theorem yQ.key_add(A:yQ)(x:List Int)(k:Nat):A.key.add x k=A.add x (1+k):=by unfold yQ.add yQ.key;simp[Nat.add_assoc]
theorem yQ.key_eq(A:yQ):A.key=A.add [] 1:=by unfold yQ.add yQ.key;simp
section
variable {Q:Int->Option zX}{gen gen' z:Nat}{G:GA}{T:zEg}{lo:ByteArray}{hi:Option ByteArray}{l:List zT}{q ids:List Nat}{c s:Int}{v:ByteArray}
theorem zGw{A:yQ}{i:Nat}{r:List Nat}(hn:(A.seen++iL (i :: r)).Nodup):(i:Int) ∉ A.seen/\((A.add [(i:Int)] 0).seen++iL r).Nodup:=by
 refine⟨λhm=>?_,?_⟩
 .rw[List.nodup_append] at hn;exact hn.2.2 _ hm (i:Int) (by simp[iL]) rfl
 .show (A.seen++[(i:Int)]++iL r).Nodup;simpa[iL] using hn
theorem zNj{v:List UInt8}{m nn g blocks:Nat}(hm:ids.length=m)(hf:Fit v.length nn m)(hs:z=nn+28)(hlt:∀i∈ids,2<=i/\i<blocks)(hb2:blocks<=256)(hg:g<=gen)
  (h:∀i,i<m->Q ((ids.getD i 0:Nat):Int)=some (zAy g v nn ids i)) :
  ∀(k i f:Nat) (A:yQ),i+k=m->v.length-i * nn<=f->(A.seen++iL (ids.drop i)).Nodup ->
   qI Q gen z f ((ids.getD i 0:Nat):Int) ((v.length-i * nn:Nat):Int) A=(A.add (iL (ids.drop i)) 0,true)
 | 0,i,f,A,hc,_,_=>by
  have hz:v.length-i * nn=0:=by have:=hf.hi;rw[<- hc,Nat.add_zero] at this;omega
  have hd:ids.drop i=[]:=List.drop_eq_nil_of_le (by omega);rw[hz,hd];show qI Q gen z f _ _ A=(A.add [] 0,true);rw[yQ.add_nil];cases f with
  | zero=>rfl
  | succ f=>rw[qI,if_pos (by simp)]
 | k+1,i,f,A,hc,hfu,hn=>by
  have hi:i<m:=by omega
  have hl:=hf.left hi;obtain⟨f,rfl⟩:∃f',f=f'+1:=⟨f-1,by omega⟩;have hnn:=hf.n228;have hil:i<ids.length:=by omega
  have hid:=hlt _ (zBn hil);have hdr:ids.drop i=ids.getD i 0 :: ids.drop (i+1):=by
   rw[List.drop_eq_getElem_cons hil];simp[List.getD,hil]
  rw[hdr] at hn;obtain⟨n1,n2⟩:=zGw hn;have hbad:=zP3 (size:=z) hm hf hs hlt hb2 hi g;have hnx:ids.getD (i+1) 0<4294967296:=by
   rcases Nat.lt_or_ge (i+1) ids.length with h|h
   .have:=hlt _ (zBn h);omega
   .rw[zH1 h];omega
  have ht:vI (zAy g v nn ids i).body 0 4=(ids.getD (i+1) 0,none):=zFL _ _ hnx;have hsub:((v.length-i * nn:Nat):Int)-min ((v.length-i * nn:Nat):Int) ((z:Int)-28)=((v.length-(i+1) * nn:Nat):Int):=by
   rw[Nat.succ_mul];omega
  rw[qI,if_neg (by omega),zCZ n1 (h i hi) (by show ¬ gen<g;omega)];simp only[hbad,ht,hsub];rw[if_neg (by simp),yQ.add_one,zNj hm hf hs hlt hb2 hg h k (i+1) f _ (by omega) (by rw[Nat.succ_mul];omega) n2,yQ.add_add,hdr];rfl
def zFT(Q:Int->Option zX)(G:GA):Prop:=∀(i:Nat) (p:zX),i<G.blocks->G.view i=some (.inl p)->Q (i:Int)=some p
theorem zSE(hQ:zFT Q G)(h:ChG G gen' c s v ids)(hg:gen'<=gen)(hs:256<=G.size)(hb:G.blocks<=256){A:yQ}(hn:(A.seen++iL ids).Nodup) :
  qI Q gen G.size s.toNat c s A=(A.add (iL ids) 0,true):=by
 obtain⟨g,hgg,hp⟩:=h.page;have hl:v.data.toList.length=v.size:=zAD v;have hlo:=h.lo;have hf:Fit v.data.toList.length (G.size-28) (ndS G.size v.size):=by rw[hl];exact zNU _ _ (by omega) hs
 have e:=zNj (Q:=Q) (gen:=gen) (z:=G.size) (g:=g) h.len hf (by omega) h.lt hb (by omega) (λi hi=>hQ _ _ (h.lt _ (zBn (by rw[h.len];exact hi))).2 (hp i (by rw[h.len];exact hi))) (ndS G.size v.size) 0 v.size A (by omega) (by rw[hl];omega) (by simpa using hn);rw[hl] at e;simp only[Nat.zero_mul,Nat.sub_zero,List.drop_zero] at e;rw[h.size,h.first,Int.toNat_natCast];exact e
theorem zRk(hQ:zFT Q G){e:zV}(h:zH6 G gen' e v ids)(hg:gen'<=gen)(hs:256<=G.size)(hb:G.blocks<=256){A:yQ}(hn:(A.seen++iL ids).Nodup):zBs Q gen G.size A e=A.add (iL ids) 1:=by
 unfold zBs;rcases h with ⟨h1,_,rfl⟩|⟨h1,h2⟩
 .rw[if_pos h1,yQ.key_eq];rfl
 .rw[if_neg h1,zSE hQ h2 hg hs hb (A:=A.key) hn];rw[if_pos rfl,yQ.key_add]
theorem zQ9(hQ:zFT Q G)(hg:gen'<=gen)(hs:256<=G.size)(hb:G.blocks<=256){es:List zV}(h:jH G gen' es l q):∀(A:yQ),(A.seen++iL q).Nodup->es.foldl (zBs Q gen G.size) A=A.add (iL q) l.length:=by
 induction h with
 | nil=>intro A _;exact A.add_nil.symm
 | @cons e x ids es l q h1 h2 _ ih =>
  intro A hn;rw[zKM] at hn;rw[List.foldl_cons,zRk hQ h2 hg hs hb (hn.sublist (by rw[<- List.append_assoc];exact List.sublist_append_left _ _)),ih _ (by show (A.seen++iL ids++iL q).Nodup;rw[List.append_assoc];exact hn),yQ.add_add,zKM,List.length_cons,Nat.add_comm]
theorem zRA{keys:List ByteArray}{kids:List Int}{rec_:Int->yQ->yQ}(hT:∀lo hi c l q,T lo hi c l q->∀(A:yQ),(A.seen++iL q).Nodup->rec_ (c:Int) A=A.add (iL q) l.length)(h:jD T lo hi keys kids l q):∀(A:yQ),(A.seen++iL q).Nodup->kids.foldl (λB k=>rec_ k B) A=A.add (iL q) l.length:=by
 induction h with
 | one h=>intro A hn;exact hT _ _ _ _ _ h A hn
 | @cons lo hi s c keys kids l1 l2 q1 q2 h1 h2 _ ih =>
  intro A hn;rw[zKM] at hn;rw[List.foldl_cons,hT _ _ _ _ _ h1 A (hn.sublist (by rw[<- List.append_assoc];exact List.sublist_append_left _ _)),ih _ (by show (A.seen++iL q1++iL q2).Nodup;rw[List.append_assoc];exact hn),yQ.add_add,zKM,List.length_append]
theorem zRN(hQ:zFT Q G)(hg:gen'<=gen)(hs:256<=G.size)(hb:G.blocks<=256):∀(d:Nat) (lo:ByteArray) (hi:Option ByteArray) (id:Nat) (l:List zT) (q:List Nat),TrD G gen' d lo hi id l q->∀(f:Nat) (A:yQ),d<=f->(A.seen++iL q).Nodup ->
  vU Q gen G.size f (id:Int) A=A.add (iL q) l.length
 | 0,_,_,_,_,_,h,_,_,_,_=>h.elim
 | d+1,lo,hi,id,l,pgs,h,0,_,hf,_=>by omega
 | d+1,lo,hi,id,l,pgs,h,f+1,A,hf,hn=>by
  obtain⟨n,q,hp,hr,rfl,h⟩:=h;obtain⟨p,hv,hpg,hdec⟩:=hp.page;obtain⟨n1,n2⟩:=zGw hn;rw[vU,zCZ n1 (hQ id p hp.lt hv) (by omega)];simp only[hdec,yQ.add_one];rcases h with ⟨hl,rfl,hne,he,hbnd⟩|⟨hl,hk⟩
  .have hkd:n.kids=[]:=by
    unfold zO at hr;rw[if_pos hl] at hr;simp only[Bool.and_eq_true,List.isEmpty_iff] at hr;exact hr.1.1.2
   rw[hkd,List.foldl_nil,zQ9 hQ hg hs hb he _ n2,yQ.add_add,Nat.zero_add];rfl
  .have hed:n.entries=[]:=by
    unfold zO at hr;rw[if_neg (by rw[hl];simp)] at hr;simp only[Bool.and_eq_true,List.isEmpty_iff] at hr;exact hr.1.1.1.1.1.1.1
   rw[hed,List.foldl_nil,zRA (λlo hi c l q hT A hn=>zRN hQ hg hs hb d lo hi c l q hT f A (by omega) hn) hk _ n2,yQ.add_add,Nat.zero_add];rfl
end
structure zGM(D:zI)(s:yM)(m:vF)(dd:Nat)(ps:List zT)(pgs:List Nat):Prop where
 well:zGd D s m
 td:TD (zCc D) s.gen s.root dd ps pgs
 hi:∀i∈pgs,6<=i
 keys:s.keys=ps.length
theorem zOz[zW]{C:qJ}{G:GA}(hI:yI C)(hR:qW C G){id:Nat}{p:zX}{b:List UInt8}(hv:G.view id=some (.inl p))(hl:G.look id=some b):zQ (C.disk.look id) id=.inl p:=by
 have h1:=hR.view id _ hv;have h2:=(hR.look id b (.inl hl)).2;unfold qJ.vw at h1;split at h1
 .rename_i s hf;have hs:=List.find?_some hf;obtain⟨j,hj,e⟩:=List.getElem_of_mem (List.mem_of_find?_eq_some hf);have hj2:C.slots[j]? = some s:=by rw[<- e];exact List.getElem?_eq_getElem hj
  obtain⟨a1,a2⟩:=yO.1 hs;have hc:=hI.clean j s hj2 a1 (h2 j s hj2 hs);rw[a2,Int.toNat_natCast] at hc;rw[hc];exact h1
 .exact h1
section
variable {P F:Nat->Prop}{ad:Nat->Addr}{w:World}{d S c sp n z:Nat}{s:yM}{G:GA}{l:List Nat}
theorem zRB[i0:zW]{hh root dd:Nat}{ps:List zT}{pgs pgs0:List Nat}(hL:yG F ad w)(hP:∀k,P k->F k)(h:zFx F w P z n S d c sp s hh (zEf G) l root dd ps pgs pgs0)(hr:s.root=root)(hk:s.keys=ps.length)(hT:TD G s.gen root dd ps pgs)(hg:s.gen<1000000) :
  ∃D Pd m,jT w Pd d D/\(∀k,Pd k->F k)/\zGM D s m dd ps pgs/\D.blocks=n/\D.size=z:=by
 obtain⟨m,hlow,hm0,hm1,hm2⟩:=h.gho.low;have h6:=hlow.low;obtain⟨C,hS,hI,hR,hcc,hLP⟩:=h.st.open h.gho.disk;obtain⟨Pd,hD,hPd, -⟩:=hS.dk hL hP;have hb:C.disk.blocks=n:=hR.blocks.trans h.lawn.blk;have hz:C.disk.size=z:=hR.size.trans h.lawn.size;have hw:C.disk.waiting=[]:=by
  have h1:=hR.cost;unfold qJ.cost at h1;have h2:(zEf G).cost=0:=rfl;exact List.eq_nil_of_length_eq_zero (by omega)
 have hlk:∀j,j<6->C.disk.look j=zCM j:=λj hj=>(hR.look j (zCM j) (.inr ⟨by omega,rfl⟩)).1
 have hp0:=zAs s.gen 0 (by omega);have hp1:=zAs s.gen 1 (by omega);refine⟨C.disk,Pd,m,hD,hPd,⟨⟨⟨hI.off,hI.lit,hw,hI.lenL,hI.len,hI.b8,hI.b256,hI.s256,hI.s1024⟩,h.gho.blk.trans hb.symm,h.gho.siz.trans hz.symm,h.gho.ok,by omega,?_,?_,hm0,hm1,hm2,?_,?_⟩,?_,h.lawn.hi,hk⟩,hb,hz⟩
 .rw[hlk 0 (by omega)];exact hlow.sup0
 .rw[hlk 1 (by omega)];exact hlow.sup1
 .rw[hlk _ hp0.2,hlow.map0,h.gho.siz,hz]
 .rw[hlk _ hp1.2,hlow.map1,h.gho.siz,hz]
 .rw[hr];refine hT.mono (Nat.le_refl _) (by show C.disk.blocks=_;exact hR.blocks) (by show C.disk.size=_;exact hR.size) (λi hi=>?_);obtain⟨p,hp⟩:=hT.seen i hi;have hlt:=(hT.lt i hi).2;have hb2:i<C.disk.blocks:=by rw[hR.blocks];exact hlt
  have hv:(zEf G).view i=some (.inl p):=hp;have hl:(zEf G).look i=some (vH p G.size):=by
   show (match G.view i with|some (.inl p)=>some (vH p G.size)|_=>G.look i)=_;rw[hp]
  rw[hp];show (if i<C.disk.blocks then some (zQ (C.disk.look i) i) else none)=_;rw[if_pos hb2,zOz hI hR hv hl]
end
def zIJ(v:ByteArray):ByteArray:=v.extract 0 (min v.size 300)
theorem zM5(v:ByteArray):(zIJ v).size<=300:=by unfold zIJ;rw[ByteArray.size_extract];omega
def zAN(L:List zT):Nat->List zT × Nat
 | 0=>([],1)
 | k+1=>match L[k]? with
  | none=>zAN L k
  | some x=>if zAE x.1=true then (yS x.1 (zIJ x.2) true (zAN L k).1,if k % 5=4 then (zAN L k).2+1 else (zAN L k).2) else zAN L k
theorem zM6{L:List zT}{k:Nat}{x:zT}(h:L[k]? = some x)(hk:zAE x.1=false):zAN L (k+1)=zAN L k:=by
 rw[zAN,h];simp only;rw[if_neg (by rw[hk];simp)]
theorem zJd{L:List zT}{k:Nat}{x:zT}(h:L[k]? = some x)(hk:zAE x.1=true):zAN L (k+1)=(yS x.1 (zIJ x.2) true (zAN L k).1,if k % 5=4 then (zAN L k).2+1 else (zAN L k).2):=by
 rw[zAN,h];simp only;rw[if_pos hk]
theorem zRl{g:Nat}{G:GA}{l:List Nat}{root d:Nat}{ps:List zT}{pgs pgs0:List Nat}{v:ByteArray}(h:zB1 256 120 g G l root d ps pgs pgs0)(hF:2<=ps.length->∀i∈pgs,zCf (G.view i))(hk:ps.length<=19)(h0:pgs0.length<=44)(hv:v.size<=300):(ndV G.size v:Nat)+(d:Int)+1<zAn l:=by
 have hphi:=h.phi;have hn:=zNh v (by omega);have hz:G.size=256:=h.size;rw[hz];have hb:=h.ctx.b256;obtain⟨c1,c2,c3⟩:=h.td.count2 hF;rw[hz] at c1 c2;have hc:=zKO ps h.val;rcases Nat.lt_or_ge 1 ps.length with h2|h2
 .obtain⟨e1,e2⟩:=c2 h2;have hd:d<=4:=by
   rcases Nat.lt_or_ge 4 d with h5|h5
   .have:2 ^ 5<=2 ^ d:=Nat.pow_le_pow_right (by omega) h5;omega
   .exact h5
  omega
 .have:=c3 (by omega);omega
theorem zRm{g:Nat}{G:GA}{l:List Nat}{root d:Nat}{ps:List zT}{pgs pgs0:List Nat}(h:zB1 256 120 g G l root d ps pgs pgs0)(hF:2<=ps.length->∀i∈pgs,zCf (G.view i)){k:Nat}(hk:ps.length<=5 * (k+1)):pgs.length<=15 * (k+1)-1:=by
 have hz:G.size=256:=h.size;obtain⟨c1,c2,c3⟩:=h.td.count2 hF;rw[hz] at c1 c2;have hc:=zKO ps h.val;rcases Nat.lt_or_ge 1 ps.length with h2|h2
 .have:=(c2 h2).1;omega
 .omega
end
section
open Go.RowKit
attribute [local go_sem ↓] Go.wp_at_zero Go.wp_at_succ
theorem Tryz.geoSz:(Tryz.prog.info? 24).map (·.size)=some 2:=by kernel_rfl
theorem zJe(w:World) : Calls Tryz.prog 23 #[] w λe w'=>e=.returned (.agg #[.int .i64 120,.int .i64 256])/\zF w w':=by
 go_enter Tryz.func23, Tryz.ntmps23
 go_wp2_with fail;have hb:=zH.new w #[.int .i64 120,.int .i64 256] 24;refine bodyPost_ret (results_cell_row rfl _ _ w.heap.size 24 #[.int .i64 120,.int .i64 256] (0,0) _ rfl hb Tryz.underlying24 rfl Tryz.geoSz) rfl ?_;exact⟨rfl,(zA.refl _ w).alloc _⟩
def MdS(ad:Nat->Addr)(w0:World)(S d c sp k:Nat)(L:List zT)(wv:Value)(wr:World):Prop :=
 ∃(_:zW) (P F:Nat->Prop) (s:yM) (hh:Nat) (G:GA) (l:List Nat) (root dd:Nat) (ps:List zT) (pgs pgs0:List Nat),
  zFx F wr P 256 120 S d c sp s hh G l root dd ps pgs pgs0/\zY NoB (qE P S) NoB F ad w0 wr/\Sl F wr 2 zCJ wv ps/\ps=(zAN L k).1/\s.gen=(zAN L k).2/\ps.length<=k/\pgs0.length<=15 * (k / 5)-1/\(2<=ps.length->∀i∈pgs,zCf (G.view i))/\G.cost<=61 * k/\s.gen<=k+1
def zRO(ad:Nat->Addr)(w:World)(L:List zT)(e:Ending)(w':World):Prop :=
 ∃(d:Nat) (D:zI) (Pd F:Nat->Prop) (s:yM) (m:vF) (dd:Nat) (pgs:List Nat) (wa:Option Addr) (wc:Nat),
  e=.returned (.tuple #[.pointer (some ⟨d,0,none⟩),.slice wa (zAN L (min L.length 20)).1.length wc,.bool true])/\jT w' Pd d D/\zGM D s m dd (zAN L (min L.length 20)).1 pgs/\D.blocks=120/\D.size=256/\s.gen=(zAN L (min L.length 20)).2+1/\s.gen<=22/\(zAN L (min L.length 20)).1.length<=20 /\
  zY NoB Pd NoB F ad w w'/\Sl F w' 2 zCJ (.slice wa (zAN L (min L.length 20)).1.length wc) (zAN L (min L.length 20)).1
section
variable {ad:Nat->Addr}{w:World}
theorem zQN{P F Pd:Nat->Prop}{w w':World}(n:zY NoB P NoB F ad w w')(h1:∀k,Pd k->F k)(h2:∀k,Pd k->k<w'.heap.size):zY NoB Pd NoB F ad w w' :=
 ⟨⟨n.stp.mods,λk hk h=>n.oldF k hk (h1 k h),h2⟩,h1,n.grow,n.oldF,n.env⟩
theorem zFx.atS[zW]{P F:Nat->Prop}{wr w':World}{z n S d c sp:Nat}{s:yM}{hh root dd:Nat}{G:GA}{l:List Nat}{ps:List zT}{pgs pgs0:List Nat}(h:zFx F wr P z n S d c sp s hh G l root dd ps pgs pgs0)(m:zF wr w'):zFx F w' P z n S d c sp s hh G l root dd ps pgs pgs0:=⟨h.gho,h.home,h.st.at m,h.lawn⟩
theorem zM7{P F F0:Nat->Prop}{w w':World}{S:Nat}(n:zY NoB P F0 F ad w w')(hS:w.heap.size<=S)(h2:S<w'.heap.size)(hF:F S):zY NoB (qE P S) F0 F ad w w' :=
 ⟨⟨n.stp.mods,λk hk h=>h.elim (n.stp.old k hk) (λe=>by omega),λk h=>h.elim (n.stp.bd k) (λe=>by rw[e];exact h2)⟩,λk h=>h.elim (n.sub k) (λe=>by rw[e];exact hF),n.grow,n.oldF,n.env⟩
theorem zO0{b s:Nat}(h8:8<=b)(h256:b<=256)(h1:256<=s)(h2:s<=1024):zC7 (jK b s) :=
 ⟨rfl,rfl,rfl,by simp[jK],λid hid=>by
  have hid':id<b:=hid;unfold zI.look jK;simp[zBR,List.getD_eq_getElem?_getD,hid'],h8,h256,h1,h2⟩
theorem Sl.lenX{F:Nat->Prop}{α:Type}{sz:Nat}{enc:α->List Value}{a:Option Addr}{n c:Nat}{l:List α}(h:Sl F w sz enc (.slice a n c) l):l.length=n:=by
 obtain⟨_,_,he,_⟩:=h;injection he with _ he;exact he.symm
theorem zIK(hL:yG NoB ad w)(lv:Value)(L:List zT)(hl:Sl NoB w 2 zCJ lv L) :
  Calls Tryz.prog 20 #[lv] w (zRO ad w L):=by
 obtain⟨la,lc,rfl,hlen,hl2,hl3, -⟩:=id hl;unfold maxLen at hl2;have HL:=oh hL;have HSL:=oh hl;clear hL hl
 go_enter Tryz.func20, Tryz.ntmps20
 go_wp2_with fail;refine (zJe _).mono ?_;rintro e w0 ⟨rfl,hm0⟩;have HM0:=oh hm0;clear hm0;go_wp2_with fail;refine (zKs 120 256 (by omega) (by omega) (by omega) (by omega)).mono ?_;rintro e w1 ⟨d,Pd,rfl,hD,hn,hm⟩;have HN1:=oh (zY.of (P:=NoB) (P':=Pd) (HL.out.mods HM0.out.ext) (λ_ h=>h.elim) ⟨hm,λk hk h=>by have:=hn k h;omega,hD.bd⟩);have HD:Hid (jT w1 Pd d (jK 120 256)):=oh hD;clear hD hn hm;go_wp2_with fail;refine (zQ7 HN1.out.env (λ_ h=>.inr h) HD.out (zO0 (by omega) (by omega) (by omega) (by omega)) (by show 16<=120;omega) rfl 5 (by omega) (by omega)).mono ?_;rintro e w2 ⟨S,c,sp,P2,F2,rfl,h2,n2⟩;have hN2:=HN1.out.trans n2;obtain⟨iK,G,l,hK,hc0⟩:=h2;have hFS:F2 S:=hK.st.2.2.2;have hS0:w0.heap.size<=S:=Nat.le_of_not_lt λh=>(hN2.oldF S h hFS).elim
 have hN2':=zM7 hN2 hS0 hK.st.lt hFS;have HW0:Hid (MdS ad w0 S d c sp 0 L (.slice (some ⟨w2.heap.size,0,none⟩) 0 0) (w2.alloc (.cells #[] 38))):=oh (by
  have m3:zF w2 (w2.alloc (.cells #[] 38)):=(zA.refl _ w2).alloc _;refine⟨iK,P2,F2,zAq (jK 120 256),0,G,l,0,0,[],[],[],hK.atS m3,hN2'.trans (zY.ext hN2'.env hN2'.sub m3),?_,rfl,rfl,by simp,by simp,λh=>by simp at h,by omega,by show 1<=0+1;omega⟩;exact⟨_,0,rfl,by simp,by simp[maxLen],by simp,.inl rfl⟩)
 clear hN2 hK hc0 hFS hS0 n2 hN2';clear iK;go_wp2_with fail;obtain⟨T,hT⟩:∃T,T=min L.length 20:=⟨_,rfl⟩;have HT:=oh hT;clear hT;go_loopg [9,10] T (λm v9 v10 wr=>∃(k:Nat) (wa:Option Addr) (wn wc:Nat),k+m=T/\v9=.slice wa wn wc/\v10=.int .i64 (k:Int)/\Hid (MdS ad w0 S d c sp k L (.slice wa wn wc) wr))
 case atStart=>exact⟨0,_,_,_,by omega,rfl,rfl,HW0⟩
 case round =>
  obtain⟨k,wa,wn,wc,hk,rfl,rfl,HR⟩:=hrel;by_cases hlt:k<T
  .obtain⟨iK,P,F,s,hh,G,l,root,dd,ps,pgs,pgs0,hK,hN,hwv,hps,hsg,hpl,hp0,hft,hcost,hgn⟩:=HR.out;have hTL:k<L.length/\k<20:=by have:=HT.out;omega
   have hwn:wn=ps.length:=hwv.lenX.symm;have hsl:=hN.sl (λ_ h=>h) (HSL.out.ext HM0.out);obtain⟨qb,qoff,hqa,hqF,hcc⟩:=hsl.elemF (k:=k) hTL.1;have d0:=hcc 0 (.string L[k].1) rfl;have d1:=hcc 1 (.string L[k].2) rfl;simp only[Nat.add_zero] at d0;obtain⟨x,hx⟩:∃x,x=L[k]:=⟨_,rfl⟩;have HXE:Hid (L[k]? = some x):=oh (by rw[hx];exact List.getElem?_eq_getElem hTL.1);rw[<- hx] at d0 d1;obtain⟨key,v0⟩:=x;simp only at d0 d1;obtain⟨z,hz⟩:∃z,z=min v0.size 300:=⟨_,rfl⟩;have hmin:min (v0.size:Int) 300=(z:Int):=by omega
   have hz1:(0:Int)<=(z:Int):=by omega
   have hz2:(z:Int)<=(v0.size:Int):=by omega
   have HCV:Hid (v0.extract 0 z=zIJ v0):=oh (by unfold zIJ;rw[hz]);have HV3:=oh (zM5 v0);have HKS:Hid (zFx F wr P 256 120 S d c sp s hh G l root dd ps pgs pgs0/\zY NoB (qE P S) NoB F ad w0 wr/\Sl F wr 2 zCJ (.slice wa ps.length wc) ps):=oh ⟨hK,hN,by rw[<- hwn];exact hwv⟩;have HNU:Hid (ps=(zAN L k).1/\s.gen=(zAN L k).2/\ps.length<=k/\pgs0.length<=15 * (k / 5)-1/\(2<=ps.length->∀i∈pgs,zCf (G.view i))/\G.cost<=61 * k/\s.gen<=k+1/\k<20):=oh ⟨hps,hsg,hpl,hp0,hft,hcost,hgn,hTL.2⟩;have HWN:=oh hwn;subst hqa;have i1:(k:Int)<(L.length:Int):=by omega
   have i2:(k:Int)<20:=by omega
   have i0:(0:Int)<=(k:Int):=by omega
   have hK20:k+gk=T:=hk;have HDX:Hid (∀W,zF w0 W->W.cell? ⟨qb,qoff+k * 2,none⟩=some (.string key)/\W.cell? ⟨qb,qoff+k * 2+1,none⟩=some (.string v0)):=oh (by
    intro W m;have hs0:=(HSL.out.ext HM0.out).mods m.ext;obtain⟨qb2,qoff2,hqa2,_,hcc2⟩:=hs0.elemF (k:=k) hTL.1;injection hqa2 with hqa2;injection hqa2 with e1 e2;subst e1 e2;rw[<- hx] at hcc2;exact⟨by simpa using hcc2 0 (.string key) rfl,hcc2 1 (.string v0) rfl⟩)
   have HX0:Hid (zF w0 wr):=oh (hN.stp.mods.mono (λ_ hk=>hk.elim));have HR2:=HR;clear hK hN hwv hps hsg hpl hp0 hft hcost hgn hsl hcc hx hz HR hTL hk d0;subst hwn;go_wp2_with fail;go_quiet (fail)
   rw[HCV.out];obtain⟨W5,hW5⟩:∃W,W=wr.drewN nq:=⟨_,rfl⟩;have m5:zF wr W5:=by rw[hW5];exact (zA.refl _ wr).drewN nq
   rw[<- hW5];obtain⟨v,hv⟩:∃v,v=zIJ v0:=⟨_,rfl⟩;have HVE:=oh hv;rw[<- hv] at HV3 ⊢;have HM5:=oh m5;have e0:=(HDX.out W5 (HX0.out.trans m5)).1;clear hW5 m5 hv d1 hmin hz1 hz2;cases hkb:zAE key with
   | false =>
    have HK7:=oh (λW=>zNR key W false hkb);have HSK:=oh (zM6 HXE.out hkb);clear hkb;go_wp2_with fail;refine (HK7.out _).mono ?_;rintro e w6 ⟨rfl,rfl⟩;go_wp2_with fail;go_roundg (gk-1)
    case measure=>omega
    case rel=>exact⟨k+1,wa,ps.length,wc,by omega,rfl,by go_num,oh (by
     have hu:=HNU.out;have hn:=HKS.out.2.1;exact⟨iK,P,F,s,hh,G,l,root,dd,ps,pgs,pgs0,HKS.out.1.atS HM5.out,hn.trans (zY.ext hn.env hn.sub HM5.out),HKS.out.2.2.ext HM5.out,by rw[HSK.out];exact hu.1,by rw[HSK.out];exact hu.2.1,by omega,by omega,hu.2.2.2.2.1,by omega,by omega⟩)⟩
   | true =>
    have HK7:=oh (λW=>zNR key W true hkb);have HSK:=oh (zJd HXE.out hkb);have HKB:=oh hkb;have HPT:=oh (zSR (w:=W5) (HKS.out.2.1.env.mods HM5.out.ext) (λj hj=>HKS.out.2.1.sub j (.inl hj)) (HKS.out.1.atS HM5.out) (by have:=HNU.out;omega) (by have:=HNU.out;omega) (by have:=HNU.out;omega) hkb (by have:=HV3.out;show v.size<=400;omega) (zRl HKS.out.1.lawn HNU.out.2.2.2.2.1 (by have:=HNU.out;omega) (by have:=HNU.out;omega) HV3.out));clear hkb;go_wp2_with fail;refine (HK7.out _).mono ?_;rintro e w6 ⟨rfl,rfl⟩;go_wp2_with fail;refine HPT.out.mono ?_;rintro e w10 ⟨rfl,P10,F10,G10,l10,root10,dd10,pgs10,hK10,hN10,hcost10,hfat10⟩;have hN010:=(HKS.out.2.1.trans (zY.ext HKS.out.2.1.env HKS.out.2.1.sub HM5.out)).trans hN10;have hw10:=hN10.sl (λj hj=>HKS.out.2.1.sub j hj) (HKS.out.2.2.ext HM5.out);have e0:=(HDX.out w10 (hN010.stp.mods.mono (λ_ hk=>hk.elim))).1;have HWI:=oh (zQL ps _ hw10 (by have:=HNU.out;omega) key v true);have HK10:=oh (And.intro hK10 (And.intro hN010 hw10));have HC10:=oh (And.intro hcost10 (hfat10 HNU.out.2.2.2.2.1));have hkm:(k:Int).tmod 5=((k % 5:Nat):Int):=by rw[Int.tmod_eq_emod_of_nonneg (by omega)];omega
    obtain⟨q5,hq5⟩:∃q,q=k % 5:=⟨_,rfl⟩;have HQ5:=oh hq5;rw[<- hq5] at hkm;clear hq5 hK10 hN10 hN010 hw10 hcost10 hfat10;go_wp2_with fail;refine HWI.out.mono ?_;rintro e w11 ⟨v11,rfl,hO11,hm11⟩;obtain⟨a11,c11,rfl, -⟩:=hO11.form;have hlen:=zGD key v true ps;have hs11:Sl F10 w11 2 zCJ (.slice a11 (yS key v true ps).length c11) (yS key v true ps):=hO11.slF (λq hq=>HK10.out.2.1.env.lt q hq) zDP.len (by have:=HNU.out;omega);have H11:=oh (And.intro (HK10.out.1.atS hm11) (And.intro (HK10.out.2.1.trans (zY.ext HK10.out.2.1.env HK10.out.2.1.sub hm11)) hs11));have HLN:=oh hlen;have HPS:Hid (yS key v true ps=(zAN L (k+1)).1):=oh (by rw[HSK.out,HVE.out,<- HNU.out.1]);clear hO11 hs11 hm11 hlen e0;by_cases h4:q5=4
    .subst h4;rw[show ((4:Nat):Int)=4 from rfl] at hkm;have HCM:=oh (zNi (w:=w11) H11.out.2.1.env (λj hj=>H11.out.2.1.sub j (.inl hj)) H11.out.1 (by have:=HNU.out;omega) (by have:=HNU.out;have:=HLN.out;omega) (by have:=HC10.out.1;have:=HNU.out;omega));have HGR:=oh (λh=>zRm HK10.out.1.lawn HC10.out.2 (k:=(k+1) / 5-1) h);go_wp2_with fail;refine HCM.out.mono ?_;rintro e w12 ⟨rfl,P12,F12,⟨iC,hK12⟩,hN12⟩;have HFIN:Hid (MdS ad w0 S d c sp (k+1) L (.slice a11 (yS key v true ps).length c11) w12):=oh (by
      have hu:=HNU.out;have h5:=HQ5.out;have hln:=HLN.out;refine⟨iC,P12,F12,jG s root10 (yS key v true ps).length,1-hh,zEf G10,zAS l10,root10,dd10,yS key v true ps,pgs10,pgs10,hK12,H11.out.2.1.trans hN12,hN12.sl (λj hj=>H11.out.2.1.sub j hj) H11.out.2.2,HPS.out,?_,by omega,?_,HC10.out.2,by show 0<=_;omega,by show s.gen+1<=_;omega⟩
      .rw[HSK.out];show s.gen+1=_;simp only;rw[if_pos h5.symm,hu.2.1]
      .have hgr:=HGR.out (by omega);omega)
     clear hK12 hN12;go_wp2_with fail;go_roundg (gk-1)
     case measure=>omega
     case rel=>exact⟨k+1,a11,_,c11,by omega,rfl,by go_num,HFIN⟩
    .have h4i:¬ (q5:Int)=4:=by omega
     have HFIN:Hid (MdS ad w0 S d c sp (k+1) L (.slice a11 (yS key v true ps).length c11) w11):=oh (by
      have hu:=HNU.out;have h5:=HQ5.out;have hln:=HLN.out;refine⟨iK,P10,F10,s,hh,G10,l10,root10,dd10,yS key v true ps,pgs10,pgs0,H11.out.1,H11.out.2.1,H11.out.2.2,HPS.out,?_,by omega,by omega,HC10.out.2,by have:=HC10.out.1;omega,by omega⟩;rw[HSK.out];simp only;rw[if_neg (by rw[<- h5];exact h4),hu.2.1])
     go_wp2_with fail;go_roundg (gk-1)
     case measure=>omega
     case rel=>exact⟨k+1,a11,_,c11,by omega,rfl,by go_num,HFIN⟩
  .obtain rfl:k=T:=by omega
   obtain⟨iK,P,F,s,hh,G,l,root,dd,ps,pgs,pgs0,hK,hN,hwv,hps,hsg,hpl,hp0,hft,hcost,hgn⟩:=HR.out;have hwn:wn=ps.length:=hwv.lenX.symm;have hT20:k<=20:=by have:=HT.out;omega
   have HCM:=oh (λW (m:zF wr W)=>zNi (w:=W) (hN.env.mods m.ext) (λj hj=>hN.sub j (.inl hj)) (hK.atS m) (by omega) (by omega) (by omega));have HKS:Hid (zFx F wr P 256 120 S d c sp s hh G l root dd ps pgs pgs0/\zY NoB (qE P S) NoB F ad w0 wr/\Sl F wr 2 zCJ (.slice wa ps.length wc) ps):=oh ⟨hK,hN,by rw[<- hwn];exact hwv⟩;have HNU:Hid (ps=(zAN L k).1/\s.gen=(zAN L k).2/\ps.length<=k/\s.gen<=k+1):=oh ⟨hps,hsg,hpl,hgn⟩;have HTD:=oh hK.lawn.td;have i0:(0:Int)<=(k:Int):=by omega
   have hout:¬ ((k:Int)<(L.length:Int))\/((k:Int)<(L.length:Int)/\¬ ((k:Int)<20)):=by have:=HT.out;omega
   have HT20:=oh hT20;subst hwn;have HFIN:Hid (∀(w12:World) (P12 F12:Nat->Prop) (iC:zW),zFx F12 w12 P12 256 120 S d c sp (jG s root ps.length) (1-hh) (zEf G) (zAS l) root dd ps pgs pgs->zY (qE P S) (qE P12 S) F F12 ad wr.drew w12->zRO ad w L (.returned (.tuple #[.pointer (some ⟨d,0,none⟩),.slice wa ps.length wc,.bool true])) w12):=oh (by
    intro w12 P12 F12 iC hK12 hN12;have hN2:=HKS.out.2.1.trans (zY.ext HKS.out.2.1.env HKS.out.2.1.sub (zA.refl _ wr).drew);have hN3:=hN2.trans hN12;have hu:=HNU.out;obtain⟨D,Pd,m,q1,q2,q3,q4,q5⟩:=zRB hN3.env (λj hj=>hN3.sub j (.inl hj)) hK12 rfl rfl HTD.out (by show s.gen+1<_;omega);have hkT:k=min L.length 20:=HT.out;have hN4:zY NoB Pd NoB F12 ad w w12:=(zY.ext HL.out (P:=NoB) (λ_ h=>h.elim) HM0.out).trans (zQN hN3 q2 q1.bd);refine⟨d,D,Pd,F12,_,m,dd,pgs,wa,wc,by rw[<- hkT,<- hu.1],q1,by rw[<- hkT,<- hu.1];exact q3,q4,q5,by rw[<- hkT,<- hu.2.1];rfl,by show s.gen+1<=_;omega,by rw[<- hkT,<- hu.1];omega,hN4,?_⟩;rw[<- hkT,<- hu.1];exact hN12.sl (λj hj=>hN2.sub j hj) (HKS.out.2.2.ext (zA.refl _ wr).drew))
   clear hK hN hwv hps hsg hpl hp0 hft hcost hgn HR hlt hT20;rcases hout with i1|⟨i1,i2⟩
   all_goals
    go_wp2_with fail;go_region_held3 (λ_=>True) (exact trivial)
     (first
      | (go_at_call 16;(with_reducible refine (HCM.out _ (zA.refl _ wr).drew).mono ?_);rintro e w12 ⟨rfl,P12,F12,⟨iC,hK12⟩,hN12⟩)
      | fail)
    have HEND:=oh (HFIN.out w12 P12 F12 iC hK12 hN12);clear hK12 hN12;go_wp2_with fail;go_ret3
    exact HEND.out
end
def zQO(x:Int × Int):List Value:=[.int .i64 x.1,.int .i64 x.2]
theorem zRC:zCh zQO 2:=⟨λ_=>rfl,by intro x u hu;simp[zQO] at hu;rcases hu with rfl|rfl <;> rfl⟩
def lkC(d mb:Nat)(s:yM)(g:Int)(A:yQ)(fv iv lv:Value):Array Value :=
 #[.pointer (some ⟨d,0,none⟩),.int .u64 (s.gen:Int),.int .i64 (s.blocks:Int),.int .i64 (s.size:Int),.int .i64 (s.root:Int),.int .i64 (s.keys:Int),.map (some mb),.int .u64 g,fv,.int .i64 (A.ids.length:Int),iv,.int .i64 (A.keys:Int),lv,.bool A.blind]
theorem Tryz.elF:ElT Tryz.prog 69 137 (.agg #[.int .i64 0,.int .i64 0]) 2 16:=⟨Tryz.underlying69,by kernel_rfl,rfl,by decide,by decide⟩
def LkB(kb mb:Nat)(fv iv lv:Value):Nat->Prop:=λk=>k=kb\/k=mb\/fv.ownBlock=some k\/iv.ownBlock=some k\/lv.ownBlock=some k
structure LkS(w0 w:World)(kb mb d:Nat)(s:yM)(g:Int)(A:yQ)(fv iv lv:Value):Prop where
 ext:zF w0 w
 new:w0.heap.size<=kb/\w0.heap.size<=mb
 blk:zH w kb (lkC d mb s g A fv iv lv) 135
 seen:zCY w mb A.seen
 rf:yC (λ_=>False) w w0.heap.size 137 2 zQO fv A.finds
 ri:yC (λ_=>False) w w0.heap.size 3 1 yK iv A.ids
 rl:yC (λ_=>False) w w0.heap.size 9 1 vZ lv A.lost
 few:A.few
structure zAA(kb mb:Nat)(fv iv lv fv' iv' lv':Value)(w w':World):Prop where
 mods:zA (LkB kb mb fv iv lv) w w'
 sub:∀k,LkB kb mb fv' iv' lv' k->LkB kb mb fv iv lv k\/w.heap.size<=k
def zQP(w0:World)(kb mb d:Nat)(s:yM)(g:Int)(fv iv lv:Value)(w:World)(A':yQ)(w':World):Prop:=∃fv' iv' lv',LkS w0 w' kb mb d s g A' fv' iv' lv'/\zAA kb mb fv iv lv fv' iv' lv' w w'
section
variable {ad:Nat->Addr}{w0 w w' w2:World}{kb mb d:Nat}{s:yM}{g:Int}{A A':yQ}{fv iv lv fv' iv' lv' fv2 iv2 lv2:Value}
theorem zAA.ext(m:zF w w'):zAA kb mb fv iv lv fv iv lv w w':=⟨m.ext,λ_ h=>.inl h⟩
theorem zAA.trans(h:zAA kb mb fv iv lv fv' iv' lv' w w')(k:zAA kb mb fv' iv' lv' fv2 iv2 lv2 w' w2):zAA kb mb fv iv lv fv2 iv2 lv2 w w2 :=
 ⟨h.1.trans' k.1 (λi hi hb=>(h.2 i hb).elim id (λe=>by omega)),λi hb=>(k.2 i hb).elim (h.2 i) (λe=>.inr (Nat.le_trans h.1.size e))⟩
theorem zAA.res(h:zAA kb mb fv iv lv fv' iv' lv' w w'){R:Nat}(m:zA (λk=>k=R) w' w2)(hR:w.heap.size<=R):zAA kb mb fv iv lv fv' iv' lv' w w2 :=
 ⟨h.1.trans' m (λi hi e=>by omega),h.2⟩
theorem zAA.sl{α:Type}{sz:Nat}{enc:α->List Value}{v:Value}{x:List α}(h:zAA kb mb fv iv lv fv' iv' lv' w w')(k:Sl (LkB kb mb fv iv lv) w sz enc v x):Sl (LkB kb mb fv' iv' lv') w' sz enc v x :=
 k.step h.1 (λi hi hn hb=>(h.2 i hb).elim hn (λe=>by omega))
theorem zAA.blk{cs:Array Value}{t:TypeId}{R:Nat}(h:zAA kb mb fv iv lv fv' iv' lv' w w')(k:zH w R cs t)(hn:¬ LkB kb mb fv iv lv R):zH w' R cs t/\¬ LkB kb mb fv' iv' lv' R :=
 ⟨k.mods h.1 hn,λhb=>(h.2 R hb).elim hn (λe=>by have:=k.lt;omega)⟩
theorem LkS.lt(h:LkS w0 w kb mb d s g A fv iv lv):∀k,LkB kb mb fv iv lv k->w0.heap.size<=k/\k<w.heap.size:=by
 rintro k (e|e|e|e|e)
 .subst e;exact⟨h.new.1,h.blk.lt⟩
 .subst e;exact⟨h.new.2,h.seen.lt⟩
 .exact h.rf.lt k e
 .exact h.ri.lt k e
 .exact h.rl.lt k e
theorem LkS.env(h:LkS w0 w kb mb d s g A fv iv lv)(hL:yG NoB ad w0):yG (LkB kb mb fv iv lv) ad w :=
 hL.step h.ext.ext (λk hk _ hb=>by have:=(h.lt k hb).1;omega) (λk hb=>(h.lt k hb).2)
theorem LkS.envX(h:LkS w0 w kb mb d s g A fv iv lv)(hL:yG NoB ad w0){X:Nat}(h1:w0.heap.size<=X)(h2:X<w.heap.size):yG (qE (LkB kb mb fv iv lv) X) ad w :=
 hL.step h.ext.ext (λk hk _ hb=>hb.elim (λhb=>by have:=(h.lt k hb).1;omega) (λe=>by omega)) (λk hb=>hb.elim (λhb=>(h.lt k hb).2) (λe=>by omega))
theorem LkS.at(h:LkS w0 w kb mb d s g A fv iv lv)(m:zF w w'):LkS w0 w' kb mb d s g A fv iv lv :=
 ⟨h.ext.trans m,h.new,h.blk.ext m,h.seen.mods m (λf=>f),h.rf.ext m,h.ri.ext m,h.rl.ext m,h.few⟩
theorem LkS.off(h:LkS w0 w kb mb d s g A fv iv lv):kb≠mb:=zH.notM h.blk h.seen
theorem zIL(h:LkS w0 w kb mb d s g A fv iv lv)(id:Int)(hf:(A.good id).few) :
  Calls Tryz.prog 178 #[.pointer (some ⟨kb,0,none⟩),.int .i64 id] w λe w'=>e=.returned (.tuple #[])/\zQP w0 kb mb d s g fv iv lv w (A.good id) w':=by
 have HK:=oh h;obtain⟨ia,ic,rfl, -, -⟩:=_root_.id h.ri.form;have hB:=h.blk;unfold lkC at hB;have HB:=oh hB;have k10:=hB.cell (o:=10) (v:=.slice ia A.ids.length ic) rfl;have HF:=oh hf;have HFI:Hid (A.ids.length<1000):=oh (by have:=hf.2.2.1;simp only[yQ.good,List.length_append,List.length_cons,List.length_nil] at this;omega);have hfi:=HFI.out;have e1:A.ids.length + [id].length=A.ids.length+1:=by simp
 clear h hB
 go_enter Tryz.func178, Tryz.ntmps178
 go_wp2_with (first
  | (at_builtin;refine yU Tryz.elI vW rfl _ _ rfl w0.heap.size (.slice ia A.ids.length ic) (.slice (some ⟨w.heap.size,0,none⟩) 1 1) A.ids [id] rfl rfl (HK.out.ri.ext ((zA.refl _ _).alloc _)) (Sl.one (F:=λ_=>False) (x:=id) (t := 3) (fz:=(0,0)) (zR rfl) (λf=>f)) (by have:=HFI.out;simp;omega) (Nat.le_trans HK.out.ext.size (by simp)) (λf=>f) ?_;intro a' c' w4 hown4 hmod4 hat4;rw[e1] at hown4 hat4 ⊢;have hB4:=(HB.out.alloc (.cells #[.int .i64 id] 3)).mods hmod4 (λe=>yC.notB HK.out.ri HB.out (by decide) _ e rfl);have HB4:=oh hB4;have z10:=hB4.cell (o:=10) (v:=.slice ia A.ids.length ic) rfl;have z9:=hB4.cell (o:=9) (v:=.int .i64 (A.ids.length:Int)) rfl;have zf:=hB4.frozen;clear hB4)
  | fail)
 have HO4:=oh hown4;have HA4:=oh hat4;have HM4:Hid (zA (λk=>(Value.slice ia A.ids.length ic).ownBlock=some k) (w.alloc (.cells #[.int .i64 id] 3)) w4):=oh hmod4;clear hown4 hmod4 hat4 z10 z9 zf k10;go_end0
 refine⟨rfl,fv,.slice a' (A.ids.length+1) c',lv,?_⟩;have m5:zA (λk=>k=kb) w4 ((w4.setCell ⟨kb,10,none⟩ (.slice a' (A.ids.length+1) c')).setCell ⟨kb,9,none⟩ (.int .i64 ((A.ids.length:Int)+1))):=zA.setCell (F:=λk=>k=kb) (zA.setCell (F:=λk=>k=kb) (zA.refl _ w4) (p:=⟨kb,10,none⟩) (.inr rfl) _) (p:=⟨kb,9,none⟩) (.inr rfl) _;have m4:zA (λk=>(Value.slice ia A.ids.length ic).ownBlock=some k\/k=kb) w ((w4.setCell ⟨kb,10,none⟩ (.slice a' (A.ids.length+1) c')).setCell ⟨kb,9,none⟩ (.int .i64 ((A.ids.length:Int)+1))) :=
  (((zA.refl _ w).alloc _).trans (HM4.out.mono (λk e=>.inl e))).trans (m5.mono (λk e=>.inr e))
 refine⟨⟨HK.out.ext.trans' m4 (λi hi hq=>?_),HK.out.new,?_,HK.out.seen.mods m4 (λhq=>?_),HK.out.rf.mods m4 (λg hg hq=>?_),HO4.out.mods m5 (λg hg e=>yC.notB HO4.out HB4.out (by decide) g hg e),HK.out.rl.mods m4 (λg hg hq=>?_),HF.out⟩,m4.mono (λk hk=>hk.elim (λe=>.inr (.inr (.inr (.inl e)))) .inl),?_⟩
 .rcases hq with e|e
  .have:=(HK.out.ri.lt i e).1;omega
  .have:=HK.out.new.1;omega
 .have h:=(HB4.out.set 10 (.slice a' (A.ids.length+1) c')).set 9 (.int .i64 ((A.ids.length:Int)+1));simpa[lkC,yQ.good] using h
 .rcases hq with e|e
  .exact yC.notM HK.out.ri HK.out.seen _ e rfl
  .exact HK.out.off e.symm
 .rcases hq with e|e
  .exact yC.notO HK.out.rf HK.out.ri (by decide) g hg e
  .exact yC.notB HK.out.rf HB.out (by decide) g hg e
 .rcases hq with e|e
  .exact yC.notO HK.out.rl HK.out.ri (by decide) g hg e
  .exact yC.notB HK.out.rl HB.out (by decide) g hg e
 .rintro k (e|e|e|e|e)
  .exact .inl (.inl e)
  .exact .inl (.inr (.inl e))
  .exact .inl (.inr (.inr (.inl e)))
  .rcases HA4.out with h|h
   .exact .inl (.inr (.inr (.inr (.inl (h ▸ e)))))
   .rw[h] at e;injection e with e;simp at e;right;omega
  .exact .inl (.inr (.inr (.inr (.inr e))))
theorem zCE(h:LkS w0 w kb mb d s g A fv iv lv)(id what:Int)(hf:(A.find id what).few) :
  Calls Tryz.prog 174 #[.pointer (some ⟨kb,0,none⟩),.int .i64 id,.int .i64 what] w λe w'=>e=.returned (.tuple #[])/\∃fv',LkS w0 w' kb mb d s g (A.find id what) fv' iv lv/\zAA kb mb fv iv lv fv' iv lv w w':=by
 have HK:=oh h;obtain⟨ia,ic,rfl, -, -⟩:=_root_.id h.rf.form;have hB:=h.blk;unfold lkC at hB;have HB:=oh hB;have k8:=hB.cell (o:=8) (v:=.slice ia A.finds.length ic) rfl;have HF:=oh hf;have HFI:Hid (A.finds.length<1000):=oh (by have:=hf.2.1;simp only[yQ.find,List.length_append,List.length_cons,List.length_nil] at this;omega);have e1:A.finds.length + [(id,what)].length=A.finds.length+1:=by simp
 have HEND:Hid (∀(a':Option Addr) (c':Nat) (w4:World),yC (λ_=>False) w4 w0.heap.size 137 2 zQO (.slice a' (A.finds.length+1) c') (A.finds++[(id,what)])->zA (λk=>(Value.slice ia A.finds.length ic).ownBlock=some k) (w.alloc (.cells #[.int .i64 id,.int .i64 what] 137)) w4->((Value.slice a' (A.finds.length+1) c').ownBlock=(Value.slice ia A.finds.length ic).ownBlock\/(Value.slice a' (A.finds.length+1) c').ownBlock=some (w.alloc (.cells #[.int .i64 id,.int .i64 what] 137)).heap.size)->∀b:Bool,b=(A.blind || decide (what=3)) ->
   LkS w0 ((w4.setCell ⟨kb,8,none⟩ (.slice a' (A.finds.length+1) c')).setCell ⟨kb,13,none⟩ (.bool b)) kb mb d s g (A.find id what) (.slice a' (A.finds.length+1) c') iv lv/\zAA kb mb (.slice ia A.finds.length ic) iv lv (.slice a' (A.finds.length+1) c') iv lv w ((w4.setCell ⟨kb,8,none⟩ (.slice a' (A.finds.length+1) c')).setCell ⟨kb,13,none⟩ (.bool b))):=oh (by
  intro a' c' w4 hO4 hM4 hA4 b hb;have hB4:=(HB.out.alloc (.cells #[.int .i64 id,.int .i64 what] 137)).mods hM4 (λe=>yC.notB HK.out.rf HB.out (by decide) _ e rfl);have m5:zA (λk=>k=kb) w4 ((w4.setCell ⟨kb,8,none⟩ (.slice a' (A.finds.length+1) c')).setCell ⟨kb,13,none⟩ (.bool b)):=zA.setCell (F:=λk=>k=kb) (zA.setCell (F:=λk=>k=kb) (zA.refl _ w4) (p:=⟨kb,8,none⟩) (.inr rfl) _) (p:=⟨kb,13,none⟩) (.inr rfl) _;have m4:zA (λk=>(Value.slice ia A.finds.length ic).ownBlock=some k\/k=kb) w ((w4.setCell ⟨kb,8,none⟩ (.slice a' (A.finds.length+1) c')).setCell ⟨kb,13,none⟩ (.bool b)) :=
   (((zA.refl _ w).alloc _).trans (hM4.mono (λk e=>.inl e))).trans (m5.mono (λk e=>.inr e))
  refine⟨⟨HK.out.ext.trans' m4 (λi hi hq=>?_),HK.out.new,?_,HK.out.seen.mods m4 (λhq=>?_),hO4.mods m5 (λg hg e=>yC.notB hO4 hB4 (by decide) g hg e),HK.out.ri.mods m4 (λg hg hq=>?_),HK.out.rl.mods m4 (λg hg hq=>?_),HF.out⟩,m4.mono (λk hk=>hk.elim (λe=>.inr (.inr (.inl e))) .inl),?_⟩
  .rcases hq with e|e
   .have:=(HK.out.rf.lt i e).1;omega
   .have:=HK.out.new.1;omega
  .have h:=(hB4.set 8 (.slice a' (A.finds.length+1) c')).set 13 (.bool b);rw[hb] at h ⊢;simpa[lkC,yQ.find] using h
  .rcases hq with e|e
   .exact yC.notM HK.out.rf HK.out.seen _ e rfl
   .exact HK.out.off e.symm
  .rcases hq with e|e
   .exact yC.notO HK.out.ri HK.out.rf (by decide) g hg e
   .exact yC.notB HK.out.ri HB.out (by decide) g hg e
  .rcases hq with e|e
   .exact yC.notO HK.out.rl HK.out.rf (by decide) g hg e
   .exact yC.notB HK.out.rl HB.out (by decide) g hg e
  .rintro k (e|e|e|e|e)
   .exact .inl (.inl e)
   .exact .inl (.inr (.inl e))
   .rcases hA4 with h|h
    .exact .inl (.inr (.inr (.inl (h ▸ e))))
    .rw[h] at e;injection e with e;simp at e;right;omega
   .exact .inl (.inr (.inr (.inr (.inl e))))
   .exact .inl (.inr (.inr (.inr (.inr e)))))
 obtain⟨bl,hbl⟩:∃bl,bl=A.blind:=⟨_,rfl⟩;have HBL:=oh hbl;clear h hB hbl;cases bl
 all_goals
  go_enter Tryz.func174, Tryz.ntmps174
  go_wp2_with (first
   | (at_builtin;refine yU Tryz.elF zRC rfl _ _ rfl w0.heap.size (.slice ia A.finds.length ic) (.slice (some ⟨w.heap.size,0,none⟩) 1 1) A.finds [(id,what)] rfl rfl (HK.out.rf.ext ((zA.refl _ _).alloc _)) (Sl.one (F:=λ_=>False) (x:=(id,what)) (t := 137) (fz:=(0,0)) (zR rfl) (λf=>f)) (by have:=HFI.out;simp;omega) (Nat.le_trans HK.out.ext.size (by simp)) (λf=>f) ?_;intro a' c' w4 hown4 hmod4 hat4;rw[e1] at hown4 hat4 ⊢;have hB4:=(HB.out.alloc (.cells #[.int .i64 id,.int .i64 what] 137)).mods hmod4 (λe=>yC.notB HK.out.rf HB.out (by decide) _ e rfl);have HB4:=oh hB4;have z8:=hB4.cell (o:=8) (v:=.slice ia A.finds.length ic) rfl;have z13:=hB4.cell (o:=13) (v:=.bool A.blind) rfl;rw[<- HBL.out] at z13;have zf:=hB4.frozen;clear hB4;have HE4:=oh (HEND.out a' c' w4 hown4 hmod4 hat4);clear hown4 hmod4 hat4)
   | fail)
  go_end0
  exact⟨rfl,_,HE4.out _ (by rw[<- HBL.out];by_cases h:what=3 <;> simp[h])⟩
end
end
end Go.Proofs.YteabpacpngaoaaaGreatDoor
