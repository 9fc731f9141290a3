import Derived.Test.YtalpfcaakpgkmaaGreatDoorR32
namespace Go.Proofs.YtalpfcaakpgkmaaGreatDoor
open Go.RowKit
structure zBH where
 id0:Nat
 id1:Nat
 key:ByteArray
 two:Bool
 news:Bool
abbrev StA(α:Type):=(GA × List Nat × α) ⊕ Nat
def qG(G:GA)(l:List Nat)(gen old:Nat)(n:zI):StA zBH :=
 if zH n<=(G.size:Int)-24 then (match qU G l old n with
  | some i=>.inl (yQ G l gen old n,yY G l old n,⟨i,0,e0,false,false⟩)
  | none=>.inr (zBX G n))
 else match zEa n with
  | none=>.inr 8
  | some (a,k,b)=>if zH a<=(G.size:Int)-24/\zH b<=(G.size:Int)-24 then (match qU G l old a with
    | none=>.inr (zBX G a)
    | some i=>match qU (yQ G l gen old a) (yY G l old a) 0 b with
     | none=>.inr (zBX (yQ G l gen old a) b)
     | some j=>.inl (yQ (yQ G l gen old a) (yY G l old a) gen 0 b,yY (yQ G l gen old a) (yY G l old a) 0 b,⟨i,j,k,true,false⟩))
   else .inr 8
def zBI(G:GA)(l:List Nat)(gen:Nat)(key v:ByteArray):StA zM :=
 if v.size<=24 then .inl (G,l,⟨key,v,0,0⟩) else match zA7 (zDG v.size G.size).toNat l with
  | some (ids,l1)=>.inl (zAH gen v.data.toList (G.size-28) ids ids.length G,l1,⟨key,e0,((ids.getD 0 0:Nat):Int),(v.size:Int)⟩)
  | none=>.inr 3
def qV(G:GA)(n:zI)(key:ByteArray):List Nat:=match n.entries[jA key n.entries]? with
 | none=>[]
 | some e=>if zAY key n.entries=true/\e.chain≠0 then (qN G e.size.toNat e.chain e.size).1.map (λx=>x.1.toNat) else []
def zDd(n:zI)(key:ByteArray)(e:zM):zI :=
  { n with entries:=n.entries.take (jA key n.entries)++[e]++n.entries.drop (jA key n.entries+if zAY key n.entries=true then 1 else 0) }
def zB6(G:GA)(l:List Nat)(gen id:Nat)(n:zI)(key v:ByteArray):StA zBH :=
 match zBI (jY G (qV G n key)) (jU l (qV G n key)) gen key v with
 | .inr k=>.inr k
 | .inl (G1,l1,e)=>match qG G1 l1 gen id (zDd n key e) with
  | .inr k=>.inr k
  | .inl (G2,l2,o)=>.inl (G2,l2,{ o with news:=!zAY key n.entries })
def zDe(n:zI)(i:Nat)(o:zBH):zI :=
 if o.two=true then { n with kids:=n.kids.take i++[(o.id0:Int),(o.id1:Int)]++n.kids.drop (i+1),keys:=n.keys.take i++[o.key]++n.keys.drop (i+0) }
 else { n with kids:=n.kids.take i++[(o.id0:Int)]++n.kids.drop (i+1) }
def zC7(gen:Nat)(key v:ByteArray):Nat->GA->List Nat->Nat->StA zBH
 | 0,_,_,_=>.inr 5
 | f+1,G,l,id=>match G.load id with
  | .inr e=>.inr e.2
  | .inl n=>if n.leaf=true then zB6 G l gen id n key v else match zC7 gen key v f G l (n.kids.getD (vZ key n.keys) 0).toNat with
   | .inr k=>.inr k
   | .inl (G1,l1,o)=>match qG G1 l1 gen id (zDe n (vZ key n.keys) o) with
    | .inr k=>.inr k
    | .inl (G2,l2,o2)=>.inl (G2,l2,{ o2 with news:=o.news })
def zFY:zI:=⟨true,[],[],[]⟩
def zCj(o:zBH):zI:=⟨false,[],[o.key],[(o.id0:Int),(o.id1:Int)]⟩
def zDQ(key v:ByteArray):Option Nat:=if jO key=false then some 2 else if 4096<v.size then some 8 else none
def zHX(G:GA)(l:List Nat)(gen root:Nat)(key v:ByteArray):StA (Nat × Bool) :=
 match zDQ key v with
 | some k=>.inr k
 | none=>match (if root=0 then zB6 G l gen 0 zFY key v else zC7 gen key v 16 G l root) with
  | .inr k=>.inr k
  | .inl (G1,l1,o)=>if o.two=false then .inl (G1,l1,(o.id0,o.news)) else match qU G1 l1 0 (zCj o) with
   | none=>.inr (zBX G1 (zCj o))
   | some i=>.inl (yQ G1 l1 gen 0 (zCj o),yY G1 l1 0 (zCj o),(i,o.news))
structure FrG(G:GA)(l:List Nat)(G':GA)(l':List Nat):Prop where
 sz:G'.size=G.size
 bl:G'.blocks=G.blocks
 len:l'.length=l.length
 keep:∀i,l[i]? = some 1\/l[i]? = some 3->(l'[i]? = some 1\/l'[i]? = some 3)/\G'.look i=G.look i/\(G'.view i=G.view i\/G'.view i=zHt (G.look i) i)
 low:∀i,i<2->l[i]? = some 1->l'[i]? = some 1
 other:∀i:Nat,l[i]? = some 0\/l[i]? = some 2->l'[i]? = some 0\/l'[i]? = some 2
section
variable {G G1 G2:GA}{l l1 l2:List Nat}
theorem FrG.refl(G:GA)(l:List Nat):FrG G l G l:=⟨rfl,rfl,rfl,λ_ h=>⟨h,rfl,.inl rfl⟩,λ_ _ h=>h,λ_ h=>h⟩
theorem FrG.trans(h:FrG G l G1 l1)(k:FrG G1 l1 G2 l2):FrG G l G2 l2 :=
 ⟨k.sz.trans h.sz,k.bl.trans h.bl,k.len.trans h.len,λi hi=>by
  obtain⟨h1,h2,h3⟩:=h.keep i hi;obtain⟨k1,k2,k3⟩:=k.keep i h1;refine⟨k1,k2.trans h2,?_⟩;rcases k3 with k3|k3
  .rw[k3];exact h3
  .rw[k3,h2];exact .inr rfl,λi hi h1=>k.low i hi (h.low i hi h1),λi hi=>k.other i (h.other i hi)⟩
def zKp(l:List Nat):Prop:=l[0]? = some 1/\l[1]? = some 1
theorem FrG.lowL(h:FrG G l G1 l1)(hl:zKp l):zKp l1:=⟨h.low 0 (by omega) hl.1,h.low 1 (by omega) hl.2⟩
theorem zKp.ok(h:zKp l):zRZ l:=⟨by rw[h.1];simp,by rw[h.2];simp⟩
theorem Upd.fr{A A1:NP}(h:Upd G l A G1 l1 A1)(hA:∀i,A i->2<=i):FrG G l G1 l1:=by
 refine⟨h.sz,h.bl,h.len,λi hi=>⟨?_,h.keep i hi⟩,λi hi h1=>?_,λi hi=>?_⟩
 .by_cases h1:A1 i
  .rcases h.inn i h1 with ⟨_,h2⟩|⟨h2,_⟩
   .rw[h2];exact hi
   .rcases hi with e|e <;> rw[h2] at e <;> simp at e
  .by_cases ha:A i
   .rcases h.gone i ha h1 with ⟨h2,_⟩|⟨_,h2⟩
    .rcases hi with e|e <;> rw[h2] at e <;> simp at e
    .exact .inr h2
   .rw[(h.rest i ha h1).1];exact hi
 .have ha:¬ A i:=λha=>by have:=hA i ha;omega
  have hn:¬ A1 i:=λh2=>by
   rcases h.inn i h2 with ⟨h3,_⟩|⟨h3,_⟩
   .exact ha h3
   .rw[h3] at h1;simp at h1
  rw[(h.rest i ha hn).1];exact h1
 .by_cases h1:A1 i
  .rcases h.inn i h1 with ⟨_,h2⟩|⟨_,h2⟩
   .rw[h2];exact hi
   .exact .inr h2
  .by_cases ha:A i
   .rcases h.gone i ha h1 with ⟨_,h2⟩|⟨h2,_⟩
    .exact .inl h2
    .rcases hi with e|e <;> rw[h2] at e <;> simp at e
   .rw[(h.rest i ha h1).1];exact hi
theorem zNL{G:GA}{l:List Nat}{old:Nat}{n:zI}(h:qU G l old n=none)(_ho:old=0\/(2<=old/\(l[old]? = some 1\/l[old]? = some 2))):yY G l old n=l:=by
 unfold qU at h;unfold yY;split at h
 .rename_i hd;rw[if_pos hd];unfold jD at h;unfold jC;split at h
  .cases h
  .rename_i hf;by_cases hz:old=0
   .rw[if_pos hz];unfold zA1;rw[h]
   .rw[if_neg hz,if_neg (λB3=>hf ⟨hz,B3⟩),h]
 .rename_i hd;rw[if_neg hd]
theorem zNM{gen old:Nat}{n:zI}(h:qU G l old n=none):yQ G l gen old n=G:=by unfold yQ;rw[h]
def vK(l:List Nat)(old:Nat):Prop:=old=0\/(2<=old/\(l[old]? = some 1\/l[old]? = some 2))
theorem vK.ok{old:Nat}(h:vK l old):zHg l old:=h.imp id (λh=>h.2)
theorem vK.two{old:Nat}(h:vK l old):old=0\/2<=old:=h.imp id (λh=>h.1)
theorem vK.lt{old:Nat}(h:vK l old)(hl:l.length<=256):old<256:=by
 rcases h with rfl|⟨_,h|h⟩
 .omega
 .have:=(uA.1 h).1;omega
 .have:=(uA.1 h).1;omega
theorem zIa{gen old i:Nat}{n:zI}(ho:vK l old)(hi:qU G l old n=some i)(h0:l[0]? ≠ some 0) :
  Upd G l (λk=>k=old/\old≠0) (yQ G l gen old n) (yY G l old n) (λk=>k=i)/\zA4 l-(if old=0 then 1 else 0)<=zA4 (yY G l old n)/\1<=i/\i<l.length/\(yQ G l gen old n).view i=some (.inl ⟨zBW n,(i:Int),gen,yE n⟩)/\zCt n G.size:=by
 have hd:zCt n G.size:=by
  unfold qU at hi;split at hi
  .rename_i h;exact h
  .cases hi
 have hp:jD l old=some i:=by unfold qU at hi;rw[if_pos hd] at hi;exact hi
 have e1:yQ G l gen old n=(qT G l old).put ⟨zBW n,(i:Int),gen,yE n⟩:=by unfold yQ;rw[hi]
 have e2:yY G l old n=jC l old:=by unfold yY;rw[if_pos hd]
 obtain⟨u1,u2,u3⟩:=zPN (G:=G) ho hp ⟨zBW n,(i:Int),gen,yE n⟩ rfl h0;rw[e1,e2];exact⟨u1,u2,u3,zJw hp,by rw[zBC];simp,hd⟩
theorem zKq{gen old:Nat}{n:zI}(ho:vK l old)(h0:l[0]? ≠ some 0):FrG G l (yQ G l gen old n) (yY G l old n):=by
 cases hi:qU G l old n with
 | none=>rw[zNM hi,zNL hi ho];exact FrG.refl G l
 | some i=>exact (zIa ho hi h0).1.fr (λk hk=>by
   obtain⟨rfl,hz⟩:=hk;rcases ho with h|h
   .exact absurd h hz
   .exact h.1)
theorem zHI:∀(a:List Nat) (G:GA) (l:List Nat),(∀i∈a,l[i]? = some 0)->FrG G l (jY G a) l
 | [],G,l,_=>FrG.refl G l
 | x :: a,G,l,h=>by
  have h1:FrG G l (G.drop x) l:=⟨rfl,rfl,rfl,λi hi=>⟨hi,rfl,.inl (by
   have As:i≠x:=λe=>by rw[e,h x uK] at hi;simp at hi
   rw[zCP,if_neg As])⟩,λ_ _ h=>h,λ_ h=>h⟩
  exact h1.trans (zHI a (G.drop x) l (λi hi=>h i (uJ _ hi)))
end
def zDv(G:GA)(gen:Nat)(e:zM)(v:ByteArray)(ids:List Nat):Prop :=
 (e.chain=0/\e.value=v/\ids=[])\/(e.chain≠0/\ChG G gen e.chain e.size v ids)
inductive vU (G:GA) (gen:Nat):List zM->List zL->List Nat->Prop
 | nil:vU G gen [] [] []
 | cons {e x ids es l q}:e.key=x.1->zDv G gen e x.2 ids->vU G gen es l q->vU G gen (e :: es) (x :: l) (ids++q)
abbrev zDR:=ByteArray->Option ByteArray->Nat->List zL->List Nat->Prop
inductive qY (T:zDR):ByteArray->Option ByteArray->List ByteArray->List Int->List zL->List Nat->Prop
 | one {lo hi c l q}:T lo hi c l q->qY T lo hi [] [(c:Int)] l q
 | cons {lo hi s c keys kids l1 l2 q1 q2}:T lo (some s) c l1 q1->inB lo hi s->qY T s hi keys kids l2 q2->qY T lo hi (s :: keys) ((c:Int) :: kids) (l1++l2) (q1++q2)
structure PgN(G:GA)(gen id:Nat)(n:zI):Prop where
 lo:2<=id
 lt:id<G.blocks
 page:∃p,G.view id=some (.inl p)/\p.gen<=gen/\qJ p=.inl n
 fit:zH n<=(G.size:Int)-24
def zIb(G:GA)(gen:Nat)(T:zDR)(d:Nat)(lo:ByteArray)(hi:Option ByteArray)(n:zI)(l:List zL)(q:List Nat):Prop :=
 (n.leaf=true/\d=0/\l≠[]/\vU G gen n.entries l q/\∀x∈l,inB lo hi x.1)\/(n.leaf=false/\qY T lo hi n.keys n.kids l q)
def vX(G:GA)(gen:Nat):Nat->zDR
 | 0=>λ_ _ _ _ _=>False
 | d+1=>λlo hi id l pgs=>∃n q,PgN G gen id n/\zO n=true/\pgs=id :: q/\zIb G gen (vX G gen d) d lo hi n l q
section
variable {G G':GA}{gen gen':Nat}{T T':zDR}{lo:ByteArray}{hi:Option ByteArray}{l:List zL}{q:List Nat}{keys:List ByteArray}{kids:List Int}
theorem zOD{lo s x:ByteArray}{hi:Option ByteArray}(h1:inB lo hi s)(h2:inB s hi x):inB lo hi x:=⟨zKQ h1.1 h2.1,h2.2⟩
theorem zL5{lo s x:ByteArray}{hi:Option ByteArray}(h1:inB lo hi s)(h2:inB lo (some s) x):inB lo hi x:=⟨h2.1,λh e=>zAq (h2.2 s rfl) (h1.2 h e)⟩
theorem qY.bounds(hT:∀lo hi c l q,T lo hi c l q->∀x∈l,inB lo hi x.1)(h:qY T lo hi keys kids l q):∀x∈l,inB lo hi x.1:=by
 induction h with
 | one h=>exact hT _ _ _ _ _ h
 | cons h1 h2 _ ih =>
  intro x hx;rcases uM.1 hx with hx|hx
  .exact zL5 h2 (hT _ _ _ _ _ h1 x hx)
  .exact zOD h2 (ih x hx)
theorem vX.bounds:∀(d:Nat) (lo:ByteArray) (hi:Option ByteArray) (id:Nat) (l:List zL) (q:List Nat),vX G gen d lo hi id l q->∀x∈l,inB lo hi x.1
 | 0,_,_,_,_,_,h=>h.elim
 | d+1,lo,hi,id,l,q,h=>by
  obtain⟨n,q,_,_,_,h⟩:=h;rcases h with ⟨_,_,_,_,h⟩|⟨_,h⟩
  .exact h
  .exact h.bounds (vX.bounds d)
theorem qY.mono(h:qY T lo hi keys kids l q):(∀lo hi c l p,(∀x∈p,x∈q)->T lo hi c l p->T' lo hi c l p)->qY T' lo hi keys kids l q:=by
 induction h with
 | one h=>exact λhm=>.one (hm _ _ _ _ _ (λ_ hx=>hx) h)
 | cons h1 h2 _ ih=>exact λhm=>.cons (hm _ _ _ _ _ (λ_ hx=>wE _ hx) h1) h2 (ih (λlo hi c l p hp=>hm lo hi c l p (λx hx=>wK _ (hp x hx))))
theorem zDv.mono{e:zM}{v:ByteArray}{ids:List Nat}(h:zDv G gen e v ids)(hg:gen<=gen')(hb:G'.blocks=G.blocks)(hs:G'.size=G.size)(hv:∀i∈ids,G'.view i=G.view i):zDv G' gen' e v ids :=
 h.imp id (λh=>⟨h.1,h.2.mono hg hb hs hv⟩)
theorem vU.mono{es:List zM}(h:vU G gen es l q):gen<=gen'->G'.blocks=G.blocks->G'.size=G.size->(∀i∈q,G'.view i=G.view i)->vU G' gen' es l q:=by
 induction h with
 | nil=>exact λ_ _ _ _=>.nil
 | cons h1 h2 _ ih=>exact λhg hb hs hv=>.cons h1 (h2.mono hg hb hs (λi hi=>hv i (wE _ hi))) (ih hg hb hs (λi hi=>hv i (wK _ hi)))
theorem PgN.mono{id:Nat}{n:zI}(h:PgN G gen id n)(hg:gen<=gen')(hb:G'.blocks=G.blocks)(hs:G'.size=G.size)(hv:G'.view id=G.view id):PgN G' gen' id n:=by
 obtain⟨p,h1,h2,h3⟩:=h.page;exact⟨h.lo,by rw[hb];exact h.lt,⟨p,hv.trans h1,uP h2 hg,h3⟩,by rw[hs];exact h.fit⟩
theorem vX.mono(hg:gen<=gen')(hb:G'.blocks=G.blocks)(hs:G'.size=G.size):∀(d:Nat) (lo:ByteArray) (hi:Option ByteArray) (id:Nat) (l:List zL) (q:List Nat),(∀i∈q,G'.view i=G.view i)->vX G gen d lo hi id l q->vX G' gen' d lo hi id l q
 | 0,_,_,_,_,_,_,h=>h.elim
 | d+1,lo,hi,id,l,pgs,hv,h=>by
  obtain⟨n,q,h1,h2,rfl,h3⟩:=h;refine⟨n,q,h1.mono hg hb hs (hv id uK),h2,rfl,?_⟩;have At:∀i∈q,G'.view i=G.view i:=λi hi=>hv i (uJ _ hi)
  rcases h3 with ⟨a1,a2,a3,a4,a5⟩|⟨a1,a2⟩
  .exact .inl ⟨a1,a2,a3,a4.mono hg hb hs At,a5⟩
  .exact .inr ⟨a1,a2.mono (λlo hi c l p hp=>vX.mono hg hb hs d lo hi c l p (λi hi=>At i (hp i hi)))⟩
theorem zIb.mono{d:Nat}{n:zI}(h:zIb G gen (vX G gen d) d lo hi n l q)(hg:gen<=gen')(hb:G'.blocks=G.blocks)(hs:G'.size=G.size)(hv:∀i∈q,G'.view i=G.view i):zIb G' gen' (vX G' gen' d) d lo hi n l q:=by
 rcases h with ⟨a1,a2,a3,a4,a5⟩|⟨a1,a2⟩
 .exact .inl ⟨a1,a2,a3,a4.mono hg hb hs hv,a5⟩
 .exact .inr ⟨a1,a2.mono (λlo hi c l p hp=>vX.mono hg hb hs d lo hi c l p (λi hi=>hv i (hp i hi)))⟩
theorem qY.len(h:qY T lo hi keys kids l q):kids.length=keys.length+1:=by
 induction h with
 | one=>rfl
 | cons _ _ _ ih=>simp[ih]
theorem qY.join{s:ByteArray}{k1 k2:List ByteArray}{c1 c2:List Int}{l1 l2:List zL}{q1 q2:List Nat}(h2:qY T s hi k2 c2 l2 q2)(h1:qY T lo (some s) k1 c1 l1 q1):inB lo hi s->qY T lo hi (k1++s :: k2) (c1++c2) (l1++l2) (q1++q2):=by
 generalize ho:(some s:Option ByteArray)=o at h1
 induction h1 with
 | one h=>subst ho;exact λhs=>.cons h hs h2
 | cons h hb _ ih =>
  subst ho;intro hs;have h3:=ih rfl ⟨(by
   have:=hb.2 s rfl;exact zE8 this),hs.2⟩
  simp only[tF,uN];exact .cons h (zL5 hs hb) h3
theorem qY.split:∀(k1:List ByteArray) {s:ByteArray} {k2:List ByteArray} {c1 c2:List Int} {lo:ByteArray} {l:List zL} {q:List Nat},qY T lo hi (k1++s :: k2) (c1++c2) l q->c1.length=k1.length+1->((k1++s :: k2).Pairwise λa b=>ltS a b=true) ->
  ∃l1 l2 q1 q2,qY T lo (some s) k1 c1 l1 q1/\qY T s hi k2 c2 l2 q2/\l=l1++l2/\q=q1++q2/\inB lo hi s
 | [],s,k2,c1,c2,lo,l,q,h,hc,_=>by
  match c1,hc with
  | [c],_ =>
   generalize e1:([]++s :: k2:List ByteArray)=ks at h
   generalize e2:([c]++c2:List Int)=cs at h
   cases h with
   | one h=>simp at e1
   | cons h1 h2 h3 =>
    simp at e1 e2;obtain⟨rfl,rfl⟩:=e1;obtain⟨rfl,rfl⟩:=e2;exact⟨_,_,_,_,.one h1,h3,rfl,rfl,h2⟩
 | a :: k1,s,k2,c1,c2,lo,l,q,h,hc,hp=>by
  match c1,hc with
  | c :: c1,hc =>
   have Au:=wW.1 hp;generalize e1:(a :: k1++s :: k2:List ByteArray)=ks at h
   generalize e2:(c :: c1++c2:List Int)=cs at h
   cases h with
   | one h=>simp at e1
   | cons h1 h2 h3 =>
    simp at e1 e2;obtain⟨rfl,rfl⟩:=e1;obtain⟨rfl,rfl⟩:=e2;obtain⟨l1,l2,q1,q2,j1,j2,rfl,rfl,j3⟩:=qY.split k1 h3 (by simpa using hc) Au.2;exact⟨_,_,_,_,.cons h1 ⟨h2.1,λh e=>by injection e with e;subst e;exact Au.1 _ (by simp)⟩ j1,j2,(uN _ _ _).symm,(uN _ _ _).symm,zOD h2 j3⟩
theorem zFF{key v:ByteArray}{r:List zL}:∀(l1:List zL),(∀x∈l1,ltS x.1 key=true)->yV key v true (l1++r)=l1++yV key v true r
 | [],_=>rfl
 | x :: l1,h=>by
  rw[tF,yV,if_pos (h x uK),zFF l1 (λy hy=>h y (uJ _ hy))];rfl
theorem zEM{key v:ByteArray}{l2:List zL}(h2:∀x∈l2,ltS key x.1=true):∀(lm:List zL),yV key v true (lm++l2)=yV key v true lm++l2
 | []=>by
  cases l2 with
  | nil=>rfl
  | cons x l =>
   have h:=h2 x uK;show yV key v true (x :: l)=(key,v) :: x :: l;unfold yV;rw[if_neg (by rw[zE8 h];simp),if_neg (zFi h).symm]
 | x :: lm=>by
  rw[tF,yV,yV];split
  .rw[zEM h2 lm];rfl
  .split
   .rfl
   .rfl
theorem zGh{key:ByteArray}{l1 lm l2:List zL}(h1:∀x∈l1,ltS x.1 key=true)(h2:∀x∈l2,ltS key x.1=true):qI key (l1++(lm++l2))=qI key lm:=by
 rw[zAy,zAy,zEi h1,zF0 h2];simp
theorem qY.at_(hT:∀lo hi c l q,T lo hi c l q->∀x∈l,inB lo hi x.1)(h:qY T lo hi keys kids l q){key:ByteArray}:inB lo hi key ->
  ∃(k1 k2:List ByteArray) (c1:List Int) (c:Nat) (c2:List Int) (l1 lm l2:List zL) (q1 qm q2:List Nat) (lo':ByteArray) (hi':Option ByteArray),
   keys=k1++k2/\kids=c1++(c:Int) :: c2/\c1.length=k1.length/\vZ key keys=k1.length/\l=l1++(lm++l2)/\q=q1++(qm++q2)/\T lo' hi' c lm qm/\inB lo' hi' key /\
   (∀x∈l1,ltS x.1 key=true)/\(∀x∈l2,ltS key x.1=true) /\
   (∀(T':zDR) (ks:List ByteArray) (cs:List Int) (lm':List zL) (qm':List Nat),qY T' lo' hi' ks cs lm' qm'->(∀lo hi c l p,(∀x∈p,x∈q1\/x∈q2)->T lo hi c l p->T' lo hi c l p)->qY T' lo hi (k1++(ks++k2)) (c1++(cs++c2)) (l1++(lm'++l2)) (q1++(qm'++q2))):=by
 induction h with
 | @one lo hi c l q h =>
  intro hk;refine⟨[],[],[],c,[],[],l,[],[],q,[],lo,hi,rfl,rfl,rfl,rfl,by simp,by simp,h,hk,by simp,by simp,λT' ks cs lm' qm' h2 _=>by simpa using h2⟩
 | @cons lo hi s c keys kids l1 l2 q1 q2 h1 h2 h3 ih =>
  intro hk;cases A4:ltS key s with
  | true =>
   refine⟨[],s :: keys,[],c,kids,[],l1,l2,[],q1,q2,lo,some s,rfl,rfl,rfl,?_,rfl,rfl,h1,⟨hk.1,λh e=>by injection e with e;subst e;exact A4⟩,by simp,λx hx=>?_,λT' ks cs lm' qm' j1 j2=>?_⟩
   .unfold vZ;rw[List.findIdx_cons,A4];rfl
   .exact zB1 A4 (h3.bounds hT x hx).1
   .show qY T' lo hi (ks++s :: keys) (cs++kids) (lm'++l2) (qm'++q2);exact qY.join (h3.mono (λlo hi c l p hp=>j2 lo hi c l p (λx hx=>.inr (hp x hx)))) j1 h2
  | false =>
   obtain⟨k1,k2,c1,c',c2,m1,mm,m2,p1,pm,p2,lo',hi',rfl,rfl,e3,e4,rfl,rfl,e7,e8,e9,e10,e11⟩:=ih ⟨A4,hk.2⟩;refine⟨s :: k1,k2,(c:Int) :: c1,c',c2,l1++m1,mm,m2,q1++p1,pm,p2,lo',hi',rfl,rfl,by simp[e3],?_,by simp,by simp,e7,e8,λx hx=>?_,e10,λT' ks cs lm' qm' j1 j2=>?_⟩
   .unfold vZ at e4 ⊢;rw[List.findIdx_cons,A4];simp[e4]
   .rcases uM.1 hx with hx|hx
    .exact zB1 ((hT _ _ _ _ _ h1 x hx).2 s rfl) A4
    .exact e9 x hx
   .have:=qY.cons (T:=T') (j2 _ _ _ _ _ (λx hx=>.inl (wE _ hx)) h1) h2 (e11 T' ks cs lm' qm' j1 (λlo hi c l p hp=>j2 lo hi c l p (λx hx=>(hp x hx).imp (wK _) id)));simpa using this
end
theorem zBZ(d:Nat->Nat):∀(m b a x:Nat),(x=b\/(a<=x/\x<a+m))->d (vD d b a m)<=d x
 | 0,b,a,x,h=>by
  rcases h with rfl|h
  .exact uD _
  .omega
 | m+1,b,a,x,h=>by
  rw[vD];by_cases Aa:d a<d b
  .rw[if_pos Aa];rcases h with rfl|⟨h1,h2⟩
   .exact uP (zBZ d m a (a+1) a (.inl rfl)) (Nat.le_of_lt Aa)
   .by_cases e:x=a
    .exact zBZ d m a (a+1) x (.inl e)
    .exact zBZ d m a (a+1) x (.inr ⟨by omega,by omega⟩)
  .rw[if_neg Aa];rcases h with rfl|⟨h1,h2⟩
   .exact zBZ d m x (a+1) x (.inl rfl)
   .by_cases e:x=a
    .subst e;exact uP (zBZ d m b (x+1) b (.inl rfl)) (by omega)
    .exact zBZ d m b (a+1) x (.inr ⟨by omega,by omega⟩)
theorem zIc(g:Nat->Int)(lo:Nat):∀(k:Nat),g lo<=0->0<g (lo+k)->∃a,lo<=a/\a<lo+k/\g a<=0/\0<g (a+1)
 | 0,h1,h2=>by simp only[uT] at h2;omega
 | k+1,h1,h2=>by
  by_cases h3:0<g (lo+k)
  .obtain⟨a,a1,a2,a3,a4⟩:=zIc g lo k h1 h3;exact⟨a,a1,by omega,a3,a4⟩
  .exact⟨lo+k,by omega,by omega,by omega,h2⟩
theorem zGi(g:Nat->Int)(M:Int)(lo k:Nat)(h1:g lo<=M)(h2 : -M<=g (lo+k))(h3:∀a,lo<=a->a<lo+k->g (a+1)-g a<=2 * M):∃a,lo<=a/\a<=lo+k /\ -M<=g a/\g a<=M:=by
 by_cases c1:0<g lo
 .exact⟨lo,uD _,by omega,by omega,h1⟩
 .by_cases c2:g (lo+k)<=0
  .exact⟨lo+k,by omega,uD _,h2,by omega⟩
  .obtain⟨a,a1,a2,a3,a4⟩:=zIc g lo k (by omega) (by omega);have:=h3 a a1 a2;by_cases c3 : -M<=g a
   .exact⟨a,a1,by omega,c3,by omega⟩
   .exact⟨a+1,by omega,by omega,by omega,by omega⟩
theorem zJz{l:List zM}{k:Nat}{e:zM}(h:l[k]? = some e):yM (l.take (k+1))=yM (l.take k)+zAB e:=by
 rw[vO l k e h,zAK];simp[yM]
theorem zPP{l:List ByteArray}{k:Nat}{e:ByteArray}(h:l[k]? = some e):yW (l.take (k+1))=yW (l.take k)+(5+(e.size:Int)):=by
 rw[vO l k e h,jP];simp[yW]
theorem zId(l:List zM)(k:Nat):yM (l.take k)+yM (l.drop k)=yM l:=by
 rw[<- zAK,uZ]
theorem zNN(l:List ByteArray)(k:Nat):yW (l.take k)+yW (l.drop k)=yW l:=by
 rw[<- jP,uZ]
theorem zGJ{M:Int}:∀(l:List zM),(∀e∈l,zAB e<=M)->yM l<=M * l.length
 | [],_=>by simp[yM]
 | e :: l,h=>by
  have h1:=h e uK;have h2:=zGJ l (λx hx=>h x (uJ _ hx));rw[yM,uG,Int.natCast_add,Int.mul_add];simp only[Int.natCast_one,Int.mul_one];omega
theorem zOE{M:Int}:∀(l:List ByteArray),(∀e∈l,5+(e.size:Int)<=M)->yW l<=M * l.length
 | [],_=>by simp[yW]
 | e :: l,h=>by
  have h1:=h e uK;have h2:=zOE l (λx hx=>h x (uJ _ hx));rw[yW,uG,Int.natCast_add,Int.mul_add];simp only[Int.natCast_one,Int.mul_one];omega
theorem zFG{e:zM}(h:qR e=true):zAB e<=59:=by
 unfold qR at h;simp only[uI] at h;have hk:=(zA5 e.key).1 h.1;have h2:=h.2;unfold zAB;by_cases hc:e.chain=0
 .rw[if_pos hc] at h2 ⊢;simp only[uI,uO] at h2;omega
 .rw[if_neg hc];omega
theorem zAO{n:zI}(h:zO n=true):∀e∈n.entries,qR e=true:=by
 unfold zO at h;split at h
 .simp only[uI,tA] at h;exact h.1.1.1.1
 .simp only[uI,wR] at h;intro e he;rw[h.1.1.1.1.1.1.1] at he;simp at he
theorem zBt{n:zI}(h:zO n=true):∀s∈n.keys,jO s=true:=by
 unfold zO at h;split at h
 .simp only[uI,wR] at h;intro e he;rw[h.1.1.1.2] at he;simp at he
 .simp only[uI,tA] at h;exact h.1.2
def zL6(n:zI):Option Nat:=if zO n=true/\0<jT n then some (vD (zA0 n) (vJ n) (vJ n) (jT n)) else none
theorem zKr(n:zI):zEa n=(zL6 n).map (zW n):=by
 unfold zEa zL6;split <;> rfl
section
variable {n:zI}{a:Nat}
theorem zC9(hl:n.leaf=true)(hf:zBB n):zH (zW n a).1=2+yM (n.entries.take a)/\zH (zW n a).2.2=2+(yM n.entries-yM (n.entries.take a))/\zH n=2+yM n.entries:=by
 have h:=zId n.entries a;unfold zBB at hf;rw[if_pos hl] at hf;rw[zCh hl,zCi hl];unfold zH;simp only[hl,tU,yW,hf.1];omega
theorem zGj(hl:n.leaf=false)(hf:zBB n):zH (zW n a).1=6+yW (n.keys.take (a-1))/\zH (zW n a).2.2=6+(yW n.keys-yW (n.keys.take a))/\zH n=6+yW n.keys:=by
 have h:=zNN n.keys a;unfold zBB at hf;rw[if_neg (by rw[hl];simp)] at hf;rw[zC5 hl,zC6 hl];unfold zH;simp only[hl,wI,tX,yM,hf.1];omega
theorem zIe(hr:zO n=true)(hf:zBB n){x:Nat}(hx:zBV n x){M:Int}(hM:(zA0 n x:Int)<=M) :
  ∃a,zBV n a/\zL6 n=some a/\zH (zW n a).1-zH (zW n a).2.2<=M/\zH (zW n a).2.2-zH (zW n a).1<=M:=by
 have A6:0<jT n/\vJ n<=x/\x<vJ n+jT n:=by
  unfold jT vJ;cases hl:n.leaf with
  | true=>have:=hx.leaf hl;simp only[tU];omega
  | false=>have:=hx.inner hl;simp only[wI,tX];omega
 obtain⟨p1,p2⟩:=zOk n A6.1;have hb:=zBZ (zA0 n) (jT n) (vJ n) (vJ n) x (.inr A6.2);generalize hq:vD (zA0 n) (vJ n) (vJ n) (jT n)=q at p1 p2 hb
 have Ab:=zLz p1 p2;have hu:=zDu hf Ab;refine⟨q,Ab,?_,?_⟩
 .unfold zL6;rw[if_pos ⟨hr,A6.1⟩,hq]
 .split at hu <;> omega
theorem zQs(hr:zO n=true){W:Int}(hW:232<=W)(h1:W<zH n)(h2:zH n+61<=2 * W) :
  ∃a,zBV n a/\zL6 n=some a/\zH (zW n a).1<=W/\zH (zW n a).2.2<=W:=by
 have hf:=vB hr;cases hl:n.leaf with
 | true =>
  have hM:∀e∈n.entries,zAB e<=59:=λe he=>zFG (zAO hr e he)
  obtain⟨_,_,hw⟩:=zC9 (a:=0) hl hf;have hs:=zGJ n.entries hM;have Ac:4<=n.entries.length:=by omega
  obtain⟨L,hL⟩:∃L,n.entries.length=L+2:=⟨n.entries.length-2,by omega⟩;have A3:∀k,k<n.entries.length->∃e,n.entries[k]? = some e/\zAB e<=59/\0<=zAB e/\yM (n.entries.take (k+1))=yM (n.entries.take k)+zAB e:=λk hk=>by
   refine⟨n.entries[k],uB hk,hM _ (tB hk),?_,zJz (uB hk)⟩;have:=zBO n.entries[k];omega
  have h0:yM (n.entries.take 0)=0:=by simp[yM]
  have A7:yM (n.entries.take n.entries.length)=yM n.entries:=by rw[wZ]
  obtain⟨a,a1,a2,a3,a4⟩:=zGi (λa=>2 * yM (n.entries.take a)-yM n.entries) 59 1 L (by
   obtain⟨e,_,e2,e3,e4⟩:=A3 0 (by omega);have:=zBv n.entries 1;simp only[wG] at e4;show 2 * yM (n.entries.take 1)-yM n.entries<=59;omega) (by
   obtain⟨e,_,e2,e3,e4⟩:=A3 (1+L) (by omega);rw[show 1+L+1=n.entries.length by omega,A7] at e4;have:=zAe (n.entries.take (1+L));show -59<=2 * yM (n.entries.take (1+L))-yM n.entries;omega) (λk k1 k2=>by
   obtain⟨e,_,e2,e3,e4⟩:=A3 k (by omega);show 2 * yM (n.entries.take (k+1))-yM n.entries-(2 * yM (n.entries.take k)-yM n.entries)<=2 * 59;omega)
  have hp:zBV n a:=⟨λ_=>by omega,λhc=>(by rw[hl] at hc;cases hc)⟩;have hu:=zDu hf hp;obtain⟨w1,w2,_⟩:=zC9 (a:=a) hl hf;obtain⟨b,b1,b2,b3,b4⟩:=zIe hr hf hp (M:=59) (by split at hu <;> omega);obtain⟨v1,v2,_⟩:=zC9 (a:=b) hl hf;exact⟨b,b1,b2,by omega,by omega⟩
 | false =>
  have hM:∀s∈n.keys,5+(s.size:Int)<=37:=λs hs=>by have:=(zA5 s).1 (zBt hr s hs);omega
  obtain⟨_,_,hw⟩:=zGj (a:=0) hl hf;have hs:=zOE n.keys hM;have Ac:4<=n.keys.length:=by omega
  have B4:n.kids.length=n.keys.length+1:=(zB2 hr hl).2.1;obtain⟨L,hL⟩:∃L,n.keys.length=L+3:=⟨n.keys.length-3,by omega⟩;have A3:∀k,k<n.keys.length->∃e,0<=e/\e<=37/\yW (n.keys.take (k+1))=yW (n.keys.take k)+e:=λk hk=>by
   have:=hM _ (tB hk);exact⟨5+(n.keys[k].size:Int),by omega,this,zPP (uB hk)⟩
  have h0:yW (n.keys.take 0)=0:=by simp[yW]
  have A7:yW (n.keys.take n.keys.length)=yW n.keys:=by rw[wZ]
  obtain⟨a,a1,a2,a3,a4⟩:=zGi (λa=>yW (n.keys.take (a-1))+yW (n.keys.take a)-yW n.keys) 37 2 L (by
   obtain⟨e,e2,e3,e4⟩:=A3 0 (by omega);obtain⟨f,f2,f3,f4⟩:=A3 1 (by omega);have:=zC2 n.keys 2;simp only[wG] at e4 f4;show yW (n.keys.take 1)+yW (n.keys.take 2)-yW n.keys<=37;omega) (by
   obtain⟨e,e2,e3,e4⟩:=A3 (2+L) (by omega);rw[show 2+L+1=n.keys.length by omega,A7] at e4;have:=zAt (n.keys.take (2+L-1));show -37<=yW (n.keys.take (2+L-1))+yW (n.keys.take (2+L))-yW n.keys;omega) (λk k1 k2=>by
   obtain⟨e,e2,e3,e4⟩:=A3 k (by omega);obtain⟨f,f2,f3,f4⟩:=A3 (k-1) (by omega);rw[show k-1+1=k by omega] at f4;show yW (n.keys.take (k+1-1))+yW (n.keys.take (k+1))-yW n.keys-(yW (n.keys.take (k-1))+yW (n.keys.take k)-yW n.keys)<=2 * 37;rw[rK];omega)
  have hp:zBV n a:=⟨λhc=>(by rw[hl] at hc;cases hc),λ_=>by omega⟩;have hu:=zDu hf hp;obtain⟨w1,w2,_⟩:=zGj (a:=a) hl hf;obtain⟨b,b1,b2,b3,b4⟩:=zIe hr hf hp (M:=37) (by split at hu <;> omega);obtain⟨v1,v2,_⟩:=zGj (a:=b) hl hf;have h3:=b1.inner hl;obtain⟨f,f2,f3,f4⟩:=A3 (b-1) (by omega);rw[show b-1+1=b by omega] at f4;exact⟨b,b1,b2,by omega,by omega⟩
theorem zOF(hr:zO n=true){W:Int}(hW:232<=W)(h1:W<zH n)(h2:zH n<=W+77) :
  ∃a,zBV n a/\zEa n=some (zW n a)/\zH (zW n a).1<=W/\zH (zW n a).2.2<=W:=by
 obtain⟨a,a1,a2,a3⟩:=zQs hr hW h1 (by omega);exact⟨a,a1,by rw[zKr,a2];rfl,a3⟩
end
theorem zDf{es:List zM}(h1:∀e∈es,qR e=true)(h2:(es.map (·.key)).Pairwise λa b=>ltS a b=true)(h3:es.length<=65535):zO ⟨true,es,[],[]⟩=true:=by
 unfold zO;simp only[tU,uI,uO,tA];exact⟨⟨⟨⟨h1,rfl⟩,rfl⟩,zGb h2⟩,h3⟩
theorem zKs{keys:List ByteArray}{kids:List Int}(h1:2<=kids.length)(h2:kids.length=keys.length+1)(h3:∀k∈kids,2<=k/\k<256)(h4:kids.Nodup)(h5:∀s∈keys,jO s=true)(h6:keys.Pairwise λa b=>ltS a b=true):zO ⟨false,[],keys,kids⟩=true:=by
 unfold zO;simp only[wI,tX,uI,uO,tA];have h7:=zEF 256 kids h4 (λi hi=>by have:=h3 i hi;omega);exact⟨⟨⟨⟨⟨⟨⟨rfl,h1⟩,h2⟩,h7⟩,λk hk=>by have:=h3 k hk;simp[zCn];omega⟩,h4⟩,h5⟩,zGb h6⟩
theorem zFH{n:zI}(h:zO n=true):n.entries.length<=65535/\n.kids.length<=256/\(n.leaf=false->2<=n.kids.length):=by
 unfold zO at h;split at h
 .rename_i hl;simp only[uI,uO,wR] at h;refine⟨h.2,by rw[h.1.1.2];simp,λhf=>by rw[hl] at hf;cases hf⟩
 .simp only[uI,uO,wR] at h;obtain⟨⟨⟨⟨⟨⟨⟨h1,h2⟩,h3⟩,h4⟩,h5⟩,h6⟩,h7⟩,h8⟩:=h;exact⟨by rw[h1];simp,h4,λ_=>h2⟩
section
variable {G G':GA}{gen:Nat}{T:zDR}{lo:ByteArray}{hi:Option ByteArray}{l:List zL}{q:List Nat}{kk:List ByteArray}{cc:List Int}
theorem vU.keys{es:List zM}(h:vU G gen es l q):es.map (·.key)=l.map (·.1):=by
 induction h with
 | nil=>rfl
 | cons h1 _ _ ih=>simp[h1,ih]
theorem vU.len{es:List zM}(h:vU G gen es l q):es.length=l.length:=by
 have:=congrArg List.length h.keys;simpa using this
theorem vU.append{es1 es2:List zM}{l1 l2:List zL}{q1 q2:List Nat}(h1:vU G gen es1 l1 q1)(h2:vU G gen es2 l2 q2):vU G gen (es1++es2) (l1++l2) (q1++q2):=by
 induction h1 with
 | nil=>exact h2
 | cons a b _ ih=>simp only[tF,uN];exact .cons a b ih
theorem vU.split:∀(es1:List zM) {es2:List zM} {l:List zL} {q:List Nat},vU G gen (es1++es2) l q->∃l1 l2 q1 q2,vU G gen es1 l1 q1/\vU G gen es2 l2 q2/\l=l1++l2/\q=q1++q2
 | [],es2,l,q,h=>⟨[],l,[],q,.nil,h,rfl,rfl⟩
 | e :: es1,es2,l,q,h=>by
  generalize hs:e :: es1++es2=es at h
  cases h with
  | nil=>simp at hs
  | cons a b c =>
   simp only[tF,List.cons.injEq] at hs;obtain⟨rfl,rfl⟩:=hs;obtain⟨l1,l2,q1,q2,h1,h2,rfl,rfl⟩:=vU.split es1 c;exact⟨_,_,_,_,.cons a b h1,h2,rfl,(uN _ _ _).symm⟩
theorem vU.one{e:zM}{x:zL}{ids:List Nat}(h1:e.key=x.1)(h2:zDv G gen e x.2 ids):vU G gen [e] [x] ids:=by
 have:=vU.cons h1 h2 .nil;simpa using this
theorem vU.lt{es:List zM}(h:vU G gen es l q):∀i∈q,2<=i/\i<G.blocks:=by
 induction h with
 | nil=>intro i hi;simp at hi
 | cons _ b _ ih =>
  intro i hi;rcases uM.1 hi with hi|hi
  .rcases b with ⟨_,_,b⟩|⟨_,b⟩
   .rw[b] at hi;simp at hi
   .exact b.lt i hi
  .exact ih i hi
theorem qY.ne(hT:∀lo hi c l q,T lo hi c l q->l≠[])(h:qY T lo hi kk cc l q):l≠[]:=by
 cases h with
 | one h=>exact hT _ _ _ _ _ h
 | cons h _ _=>exact λe=>hT _ _ _ _ _ h (List.append_eq_nil_iff.1 e).1
theorem vX.ne:∀(d:Nat) (lo:ByteArray) (hi:Option ByteArray) (id:Nat) (l:List zL) (q:List Nat),vX G gen d lo hi id l q->l≠[]
 | 0,_,_,_,_,_,h=>h.elim
 | d+1,lo,hi,id,l,q,h=>by
  obtain⟨n,q,_,_,_,h⟩:=h;rcases h with ⟨_,_,h,_⟩|⟨_,h⟩
  .exact h
  .exact h.ne (vX.ne d)
theorem qY.ltq(hT:∀lo hi c l q,T lo hi c l q->∀i∈q,2<=i/\i<G.blocks)(h:qY T lo hi kk cc l q):∀i∈q,2<=i/\i<G.blocks:=by
 induction h with
 | one h=>exact hT _ _ _ _ _ h
 | cons h _ _ ih =>
  intro i hi;rcases uM.1 hi with hi|hi
  .exact hT _ _ _ _ _ h i hi
  .exact ih i hi
theorem vX.ltq:∀(d:Nat) (lo:ByteArray) (hi:Option ByteArray) (id:Nat) (l:List zL) (q:List Nat),vX G gen d lo hi id l q->∀i∈q,2<=i/\i<G.blocks
 | 0,_,_,_,_,_,h=>h.elim
 | d+1,lo,hi,id,l,q,h=>by
  obtain⟨n,q,hp,_,rfl,h⟩:=h;intro i hi;rcases uQ.1 hi with rfl|hi
  .exact⟨hp.lo,hp.lt⟩
  .rcases h with ⟨_,_,_,h,_⟩|⟨_,h⟩
   .exact h.lt i hi
   .exact h.ltq (vX.ltq d) i hi
theorem qY.heads(hT:∀lo hi c l q,T lo hi c l q->∃r,q=c :: r)(h:qY T lo hi kk cc l q):∃ks:List Nat,cc=ks.map (λ(i:Nat)=>(i:Int))/\ks.Sublist q:=by
 induction h with
 | @one lo hi c l q h =>
  obtain⟨r,rfl⟩:=hT _ _ _ _ _ h;exact⟨[c],rfl,List.Sublist.cons_cons _ (List.nil_sublist _)⟩
 | @cons lo hi s c keys kids l1 l2 q1 q2 h _ _ ih =>
  obtain⟨r,rfl⟩:=hT _ _ _ _ _ h;obtain⟨ks,rfl,hs⟩:=ih;exact⟨c :: ks,rfl,List.Sublist.cons_cons _ (hs.trans (List.sublist_append_right _ _))⟩
theorem vX.head:∀(d:Nat) (lo:ByteArray) (hi:Option ByteArray) (id:Nat) (l:List zL) (q:List Nat),vX G gen d lo hi id l q->∃r,q=id :: r
 | 0,_,_,_,_,_,h=>h.elim
 | d+1,lo,hi,id,l,q,h=>by
  obtain⟨n,q,_,_,rfl,_⟩:=h;exact⟨_,rfl⟩
theorem qY.rise(hb:∀lo hi c l q,T lo hi c l q->∀x∈l,inB lo hi x.1)(hT:∀lo hi c l q,T lo hi c l q->l≠[])(h:qY T lo hi kk cc l q):(kk.Pairwise λa b=>ltS a b=true)/\∀s∈kk,ltS lo s=true:=by
 induction h with
 | one=>exact⟨List.Pairwise.nil,λs hs=>by simp at hs⟩
 | @cons lo hi s c keys kids l1 l2 q1 q2 h _ _ ih =>
  have Av:ltS lo s=true:=by
   obtain⟨x,hx⟩:=List.exists_mem_of_ne_nil _ (hT _ _ _ _ _ h);have:=hb _ _ _ _ _ h x hx;exact zKR this.1 (this.2 s rfl)
  refine⟨wW.2 ⟨λt ht=>ih.2 t ht,ih.1⟩,λt ht=>?_⟩;rcases uQ.1 ht with rfl|ht
  .exact Av
  .exact zAq Av (ih.2 t ht)
theorem qY.right{d:Nat}(h:qY (vX G gen d) lo hi kk cc l q)(hn:q.Nodup)(hk:∀s∈kk,jO s=true)(h2:2<=cc.length)(hb:G.blocks<=256):zO ⟨false,[],kk,cc⟩=true:=by
 obtain⟨ks,rfl,hs⟩:=h.heads (vX.head d);refine zKs h2 h.len (λk hk=>?_) ?_ hk (h.rise (vX.bounds d) (vX.ne d)).1
 .obtain⟨i,hi,rfl⟩:=nP.1 hk;have:=h.ltq (vX.ltq d) i (hs.subset hi);omega
 .exact tI.2 ((hn.sublist hs).imp (λh e=>h (by omega)))
theorem zIb.cut{d:Nat}{n:zI}{a:Nat}(hb:zIb G gen (vX G gen d) d lo hi n l q)(hr:zO n=true)(hp:zBV n a)(hq:q.Nodup)(Aw:G.blocks<=256) :
  ∃l1 l2 q1 q2,zIb G gen (vX G gen d) d lo (some (zW n a).2.1) (zW n a).1 l1 q1/\zIb G gen (vX G gen d) d (zW n a).2.1 hi (zW n a).2.2 l2 q2/\l=l1++l2/\q=q1++q2 /\
   inB lo hi (zW n a).2.1/\jO (zW n a).2.1=true/\zO (zW n a).1=true/\zO (zW n a).2.2=true:=by
 rcases hb with ⟨hl,hd,As,he,Ak⟩|⟨hl,hk⟩
 .have Ab:=hp.leaf hl;have A0:=zAO hr;have A9:=zBS hr hl;have Ac:n.entries.length<=65535:=by
   unfold zO at hr;rw[if_pos hl] at hr;simp only[uI,uO] at hr;exact hr.2
  obtain⟨e,Al⟩:∃e,n.entries[a]? = some e:=⟨_,uB Ab.2⟩;have Am:zW n a=(⟨true,n.entries.take a,[],[]⟩,e.key,⟨true,n.entries.drop a,[],[]⟩):=by unfold zW;rw[if_pos hl,Al]
  rw[Am];simp only;have B5:vU G gen (n.entries.take a++n.entries.drop a) l q:=by rw[uZ];exact he
  obtain⟨l1,l2,q1,q2,s1,s2,rfl,rfl⟩:=vU.split _ B5;have Ad:=he.keys;have Ae:zAx (l1++l2):=by
   rw[Ad] at A9;exact tI.1 A9
  have Af:n.entries.drop a=e :: n.entries.drop (a+1):=by
   obtain⟨h1,rfl⟩:=uA.1 Al;exact wD h1
  obtain⟨y,l3,rfl,hy⟩:∃y l3,l2=y :: l3/\e.key=y.1:=by
   have h4:=s2.keys;rw[Af] at h4;cases l2 with
   | nil=>simp at h4
   | cons y l3=>simp only[tS,List.cons.injEq] at h4;exact⟨y,l3,rfl,h4.1⟩
  have Ax:=List.pairwise_append.1 Ae;have An:l1≠[]:=λe1=>by
   have:=s1.len;rw[e1,wB,uL] at this;omega
  have B6:inB lo hi e.key:=by rw[hy];exact Ak y (by simp)
  refine⟨l1,y :: l3,q1,q2,.inl ⟨rfl,hd,An,s1,λx hx=>⟨(Ak x (wE _ hx)).1,λk hk=>?_⟩⟩,.inl ⟨rfl,hd,by simp,s2,λx hx=>⟨?_,(Ak x (wK _ hx)).2⟩⟩,rfl,rfl,B6,?_,?_,?_⟩
  .injection hk with hk;rw[<- hk,hy];exact Ax.2.2 x hx y uK
  .rw[hy];rcases uQ.1 hx with rfl|hx
   .exact jJ _
   .exact zE8 ((wW.1 Ax.2.1).1 x hx)
  .have:=A0 e (uU Al);unfold qR at this;simp only[uI] at this;exact this.1
  .refine zDf (λx hx=>A0 x (rG hx)) ?_ (by rw[wB];omega);rw[List.map_take];exact A9.sublist (List.take_sublist _ _)
  .refine zDf (λx hx=>A0 x (rS hx)) ?_ (by rw[wN];omega);rw[List.map_drop];exact A9.sublist (List.drop_sublist _ _)
 .have Ab:=hp.inner hl;obtain⟨A9,B4,_⟩:=zB2 hr hl;have Ao:=zBt hr;have Aa:a-1<n.keys.length:=by omega
  obtain⟨s,hs⟩:∃s,n.keys[a-1]? = some s:=⟨_,uB Aa⟩;have Am:zW n a=(⟨false,[],n.keys.take (a-1),n.kids.take a⟩,s,⟨false,[],n.keys.drop a,n.kids.drop a⟩):=by
   unfold zW;rw[if_neg (by rw[hl];simp)];simp[List.getD,hs]
  have Ay:n.keys=n.keys.take (a-1)++s :: n.keys.drop a:=by
   have h1:n.keys.drop (a-1)=s :: n.keys.drop (a-1+1):=by
    obtain⟨h1,rfl⟩:=uA.1 hs;exact wD h1
   rw[show a-1+1=a by omega] at h1;rw[<- h1,uZ]
  have A4:qY (vX G gen d) lo hi (n.keys.take (a-1)++s :: n.keys.drop a) (n.kids.take a++n.kids.drop a) l q:=by rw[<- Ay,uZ];exact hk
  obtain⟨l1,l2,q1,q2,k1,k2,rfl,rfl,k5⟩:=qY.split _ A4 (by rw[wB,wB];omega) (by rw[<- Ay];exact A9);rw[Am];simp only;have A8:=uX.1 hq;refine⟨l1,l2,q1,q2,.inr ⟨rfl,k1⟩,.inr ⟨rfl,k2⟩,rfl,rfl,k5,Ao s (uU hs),?_,?_⟩
  .exact k1.right A8.1 (λt ht=>Ao t (rG ht)) (by rw[wB];omega) Aw
  .exact k2.right A8.2.1 (λt ht=>Ao t (rS ht)) (by rw[wN];omega) Aw
end
structure zCB(G:GA)(l:List Nat):Prop where
 low:zKp l
 len:l.length=G.blocks
 b256:G.blocks<=256
 s256:256<=G.size
 s1024:G.size<=1024
section
variable {G G' G1:GA}{l l' l1:List Nat}{gen:Nat}{lo:ByteArray}{hi:Option ByteArray}{ps:List zL}{q:List Nat}
theorem zCB.upd{A A1:NP}(hc:zCB G l)(h:Upd G l A G' l' A1)(hA:∀i,A i->2<=i):zCB G' l' :=
 ⟨(h.fr hA).lowL hc.low,by rw[h.len,h.bl];exact hc.len,by rw[h.bl];exact hc.b256,by rw[h.sz];exact hc.s256,by rw[h.sz];exact hc.s1024⟩
theorem zCB.free2(hc:zCB G l){i:Nat}(h:l[i]? = some 0):2<=i:=by
 rcases tK i 2 with h2|h2
 .obtain rfl|rfl:i=0\/i=1:=by omega
  .rw[hc.low.1] at h;simp at h
  .rw[hc.low.2] at h;simp at h
 .exact h2
theorem zAk.ne0{A:NP}(hu:zAk l A){i:Nat}(hi:A i):l[i]? ≠ some 0:=λe=>by
 rcases hu i hi with h|h <;> rw[e] at h <;> simp at h
theorem Upd.views{A A1:NP}(h:Upd G l A G1 l1 A1){ids:List Nat}(hd:∀i∈ids,¬ A i)(hu:zAk l (· ∈ ids)):(∀i∈ids,G1.view i=G.view i/\l1[i]? = l[i]? /\ ¬ A1 i)/\zAk l1 (· ∈ ids) :=
 ⟨λi hi=>h.view (hd i hi) (hu.ne0 hi),λi hi=>by rw[(h.view (hd i hi) (hu.ne0 hi)).2.1];exact hu i hi⟩
theorem zL7{old:Nat}(h:jD l old=none)(ho:vK l old):zA4 l<=0:=by
 unfold jD at h;by_cases hz:old=0
 .rw[if_neg (by simp[hz])] at h;rcases Int.lt_or_le 0 (zA4 l) with hp|hp
  .obtain⟨i,hi⟩:=zL3 (l:=l) (by omega);rw[hi] at h;cases h
  .exact hp
 .split at h
  .cases h
  .rename_i hn;rcases ho with ho|⟨_,ho⟩
   .exact absurd ho hz
   .rcases ho with ho|ho
    .rcases Int.lt_or_le 0 (zA4 l) with hp|hp
     .obtain⟨i,hi⟩:=zQn (l:=l) (by omega) ho;rw[hi] at h;cases h
     .exact hp
    .exfalso;refine hn ⟨hz,?_⟩;unfold vS;rw[uH,ho];simp
theorem zEN{old:Nat}{n:zI}(h:qU G l old n=none)(hd:zCt n G.size)(ho:vK l old):zA4 l<=0:=by
 unfold qU at h;rw[if_pos hd] at h;exact zL7 h ho
theorem zRn{n:zI}(hr:zO n=true)(i:Int)(gen:Nat):qJ ⟨zBW n,i,gen,yE n⟩=.inl n:=by
 unfold qJ zBW;cases hl:n.leaf with
 | true =>
  have:=(zH0 true (yE n) n).2 ⟨hr,hl,rfl⟩;simp[this]
 | false =>
  have:=(zH0 false (yE n) n).2 ⟨hr,hl,rfl⟩;simp[this]
theorem zHk{old i d:Nat}{n:zI}(hc:zCB G l)(ho:vK l old)(A5:qU G l old n=some i)(hr:zO n=true)(hb:zIb G gen (vX G gen d) d lo hi n ps q)(hq:q.Nodup)(hu:zAk l (· ∈ q))(Ag:old≠0->old ∉ q)(_h2:∀x∈q,2<=x) :
  Upd G l (λk=>(k=old/\old≠0)\/k∈q) (yQ G l gen old n) (yY G l old n) (λk=>k=i\/k∈q)/\vX (yQ G l gen old n) gen (d+1) lo hi i ps (i :: q)/\(i :: q).Nodup/\2<=i/\zCB (yQ G l gen old n) (yY G l old n) /\
   zAk (yY G l old n) (λk=>k=i\/k∈q)/\vK (yY G l old n) i:=by
 obtain⟨u1,_,u3,u4,u5,u6⟩:=zIa (gen:=gen) ho A5 (by rw[hc.low.1];simp);have Az:∀k,(k=old/\old≠0)->2<=k:=λk hk=>by
  obtain⟨rfl,hz⟩:=hk;rcases ho with h|h
  .exact absurd h hz
  .exact h.1
 have Ai:zAk l (λk=>k=old/\old≠0):=λk hk=>by
  obtain⟨rfl,hz⟩:=hk;rcases ho with h|h
  .exact absurd h hz
  .exact h.2
 have Ah:∀k∈q,¬ (k=old/\old≠0):=λk hk h=>Ag h.2 (h.1 ▸ hk)
 obtain⟨hv,Aj⟩:=u1.views Ah hu;have B7:i ∉ q:=λhm=>(hv i hm).2.2 rfl
 have Ap:2<=i:=by
  rcases u1.inn i rfl with ⟨h,_⟩|⟨h,_⟩
  .exact Az i h
  .exact hc.free2 h
 have B8:=hc.upd u1 Az;have B0:=u1.use Ai;refine⟨u1.frame (λk hk=>⟨Ah k hk,hu.ne0 hk⟩),⟨n,q,⟨Ap,?_,⟨_,u5,uD _,zRn hr _ _⟩,by rw[u1.sz];exact u6.2⟩,hr,rfl,hb.mono (uD _) u1.bl u1.sz (λk hk=>(hv k hk).1)⟩,uV.2 ⟨B7,hq⟩,Ap,B8,λk hk=>?_,.inr ⟨Ap,B0 i rfl⟩⟩
 .rw[u1.bl];have:=hc.len;omega
 .rcases hk with rfl|hk
  .exact B0 k rfl
  .exact Aj k hk
def jH(o:zBH):List ByteArray:=if o.two=true then [o.key] else []
def zBL(o:zBH):List Int:=if o.two=true then [(o.id0:Int),(o.id1:Int)] else [(o.id0:Int)]
structure zPQ(G:GA)(l:List Nat)(A:NP)(gen d:Nat)(lo:ByteArray)(hi:Option ByteArray)(ps:List zL)(G':GA)(l':List Nat)(o:zBH)(pgs:List Nat):Prop where
 upd:Upd G l A G' l' (λk=>k∈pgs)
 nodup:pgs.Nodup
 two:∀i∈pgs,2<=i
 kids:qY (vX G' gen d) lo hi (jH o) (zBL o) ps pgs
 keys:∀s∈jH o,jO s=true
 ctx:zCB G' l'
 use:zAk l' (λk=>k∈pgs)
theorem zJ0{old d:Nat}{n:zI}(hc:zCB G l)(ho:vK l old)(hr:zO n=true)(hw:zH n<=(G.size:Int)-24+77)(hb:zIb G gen (vX G gen d) d lo hi n ps q)(hq:q.Nodup)(hu:zAk l (· ∈ q))(Ag:old≠0->old ∉ q)(h2:∀x∈q,2<=x) :
  (qG G l gen old n=.inr 3/\zA4 l<=1) \/
  ∃G' l' o pgs,qG G l gen old n=.inl (G',l',o)/\o.news=false/\zPQ G l (λk=>(k=old/\old≠0)\/k∈q) gen (d+1) lo hi ps G' l' o pgs/\pgs.length<=q.length+2/\(zH n<=(G.size:Int)-24->o.two=false):=by
 have hs:=hc.s256;by_cases A2:zH n<=(G.size:Int)-24
 .unfold qG;rw[if_pos A2];cases A5:qU G l old n with
  | none =>
   refine .inl ⟨?_,by have:=zEN A5 ⟨hr,A2⟩ ho;omega⟩;unfold zBX;rw[if_pos ⟨hr,A2⟩]
  | some i =>
   obtain⟨a1,a2,a3,a4,a5,a6,a7⟩:=zHk hc ho A5 hr hb hq hu Ag h2;refine .inr ⟨_,_,_,i :: q,rfl,rfl,⟨a1.iff (λ_=>rQ) (λk=>by rw[uQ]),a3,λk hk=>?_,?_,λs hs=>by simp[jH] at hs,a5,λk hk=>a6 k (uQ.1 hk)⟩,by simp,λ_=>rfl⟩
   .rcases uQ.1 hk with rfl|hk
    .exact a4
    .exact h2 k hk
   .exact .one a2
 .obtain⟨a,ha,hcut,w1,w2⟩:=zOF hr (W:=(G.size:Int)-24) (by omega) (by omega) (by omega);obtain⟨l1,l2,q1,q2,b1,b2,rfl,rfl,b5,b6,b7,b8⟩:=hb.cut hr ha hq hc.b256;obtain⟨⟨x,k,y⟩,hx⟩:∃x,x=zW n a:=⟨_,rfl⟩;rw[<- hx] at hcut w1 w2 b1 b2 b5 b6 b7 b8;simp only at w1 w2 b1 b2 b5 b6 b7 b8;have A8:=uX.1 hq;have e:qG G l gen old n=(match qU G l old x with
    | none=>.inr (zBX G x)
    | some i=>match qU (yQ G l gen old x) (yY G l old x) 0 y with
     | none=>.inr (zBX (yQ G l gen old x) y)
     | some j=>.inl (yQ (yQ G l gen old x) (yY G l old x) gen 0 y,yY (yQ G l gen old x) (yY G l old x) 0 y,⟨i,j,k,true,false⟩)):=by
   unfold qG;rw[if_neg A2,hcut];simp only;rw[if_pos ⟨w1,w2⟩];try rfl
  rw[e];cases A5:qU G l old x with
  | none =>
   refine .inl ⟨?_,by have:=zEN A5 ⟨b7,w1⟩ ho;omega⟩;simp only;unfold zBX;rw[if_pos ⟨b7,w1⟩]
  | some i =>
   have Aj:zAk l (· ∈ q1):=λk hk=>hu k (wE _ hk)
   have Aq:zAk l (· ∈ q2):=λk hk=>hu k (wK _ hk)
   obtain⟨a1,a2,a3,a4,a5,a6,a7⟩:=zHk hc ho A5 b7 b1 A8.1 Aj (λhz hm=>Ag hz (wE _ hm)) (λk hk=>h2 k (wE _ hk));simp only;generalize Bf:yQ G l gen old x=Gx at a1 a2 a5 ⊢
   generalize B9:yY G l old x=lx at a1 a5 a6 a7 ⊢
   have B1:∀k∈q2,¬ ((k=old/\old≠0)\/k∈q1):=λk hk h=>by
    rcases h with ⟨rfl,hz⟩|h
    .exact Ag hz (wK _ hk)
    .exact A8.2.2 k h k hk rfl
   obtain⟨v1,v2⟩:=a1.views B1 Aq;have Ai:zAk l (λk=>(k=old/\old≠0)\/k∈q1):=λk hk=>by
    rcases hk with ⟨rfl,hz⟩|hk
    .rcases ho with h|h
     .exact absurd h hz
     .exact h.2
    .exact Aj k hk
   cases B2:qU Gx lx 0 y with
   | none =>
    refine .inl ⟨?_,?_⟩
    .simp only;unfold zBX;rw[if_pos ⟨b8,by rw[a1.sz];exact w2⟩]
    .have h3:=zEN B2 ⟨b8,by rw[a1.sz];exact w2⟩ (.inl rfl);have h4:=(zIa (gen:=gen) ho A5 (by rw[hc.low.1];simp)).2.1;rw[B9] at h4;split at h4 <;> omega
   | some j =>
    have Ba:=b2.mono (uD _) a1.bl a1.sz (λk hk=>(v1 k hk).1);obtain⟨c1,c2,c3,c4,c5,c6,c7⟩:=zHk (gen:=gen) a5 (.inl rfl) B2 b8 Ba A8.2.1 v2 (λh=>absurd rfl h) (λk hk=>h2 k (wK _ hk));simp only;generalize Bg:yQ Gx lx gen 0 y=Gy at c1 c2 c5 ⊢
    generalize Bh:yY Gx lx 0 y=ly at c1 c5 c6 c7 ⊢
    -- the first Bb stays
    have Ar:∀k∈i :: q1,¬ ((k=0/\(0:Nat)≠0)\/k∈q2):=λk hk h=>by
     rcases h with ⟨_,h⟩|h
     .exact h rfl
     .rcases uQ.1 hk with rfl|hk
      .exact (v1 k h).2.2 (.inl rfl)
      .exact A8.2.2 k hk k h rfl
    obtain⟨z1,z2⟩:=c1.views Ar (λk hk=>a6 k (uQ.1 hk));have Bc:vX Gy gen (d+1) lo (some k) i l1 (i :: q1):=vX.mono (uD _) c1.bl c1.sz _ _ _ _ _ _ (λt ht=>(z1 t ht).1) a2;have f1:=a1.frame (B:=λt=>t∈q2) (λt ht=>⟨B1 t ht,Aq.ne0 ht⟩);have f2:=(c1.frame (B:=λt=>t∈i :: q1) (λt ht=>⟨Ar t ht,(λe=>by
     rcases a6 t (uQ.1 ht) with h|h <;> rw[e] at h <;> simp at h)⟩)).iff (A':=λt=>(t=i\/t∈q1)\/t∈q2) (A1':=λt=>t∈(i :: q1)++(j :: q2)) (λt=>by
      simp only[uQ];constructor
      .rintro ((h|h)|h)
       .exact .inr (.inl h)
       .exact .inr (.inr h)
       .exact .inl (.inr h)
      .rintro ((⟨_,h⟩|h)|(h|h))
       .exact absurd rfl h
       .exact .inr h
       .exact .inl (.inl h)
       .exact .inl (.inr h)) (λt=>by
      simp only[uM,uQ];exact or_comm)
    have Bd:zAk l (λt=>((t=old/\old≠0)\/t∈q1)\/t∈q2):=λt ht=>by
     rcases ht with ht|ht
     .exact Ai t ht
     .exact Aq t ht
    have f3:=(f1.trans f2 Bd).iff (A':=λk=>(k=old/\old≠0)\/k∈q1++q2) (A1':=λt=>t∈(i :: q1)++(j :: q2)) (λt=>by
     rw[uM,or_assoc]) (λt=>rQ)
    have Be:=f3.use (λt ht=>by
     rcases ht with ⟨rfl,hz⟩|ht
     .exact Ai t (.inl ⟨rfl,hz⟩)
     .exact hu t ht)
    refine .inr ⟨Gy,ly,_,(i :: q1)++(j :: q2),rfl,rfl,⟨f3,?_,λt ht=>?_,?_,λs hs=>?_,c5,Be⟩,by simp;omega,λh=>absurd h A2⟩
    .refine uX.2 ⟨a3,c3,λt ht u hu e=>?_⟩;subst e;rcases uQ.1 hu with rfl|hu
     .exact (z1 t ht).2.2 (.inl rfl)
     .exact Ar t ht (.inr hu)
    .rcases uM.1 ht with ht|ht
     .rcases uQ.1 ht with rfl|ht
      .exact a4
      .exact h2 t (wE _ ht)
     .rcases uQ.1 ht with rfl|ht
      .exact c4
      .exact h2 t (wK _ ht)
    .exact .cons Bc b5 (.one c2)
    .simp[jH] at hs;rw[hs];exact b6
end
end Go.Proofs.YtalpfcaakpgkmaaGreatDoor
