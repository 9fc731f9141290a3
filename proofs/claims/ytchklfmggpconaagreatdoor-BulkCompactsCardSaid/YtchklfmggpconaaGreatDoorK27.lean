import Derived.Test.YtchklfmggpconaaGreatDoorK26
namespace Go.Proofs.YtchklfmggpconaaGreatDoor
open Go.RowKit
structure zBY where
 id0:Nat
 id1:Nat
 key:ByteArray
 two:Bool
 news:Bool
abbrev StA(α:Type):=(GA × List Nat × α) ⊕ Nat
def vF(G:GA)(l:List Nat)(gen old:Nat)(n:zF):StA zBY :=
 if zD n<=(G.size:Int)-24 then (match qW G l old n with
  | some i=>.inl (yD G l gen old n,yO G l old n,⟨i,0,e0,false,false⟩)
  | none=>.inr (zAp G n))
 else match zDX n with
  | none=>.inr 8
  | some (a,k,b)=>if zD a<=(G.size:Int)-24/\zD b<=(G.size:Int)-24 then (match qW G l old a with
    | none=>.inr (zAp G a)
    | some i=>match qW (yD G l gen old a) (yO G l old a) 0 b with
     | none=>.inr (zAp (yD G l gen old a) b)
     | some j=>.inl (yD (yD G l gen old a) (yO G l old a) gen 0 b,yO (yD G l gen old a) (yO G l old a) 0 b,⟨i,j,k,true,false⟩))
   else .inr 8
def jF(G:GA)(l:List Nat)(gen:Nat)(key v:ByteArray):StA zI :=
 if v.size<=24 then .inl (G,l,⟨key,v,0,0⟩) else match zAf (zCP v.size G.size).toNat l with
  | some (ids,l1)=>.inl (zAG gen v.data.toList (G.size-28) ids ids.length G,l1,⟨key,e0,((ids.getD 0 0:Nat):Int),(v.size:Int)⟩)
  | none=>.inr 3
def qX(G:GA)(n:zF)(key:ByteArray):List Nat:=match n.entries[vY key n.entries]? with
 | none=>[]
 | some e=>if zAt key n.entries=true/\e.chain≠0 then (yY G e.size.toNat e.chain e.size).1.map (λx=>x.1.toNat) else []
def zEt(n:zF)(key:ByteArray)(e:zI):zF :=
  { n with entries:=n.entries.take (vY key n.entries)++[e]++n.entries.drop (vY key n.entries+if zAt key n.entries=true then 1 else 0) }
def zCk(G:GA)(l:List Nat)(gen id:Nat)(n:zF)(key v:ByteArray):StA zBY :=
 match jF (qM G (qX G n key)) (qU l (qX G n key)) gen key v with
 | .inr k=>.inr k
 | .inl (G1,l1,e)=>match vF G1 l1 gen id (zEt n key e) with
  | .inr k=>.inr k
  | .inl (G2,l2,o)=>.inl (G2,l2,{ o with news:=!zAt key n.entries })
def zDw(n:zF)(i:Nat)(o:zBY):zF :=
 if o.two=true then { n with kids:=n.kids.take i++[(o.id0:Int),(o.id1:Int)]++n.kids.drop (i+1),keys:=n.keys.take i++[o.key]++n.keys.drop (i+0) }
 else { n with kids:=n.kids.take i++[(o.id0:Int)]++n.kids.drop (i+1) }
def zC4(gen:Nat)(key v:ByteArray):Nat->GA->List Nat->Nat->StA zBY
 | 0,_,_,_=>.inr 5
 | f+1,G,l,id=>match G.load id with
  | .inr e=>.inr e.2
  | .inl n=>if n.leaf=true then zCk G l gen id n key v else match zC4 gen key v f G l (n.kids.getD (zAY key n.keys) 0).toNat with
   | .inr k=>.inr k
   | .inl (G1,l1,o)=>match vF G1 l1 gen id (zDw n (zAY key n.keys) o) with
    | .inr k=>.inr k
    | .inl (G2,l2,o2)=>.inl (G2,l2,{ o2 with news:=o.news })
def zEu:zF:=⟨true,[],[],[]⟩
def zCF(o:zBY):zF:=⟨false,[],[o.key],[(o.id0:Int),(o.id1:Int)]⟩
def zEG(key v:ByteArray):Option Nat:=if qC key=false then some 2 else if 4096<v.size then some 8 else none
def zIW(G:GA)(l:List Nat)(gen root:Nat)(key v:ByteArray):StA (Nat × Bool) :=
 match zEG key v with
 | some k=>.inr k
 | none=>match (if root=0 then zCk G l gen 0 zEu key v else zC4 gen key v 16 G l root) with
  | .inr k=>.inr k
  | .inl (G1,l1,o)=>if o.two=false then .inl (G1,l1,(o.id0,o.news)) else match qW G1 l1 0 (zCF o) with
   | none=>.inr (zAp G1 (zCF o))
   | some i=>.inl (yD G1 l1 gen 0 (zCF o),yO G1 l1 0 (zCF o),(i,o.news))
structure FrG(G:GA)(l:List Nat)(G':GA)(l':List Nat):Prop where
 sz:G'.size=G.size
 bl:G'.blocks=G.blocks
 len:l'.length=l.length
 keep:∀i,l[i]? = some 1\/l[i]? = some 3->(l'[i]? = some 1\/l'[i]? = some 3)/\G'.look i=G.look i/\(G'.view i=G.view i\/G'.view i=zHJ (G.look i) i)
 low:∀i,i<2->l[i]? = some 1->l'[i]? = some 1
 other:∀i:Nat,l[i]? = some 0\/l[i]? = some 2->l'[i]? = some 0\/l'[i]? = some 2
section
variable {G G1 G2:GA}{l l1 l2:List Nat}
theorem FrG.refl(G:GA)(l:List Nat):FrG G l G l:=⟨rfl,rfl,rfl,λ_ h=>⟨h,rfl,.inl rfl⟩,λ_ _ h=>h,λ_ h=>h⟩
theorem FrG.trans(h:FrG G l G1 l1)(k:FrG G1 l1 G2 l2):FrG G l G2 l2 :=
 ⟨k.sz.trans h.sz,k.bl.trans h.bl,k.len.trans h.len,λi hi=>by
  obtain⟨h1,h2,h3⟩:=h.keep i hi;obtain⟨k1,k2,k3⟩:=k.keep i h1;refine⟨k1,k2.trans h2,?_⟩;rcases k3 with k3|k3
  .rw[k3];exact h3
  .rw[k3,h2];exact .inr rfl,λi hi h1=>k.low i hi (h.low i hi h1),λi hi=>k.other i (h.other i hi)⟩
def zGK(l:List Nat):Prop:=l[0]? = some 1/\l[1]? = some 1
theorem FrG.lowL(h:FrG G l G1 l1)(hl:zGK l):zGK l1:=⟨h.low 0 (by omega) hl.1,h.low 1 (by omega) hl.2⟩
theorem zGK.ok(h:zGK l):zQm l:=⟨by rw[h.1];simp,by rw[h.2];simp⟩
theorem Upd.fr{A A1:Nat->Prop}(h:Upd G l A G1 l1 A1)(hA:∀i,A i->2<=i):FrG G l G1 l1:=by
 refine⟨h.sz,h.bl,h.len,λi hi=>⟨?_,h.keep i hi⟩,λi hi h1=>?_,λi hi=>?_⟩
 .by_cases h1:A1 i
  .rcases h.inn i h1 with ⟨_,h2⟩|⟨h2,_⟩
   .rw[h2];exact hi
   .rcases hi with e|e <;> rw[h2] at e <;> simp at e
  .by_cases ha:A i
   .rcases h.gone i ha h1 with ⟨h2,_⟩|⟨_,h2⟩
    .rcases hi with e|e <;> rw[h2] at e <;> simp at e
    .exact .inr h2
   .rw[(h.rest i ha h1).1];exact hi
 .have ha:¬ A i:=λha=>by have:=hA i ha;omega
  have hn:¬ A1 i:=λh2=>by
   rcases h.inn i h2 with ⟨h3,_⟩|⟨h3,_⟩
   .exact ha h3
   .rw[h3] at h1;simp at h1
  rw[(h.rest i ha hn).1];exact h1
 .by_cases h1:A1 i
  .rcases h.inn i h1 with ⟨_,h2⟩|⟨_,h2⟩
   .rw[h2];exact hi
   .exact .inr h2
  .by_cases ha:A i
   .rcases h.gone i ha h1 with ⟨_,h2⟩|⟨h2,_⟩
    .exact .inl h2
    .rcases hi with e|e <;> rw[h2] at e <;> simp at e
   .rw[(h.rest i ha h1).1];exact hi
theorem zMk{G:GA}{l:List Nat}{old:Nat}{n:zF}(h:qW G l old n=none)(_ho:old=0\/(2<=old/\(l[old]? = some 1\/l[old]? = some 2))):yO G l old n=l:=by
 unfold qW at h;unfold yO;split at h
 .rename_i hd;rw[if_pos hd];unfold zAU at h;unfold zAI;split at h
  .cases h
  .rename_i hf;by_cases hz:old=0
   .rw[if_pos hz];unfold zAs;rw[h]
   .rw[if_neg hz,if_neg (λhf2=>hf ⟨hz,hf2⟩),h]
 .rename_i hd;rw[if_neg hd]
theorem zMl{gen old:Nat}{n:zF}(h:qW G l old n=none):yD G l gen old n=G:=by unfold yD;rw[h]
def vG(l:List Nat)(old:Nat):Prop:=old=0\/(2<=old/\(l[old]? = some 1\/l[old]? = some 2))
theorem vG.ok{old:Nat}(h:vG l old):zJt l old:=h.imp id (λh=>h.2)
theorem vG.two{old:Nat}(h:vG l old):old=0\/2<=old:=h.imp id (λh=>h.1)
theorem vG.lt{old:Nat}(h:vG l old)(hl:l.length<=256):old<256:=by
 rcases h with rfl|⟨_,h|h⟩
 .omega
 .have:=(uB.1 h).1;omega
 .have:=(uB.1 h).1;omega
theorem zEH{gen old i:Nat}{n:zF}(ho:vG l old)(hi:qW G l old n=some i)(h0:l[0]? ≠ some 0) :
  Upd G l (λk=>k=old/\old≠0) (yD G l gen old n) (yO G l old n) (λk=>k=i)/\zAJ l-(if old=0 then 1 else 0)<=zAJ (yO G l old n)/\1<=i/\i<l.length/\(yD G l gen old n).view i=some (.inl ⟨zDJ n,(i:Int),gen,zZ n⟩)/\zCj n G.size:=by
 have hd:zCj n G.size:=by
  unfold qW at hi;split at hi
  .rename_i h;exact h
  .cases hi
 have hp:zAU l old=some i:=by unfold qW at hi;rw[if_pos hd] at hi;exact hi
 have e1:yD G l gen old n=(vV G l old).put ⟨zDJ n,(i:Int),gen,zZ n⟩:=by unfold yD;rw[hi]
 have e2:yO G l old n=zAI l old:=by unfold yO;rw[if_pos hd]
 obtain⟨u1,u2,u3⟩:=zOr (G:=G) ho hp ⟨zDJ n,(i:Int),gen,zZ n⟩ rfl h0;rw[e1,e2];exact⟨u1,u2,u3,zI8 hp,by rw[zBi];simp,hd⟩
theorem zJ6{gen old:Nat}{n:zF}(ho:vG l old)(h0:l[0]? ≠ some 0):FrG G l (yD G l gen old n) (yO G l old n):=by
 cases hi:qW G l old n with
 | none=>rw[zMl hi,zMk hi ho];exact FrG.refl G l
 | some i=>exact (zEH ho hi h0).1.fr (λk hk=>by
   obtain⟨rfl,hz⟩:=hk;rcases ho with h|h
   .exact absurd h hz
   .exact h.1)
theorem zEI:∀(a:List Nat) (G:GA) (l:List Nat),(∀i∈a,l[i]? = some 0)->FrG G l (qM G a) l
 | [],G,l,_=>FrG.refl G l
 | x :: a,G,l,h=>by
  have h1:FrG G l (G.drop x) l:=⟨rfl,rfl,rfl,λi hi=>⟨hi,rfl,.inl (by
   have hne:i≠x:=λe=>by rw[e,h x uF] at hi;simp at hi
   rw[zDK,if_neg hne])⟩,λ_ _ h=>h,λ_ h=>h⟩
  exact h1.trans (zEI a (G.drop x) l (λi hi=>h i (uI _ hi)))
end
def zGL(G:GA)(gen:Nat)(e:zI)(v:ByteArray)(ids:List Nat):Prop :=
 (e.chain=0/\e.value=v/\ids=[])\/(e.chain≠0/\ChG G gen e.chain e.size v ids)
inductive vM (G:GA) (gen:Nat):List zI->List zE->List Nat->Prop
 | nil:vM G gen [] [] []
 | cons {e x ids es l q}:e.key=x.1->zGL G gen e x.2 ids->vM G gen es l q->vM G gen (e :: es) (x :: l) (ids++q)
abbrev zEJ:=ByteArray->Option ByteArray->Nat->List zE->List Nat->Prop
inductive qF (T:zEJ):ByteArray->Option ByteArray->List ByteArray->List Int->List zE->List Nat->Prop
 | one {lo hi c l q}:T lo hi c l q->qF T lo hi [] [(c:Int)] l q
 | cons {lo hi s c keys kids l1 l2 q1 q2}:T lo (some s) c l1 q1->inB lo hi s->qF T s hi keys kids l2 q2->qF T lo hi (s :: keys) ((c:Int) :: kids) (l1++l2) (q1++q2)
structure PgN(G:GA)(gen id:Nat)(n:zF):Prop where
 lo:2<=id
 lt:id<G.blocks
 page:∃p,G.view id=some (.inl p)/\p.gen<=gen/\jV p=.inl n
 fit:zD n<=(G.size:Int)-24
def zG0(G:GA)(gen:Nat)(T:zEJ)(d:Nat)(lo:ByteArray)(hi:Option ByteArray)(n:zF)(l:List zE)(q:List Nat):Prop :=
 (n.leaf=true/\d=0/\l≠[]/\vM G gen n.entries l q/\∀x∈l,inB lo hi x.1)\/(n.leaf=false/\qF T lo hi n.keys n.kids l q)
def vJ(G:GA)(gen:Nat):Nat->zEJ
 | 0=>λ_ _ _ _ _=>False
 | d+1=>λlo hi id l pgs=>∃n q,PgN G gen id n/\zM n=true/\pgs=id :: q/\zG0 G gen (vJ G gen d) d lo hi n l q
section
variable {G G':GA}{gen gen':Nat}{T T':zEJ}{lo:ByteArray}{hi:Option ByteArray}{l:List zE}{q:List Nat}{keys:List ByteArray}{kids:List Int}
theorem zJ7{lo s x:ByteArray}{hi:Option ByteArray}(h1:inB lo hi s)(h2:inB s hi x):inB lo hi x:=⟨zFc h1.1 h2.1,h2.2⟩
theorem zLM{lo s x:ByteArray}{hi:Option ByteArray}(h1:inB lo hi s)(h2:inB lo (some s) x):inB lo hi x:=⟨h2.1,λh e=>vU (h2.2 s rfl) (h1.2 h e)⟩
theorem qF.bounds(hT:∀lo hi c l q,T lo hi c l q->∀x∈l,inB lo hi x.1)(h:qF T lo hi keys kids l q):∀x∈l,inB lo hi x.1:=by
 induction h with
 | one h=>exact hT _ _ _ _ _ h
 | cons h1 h2 _ ih =>
  intro x hx;rcases uG.1 hx with hx|hx
  .exact zLM h2 (hT _ _ _ _ _ h1 x hx)
  .exact zJ7 h2 (ih x hx)
theorem vJ.bounds:∀(d:Nat) (lo:ByteArray) (hi:Option ByteArray) (id:Nat) (l:List zE) (q:List Nat),vJ G gen d lo hi id l q->∀x∈l,inB lo hi x.1
 | 0,_,_,_,_,_,h=>h.elim
 | d+1,lo,hi,id,l,q,h=>by
  obtain⟨n,q,_,_,_,h⟩:=h;rcases h with ⟨_,_,_,_,h⟩|⟨_,h⟩
  .exact h
  .exact h.bounds (vJ.bounds d)
theorem qF.mono(h:qF T lo hi keys kids l q):(∀lo hi c l p,(∀x∈p,x∈q)->T lo hi c l p->T' lo hi c l p)->qF T' lo hi keys kids l q:=by
 induction h with
 | one h=>exact λhm=>.one (hm _ _ _ _ _ (λ_ hx=>hx) h)
 | cons h1 h2 _ ih=>exact λhm=>.cons (hm _ _ _ _ _ (λ_ hx=>tI _ hx) h1) h2 (ih (λlo hi c l p hp=>hm lo hi c l p (λx hx=>wZ _ (hp x hx))))
theorem zGL.mono{e:zI}{v:ByteArray}{ids:List Nat}(h:zGL G gen e v ids)(hg:gen<=gen')(hb:G'.blocks=G.blocks)(hs:G'.size=G.size)(hv:∀i∈ids,G'.view i=G.view i):zGL G' gen' e v ids :=
 h.imp id (λh=>⟨h.1,h.2.mono hg hb hs hv⟩)
theorem vM.mono{es:List zI}(h:vM G gen es l q):gen<=gen'->G'.blocks=G.blocks->G'.size=G.size->(∀i∈q,G'.view i=G.view i)->vM G' gen' es l q:=by
 induction h with
 | nil=>exact λ_ _ _ _=>.nil
 | cons h1 h2 _ ih=>exact λhg hb hs hv=>.cons h1 (h2.mono hg hb hs (λi hi=>hv i (tI _ hi))) (ih hg hb hs (λi hi=>hv i (wZ _ hi)))
theorem PgN.mono{id:Nat}{n:zF}(h:PgN G gen id n)(hg:gen<=gen')(hb:G'.blocks=G.blocks)(hs:G'.size=G.size)(hv:G'.view id=G.view id):PgN G' gen' id n:=by
 obtain⟨p,h1,h2,h3⟩:=h.page;exact⟨h.lo,by rw[hb];exact h.lt,⟨p,hv.trans h1,uM h2 hg,h3⟩,by rw[hs];exact h.fit⟩
theorem vJ.mono(hg:gen<=gen')(hb:G'.blocks=G.blocks)(hs:G'.size=G.size):∀(d:Nat) (lo:ByteArray) (hi:Option ByteArray) (id:Nat) (l:List zE) (q:List Nat),(∀i∈q,G'.view i=G.view i)->vJ G gen d lo hi id l q->vJ G' gen' d lo hi id l q
 | 0,_,_,_,_,_,_,h=>h.elim
 | d+1,lo,hi,id,l,pgs,hv,h=>by
  obtain⟨n,q,h1,h2,rfl,h3⟩:=h;refine⟨n,q,h1.mono hg hb hs (hv id uF),h2,rfl,?_⟩;have hv2:∀i∈q,G'.view i=G.view i:=λi hi=>hv i (uI _ hi)
  rcases h3 with ⟨a1,a2,a3,a4,a5⟩|⟨a1,a2⟩
  .exact .inl ⟨a1,a2,a3,a4.mono hg hb hs hv2,a5⟩
  .exact .inr ⟨a1,a2.mono (λlo hi c l p hp=>vJ.mono hg hb hs d lo hi c l p (λi hi=>hv2 i (hp i hi)))⟩
theorem zG0.mono{d:Nat}{n:zF}(h:zG0 G gen (vJ G gen d) d lo hi n l q)(hg:gen<=gen')(hb:G'.blocks=G.blocks)(hs:G'.size=G.size)(hv:∀i∈q,G'.view i=G.view i):zG0 G' gen' (vJ G' gen' d) d lo hi n l q:=by
 rcases h with ⟨a1,a2,a3,a4,a5⟩|⟨a1,a2⟩
 .exact .inl ⟨a1,a2,a3,a4.mono hg hb hs hv,a5⟩
 .exact .inr ⟨a1,a2.mono (λlo hi c l p hp=>vJ.mono hg hb hs d lo hi c l p (λi hi=>hv i (hp i hi)))⟩
theorem qF.len(h:qF T lo hi keys kids l q):kids.length=keys.length+1:=by
 induction h with
 | one=>rfl
 | cons _ _ _ ih=>simp[ih]
theorem qF.keysIn(h:qF T lo hi keys kids l q):∀s∈keys,inB lo hi s:=by
 induction h with
 | one=>intro s hs;simp at hs
 | cons _ h2 _ ih =>
  intro s hs;rcases uN.1 hs with rfl|hs
  .exact h2
  .exact zJ7 h2 (ih s hs)
theorem qF.join{s:ByteArray}{k1 k2:List ByteArray}{c1 c2:List Int}{l1 l2:List zE}{q1 q2:List Nat}(h2:qF T s hi k2 c2 l2 q2)(h1:qF T lo (some s) k1 c1 l1 q1):inB lo hi s->qF T lo hi (k1++s :: k2) (c1++c2) (l1++l2) (q1++q2):=by
 generalize ho:(some s:Option ByteArray)=o at h1
 induction h1 with
 | one h=>subst ho;exact λhs=>.cons h hs h2
 | cons h hb _ ih =>
  subst ho;intro hs;have h3:=ih rfl ⟨(by
   have:=hb.2 s rfl;exact zBR this),hs.2⟩
  simp only[wN,uS];exact .cons h (zLM hs hb) h3
theorem qF.split:∀(k1:List ByteArray) {s:ByteArray} {k2:List ByteArray} {c1 c2:List Int} {lo:ByteArray} {l:List zE} {q:List Nat},qF T lo hi (k1++s :: k2) (c1++c2) l q->c1.length=k1.length+1->((k1++s :: k2).Pairwise λa b=>qJ a b=true) ->
  ∃l1 l2 q1 q2,qF T lo (some s) k1 c1 l1 q1/\qF T s hi k2 c2 l2 q2/\l=l1++l2/\q=q1++q2/\inB lo hi s
 | [],s,k2,c1,c2,lo,l,q,h,hc,_=>by
  match c1,hc with
  | [c],_ =>
   generalize e1:([]++s :: k2:List ByteArray)=ks at h
   generalize e2:([c]++c2:List Int)=cs at h
   cases h with
   | one h=>simp at e1
   | cons h1 h2 h3 =>
    simp at e1 e2;obtain⟨rfl,rfl⟩:=e1;obtain⟨rfl,rfl⟩:=e2;exact⟨_,_,_,_,.one h1,h3,rfl,rfl,h2⟩
 | a :: k1,s,k2,c1,c2,lo,l,q,h,hc,hp=>by
  match c1,hc with
  | c :: c1,hc =>
   have hp2:=wV.1 hp;generalize e1:(a :: k1++s :: k2:List ByteArray)=ks at h
   generalize e2:(c :: c1++c2:List Int)=cs at h
   cases h with
   | one h=>simp at e1
   | cons h1 h2 h3 =>
    simp at e1 e2;obtain⟨rfl,rfl⟩:=e1;obtain⟨rfl,rfl⟩:=e2;obtain⟨l1,l2,q1,q2,j1,j2,rfl,rfl,j3⟩:=qF.split k1 h3 (by simpa using hc) hp2.2;exact⟨_,_,_,_,.cons h1 ⟨h2.1,λh e=>by injection e with e;subst e;exact hp2.1 _ (by simp)⟩ j1,j2,(uS _ _ _).symm,(uS _ _ _).symm,zJ7 h2 j3⟩
theorem zEc{key v:ByteArray}{r:List zE}:∀(l1:List zE),(∀x∈l1,qJ x.1 key=true)->qL key v true (l1++r)=l1++qL key v true r
 | [],_=>rfl
 | x :: l1,h=>by
  rw[wN,qL,if_pos (h x uF),zEc l1 (λy hy=>h y (uI _ hy))];rfl
theorem zDm{key v:ByteArray}{l2:List zE}(h2:∀x∈l2,qJ key x.1=true):∀(lm:List zE),qL key v true (lm++l2)=qL key v true lm++l2
 | []=>by
  cases l2 with
  | nil=>rfl
  | cons x l =>
   have h:=h2 x uF;show qL key v true (x :: l)=(key,v) :: x :: l;unfold qL;rw[if_neg (by rw[zBR h];simp),if_neg (zJa h).symm]
 | x :: lm=>by
  rw[wN,qL,qL];split
  .rw[zDm h2 lm];rfl
  .split
   .rfl
   .rfl
theorem zOt{key:ByteArray}{l1 lm l2:List zE}(h1:∀x∈l1,qJ x.1 key=true)(h2:∀x∈l2,qJ key x.1=true):zAe key (l1++(lm++l2))=zAe key lm:=by
 rw[zA4,zA4,zFX h1,zKR h2];simp
theorem qF.at_(hT:∀lo hi c l q,T lo hi c l q->∀x∈l,inB lo hi x.1)(h:qF T lo hi keys kids l q){key:ByteArray}:inB lo hi key ->
  ∃(k1 k2:List ByteArray) (c1:List Int) (c:Nat) (c2:List Int) (l1 lm l2:List zE) (q1 qm q2:List Nat) (lo':ByteArray) (hi':Option ByteArray),
   keys=k1++k2/\kids=c1++(c:Int) :: c2/\c1.length=k1.length/\zAY key keys=k1.length/\l=l1++(lm++l2)/\q=q1++(qm++q2)/\T lo' hi' c lm qm/\inB lo' hi' key /\
   (∀x∈l1,qJ x.1 key=true)/\(∀x∈l2,qJ key x.1=true) /\
   (∀(T':zEJ) (ks:List ByteArray) (cs:List Int) (lm':List zE) (qm':List Nat),qF T' lo' hi' ks cs lm' qm'->(∀lo hi c l p,(∀x∈p,x∈q1\/x∈q2)->T lo hi c l p->T' lo hi c l p)->qF T' lo hi (k1++(ks++k2)) (c1++(cs++c2)) (l1++(lm'++l2)) (q1++(qm'++q2))):=by
 induction h with
 | @one lo hi c l q h =>
  intro hk;refine⟨[],[],[],c,[],[],l,[],[],q,[],lo,hi,rfl,rfl,rfl,rfl,by simp,by simp,h,hk,by simp,by simp,λT' ks cs lm' qm' h2 _=>by simpa using h2⟩
 | @cons lo hi s c keys kids l1 l2 q1 q2 h1 h2 h3 ih =>
  intro hk;cases hks:qJ key s with
  | true =>
   refine⟨[],s :: keys,[],c,kids,[],l1,l2,[],q1,q2,lo,some s,rfl,rfl,rfl,?_,rfl,rfl,h1,⟨hk.1,λh e=>by injection e with e;subst e;exact hks⟩,by simp,λx hx=>?_,λT' ks cs lm' qm' j1 j2=>?_⟩
   .unfold zAY;rw[pD,hks];rfl
   .exact zBb hks (h3.bounds hT x hx).1
   .show qF T' lo hi (ks++s :: keys) (cs++kids) (lm'++l2) (qm'++q2);exact qF.join (h3.mono (λlo hi c l p hp=>j2 lo hi c l p (λx hx=>.inr (hp x hx)))) j1 h2
  | false =>
   obtain⟨k1,k2,c1,c',c2,m1,mm,m2,p1,pm,p2,lo',hi',rfl,rfl,e3,e4,rfl,rfl,e7,e8,e9,e10,e11⟩:=ih ⟨hks,hk.2⟩;refine⟨s :: k1,k2,(c:Int) :: c1,c',c2,l1++m1,mm,m2,q1++p1,pm,p2,lo',hi',rfl,rfl,by simp[e3],?_,by simp,by simp,e7,e8,λx hx=>?_,e10,λT' ks cs lm' qm' j1 j2=>?_⟩
   .unfold zAY at e4 ⊢;rw[pD,hks];simp[e4]
   .rcases uG.1 hx with hx|hx
    .exact zBb ((hT _ _ _ _ _ h1 x hx).2 s rfl) hks
    .exact e9 x hx
   .have:=qF.cons (T:=T') (j2 _ _ _ _ _ (λx hx=>.inl (tI _ hx)) h1) h2 (e11 T' ks cs lm' qm' j1 (λlo hi c l p hp=>j2 lo hi c l p (λx hx=>(hp x hx).imp (wZ _) id)));simpa using this
end
theorem zA1(d:Nat->Nat):∀(m b a x:Nat),(x=b\/(a<=x/\x<a+m))->d (yX d b a m)<=d x
 | 0,b,a,x,h=>by
  rcases h with rfl|h
  .exact uJ _
  .omega
 | m+1,b,a,x,h=>by
  rw[yX];by_cases hlt:d a<d b
  .rw[if_pos hlt];rcases h with rfl|⟨h1,h2⟩
   .exact uM (zA1 d m a (a+1) a (.inl rfl)) (Nat.le_of_lt hlt)
   .by_cases e:x=a
    .exact zA1 d m a (a+1) x (.inl e)
    .exact zA1 d m a (a+1) x (.inr ⟨by omega,by omega⟩)
  .rw[if_neg hlt];rcases h with rfl|⟨h1,h2⟩
   .exact zA1 d m x (a+1) x (.inl rfl)
   .by_cases e:x=a
    .subst e;exact uM (zA1 d m b (x+1) b (.inl rfl)) (by omega)
    .exact zA1 d m b (a+1) x (.inr ⟨by omega,by omega⟩)
theorem zHo(g:Nat->Int)(lo:Nat):∀(k:Nat),g lo<=0->0<g (lo+k)->∃a,lo<=a/\a<lo+k/\g a<=0/\0<g (a+1)
 | 0,h1,h2=>by simp only[uO] at h2;omega
 | k+1,h1,h2=>by
  by_cases h3:0<g (lo+k)
  .obtain⟨a,a1,a2,a3,a4⟩:=zHo g lo k h1 h3;exact⟨a,a1,by omega,a3,a4⟩
  .exact⟨lo+k,by omega,by omega,by omega,h2⟩
theorem zJB(g:Nat->Int)(M:Int)(lo k:Nat)(h1:g lo<=M)(h2 : -M<=g (lo+k))(h3:∀a,lo<=a->a<lo+k->g (a+1)-g a<=2 * M):∃a,lo<=a/\a<=lo+k /\ -M<=g a/\g a<=M:=by
 by_cases c1:0<g lo
 .exact⟨lo,uJ _,by omega,by omega,h1⟩
 .by_cases c2:g (lo+k)<=0
  .exact⟨lo+k,by omega,uJ _,h2,by omega⟩
  .obtain⟨a,a1,a2,a3,a4⟩:=zHo g lo k (by omega) (by omega);have:=h3 a a1 a2;by_cases c3 : -M<=g a
   .exact⟨a,a1,by omega,c3,by omega⟩
   .exact⟨a+1,by omega,by omega,by omega,by omega⟩
theorem zOu{l:List zI}{k:Nat}{e:zI}(h:l[k]? = some e):zY (l.take (k+1))=zY (l.take k)+yF e:=by
 rw[yJ l k e h,yM];simp[zY]
theorem zOv{l:List ByteArray}{k:Nat}{e:ByteArray}(h:l[k]? = some e):yA (l.take (k+1))=yA (l.take k)+(5+(e.size:Int)):=by
 rw[yJ l k e h,qI];simp[yA]
theorem zHp(l:List zI)(k:Nat):zY (l.take k)+zY (l.drop k)=zY l:=by
 rw[<- yM,uZ]
theorem zFG(l:List ByteArray)(k:Nat):yA (l.take k)+yA (l.drop k)=yA l:=by
 rw[<- qI,uZ]
theorem zNh{M:Int}:∀(l:List zI),(∀e∈l,yF e<=M)->zY l<=M * l.length
 | [],_=>by simp[zY]
 | e :: l,h=>by
  have h1:=h e uF;have h2:=zNh l (λx hx=>h x (uI _ hx));rw[zY,uD,Int.natCast_add,Int.mul_add];simp only[Int.natCast_one,Int.mul_one];omega
theorem zNi{M:Int}:∀(l:List ByteArray),(∀e∈l,5+(e.size:Int)<=M)->yA l<=M * l.length
 | [],_=>by simp[yA]
 | e :: l,h=>by
  have h1:=h e uF;have h2:=zNi l (λx hx=>h x (uI _ hx));rw[yA,uD,Int.natCast_add,Int.mul_add];simp only[Int.natCast_one,Int.mul_one];omega
theorem zBS{e:zI}(h:yC e=true):yF e<=59:=by
 unfold yC at h;simp only[uK] at h;have hk:=(vC e.key).1 h.1;have h2:=h.2;unfold yF;by_cases hc:e.chain=0
 .rw[if_pos hc] at h2 ⊢;simp only[uK,uQ] at h2;omega
 .rw[if_neg hc];omega
theorem zAQ{n:zF}(h:zM n=true):∀e∈n.entries,yC e=true:=by
 unfold zM at h;split at h
 .simp only[uK,tD] at h;exact h.1.1.1.1
 .simp only[uK,wX] at h;intro e he;rw[h.1.1.1.1.1.1.1] at he;simp at he
theorem zBT{n:zF}(h:zM n=true):∀s∈n.keys,qC s=true:=by
 unfold zM at h;split at h
 .simp only[uK,wX] at h;intro e he;rw[h.1.1.1.2] at he;simp at he
 .simp only[uK,tD] at h;exact h.1.2
def zCG(n:zF):Option Nat:=if zM n=true/\0<qZ n then some (yX (zAN n) (qA n) (qA n) (qZ n)) else none
theorem zNj(n:zF):zDX n=(zCG n).map (zS n):=by
 unfold zDX zCG;split <;> rfl
section
variable {n:zF}{a:Nat}
theorem zGM(hl:n.leaf=true)(hf:zAo n):zD (zS n a).1=2+zY (n.entries.take a)/\zD (zS n a).2.2=2+(zY n.entries-zY (n.entries.take a))/\zD n=2+zY n.entries:=by
 have h:=zHp n.entries a;unfold zAo at hf;rw[if_pos hl] at hf;rw[zCt hl,zCu hl];unfold zD;simp only[hl,t8,yA,hf.1];omega
theorem zGN(hl:n.leaf=false)(hf:zAo n):zD (zS n a).1=6+yA (n.keys.take (a-1))/\zD (zS n a).2.2=6+(yA n.keys-yA (n.keys.take a))/\zD n=6+yA n.keys:=by
 have h:=zFG n.keys a;unfold zAo at hf;rw[if_neg (by rw[hl];simp)] at hf;rw[zCc hl,zCd hl];unfold zD;simp only[hl,wG,tP,zY,hf.1];omega
theorem zLN(hr:zM n=true)(hf:zAo n){x:Nat}(hx:zBD n x){M:Int}(hM:(zAN n x:Int)<=M) :
  ∃a,zBD n a/\zCG n=some a/\zD (zS n a).1-zD (zS n a).2.2<=M/\zD (zS n a).2.2-zD (zS n a).1<=M:=by
 have hpos:0<qZ n/\qA n<=x/\x<qA n+qZ n:=by
  unfold qZ qA;cases hl:n.leaf with
  | true=>have:=hx.leaf hl;simp only[t8];omega
  | false=>have:=hx.inner hl;simp only[wG,tP];omega
 obtain⟨p1,p2⟩:=zIf n hpos.1;have hb:=zA1 (zAN n) (qZ n) (qA n) (qA n) x (.inr hpos.2);generalize hq:yX (zAN n) (qA n) (qA n) (qZ n)=q at p1 p2 hb
 have hpl:=zLH p1 p2;have hu:=zEb hf hpl;refine⟨q,hpl,?_,?_⟩
 .unfold zCG;rw[if_pos ⟨hr,hpos.1⟩,hq]
 .split at hu <;> omega
theorem zHq(hr:zM n=true){W:Int}(hW:232<=W)(h1:W<zD n)(h2:zD n+61<=2 * W) :
  ∃a,zBD n a/\zCG n=some a/\zD (zS n a).1<=W/\zD (zS n a).2.2<=W:=by
 have hf:=qD hr;cases hl:n.leaf with
 | true =>
  have hM:∀e∈n.entries,yF e<=59:=λe he=>zBS (zAQ hr e he)
  obtain⟨_,_,hw⟩:=zGM (a:=0) hl hf;have hs:=zNh n.entries hM;have hlen:4<=n.entries.length:=by omega
  obtain⟨L,hL⟩:∃L,n.entries.length=L+2:=⟨n.entries.length-2,by omega⟩;have hel:∀k,k<n.entries.length->∃e,n.entries[k]? = some e/\yF e<=59/\0<=yF e/\zY (n.entries.take (k+1))=zY (n.entries.take k)+yF e:=λk hk=>by
   refine⟨n.entries[k],uA hk,hM _ (wH hk),?_,zOu (uA hk)⟩;have:=zBZ n.entries[k];omega
  have h0:zY (n.entries.take 0)=0:=by simp[zY]
  have hall:zY (n.entries.take n.entries.length)=zY n.entries:=by rw[wU]
  obtain⟨a,a1,a2,a3,a4⟩:=zJB (λa=>2 * zY (n.entries.take a)-zY n.entries) 59 1 L (by
   obtain⟨e,_,e2,e3,e4⟩:=hel 0 (by omega);have:=zCU n.entries 1;simp only[uR] at e4;show 2 * zY (n.entries.take 1)-zY n.entries<=59;omega) (by
   obtain⟨e,_,e2,e3,e4⟩:=hel (1+L) (by omega);rw[show 1+L+1=n.entries.length by omega,hall] at e4;have:=vO (n.entries.take (1+L));show -59<=2 * zY (n.entries.take (1+L))-zY n.entries;omega) (λk k1 k2=>by
   obtain⟨e,_,e2,e3,e4⟩:=hel k (by omega);show 2 * zY (n.entries.take (k+1))-zY n.entries-(2 * zY (n.entries.take k)-zY n.entries)<=2 * 59;omega)
  have hp:zBD n a:=⟨λ_=>by omega,λhc=>(by rw[hl] at hc;cases hc)⟩;have hu:=zEb hf hp;obtain⟨w1,w2,_⟩:=zGM (a:=a) hl hf;obtain⟨b,b1,b2,b3,b4⟩:=zLN hr hf hp (M:=59) (by split at hu <;> omega);obtain⟨v1,v2,_⟩:=zGM (a:=b) hl hf;exact⟨b,b1,b2,by omega,by omega⟩
 | false =>
  have hM:∀s∈n.keys,5+(s.size:Int)<=37:=λs hs=>by have:=(vC s).1 (zBT hr s hs);omega
  obtain⟨_,_,hw⟩:=zGN (a:=0) hl hf;have hs:=zNi n.keys hM;have hlen:4<=n.keys.length:=by omega
  have hkl:n.kids.length=n.keys.length+1:=(jC hr hl).2.1;obtain⟨L,hL⟩:∃L,n.keys.length=L+3:=⟨n.keys.length-3,by omega⟩;have hel:∀k,k<n.keys.length->∃e,0<=e/\e<=37/\yA (n.keys.take (k+1))=yA (n.keys.take k)+e:=λk hk=>by
   have:=hM _ (wH hk);exact⟨5+(n.keys[k].size:Int),by omega,this,zOv (uA hk)⟩
  have h0:yA (n.keys.take 0)=0:=by simp[yA]
  have hall:yA (n.keys.take n.keys.length)=yA n.keys:=by rw[wU]
  obtain⟨a,a1,a2,a3,a4⟩:=zJB (λa=>yA (n.keys.take (a-1))+yA (n.keys.take a)-yA n.keys) 37 2 L (by
   obtain⟨e,e2,e3,e4⟩:=hel 0 (by omega);obtain⟨f,f2,f3,f4⟩:=hel 1 (by omega);have:=zCV n.keys 2;simp only[uR] at e4 f4;show yA (n.keys.take 1)+yA (n.keys.take 2)-yA n.keys<=37;omega) (by
   obtain⟨e,e2,e3,e4⟩:=hel (2+L) (by omega);rw[show 2+L+1=n.keys.length by omega,hall] at e4;have:=qS (n.keys.take (2+L-1));show -37<=yA (n.keys.take (2+L-1))+yA (n.keys.take (2+L))-yA n.keys;omega) (λk k1 k2=>by
   obtain⟨e,e2,e3,e4⟩:=hel k (by omega);obtain⟨f,f2,f3,f4⟩:=hel (k-1) (by omega);rw[show k-1+1=k by omega] at f4;show yA (n.keys.take (k+1-1))+yA (n.keys.take (k+1))-yA n.keys-(yA (n.keys.take (k-1))+yA (n.keys.take k)-yA n.keys)<=2 * 37;rw[rP];omega)
  have hp:zBD n a:=⟨λhc=>(by rw[hl] at hc;cases hc),λ_=>by omega⟩;have hu:=zEb hf hp;obtain⟨w1,w2,_⟩:=zGN (a:=a) hl hf;obtain⟨b,b1,b2,b3,b4⟩:=zLN hr hf hp (M:=37) (by split at hu <;> omega);obtain⟨v1,v2,_⟩:=zGN (a:=b) hl hf;have h3:=b1.inner hl;obtain⟨f,f2,f3,f4⟩:=hel (b-1) (by omega);rw[show b-1+1=b by omega] at f4;exact⟨b,b1,b2,by omega,by omega⟩
theorem zNk(hr:zM n=true){W:Int}(hW:232<=W)(h1:W<zD n)(h2:zD n<=W+77) :
  ∃a,zBD n a/\zDX n=some (zS n a)/\zD (zS n a).1<=W/\zD (zS n a).2.2<=W:=by
 obtain⟨a,a1,a2,a3⟩:=zHq hr hW h1 (by omega);exact⟨a,a1,by rw[zNj,a2];rfl,a3⟩
end
theorem zCH{es:List zI}(h1:∀e∈es,yC e=true)(h2:(es.map (·.key)).Pairwise λa b=>qJ a b=true)(h3:es.length<=65535):zM ⟨true,es,[],[]⟩=true:=by
 unfold zM;simp only[t8,uK,uQ,tD];exact⟨⟨⟨⟨h1,rfl⟩,rfl⟩,zGD h2⟩,h3⟩
theorem zFq{keys:List ByteArray}{kids:List Int}(h1:2<=kids.length)(h2:kids.length=keys.length+1)(h3:∀k∈kids,2<=k/\k<256)(h4:kids.Nodup)(h5:∀s∈keys,qC s=true)(h6:keys.Pairwise λa b=>qJ a b=true):zM ⟨false,[],keys,kids⟩=true:=by
 unfold zM;simp only[wG,tP,uK,uQ,tD];have h7:=zCi 256 kids h4 (λi hi=>by have:=h3 i hi;omega);exact⟨⟨⟨⟨⟨⟨⟨rfl,h1⟩,h2⟩,h7⟩,λk hk=>by have:=h3 k hk;simp[zCL];omega⟩,h4⟩,h5⟩,zGD h6⟩
theorem zDM{n:zF}(h:zM n=true):n.entries.length<=65535/\n.kids.length<=256/\(n.leaf=false->2<=n.kids.length):=by
 unfold zM at h;split at h
 .rename_i hl;simp only[uK,uQ,wX] at h;refine⟨h.2,by rw[h.1.1.2];simp,λhf=>by rw[hl] at hf;cases hf⟩
 .simp only[uK,uQ,wX] at h;obtain⟨⟨⟨⟨⟨⟨⟨h1,h2⟩,h3⟩,h4⟩,h5⟩,h6⟩,h7⟩,h8⟩:=h;exact⟨by rw[h1];simp,h4,λ_=>h2⟩
section
variable {G G':GA}{gen:Nat}{T:zEJ}{lo:ByteArray}{hi:Option ByteArray}{l:List zE}{q:List Nat}{kk:List ByteArray}{cc:List Int}
theorem vM.keys{es:List zI}(h:vM G gen es l q):es.map (·.key)=l.map (·.1):=by
 induction h with
 | nil=>rfl
 | cons h1 _ _ ih=>simp[h1,ih]
theorem vM.len{es:List zI}(h:vM G gen es l q):es.length=l.length:=by
 have:=congrArg List.length h.keys;simpa using this
theorem vM.append{es1 es2:List zI}{l1 l2:List zE}{q1 q2:List Nat}(h1:vM G gen es1 l1 q1)(h2:vM G gen es2 l2 q2):vM G gen (es1++es2) (l1++l2) (q1++q2):=by
 induction h1 with
 | nil=>exact h2
 | cons a b _ ih=>simp only[wN,uS];exact .cons a b ih
theorem vM.split:∀(es1:List zI) {es2:List zI} {l:List zE} {q:List Nat},vM G gen (es1++es2) l q->∃l1 l2 q1 q2,vM G gen es1 l1 q1/\vM G gen es2 l2 q2/\l=l1++l2/\q=q1++q2
 | [],es2,l,q,h=>⟨[],l,[],q,.nil,h,rfl,rfl⟩
 | e :: es1,es2,l,q,h=>by
  generalize hs:e :: es1++es2=es at h
  cases h with
  | nil=>simp at hs
  | cons a b c =>
   simp only[wN,List.cons.injEq] at hs;obtain⟨rfl,rfl⟩:=hs;obtain⟨l1,l2,q1,q2,h1,h2,rfl,rfl⟩:=vM.split es1 c;exact⟨_,_,_,_,.cons a b h1,h2,rfl,(uS _ _ _).symm⟩
theorem vM.one{e:zI}{x:zE}{ids:List Nat}(h1:e.key=x.1)(h2:zGL G gen e x.2 ids):vM G gen [e] [x] ids:=by
 have:=vM.cons h1 h2 .nil;simpa using this
theorem vM.lt{es:List zI}(h:vM G gen es l q):∀i∈q,2<=i/\i<G.blocks:=by
 induction h with
 | nil=>intro i hi;simp at hi
 | cons _ b _ ih =>
  intro i hi;rcases uG.1 hi with hi|hi
  .rcases b with ⟨_,_,b⟩|⟨_,b⟩
   .rw[b] at hi;simp at hi
   .exact b.lt i hi
  .exact ih i hi
theorem qF.ne(hT:∀lo hi c l q,T lo hi c l q->l≠[])(h:qF T lo hi kk cc l q):l≠[]:=by
 cases h with
 | one h=>exact hT _ _ _ _ _ h
 | cons h _ _=>exact λe=>hT _ _ _ _ _ h (tY.1 e).1
theorem vJ.ne:∀(d:Nat) (lo:ByteArray) (hi:Option ByteArray) (id:Nat) (l:List zE) (q:List Nat),vJ G gen d lo hi id l q->l≠[]
 | 0,_,_,_,_,_,h=>h.elim
 | d+1,lo,hi,id,l,q,h=>by
  obtain⟨n,q,_,_,_,h⟩:=h;rcases h with ⟨_,_,h,_⟩|⟨_,h⟩
  .exact h
  .exact h.ne (vJ.ne d)
theorem qF.ltq(hT:∀lo hi c l q,T lo hi c l q->∀i∈q,2<=i/\i<G.blocks)(h:qF T lo hi kk cc l q):∀i∈q,2<=i/\i<G.blocks:=by
 induction h with
 | one h=>exact hT _ _ _ _ _ h
 | cons h _ _ ih =>
  intro i hi;rcases uG.1 hi with hi|hi
  .exact hT _ _ _ _ _ h i hi
  .exact ih i hi
theorem vJ.ltq:∀(d:Nat) (lo:ByteArray) (hi:Option ByteArray) (id:Nat) (l:List zE) (q:List Nat),vJ G gen d lo hi id l q->∀i∈q,2<=i/\i<G.blocks
 | 0,_,_,_,_,_,h=>h.elim
 | d+1,lo,hi,id,l,q,h=>by
  obtain⟨n,q,hp,_,rfl,h⟩:=h;intro i hi;rcases uN.1 hi with rfl|hi
  .exact⟨hp.lo,hp.lt⟩
  .rcases h with ⟨_,_,_,h,_⟩|⟨_,h⟩
   .exact h.lt i hi
   .exact h.ltq (vJ.ltq d) i hi
theorem qF.heads(hT:∀lo hi c l q,T lo hi c l q->∃r,q=c :: r)(h:qF T lo hi kk cc l q):∃ks:List Nat,cc=ks.map (λ(i:Nat)=>(i:Int))/\ks.Sublist q:=by
 induction h with
 | @one lo hi c l q h =>
  obtain⟨r,rfl⟩:=hT _ _ _ _ _ h;exact⟨[c],rfl,List.Sublist.cons_cons _ (List.nil_sublist _)⟩
 | @cons lo hi s c keys kids l1 l2 q1 q2 h _ _ ih =>
  obtain⟨r,rfl⟩:=hT _ _ _ _ _ h;obtain⟨ks,rfl,hs⟩:=ih;exact⟨c :: ks,rfl,List.Sublist.cons_cons _ (hs.trans (tZ _ _))⟩
theorem vJ.head:∀(d:Nat) (lo:ByteArray) (hi:Option ByteArray) (id:Nat) (l:List zE) (q:List Nat),vJ G gen d lo hi id l q->∃r,q=id :: r
 | 0,_,_,_,_,_,h=>h.elim
 | d+1,lo,hi,id,l,q,h=>by
  obtain⟨n,q,_,_,rfl,_⟩:=h;exact⟨_,rfl⟩
theorem qF.rise(hb:∀lo hi c l q,T lo hi c l q->∀x∈l,inB lo hi x.1)(hT:∀lo hi c l q,T lo hi c l q->l≠[])(h:qF T lo hi kk cc l q):(kk.Pairwise λa b=>qJ a b=true)/\∀s∈kk,qJ lo s=true:=by
 induction h with
 | one=>exact⟨List.Pairwise.nil,λs hs=>by simp at hs⟩
 | @cons lo hi s c keys kids l1 l2 q1 q2 h _ _ ih =>
  have hls:qJ lo s=true:=by
   obtain⟨x,hx⟩:=List.exists_mem_of_ne_nil _ (hT _ _ _ _ _ h);have:=hb _ _ _ _ _ h x hx;exact zJe this.1 (this.2 s rfl)
  refine⟨wV.2 ⟨λt ht=>ih.2 t ht,ih.1⟩,λt ht=>?_⟩;rcases uN.1 ht with rfl|ht
  .exact hls
  .exact vU hls (ih.2 t ht)
theorem qF.right{d:Nat}(h:qF (vJ G gen d) lo hi kk cc l q)(hn:q.Nodup)(hk:∀s∈kk,qC s=true)(h2:2<=cc.length)(hb:G.blocks<=256):zM ⟨false,[],kk,cc⟩=true:=by
 obtain⟨ks,rfl,hs⟩:=h.heads (vJ.head d);refine zFq h2 h.len (λk hk=>?_) ?_ hk (h.rise (vJ.bounds d) (vJ.ne d)).1
 .obtain⟨i,hi,rfl⟩:=wY.1 hk;have:=h.ltq (vJ.ltq d) i (hs.subset hi);omega
 .exact wW.2 ((hn.sublist hs).imp (λh e=>h (by omega)))
theorem zG0.cut{d:Nat}{n:zF}{a:Nat}(hb:zG0 G gen (vJ G gen d) d lo hi n l q)(hr:zM n=true)(hp:zBD n a)(hq:q.Nodup)(hbl:G.blocks<=256) :
  ∃l1 l2 q1 q2,zG0 G gen (vJ G gen d) d lo (some (zS n a).2.1) (zS n a).1 l1 q1/\zG0 G gen (vJ G gen d) d (zS n a).2.1 hi (zS n a).2.2 l2 q2/\l=l1++l2/\q=q1++q2 /\
   inB lo hi (zS n a).2.1/\qC (zS n a).2.1=true/\zM (zS n a).1=true/\zM (zS n a).2.2=true:=by
 rcases hb with ⟨hl,hd,hne,he,hbd⟩|⟨hl,hk⟩
 .have hpl:=hp.leaf hl;have hright:=zAQ hr;have hpw:=zB9 hr hl;have hlen:n.entries.length<=65535:=by
   unfold zM at hr;rw[if_pos hl] at hr;simp only[uK,uQ] at hr;exact hr.2
  obtain⟨e,hea⟩:∃e,n.entries[a]? = some e:=⟨_,uA hpl.2⟩;have hap:zS n a=(⟨true,n.entries.take a,[],[]⟩,e.key,⟨true,n.entries.drop a,[],[]⟩):=by unfold zS;rw[if_pos hl,hea]
  rw[hap];simp only;have he2:vM G gen (n.entries.take a++n.entries.drop a) l q:=by rw[uZ];exact he
  obtain⟨l1,l2,q1,q2,s1,s2,rfl,rfl⟩:=vM.split _ he2;have hkeys:=he.keys;have hsort:yZ (l1++l2):=by
   rw[hkeys] at hpw;exact wW.1 hpw
  have hdrop:n.entries.drop a=e :: n.entries.drop (a+1):=by
   obtain⟨h1,rfl⟩:=uB.1 hea;exact wO h1
  obtain⟨y,l3,rfl,hy⟩:∃y l3,l2=y :: l3/\e.key=y.1:=by
   have h4:=s2.keys;rw[hdrop] at h4;cases l2 with
   | nil=>simp at h4
   | cons y l3=>simp only[uW,List.cons.injEq] at h4;exact⟨y,l3,rfl,h4.1⟩
  have hse:=rN.1 hsort;have h1ne:l1≠[]:=λe1=>by
   have:=s1.len;rw[e1,uP,uE] at this;omega
  have hin:inB lo hi e.key:=by rw[hy];exact hbd y (by simp)
  refine⟨l1,y :: l3,q1,q2,.inl ⟨rfl,hd,h1ne,s1,λx hx=>⟨(hbd x (tI _ hx)).1,λk hk=>?_⟩⟩,.inl ⟨rfl,hd,by simp,s2,λx hx=>⟨?_,(hbd x (wZ _ hx)).2⟩⟩,rfl,rfl,hin,?_,?_,?_⟩
  .injection hk with hk;rw[<- hk,hy];exact hse.2.2 x hx y uF
  .rw[hy];rcases uN.1 hx with rfl|hx
   .exact jJ _
   .exact zBR ((wV.1 hse.2.1).1 x hx)
  .have:=hright e (wM hea);unfold yC at this;simp only[uK] at this;exact this.1
  .refine zCH (λx hx=>hright x (tC hx)) ?_ (by rw[uP];omega);rw[pP];exact hpw.sublist (List.take_sublist _ _)
  .refine zCH (λx hx=>hright x (rV hx)) ?_ (by rw[u0];omega);rw[rX];exact hpw.sublist (List.drop_sublist _ _)
 .have hpl:=hp.inner hl;obtain⟨hpw,hkl,_⟩:=jC hr hl;have hkb:=zBT hr;have hlt:a-1<n.keys.length:=by omega
  obtain⟨s,hs⟩:∃s,n.keys[a-1]? = some s:=⟨_,uA hlt⟩;have hap:zS n a=(⟨false,[],n.keys.take (a-1),n.kids.take a⟩,s,⟨false,[],n.keys.drop a,n.kids.drop a⟩):=by
   unfold zS;rw[if_neg (by rw[hl];simp)];simp[List.getD,hs]
  have hke:n.keys=n.keys.take (a-1)++s :: n.keys.drop a:=by
   have h1:n.keys.drop (a-1)=s :: n.keys.drop (a-1+1):=by
    obtain⟨h1,rfl⟩:=uB.1 hs;exact wO h1
   rw[show a-1+1=a by omega] at h1;rw[<- h1,uZ]
  have hks:qF (vJ G gen d) lo hi (n.keys.take (a-1)++s :: n.keys.drop a) (n.kids.take a++n.kids.drop a) l q:=by rw[<- hke,uZ];exact hk
  obtain⟨l1,l2,q1,q2,k1,k2,rfl,rfl,k5⟩:=qF.split _ hks (by rw[uP,uP];omega) (by rw[<- hke];exact hpw);rw[hap];simp only;have hnd:=wD.1 hq;refine⟨l1,l2,q1,q2,.inr ⟨rfl,k1⟩,.inr ⟨rfl,k2⟩,rfl,rfl,k5,hkb s (wM hs),?_,?_⟩
  .exact k1.right hnd.1 (λt ht=>hkb t (tC ht)) (by rw[uP];omega) hbl
  .exact k2.right hnd.2.1 (λt ht=>hkb t (rV ht)) (by rw[u0];omega) hbl
end
structure zAK(G:GA)(l:List Nat):Prop where
 low:zGK l
 len:l.length=G.blocks
 b256:G.blocks<=256
 s256:256<=G.size
 s1024:G.size<=1024
section
variable {G G' G1:GA}{l l' l1:List Nat}{gen:Nat}{lo:ByteArray}{hi:Option ByteArray}{ps:List zE}{q:List Nat}
theorem zAK.upd{A A1:Nat->Prop}(hc:zAK G l)(h:Upd G l A G' l' A1)(hA:∀i,A i->2<=i):zAK G' l' :=
 ⟨(h.fr hA).lowL hc.low,by rw[h.len,h.bl];exact hc.len,by rw[h.bl];exact hc.b256,by rw[h.sz];exact hc.s256,by rw[h.sz];exact hc.s1024⟩
theorem zAK.free2(hc:zAK G l){i:Nat}(h:l[i]? = some 0):2<=i:=by
 rcases pI i 2 with h2|h2
 .obtain rfl|rfl:i=0\/i=1:=by omega
  .rw[hc.low.1] at h;simp at h
  .rw[hc.low.2] at h;simp at h
 .exact h2
theorem vX.ne0{A:Nat->Prop}(hu:vX l A){i:Nat}(hi:A i):l[i]? ≠ some 0:=λe=>by
 rcases hu i hi with h|h <;> rw[e] at h <;> simp at h
theorem Upd.views{A A1:Nat->Prop}(h:Upd G l A G1 l1 A1){ids:List Nat}(hd:∀i∈ids,¬ A i)(hu:vX l (· ∈ ids)):(∀i∈ids,G1.view i=G.view i/\l1[i]? = l[i]? /\ ¬ A1 i)/\vX l1 (· ∈ ids) :=
 ⟨λi hi=>h.view (hd i hi) (hu.ne0 hi),λi hi=>by rw[(h.view (hd i hi) (hu.ne0 hi)).2.1];exact hu i hi⟩
theorem zLO{old:Nat}(h:zAU l old=none)(ho:vG l old):zAJ l<=0:=by
 unfold zAU at h;by_cases hz:old=0
 .rw[if_neg (by simp[hz])] at h;rcases Int.lt_or_le 0 (zAJ l) with hp|hp
  .obtain⟨i,hi⟩:=zLJ (l:=l) (by omega);rw[hi] at h;cases h
  .exact hp
 .split at h
  .cases h
  .rename_i hn;rcases ho with ho|⟨_,ho⟩
   .exact absurd ho hz
   .rcases ho with ho|ho
    .rcases Int.lt_or_le 0 (zAJ l) with hp|hp
     .obtain⟨i,hi⟩:=zQC (l:=l) (by omega) ho;rw[hi] at h;cases h
     .exact hp
    .exfalso;refine hn ⟨hz,?_⟩;unfold jU;rw[uL,ho];simp
theorem zCl{old:Nat}{n:zF}(h:qW G l old n=none)(hd:zCj n G.size)(ho:vG l old):zAJ l<=0:=by
 unfold qW at h;rw[if_pos hd] at h;exact zLO h ho
theorem zNl{n:zF}(hr:zM n=true)(i:Int)(gen:Nat):jV ⟨zDJ n,i,gen,zZ n⟩=.inl n:=by
 unfold jV zDJ;cases hl:n.leaf with
 | true =>
  have:=(zHM true (zZ n) n).2 ⟨hr,hl,rfl⟩;simp[this]
 | false =>
  have:=(zHM false (zZ n) n).2 ⟨hr,hl,rfl⟩;simp[this]
theorem zEd{old i d:Nat}{n:zF}(hc:zAK G l)(ho:vG l old)(hdn:qW G l old n=some i)(hr:zM n=true)(hb:zG0 G gen (vJ G gen d) d lo hi n ps q)(hq:q.Nodup)(hu:vX l (· ∈ q))(hoq:old≠0->old ∉ q)(_h2:∀x∈q,2<=x) :
  Upd G l (λk=>(k=old/\old≠0)\/k∈q) (yD G l gen old n) (yO G l old n) (λk=>k=i\/k∈q)/\vJ (yD G l gen old n) gen (d+1) lo hi i ps (i :: q)/\(i :: q).Nodup/\2<=i/\zAK (yD G l gen old n) (yO G l old n) /\
   vX (yO G l old n) (λk=>k=i\/k∈q)/\vG (yO G l old n) i:=by
 obtain⟨u1,_,u3,u4,u5,u6⟩:=zEH (gen:=gen) ho hdn (by rw[hc.low.1];simp);have hA2:∀k,(k=old/\old≠0)->2<=k:=λk hk=>by
  obtain⟨rfl,hz⟩:=hk;rcases ho with h|h
  .exact absurd h hz
  .exact h.1
 have huA:vX l (λk=>k=old/\old≠0):=λk hk=>by
  obtain⟨rfl,hz⟩:=hk;rcases ho with h|h
  .exact absurd h hz
  .exact h.2
 have hdis:∀k∈q,¬ (k=old/\old≠0):=λk hk h=>hoq h.2 (h.1 ▸ hk)
 obtain⟨hv,hu1⟩:=u1.views hdis hu;have hiq:i ∉ q:=λhm=>(hv i hm).2.2 rfl
 have hi2:2<=i:=by
  rcases u1.inn i rfl with ⟨h,_⟩|⟨h,_⟩
  .exact hA2 i h
  .exact hc.free2 h
 have hc1:=hc.upd u1 hA2;have hui:=u1.use huA;refine⟨u1.frame (λk hk=>⟨hdis k hk,hu.ne0 hk⟩),⟨n,q,⟨hi2,?_,⟨_,u5,uJ _,zNl hr _ _⟩,by rw[u1.sz];exact u6.2⟩,hr,rfl,hb.mono (uJ _) u1.bl u1.sz (λk hk=>(hv k hk).1)⟩,tN.2 ⟨hiq,hq⟩,hi2,hc1,λk hk=>?_,.inr ⟨hi2,hui i rfl⟩⟩
 .rw[u1.bl];have:=hc.len;omega
 .rcases hk with rfl|hk
  .exact hui k rfl
  .exact hu1 k hk
def vS(o:zBY):List ByteArray:=if o.two=true then [o.key] else []
def zAu(o:zBY):List Int:=if o.two=true then [(o.id0:Int),(o.id1:Int)] else [(o.id0:Int)]
structure zOw(G:GA)(l:List Nat)(A:Nat->Prop)(gen d:Nat)(lo:ByteArray)(hi:Option ByteArray)(ps:List zE)(G':GA)(l':List Nat)(o:zBY)(pgs:List Nat):Prop where
 upd:Upd G l A G' l' (λk=>k∈pgs)
 nodup:pgs.Nodup
 two:∀i∈pgs,2<=i
 kids:qF (vJ G' gen d) lo hi (vS o) (zAu o) ps pgs
 keys:∀s∈vS o,qC s=true
 ctx:zAK G' l'
 use:vX l' (λk=>k∈pgs)
theorem zJC{old d:Nat}{n:zF}(hc:zAK G l)(ho:vG l old)(hr:zM n=true)(hw:zD n<=(G.size:Int)-24+77)(hb:zG0 G gen (vJ G gen d) d lo hi n ps q)(hq:q.Nodup)(hu:vX l (· ∈ q))(hoq:old≠0->old ∉ q)(h2:∀x∈q,2<=x) :
  (vF G l gen old n=.inr 3/\zAJ l<=1) \/
  ∃G' l' o pgs,vF G l gen old n=.inl (G',l',o)/\o.news=false/\zOw G l (λk=>(k=old/\old≠0)\/k∈q) gen (d+1) lo hi ps G' l' o pgs/\pgs.length<=q.length+2/\(zD n<=(G.size:Int)-24->o.two=false):=by
 have hs:=hc.s256;by_cases hfit:zD n<=(G.size:Int)-24
 .unfold vF;rw[if_pos hfit];cases hdn:qW G l old n with
  | none =>
   refine .inl ⟨?_,by have:=zCl hdn ⟨hr,hfit⟩ ho;omega⟩;unfold zAp;rw[if_pos ⟨hr,hfit⟩]
  | some i =>
   obtain⟨a1,a2,a3,a4,a5,a6,a7⟩:=zEd hc ho hdn hr hb hq hu hoq h2;refine .inr ⟨_,_,_,i :: q,rfl,rfl,⟨a1.iff (λ_=>rZ) (λk=>by rw[uN]),a3,λk hk=>?_,?_,λs hs=>by simp[vS] at hs,a5,λk hk=>a6 k (uN.1 hk)⟩,by simp,λ_=>rfl⟩
   .rcases uN.1 hk with rfl|hk
    .exact a4
    .exact h2 k hk
   .exact .one a2
 .obtain⟨a,ha,hcut,w1,w2⟩:=zNk hr (W:=(G.size:Int)-24) (by omega) (by omega) (by omega);obtain⟨l1,l2,q1,q2,b1,b2,rfl,rfl,b5,b6,b7,b8⟩:=hb.cut hr ha hq hc.b256;obtain⟨⟨x,k,y⟩,hx⟩:∃x,x=zS n a:=⟨_,rfl⟩;rw[<- hx] at hcut w1 w2 b1 b2 b5 b6 b7 b8;simp only at w1 w2 b1 b2 b5 b6 b7 b8;have hnd:=wD.1 hq;have e:vF G l gen old n=(match qW G l old x with
    | none=>.inr (zAp G x)
    | some i=>match qW (yD G l gen old x) (yO G l old x) 0 y with
     | none=>.inr (zAp (yD G l gen old x) y)
     | some j=>.inl (yD (yD G l gen old x) (yO G l old x) gen 0 y,yO (yD G l gen old x) (yO G l old x) 0 y,⟨i,j,k,true,false⟩)):=by
   unfold vF;rw[if_neg hfit,hcut];simp only;rw[if_pos ⟨w1,w2⟩];try rfl
  rw[e];cases hdn:qW G l old x with
  | none =>
   refine .inl ⟨?_,by have:=zCl hdn ⟨b7,w1⟩ ho;omega⟩;simp only;unfold zAp;rw[if_pos ⟨b7,w1⟩]
  | some i =>
   have hu1:vX l (· ∈ q1):=λk hk=>hu k (tI _ hk)
   have hu2:vX l (· ∈ q2):=λk hk=>hu k (wZ _ hk)
   obtain⟨a1,a2,a3,a4,a5,a6,a7⟩:=zEd hc ho hdn b7 b1 hnd.1 hu1 (λhz hm=>hoq hz (tI _ hm)) (λk hk=>h2 k (tI _ hk));simp only;generalize hGx:yD G l gen old x=Gx at a1 a2 a5 ⊢
   generalize hlx:yO G l old x=lx at a1 a5 a6 a7 ⊢
   have hdq:∀k∈q2,¬ ((k=old/\old≠0)\/k∈q1):=λk hk h=>by
    rcases h with ⟨rfl,hz⟩|h
    .exact hoq hz (wZ _ hk)
    .exact hnd.2.2 k h k hk rfl
   obtain⟨v1,v2⟩:=a1.views hdq hu2;have huA:vX l (λk=>(k=old/\old≠0)\/k∈q1):=λk hk=>by
    rcases hk with ⟨rfl,hz⟩|hk
    .rcases ho with h|h
     .exact absurd h hz
     .exact h.2
    .exact hu1 k hk
   cases hdm:qW Gx lx 0 y with
   | none =>
    refine .inl ⟨?_,?_⟩
    .simp only;unfold zAp;rw[if_pos ⟨b8,by rw[a1.sz];exact w2⟩]
    .have h3:=zCl hdm ⟨b8,by rw[a1.sz];exact w2⟩ (.inl rfl);have h4:=(zEH (gen:=gen) ho hdn (by rw[hc.low.1];simp)).2.1;rw[hlx] at h4;split at h4 <;> omega
   | some j =>
    have hb2:=b2.mono (uJ _) a1.bl a1.sz (λk hk=>(v1 k hk).1);obtain⟨c1,c2,c3,c4,c5,c6,c7⟩:=zEd (gen:=gen) a5 (.inl rfl) hdm b8 hb2 hnd.2.1 v2 (λh=>absurd rfl h) (λk hk=>h2 k (wZ _ hk));simp only;generalize hGy:yD Gx lx gen 0 y=Gy at c1 c2 c5 ⊢
    generalize hly:yO Gx lx 0 y=ly at c1 c5 c6 c7 ⊢
    -- the first half stays
    have hd1:∀k∈i :: q1,¬ ((k=0/\(0:Nat)≠0)\/k∈q2):=λk hk h=>by
     rcases h with ⟨_,h⟩|h
     .exact h rfl
     .rcases uN.1 hk with rfl|hk
      .exact (v1 k h).2.2 (.inl rfl)
      .exact hnd.2.2 k hk k h rfl
    obtain⟨z1,z2⟩:=c1.views hd1 (λk hk=>a6 k (uN.1 hk));have hT1:vJ Gy gen (d+1) lo (some k) i l1 (i :: q1):=vJ.mono (uJ _) c1.bl c1.sz _ _ _ _ _ _ (λt ht=>(z1 t ht).1) a2;have f1:=a1.frame (B:=λt=>t∈q2) (λt ht=>⟨hdq t ht,hu2.ne0 ht⟩);have f2:=(c1.frame (B:=λt=>t∈i :: q1) (λt ht=>⟨hd1 t ht,(λe=>by
     rcases a6 t (uN.1 ht) with h|h <;> rw[e] at h <;> simp at h)⟩)).iff (A':=λt=>(t=i\/t∈q1)\/t∈q2) (A1':=λt=>t∈(i :: q1)++(j :: q2)) (λt=>by
      simp only[uN];constructor
      .rintro ((h|h)|h)
       .exact .inr (.inl h)
       .exact .inr (.inr h)
       .exact .inl (.inr h)
      .rintro ((⟨_,h⟩|h)|(h|h))
       .exact absurd rfl h
       .exact .inr h
       .exact .inl (.inl h)
       .exact .inl (.inr h)) (λt=>by
      simp only[uG,uN];exact or_comm)
    have huB:vX l (λt=>((t=old/\old≠0)\/t∈q1)\/t∈q2):=λt ht=>by
     rcases ht with ht|ht
     .exact huA t ht
     .exact hu2 t ht
    have f3:=(f1.trans f2 huB).iff (A':=λk=>(k=old/\old≠0)\/k∈q1++q2) (A1':=λt=>t∈(i :: q1)++(j :: q2)) (λt=>by
     rw[uG,or_assoc]) (λt=>rZ)
    have huE:=f3.use (λt ht=>by
     rcases ht with ⟨rfl,hz⟩|ht
     .exact huA t (.inl ⟨rfl,hz⟩)
     .exact hu t ht)
    refine .inr ⟨Gy,ly,_,(i :: q1)++(j :: q2),rfl,rfl,⟨f3,?_,λt ht=>?_,?_,λs hs=>?_,c5,huE⟩,by simp;omega,λh=>absurd h hfit⟩
    .refine wD.2 ⟨a3,c3,λt ht u hu e=>?_⟩;subst e;rcases uN.1 hu with rfl|hu
     .exact (z1 t ht).2.2 (.inl rfl)
     .exact hd1 t ht (.inr hu)
    .rcases uG.1 ht with ht|ht
     .rcases uN.1 ht with rfl|ht
      .exact a4
      .exact h2 t (tI _ ht)
     .rcases uN.1 ht with rfl|ht
      .exact c4
      .exact h2 t (wZ _ ht)
    .exact .cons hT1 b5 (.one c2)
    .simp[vS] at hs;rw[hs];exact b6
end
end Go.Proofs.YtchklfmggpconaaGreatDoor
