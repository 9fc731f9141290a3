import Derived.Test.YtdnbmdghmmpgcaaGreatDoorQ08
import Derived.Test.YtdnbmdghmmpgcaaGreatDoorQ04
namespace Go.Proofs.YtdnbmdghmmpgcaaGreatDoor
section
open Go.RowKit
def zFa(R:Int->Int->Option ByteArray)(e:zQ):Option ByteArray:=if e.chain=0 then some e.value else R e.chain e.size
def inB(lo:ByteArray)(hi:Option ByteArray)(k:ByteArray):Prop:=yX k lo=false/\∀h,hi=some h->yX k h=true
def zFb(lo:ByteArray)(keys:List ByteArray)(i:Nat):ByteArray:=if i=0 then lo else keys.getD (i-1) lo
def zFc(hi:Option ByteArray)(keys:List ByteArray)(i:Nat):Option ByteArray:=match keys[i]? with
 | some s=>some s
 | none=>hi
inductive Tr (V:Nat->Option zI) (R:Int->Int->Option ByteArray):ByteArray->Option ByteArray->Nat->Nat->List zD->Prop
 | leaf {lo hi id n} {l:List zD}:V id=some n->n.leaf=true->zP n=true->n.entries.length=l.length->(∀(i:Nat) (e:zQ) (x:zD),n.entries[i]? = some e->l[i]? = some x->e.key=x.1/\zFa R e=some x.2)->(∀x∈l,inB lo hi x.1)->Tr V R lo hi id 1 l
 | inner {lo hi id n d} {parts:List (List zD)}:V id=some n->n.leaf=false->zP n=true->parts.length=n.kids.length->(∀(i:Nat) (k:Int) (p:List zD),n.kids[i]? = some k->parts[i]? = some p->Tr V R (zFb lo n.keys i) (zFc hi n.keys i) k.toNat d p)->(∀s∈n.keys,inB lo hi s)->Tr V R lo hi id (d+1) parts.flatten
theorem zF8{a b c:ByteArray}(h1:yX b a=false)(h2:yX c b=false):yX c a=false:=by
 cases h:yX c a with
 | false=>rfl
 | true =>
  rcases zDn h2 with k|rfl
  .have:=qH k h;rw[h1] at this;cases this
  .rw[h1] at h;cases h
theorem zCl{a b c:ByteArray}(h1:yX a b=true)(h2:yX c b=false):yX a c=true:=by
 rcases zDn h2 with k|rfl
 .exact qH h1 k
 .exact h1
theorem zKJ{a b c:ByteArray}(h1:yX b a=false)(h2:yX b c=true):yX a c=true:=by
 rcases zDn h1 with k|rfl
 .exact qH k h2
 .exact h2
theorem zGY:∀{l:List ByteArray},jI l=true->l.Pairwise λa b=>yX a b=true
 | [],_=>List.Pairwise.nil
 | [_],_=>List.pairwise_singleton _ _
 | a :: b :: l,h=>by
  simp only[jI,uL] at h;have h2:=zGY h.2;refine wR.2 ⟨λy hy=>?_,h2⟩;rcases uO.1 hy with rfl|hy
  .exact h.1
  .exact qH h.1 ((wR.1 h2).1 y hy)
theorem zQF{l:List ByteArray}(h:l.Pairwise λa b=>yX a b=true){i j:Nat}{a b:ByteArray}(hij:i<j)(hi:l[i]? = some a)(hj:l[j]? = some b):yX a b=true:=by
 obtain⟨h1,rfl⟩:=uC.1 hi;obtain⟨h2,rfl⟩:=uC.1 hj;exact rA.1 h i j h1 h2 hij
theorem zRU{lo:ByteArray}{hi:Option ByteArray}{keys:List ByteArray}(hs:∀s∈keys,inB lo hi s){i:Nat}{k:ByteArray}(h:inB (zFb lo keys i) (zFc hi keys i) k):inB lo hi k:=by
 refine⟨?_,λq hq=>?_⟩
 .unfold zFb at h;by_cases hi0:i=0
  .rw[if_pos hi0] at h;exact h.1
  .rw[if_neg hi0] at h;have h1:=h.1;by_cases hl:i-1<keys.length
   .have e:keys.getD (i-1) lo=keys[i-1]:=by simp[List.getD,hl]
    rw[e] at h1;exact zF8 (hs _ (wJ hl)).1 h1
   .have e:keys.getD (i-1) lo=lo:=by simp[List.getD,wP (by omega:keys.length<=i-1)]
    rw[e] at h1;exact h1
 .have h2:=h.2;unfold zFc at h2;cases hk:keys[i]? with
  | none=>rw[hk] at h2;exact h2 q hq
  | some s =>
   rw[hk] at h2;obtain⟨hl,rfl⟩:=uC.1 hk;exact qH (h2 _ rfl) ((hs _ (wJ hl)).2 q hq)
theorem Tr.keys{V:Nat->Option zI}{R:Int->Int->Option ByteArray}{lo:ByteArray}{hi:Option ByteArray}{id d:Nat}{l:List zD}(h:Tr V R lo hi id d l):∀x∈l,inB lo hi x.1:=by
 induction h with
 | leaf _ _ _ _ _ h6=>exact h6
 | @inner lo hi id n d parts h1 h2 h3 h4 h5 h6 ih =>
  intro x hx;obtain⟨p,hp,hx⟩:=nH.1 hx;obtain⟨i,hi,e⟩:=wG hp;have hp2:parts[i]? = some p:=by rw[<- e];exact uB hi
  have hk:i<n.kids.length:=by omega
  exact zRU h6 (ih i n.kids[i] p (uB hk) hp2 x hx)
def zAh(key:ByteArray)(keys:List ByteArray):Nat:=keys.findIdx λs=>yX key s
def vL(key:ByteArray)(es:List zQ):Nat:=es.findIdx λe=>!yX e.key key
def zAn(key:ByteArray)(es:List zQ):Bool:=match es[vL key es]? with
 | some e=>decide (e.key=key)
 | none=>false
theorem zJK(key:ByteArray):∀(parts:List (List zD)) (at_:Nat) (p:List zD),parts[at_]? = some p->(∀(j:Nat) (q:List zD),j≠at_->parts[j]? = some q->∀x∈q,x.1≠key)->zAf key parts.flatten=zAf key p
 | [],_,_,h,_=>by simp at h
 | q :: parts,0,p,h,hn=>by
  simp at h;subst h;rw[pW,zBT];have:zAf key parts.flatten=none:=zDo (λx hx=>by
   obtain⟨r,hr,hx⟩:=nH.1 hx;obtain⟨i,hi,e⟩:=wG hr;exact hn (i+1) r (by omega) (by rw[rD,<- e];exact uB hi) x hx)
  rw[this];cases zAf key q <;> rfl
 | q :: parts,at_+1,p,h,hn=>by
  rw[pW,zBT,zDo (λx hx=>hn 0 q (by omega) rfl x hx),zJK key parts at_ p (by simpa using h) (λj r hj hr=>hn (j+1) r (by omega) (by simpa using hr))];rfl
theorem zDq{α:Type}{f:α->Bool}{l:List α}{i:Nat}{a:α}(hi:i<l.findIdx f)(ha:l[i]? = some a):f a=false:=by
 obtain⟨h,rfl⟩:=uC.1 ha;simpa using List.not_of_lt_findIdx hi
theorem zDr{α:Type}{f:α->Bool}{l:List α}{a:α}(ha:l[l.findIdx f]? = some a):f a=true:=by
 obtain⟨h,rfl⟩:=uC.1 ha;exact List.findIdx_getElem
theorem zMo{V:Nat->Option zI}{R:Int->Int->Option ByteArray}{lo:ByteArray}{hi:Option ByteArray}{n:zI}{d:Nat}{parts:List (List zD)}{key:ByteArray}(hr:n.keys.Pairwise λa b=>yX a b=true)(hkl:n.kids.length=n.keys.length+1)(hpl:parts.length=n.kids.length)
  (hT:∀(i:Nat) (k:Int) (p:List zD),n.kids[i]? = some k->parts[i]? = some p->Tr V R (zFb lo n.keys i) (zFc hi n.keys i) k.toNat d p) (hk:inB lo hi key) :
  ∃(k:Int) (p:List zD),n.kids[zAh key n.keys]? = some k/\parts[zAh key n.keys]? = some p/\inB (zFb lo n.keys (zAh key n.keys)) (zFc hi n.keys (zAh key n.keys)) key/\zAf key parts.flatten=zAf key p:=by
 obtain⟨a,ha⟩:∃a,a=zAh key n.keys:=⟨_,rfl⟩;rw[<- ha];have hal:a<=n.keys.length:=by rw[ha];exact tY
 have hak:a<n.kids.length:=by omega
 have hap:a<parts.length:=by omega
 refine⟨n.kids[a],parts[a],uB hak,uB hap,⟨?_,λq hq=>?_⟩,zJK key parts a parts[a] (uB hap) (λj q hj hq x hx=>?_)⟩
 .unfold zFb;by_cases h0:a=0
  .rw[if_pos h0];exact hk.1
  .rw[if_neg h0];have hl:a-1<n.keys.length:=by omega
   have e:n.keys.getD (a-1) lo=n.keys[a-1]:=by simp[List.getD,hl]
   rw[e];exact zDq (f:=λs=>yX key s) (i:=a-1) (by show a-1<zAh key n.keys;omega) (uB hl)
 .unfold zFc at hq;cases hs:n.keys[a]? with
  | none=>rw[hs] at hq;exact hk.2 q hq
  | some s =>
   rw[hs] at hq;injection hq with hq;subst hq;rw[ha] at hs;exact zDr (f:=λs=>yX key s) hs
 .have hjp:=(uC.1 hq).1;have hjk:j<n.kids.length:=by omega
  have hx2:=(hT j n.kids[j] q (uB hjk) hq).keys x hx;rcases Nat.lt_or_gt_of_ne hj with hlt|hgt
  .have hl:j<n.keys.length:=by omega
   have h1:yX x.1 n.keys[j]=true:=hx2.2 _ (by unfold zFc;rw[uB hl]);have h2:yX key n.keys[j]=false:=zDq (f:=λs=>yX key s) (i:=j) (by show j<zAh key n.keys;omega) (uB hl);exact λe=>by rw[e] at h1;rw[h1] at h2;cases h2
  .have hl:j-1<n.keys.length:=by omega
   have h1:=hx2.1;unfold zFb at h1;rw[if_neg (by omega)] at h1;have e:n.keys.getD (j-1) lo=n.keys[j-1]:=by simp[List.getD,hl]
   rw[e] at h1;have hal2:a<n.keys.length:=by omega
   have h2:yX key n.keys[a]=true:=by
    have hs:n.keys[zAh key n.keys]? = some n.keys[a]:=by rw[<- ha];exact uB hal2
    exact zDr (f:=λs=>yX key s) hs
   have h3:yX key n.keys[j-1]=true:=by
    by_cases e:a=j-1
    .subst e;exact h2
    .exact qH h2 (zQF hr (by omega) (uB hal2) (uB hl))
   exact λe=>by rw[e] at h1;rw[h1] at h3;cases h3
theorem zEV{n:zI}(h:zP n=true)(hl:n.leaf=true):(n.entries.map (·.key)).Pairwise λa b=>yX a b=true:=by
 unfold zP at h;rw[if_pos hl] at h;simp only[uL] at h;exact zGY h.1.2
theorem zAw{n:zI}(h:zP n=true)(hl:n.leaf=false):(n.keys.Pairwise λa b=>yX a b=true)/\n.kids.length=n.keys.length+1/\∀k∈n.kids,2<=k/\k<256:=by
 unfold zP at h;rw[if_neg (by rw[hl];simp)] at h;simp only[uL,uQ,wY] at h;obtain⟨⟨⟨⟨⟨⟨⟨h1,h2⟩,h3⟩,h4⟩,h5⟩,h6⟩,h7⟩,h8⟩:=h;exact⟨zGY h8,h3,λk hk=>by simpa[zCk] using h5 k hk⟩
def zW(n:zI)(a:Nat):zI × ByteArray × zI :=
 if n.leaf=true then (⟨true,n.entries.take a,[],[]⟩,(match n.entries[a]? with|some e=>e.key|none=>⟨#[]⟩),⟨true,n.entries.drop a,[],[]⟩)
 else (⟨false,[],n.keys.take (a-1),n.kids.take a⟩,n.keys.getD (a-1) ⟨#[]⟩,⟨false,[],n.keys.drop a,n.kids.drop a⟩)
def zHb(n:zI):Nat:=(yD n).length
def zAx(n:zI)(a:Nat):Nat:=((zHb (zW n a).1:Int)-(zHb (zW n a).2.2:Int)).natAbs
def vD(d:Nat->Nat):Nat->Nat->Nat->Nat
 | b,_,0=>b
 | b,a,m+1=>vD d (if d a<d b then a else b) (a+1) m
def vF(n:zI):Nat:=if n.leaf=true then 1 else 2
def jJ(n:zI):Nat:=if n.leaf=true then n.entries.length-1 else n.kids.length-3
def zFd(n:zI):Option (zI × ByteArray × zI) :=
 if zP n=true/\0<jJ n then some (zW n (vD (zAx n) (vF n) (vF n) (jJ n))) else none
theorem zIu(d:Nat->Nat)(b m:Nat):vD d b b (m+1)=vD d b (b+1) m:=by
 rw[vD,if_neg (pB _)]
theorem zEW(d:Nat->Nat):∀(m b a lo hi:Nat),lo<=b->b<hi->lo<=a->a+m<=hi->lo<=vD d b a m/\vD d b a m<hi
 | 0,_,_,_,_,h1,h2,_,_=>⟨h1,h2⟩
 | m+1,b,a,lo,hi,h1,h2,h3,h4=>by
  rw[vD];split
  .exact zEW d m a (a+1) lo hi h3 (by omega) (by omega) (by omega)
  .exact zEW d m b (a+1) lo hi h1 h2 (by omega) (by omega)
theorem zOh(n:zI)(h:0<jJ n):vF n<=vD (zAx n) (vF n) (vF n) (jJ n)/\vD (zAx n) (vF n) (vF n) (jJ n)<vF n+jJ n :=
 zEW _ _ _ _ _ _ (uK _) (by omega) (uK _) (uK _)
end
end Go.Proofs.YtdnbmdghmmpgcaaGreatDoor
