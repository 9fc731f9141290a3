import Derived.Test.YtalpfcaakpgkmaaGreatDoorR08
import Derived.Test.YtalpfcaakpgkmaaGreatDoorR04
namespace Go.Proofs.YtalpfcaakpgkmaaGreatDoor
section
def zCn(n:Int):Bool:=decide (2<=n) && decide (n<256)
def qR(e:zM):Bool :=
 jO e.key && (if e.chain=0 then decide (e.size=0) && decide (e.value.size<=24) else zCn e.chain && decide (e.value.size=0) && decide (24<e.size) && decide (e.size<=4096))
def zAG:List ByteArray->Bool
 | []=>true
 | [_]=>true
 | a :: b :: l=>ltS a b && zAG (b :: l)
def zO(n:zI):Bool :=
 if n.leaf then n.entries.all qR && n.keys.isEmpty && n.kids.isEmpty && zAG (n.entries.map (·.key)) && decide (n.entries.length<=65535)
 else n.entries.isEmpty && decide (2<=n.kids.length) && decide (n.kids.length=n.keys.length+1) && decide (n.kids.length<=256) && n.kids.all zCn && decide n.kids.Nodup && n.keys.all jO && zAG n.keys
def vQ(s:ByteArray):List UInt8:=yD 1 s.size++s.data.toList
def zAc(e:zM):List UInt8 :=
 vQ e.key++(if e.chain=0 then yD 1 0++vQ e.value else yD 1 1++(yD 4 e.chain.toNat++yD 4 e.size.toNat))
def zAz(p:ByteArray × Int):List UInt8:=vQ p.1++yD 4 p.2.toNat
def yE(n:zI):List UInt8 :=
 if n.leaf then yD 2 n.entries.length++n.entries.flatMap zAc
 else yD 2 n.kids.length++(yD 4 (n.kids.headD 0).toNat++(n.keys.zip n.kids.tail).flatMap zAz)
structure RdA where
 at_:Int
 bad:Bool
def vM(b:List UInt8)(r:RdA)(W:Nat):Nat × RdA:=((vC b r.at_ W).1,⟨r.at_+W,r.bad || (vC b r.at_ W).2.isSome⟩)
def jW(b:List UInt8)(r:RdA):ByteArray × RdA :=
 let x:=vM b r 1
 if x.2.bad=true\/(b.length:Int)-x.2.at_<(x.1:Int) then (⟨#[]⟩,⟨x.2.at_,true⟩)
 else (⟨((b.drop x.2.at_.toNat).take x.1).toArray⟩,⟨x.2.at_+x.1,false⟩)
def jG(b:List UInt8)(r:RdA):zM × RdA :=
 let k:=jW b r
 let c:=vM b k.2 1
 if c.1=0 then
  let v:=jW b c.2
  (⟨k.1,v.1,0,0⟩,v.2)
 else
  let x:=vM b c.2 4
  let y:=vM b x.2 4
  (⟨k.1,⟨#[]⟩,x.1,y.1⟩,y.2)
def qH(b:List UInt8):Nat->RdA->List zM->List zM × RdA
 | 0,r,l=>(l,r)
 | k+1,r,l=>if r.bad then (l,r) else qH b k (jG b r).2 (l++[(jG b r).1])
def zBn(b:List UInt8):Nat->RdA->List ByteArray->List Int->List ByteArray × List Int × RdA
 | 0,r,l,m=>(l,m,r)
 | k+1,r,l,m=>if r.bad then (l,m,r) else
  let s:=jW b r
  let x:=vM b s.2 4
  zBn b k x.2 (l++[s.1]) (m++[(x.1:Int)])
def zAR(leaf:Bool)(b:List UInt8):zI × RdA :=
 let m:=vM b ⟨0,false⟩ 2
 if leaf then
  let x:=qH b m.1 m.2 []
  (⟨true,x.1,[],[]⟩,x.2)
 else
  let k:=vM b m.2 4
  let x:=zBn b (m.1-1) k.2 [] [(k.1:Int)]
  (⟨false,[],x.1,x.2.1⟩,x.2.2)
def zEk(leaf:Bool)(b:List UInt8):Option zI :=
 let x:=zAR leaf b
 if x.2.bad=false/\zO x.1=true/\yE x.1=b then some x.1 else none
theorem zQD(p q:List UInt8)(W n:Nat)(hn:n<256 ^ W):vC (p++(yD W n++q)) (p.length:Int) W=(n,none):=by
 unfold vC;rw[if_neg (by simp;omega),if_neg (by simp[zD];omega)];have e:((p++(yD W n++q)).drop ((p.length:Int)).toNat).take W=yD W n:=by
  rw[uH,List.drop_left,List.take_left' (zD W n)]
 rw[e,zFv,rI hn]
theorem zB0(p q:List UInt8)(W n:Nat)(hn:n<256 ^ W):vM (p++(yD W n++q)) ⟨(p.length:Int),false⟩ W=(n,⟨((p++yD W n).length:Int),false⟩):=by
 unfold vM;simp only[zQD p q W n hn];simp[zD]
theorem zE9(p q:List UInt8)(s:ByteArray)(hs:s.size<256):jW (p++(vQ s++q)) ⟨(p.length:Int),false⟩=(s,⟨((p++vQ s).length:Int),false⟩):=by
 unfold jW vQ;have h:=zB0 p (s.data.toList++q) 1 s.size (by simpa using hs);rw[uN] at *;simp only at h ⊢;rw[h];have hl:s.data.toList.length=s.size:=by rw[rB];rfl
 simp only;rw[if_neg (by simp[zD];omega)];have e:((p++(yD 1 s.size++(s.data.toList++q))).drop ((((p++yD 1 s.size).length:Nat):Int)).toNat).take s.size=s.data.toList:=by
  rw[uH,<- uN,List.drop_left,List.take_left' hl]
 rw[e];simp[zD,hl];omega
theorem zMl(p q:List UInt8)(e:zM)(he:qR e=true):jG (p++(zAc e++q)) ⟨(p.length:Int),false⟩=(e,⟨((p++zAc e).length:Int),false⟩):=by
 obtain⟨key,value,chain,size⟩:=e;unfold qR at he;simp only[uI] at he;obtain⟨hk,he⟩:=he;have A3:key.size<256:=by have:=(zA5 key).1 hk;omega
 unfold jG zAc;by_cases hc:chain=0
 .rw[if_pos hc] at he;simp only[uI,uO] at he;obtain⟨h1,h2⟩:=he;subst hc h1;simp only[if_pos];have a:=zE9 p (yD 1 0++vQ value++q) key A3;have b:=zB0 (p++vQ key) (vQ value++q) 1 0 (by decide);have c:=zE9 (p++vQ key++yD 1 0) q value (by omega);simp only[uN] at a b c ⊢;rw[a];simp only;rw[b];simp only[if_pos];rw[c]
 .rw[if_neg hc] at he;simp only[uI,uO,zCn] at he;obtain⟨⟨⟨⟨h1,h2⟩,h3⟩,h4⟩,h5⟩:=he;obtain⟨cn,rfl⟩:∃cn:Nat,chain=(cn:Int):=⟨chain.toNat,by omega⟩;obtain⟨sn,rfl⟩:∃sn:Nat,size=(sn:Int):=⟨size.toNat,by omega⟩;have hv:value=⟨#[]⟩:=by
   apply pN
   exact rV h3
  subst hv;simp only[if_neg hc,uH];have a:=zE9 p (yD 1 1++(yD 4 cn++(yD 4 sn++q))) key A3;have b:=zB0 (p++vQ key) (yD 4 cn++(yD 4 sn++q)) 1 1 (by decide);have c:=zB0 (p++vQ key++yD 1 1) (yD 4 sn++q) 4 cn (by omega);have d:=zB0 (p++vQ key++yD 1 1++yD 4 cn) q 4 sn (by omega);simp only[uN] at a b c d ⊢;rw[a];simp only;rw[b];simp only[if_neg (show ¬ (1:Nat)=0 by omega)];rw[c];simp only;rw[d]
theorem zF5:∀(m:List zM) (p q:List UInt8) (l:List zM),m.all qR=true->qH (p++(m.flatMap zAc++q)) m.length ⟨(p.length:Int),false⟩ l=(l++m,⟨((p++m.flatMap zAc).length:Int),false⟩)
 | [],p,q,l,_=>by simp[qH]
 | e :: m,p,q,l,h=>by
  simp only[List.all_cons,uI] at h;have a:=zMl p (m.flatMap zAc++q) e h.1;have b:=zF5 m (p++zAc e) q (l++[e]) h.2;rw[uG,qH];simp only[wQ,uN] at a b ⊢;rw[if_neg (by simp),a];simp only;rw[b];simp
theorem zJS:∀(m:List (ByteArray × Int)) (p q:List UInt8) (l:List ByteArray) (k:List Int),(∀x∈m,jO x.1=true/\zCn x.2=true) ->
  zBn (p++(m.flatMap zAz++q)) m.length ⟨(p.length:Int),false⟩ l k=(l++m.map (·.1),k++m.map (·.2),⟨((p++m.flatMap zAz).length:Int),false⟩)
 | [],p,q,l,k,_=>by simp[zBn]
 | x :: m,p,q,l,k,h=>by
  obtain⟨s,c⟩:=x;obtain⟨h1,h2⟩:=h _ uK;simp only at h1 h2;have hs:s.size<256:=by have:=(zA5 s).1 h1;omega
  simp only[zCn,uI,uO] at h2;obtain⟨cn,rfl⟩:∃cn:Nat,c=(cn:Int):=⟨c.toNat,by omega⟩;have a:=zE9 p (yD 4 cn++(m.flatMap zAz++q)) s hs;have b:=zB0 (p++vQ s) (m.flatMap zAz++q) 4 cn (by omega);have d:=zJS m (p++(vQ s++yD 4 cn)) q (l++[s]) (k++[(cn:Int)]) (λy hy=>h y (uJ _ hy));rw[uG,zBn];simp only[wQ,zAz,uH,uN] at a b d ⊢;rw[if_neg (by simp),a];simp only;rw[b];simp only;rw[d];simp
theorem zKP(n:zI)(h:zO n=true):zAR n.leaf (yE n)=(n,⟨((yE n).length:Int),false⟩):=by
 obtain⟨leaf,entries,keys,kids⟩:=n;cases leaf with
 | true =>
  unfold zO at h;simp only[tU,uI,wR,uO] at h;obtain⟨⟨⟨⟨h1,h2⟩,h3⟩,_⟩,h5⟩:=h;subst h2 h3;have a:=zB0 [] (entries.flatMap zAc) 2 entries.length (by omega);have b:=zF5 entries (yD 2 entries.length) [] [] h1;simp only[wP,wJ,uL] at a b;unfold zAR yE;simp only[tU];rw[show ((⟨0,false⟩:RdA))=⟨((0:Nat):Int),false⟩ from rfl,a];simp only;rw[b]
 | false =>
  unfold zO at h;simp only[wI,tX,uI,wR,uO] at h;obtain⟨⟨⟨⟨⟨⟨⟨h1,h2⟩,h3⟩,h4⟩,h5⟩,_⟩,h7⟩,_⟩:=h;subst h1;cases kids with
  | nil=>simp at h2
  | cons k0 ks =>
   simp only[uG] at h3 h4 h2;simp only[List.all_cons,uI] at h5;obtain⟨A9,Aa⟩:=h5;have Am:2<=k0/\k0<256:=by simpa[zCn] using A9
   obtain⟨c0,rfl⟩:∃c0:Nat,k0=(c0:Int):=⟨k0.toNat,by omega⟩;have Ab:(keys.zip ks).map (·.1)=keys:=List.map_fst_zip (by omega);have Ac:(keys.zip ks).map (·.2)=ks:=List.map_snd_zip (by omega);have Ad:(keys.zip ks).length=ks.length:=by rw[List.length_zip];omega
   have a:=zB0 [] (yD 4 c0++(keys.zip ks).flatMap zAz) 2 (ks.length+1) (by omega);have b:=zB0 (yD 2 (ks.length+1)) ((keys.zip ks).flatMap zAz) 4 c0 (by omega);have d:=zJS (keys.zip ks) (yD 2 (ks.length+1)++yD 4 c0) [] [] [(c0:Int)] (λx hx=>by
    have hm:=List.of_mem_zip hx;exact⟨tA.1 h7 _ hm.1,tA.1 Aa _ hm.2⟩)
   simp only[wP,wJ,uL,uN] at a b d;unfold zAR yE;simp only[wI,tX,uG,List.headD_cons,List.tail_cons,uH];rw[show ((⟨0,false⟩:RdA))=⟨((0:Nat):Int),false⟩ from rfl,a];simp only;rw[b];simp only[rK];rw[Ad] at d;rw[d,Ab,Ac];rfl
theorem zH0(leaf:Bool)(b:List UInt8)(n:zI):zEk leaf b=some n ↔ zO n=true/\n.leaf=leaf/\yE n=b:=by
 have Ae:(zAR leaf b).1.leaf=leaf:=by cases leaf <;> rfl
 constructor
 .intro h;unfold zEk at h;simp only at h;split at h
  .rename_i hc;injection h with h;subst h;exact⟨hc.2.1,Ae,hc.2.2⟩
  .cases h
 .rintro⟨h1,rfl,rfl⟩;unfold zEk;rw[zKP n h1];simp[h1]
end
section
open Go.RowKit
def zDK(R:Int->Int->Option ByteArray)(e:zM):Option ByteArray:=if e.chain=0 then some e.value else R e.chain e.size
def inB(lo:ByteArray)(hi:Option ByteArray)(k:ByteArray):Prop:=ltS k lo=false/\∀h,hi=some h->ltS k h=true
def zTD(lo:ByteArray)(keys:List ByteArray)(i:Nat):ByteArray:=if i=0 then lo else keys.getD (i-1) lo
def zTE(hi:Option ByteArray)(keys:List ByteArray)(i:Nat):Option ByteArray:=match keys[i]? with
 | some s=>some s
 | none=>hi
inductive Tr (V:Nat->Option zI) (R:Int->Int->Option ByteArray):ByteArray->Option ByteArray->Nat->Nat->List zL->Prop
 | leaf {lo hi id n} {l:List zL}:V id=some n->n.leaf=true->zO n=true->n.entries.length=l.length->(∀(i:Nat) (e:zM) (x:zL),n.entries[i]? = some e->l[i]? = some x->e.key=x.1/\zDK R e=some x.2)->(∀x∈l,inB lo hi x.1)->Tr V R lo hi id 1 l
 | inner {lo hi id n d} {parts:List (List zL)}:V id=some n->n.leaf=false->zO n=true->parts.length=n.kids.length->(∀(i:Nat) (k:Int) (p:List zL),n.kids[i]? = some k->parts[i]? = some p->Tr V R (zTD lo n.keys i) (zTE hi n.keys i) k.toNat d p)->(∀s∈n.keys,inB lo hi s)->Tr V R lo hi id (d+1) parts.flatten
theorem zKQ{a b c:ByteArray}(h1:ltS b a=false)(h2:ltS c b=false):ltS c a=false:=by
 cases h:ltS c a with
 | false=>rfl
 | true =>
  rcases zDX h2 with k|rfl
  .have:=zAq k h;rw[h1] at this;cases this
  .rw[h1] at h;cases h
theorem zB1{a b c:ByteArray}(h1:ltS a b=true)(h2:ltS c b=false):ltS a c=true:=by
 rcases zDX h2 with k|rfl
 .exact zAq h1 k
 .exact h1
theorem zKR{a b c:ByteArray}(h1:ltS b a=false)(h2:ltS b c=true):ltS a c=true:=by
 rcases zDX h1 with k|rfl
 .exact zAq k h2
 .exact h2
theorem zGZ:∀{l:List ByteArray},zAG l=true->l.Pairwise λa b=>ltS a b=true
 | [],_=>List.Pairwise.nil
 | [_],_=>List.pairwise_singleton _ _
 | a :: b :: l,h=>by
  simp only[zAG,uI] at h;have h2:=zGZ h.2;refine wW.2 ⟨λy hy=>?_,h2⟩;rcases uQ.1 hy with rfl|hy
  .exact h.1
  .exact zAq h.1 ((wW.1 h2).1 y hy)
theorem zSo{l:List ByteArray}(h:l.Pairwise λa b=>ltS a b=true){i j:Nat}{a b:ByteArray}(Af:i<j)(hi:l[i]? = some a)(hj:l[j]? = some b):ltS a b=true:=by
 obtain⟨h1,rfl⟩:=uA.1 hi;obtain⟨h2,rfl⟩:=uA.1 hj;exact tO.1 h i j h1 h2 Af
def vZ(key:ByteArray)(keys:List ByteArray):Nat:=keys.findIdx λs=>ltS key s
def jA(key:ByteArray)(es:List zM):Nat:=es.findIdx λe=>!ltS e.key key
def zAY(key:ByteArray)(es:List zM):Bool:=match es[jA key es]? with
 | some e=>decide (e.key=key)
 | none=>false
theorem zH1{α:Type}{f:α->Bool}{l:List α}{i:Nat}{a:α}(hi:i<l.findIdx f)(ha:l[i]? = some a):f a=false:=by
 obtain⟨h,rfl⟩:=uA.1 ha;simpa using List.not_of_lt_findIdx hi
theorem zH2{α:Type}{f:α->Bool}{l:List α}{a:α}(ha:l[l.findIdx f]? = some a):f a=true:=by
 obtain⟨h,rfl⟩:=uA.1 ha;exact List.findIdx_getElem
def zFA(R:Int->Int->Option ByteArray)(key:ByteArray)(n:zI):Option ByteArray:=match n.entries[jA key n.entries]? with
 | some e=>if e.key=key then zDK R e else none
 | none=>none
theorem zOj{R:Int->Int->Option ByteArray}{n:zI}{l:List zL}(hr:(n.entries.map (·.key)).Pairwise λa b=>ltS a b=true)(hl:n.entries.length=l.length)(he:∀(i:Nat) (e:zM) (x:zL),n.entries[i]? = some e->l[i]? = some x->e.key=x.1/\zDK R e=some x.2)(key:ByteArray) :
  qI key l=zFA R key n:=by
 obtain⟨a,ha⟩:∃a,a=jA key n.entries:=⟨_,rfl⟩;have A1:∀(i:Nat) (x:zL),i<a->l[i]? = some x->x.1≠key:=λi x hi hx=>by
  have A4:=(uA.1 hx).1;have A5:i<n.entries.length:=by omega
  have h1:=he i n.entries[i] x (uB A5) hx;have h2:=zH1 (f:=λe:zM=>!ltS e.key key) (i:=i) (by show i<jA key n.entries;omega) (uB A5);simp only[Bool.not_eq_false'] at h2;rw[h1.1] at h2;exact zFi h2
 unfold zFA;rw[<- ha];cases A2:n.entries[a]? with
 | none =>
  simp only;refine zD4 (λx hx=>?_);obtain⟨i,hi,e⟩:=wF hx;have Ag:l[i]? = some x:=by rw[<- e];exact uB hi
  have:n.entries.length<=a:=List.getElem?_eq_none_iff.1 A2;exact A1 i x (by omega) Ag
 | some e =>
  simp only;have An:=(uA.1 A2).1;have A6:a<l.length:=by omega
  have Ah:l[a]? = some l[a]:=uB A6;obtain⟨h1,h2⟩:=he a e l[a] A2 Ah;have Ai:∀(j:Nat) (x:zL),a<j->l[j]? = some x->ltS l[a].1 x.1=true:=λj x hj hx=>by
   have Ao:=(uA.1 hx).1;have A7:j<n.entries.length:=by omega
   have h3:=(he j n.entries[j] x (uB A7) hx).1;have h4:=zSo hr hj (a:=e.key) (b:=n.entries[j].key) (by rw[tQ,A2];rfl) (by rw[tQ,uB A7];rfl);rw[h1,h3] at h4;exact h4
  have A0:l=l.take a++l[a] :: l.drop (a+1):=by
   rw[<- wD A6,uZ]
  have Aj:qI key (l.take a)=none:=zD4 (λx hx=>by
   obtain⟨i,hi,e⟩:=wF hx;rw[pV] at e;have Ak:i<a:=by simp at hi;omega
   exact A1 i x Ak (by rw[<- e];exact uB (by omega)))
  rw[A0,zAy,Aj,Option.none_or,zDH];by_cases hk:e.key=key
  .rw[if_pos hk,if_pos (by rw[<- h1];exact hk),h2]
  .rw[if_neg hk,if_neg (by rw[<- h1];exact hk)];have Al:ltS e.key key=false:=by
    have:=zH2 (f:=λe:zM=>!ltS e.key key) (a:=e) (by rw[show n.entries.findIdx (λe:zM=>!ltS e.key key)=a from ha.symm];exact A2);simpa using this
   have A8:ltS key e.key=true:=(zDX Al).resolve_right (λh=>hk (by rw[h]));refine zF0 (λx hx=>?_);obtain⟨i,hi,e2⟩:=wF hx;rw[List.getElem_drop] at e2;have A4:a+1+i<l.length:=by simp at hi;omega
   rw[h1] at A8;exact zAq A8 (Ai (a+1+i) x (by omega) (by rw[<- e2];exact uB A4))
theorem zBS{n:zI}(h:zO n=true)(hl:n.leaf=true):(n.entries.map (·.key)).Pairwise λa b=>ltS a b=true:=by
 unfold zO at h;rw[if_pos hl] at h;simp only[uI] at h;exact zGZ h.1.2
theorem zB2{n:zI}(h:zO n=true)(hl:n.leaf=false):(n.keys.Pairwise λa b=>ltS a b=true)/\n.kids.length=n.keys.length+1/\∀k∈n.kids,2<=k/\k<256:=by
 unfold zO at h;rw[if_neg (by rw[hl];simp)] at h;simp only[uI,uO,tA] at h;obtain⟨⟨⟨⟨⟨⟨⟨h1,h2⟩,h3⟩,h4⟩,h5⟩,h6⟩,h7⟩,h8⟩:=h;exact⟨zGZ h8,h3,λk hk=>by simpa[zCn] using h5 k hk⟩
def zW(n:zI)(a:Nat):zI × ByteArray × zI :=
 if n.leaf=true then (⟨true,n.entries.take a,[],[]⟩,(match n.entries[a]? with|some e=>e.key|none=>⟨#[]⟩),⟨true,n.entries.drop a,[],[]⟩)
 else (⟨false,[],n.keys.take (a-1),n.kids.take a⟩,n.keys.getD (a-1) ⟨#[]⟩,⟨false,[],n.keys.drop a,n.kids.drop a⟩)
def zHd(n:zI):Nat:=(yE n).length
def zA0(n:zI)(a:Nat):Nat:=((zHd (zW n a).1:Int)-(zHd (zW n a).2.2:Int)).natAbs
def vD(d:Nat->Nat):Nat->Nat->Nat->Nat
 | b,_,0=>b
 | b,a,m+1=>vD d (if d a<d b then a else b) (a+1) m
def vJ(n:zI):Nat:=if n.leaf=true then 1 else 2
def jT(n:zI):Nat:=if n.leaf=true then n.entries.length-1 else n.kids.length-3
def zEa(n:zI):Option (zI × ByteArray × zI) :=
 if zO n=true/\0<jT n then some (zW n (vD (zA0 n) (vJ n) (vJ n) (jT n))) else none
theorem zI6(d:Nat->Nat)(b m:Nat):vD d b b (m+1)=vD d b (b+1) m:=by
 rw[vD,if_neg (pB _)]
theorem zEl(d:Nat->Nat):∀(m b a lo hi:Nat),lo<=b->b<hi->lo<=a->a+m<=hi->lo<=vD d b a m/\vD d b a m<hi
 | 0,_,_,_,_,h1,h2,_,_=>⟨h1,h2⟩
 | m+1,b,a,lo,hi,h1,h2,h3,h4=>by
  rw[vD];split
  .exact zEl d m a (a+1) lo hi h3 (by omega) (by omega) (by omega)
  .exact zEl d m b (a+1) lo hi h1 h2 (by omega) (by omega)
theorem zOk(n:zI)(h:0<jT n):vJ n<=vD (zA0 n) (vJ n) (vJ n) (jT n)/\vD (zA0 n) (vJ n) (vJ n) (jT n)<vJ n+jT n :=
 zEl _ _ _ _ _ _ (uD _) (by omega) (uD _) (uD _)
end
end Go.Proofs.YtalpfcaakpgkmaaGreatDoor
