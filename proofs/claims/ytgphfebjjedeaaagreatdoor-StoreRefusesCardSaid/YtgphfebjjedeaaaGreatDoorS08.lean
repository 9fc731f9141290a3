import Derived.Test.YtgphfebjjedeaaaGreatDoorS07
namespace Go.Proofs.YtgphfebjjedeaaaGreatDoor
section
open Go.RowKit
def zB5(R:Int->Int->Option ByteArray)(e:zS):Option ByteArray:=if e.chain=0 then some e.value else R e.chain e.size
def inB(lo:ByteArray)(hi:Option ByteArray)(k:ByteArray):Prop:=ltS k lo=false/\∀h,hi=some h->ltS k h=true
def zG8(lo:ByteArray)(keys:List ByteArray)(i:Nat):ByteArray:=if i=0 then lo else keys.getD (i-1) lo
def zG9(hi:Option ByteArray)(keys:List ByteArray)(i:Nat):Option ByteArray:=match keys[i]? with
 | some s=>some s
 | none=>hi
inductive Tr (V:Nat->Option zK) (R:Int->Int->Option ByteArray):ByteArray->Option ByteArray->Nat->Nat->List qM->Prop
 | leaf {lo hi id n} {l:List qM}:V id=some n->n.leaf=true->zY n=true->n.entries.length=l.length->(∀(i:Nat) (e:zS) (x:qM),n.entries[i]? = some e->l[i]? = some x->e.key=x.1/\zB5 R e=some x.2)->(∀x∈l,inB lo hi x.1)->Tr V R lo hi id 1 l
 | inner {lo hi id n d} {parts:List (List qM)}:V id=some n->n.leaf=false->zY n=true->parts.length=n.kids.length->(∀(i:Nat) (k:Int) (p:List qM),n.kids[i]? = some k->parts[i]? = some p->Tr V R (zG8 lo n.keys i) (zG9 hi n.keys i) k.toNat d p)->(∀s∈n.keys,inB lo hi s)->Tr V R lo hi id (d+1) parts.flatten
theorem zFl{a b c:ByteArray}(h1:ltS b a=false)(h2:ltS c b=false):ltS c a=false:=by
 cases h:ltS c a with
 | false=>rfl
 | true =>
  rcases zFi h2 with k|rfl
  .have:=zAx k h;rw[h1] at this;cases this
  .rw[h1] at h;cases h
theorem zDQ:∀{l:List ByteArray},qV l=true->l.Pairwise λa b=>ltS a b=true
 | [],_=>List.Pairwise.nil
 | [_],_=>List.pairwise_singleton _ _
 | a :: b :: l,h=>by
  simp only[qV,uF] at h;have h2:=zDQ h.2;refine List.pairwise_cons.2 ⟨λy hy=>?_,h2⟩;rcases wV.1 hy with rfl|hy
  .exact h.1
  .exact zAx h.1 ((List.pairwise_cons.1 h2).1 y hy)
theorem zK8{l:List ByteArray}(h:l.Pairwise λa b=>ltS a b=true){i j:Nat}{a b:ByteArray}(hij:i<j)(hi:l[i]? = some a)(hj:l[j]? = some b):ltS a b=true:=by
 obtain⟨h1,rfl⟩:=uB.1 hi;obtain⟨h2,rfl⟩:=uB.1 hj;exact tO.1 h i j h1 h2 hij
theorem zKk{lo:ByteArray}{hi:Option ByteArray}{keys:List ByteArray}(hs:∀s∈keys,inB lo hi s){i:Nat}{k:ByteArray}(h:inB (zG8 lo keys i) (zG9 hi keys i) k):inB lo hi k:=by
 refine⟨?_,λq hq=>?_⟩
 .unfold zG8 at h;by_cases hi0:i=0
  .rw[if_pos hi0] at h;exact h.1
  .rw[if_neg hi0] at h;have h1:=h.1;by_cases hl:i-1<keys.length
   .have e:keys.getD (i-1) lo=keys[i-1]:=by simp[List.getD,hl]
    rw[e] at h1;exact zFl (hs _ (tX hl)).1 h1
   .have e:keys.getD (i-1) lo=lo:=by simp[List.getD,wT (by omega:keys.length<=i-1)]
    rw[e] at h1;exact h1
 .have h2:=h.2;unfold zG9 at h2;cases hk:keys[i]? with
  | none=>rw[hk] at h2;exact h2 q hq
  | some s =>
   rw[hk] at h2;obtain⟨hl,rfl⟩:=uB.1 hk;exact zAx (h2 _ rfl) ((hs _ (tX hl)).2 q hq)
theorem Tr.keys{V:Nat->Option zK}{R:Int->Int->Option ByteArray}{lo:ByteArray}{hi:Option ByteArray}{id d:Nat}{l:List qM}(h:Tr V R lo hi id d l):∀x∈l,inB lo hi x.1:=by
 induction h with
 | leaf _ _ _ _ _ h6=>exact h6
 | @inner lo hi id n d parts h1 h2 h3 h4 h5 h6 ih =>
  intro x hx;obtain⟨p,hp,hx⟩:=List.mem_flatten.1 hx;obtain⟨i,hi,e⟩:=uR hp;have hp2:parts[i]? = some p:=by rw[<- e];exact uA hi
  have hk:i<n.kids.length:=by omega
  exact zKk h6 (ih i n.kids[i] p (uA hk) hp2 x hx)
def zBI(key:ByteArray)(keys:List ByteArray):Nat:=keys.findIdx λs=>ltS key s
def zBJ(key:ByteArray)(es:List zS):Nat:=es.findIdx λe=>!ltS e.key key
def zEJ(key:ByteArray)(es:List zS):Bool:=match es[zBJ key es]? with
 | some e=>decide (e.key=key)
 | none=>false
theorem zFD(key:ByteArray):∀(parts:List (List qM)) (at_:Nat) (p:List qM),parts[at_]? = some p->(∀(j:Nat) (q:List qM),j≠at_->parts[j]? = some q->∀x∈q,x.1≠key)->vM key parts.flatten=vM key p
 | [],_,_,h,_=>by simp at h
 | q :: parts,0,p,h,hn=>by
  simp at h;subst h;rw[List.flatten_cons,zBf];have:vM key parts.flatten=none:=zA4 (λx hx=>by
   obtain⟨r,hr,hx⟩:=List.mem_flatten.1 hx;obtain⟨i,hi,e⟩:=uR hr;exact hn (i+1) r (by omega) (by rw[List.getElem?_cons_succ,<- e];exact uA hi) x hx)
  rw[this];cases vM key q <;> rfl
 | q :: parts,at_+1,p,h,hn=>by
  rw[List.flatten_cons,zBf,zA4 (λx hx=>hn 0 q (by omega) rfl x hx),zFD key parts at_ p (by simpa using h) (λj r hj hr=>hn (j+1) r (by omega) (by simpa using hr))];rfl
theorem zCj{α:Type}{f:α->Bool}{l:List α}{i:Nat}{a:α}(hi:i<l.findIdx f)(ha:l[i]? = some a):f a=false:=by
 obtain⟨h,rfl⟩:=uB.1 ha;simpa using List.not_of_lt_findIdx hi
theorem zCk{α:Type}{f:α->Bool}{l:List α}{a:α}(ha:l[l.findIdx f]? = some a):f a=true:=by
 obtain⟨h,rfl⟩:=uB.1 ha;exact List.findIdx_getElem
theorem zHA{V:Nat->Option zK}{R:Int->Int->Option ByteArray}{lo:ByteArray}{hi:Option ByteArray}{n:zK}{d:Nat}{parts:List (List qM)}{key:ByteArray}(hr:n.keys.Pairwise λa b=>ltS a b=true)(hkl:n.kids.length=n.keys.length+1)(hpl:parts.length=n.kids.length)
  (hT:∀(i:Nat) (k:Int) (p:List qM),n.kids[i]? = some k->parts[i]? = some p->Tr V R (zG8 lo n.keys i) (zG9 hi n.keys i) k.toNat d p) (hk:inB lo hi key) :
  ∃(k:Int) (p:List qM),n.kids[zBI key n.keys]? = some k/\parts[zBI key n.keys]? = some p/\inB (zG8 lo n.keys (zBI key n.keys)) (zG9 hi n.keys (zBI key n.keys)) key/\vM key parts.flatten=vM key p:=by
 obtain⟨a,ha⟩:∃a,a=zBI key n.keys:=⟨_,rfl⟩;rw[<- ha];have hal:a<=n.keys.length:=by rw[ha];exact List.findIdx_le_length
 have hak:a<n.kids.length:=by omega
 have hap:a<parts.length:=by omega
 refine⟨n.kids[a],parts[a],uA hak,uA hap,⟨?_,λq hq=>?_⟩,zFD key parts a parts[a] (uA hap) (λj q hj hq x hx=>?_)⟩
 .unfold zG8;by_cases h0:a=0
  .rw[if_pos h0];exact hk.1
  .rw[if_neg h0];have hl:a-1<n.keys.length:=by omega
   have e:n.keys.getD (a-1) lo=n.keys[a-1]:=by simp[List.getD,hl]
   rw[e];exact zCj (f:=λs=>ltS key s) (i:=a-1) (by show a-1<zBI key n.keys;omega) (uA hl)
 .unfold zG9 at hq;cases hs:n.keys[a]? with
  | none=>rw[hs] at hq;exact hk.2 q hq
  | some s =>
   rw[hs] at hq;injection hq with hq;subst hq;rw[ha] at hs;exact zCk (f:=λs=>ltS key s) hs
 .have hjp:=(uB.1 hq).1;have hjk:j<n.kids.length:=by omega
  have hx2:=(hT j n.kids[j] q (uA hjk) hq).keys x hx;rcases Nat.lt_or_gt_of_ne hj with hlt|hgt
  .have hl:j<n.keys.length:=by omega
   have h1:ltS x.1 n.keys[j]=true:=hx2.2 _ (by unfold zG9;rw[uA hl]);have h2:ltS key n.keys[j]=false:=zCj (f:=λs=>ltS key s) (i:=j) (by show j<zBI key n.keys;omega) (uA hl);exact λe=>by rw[e] at h1;rw[h1] at h2;cases h2
  .have hl:j-1<n.keys.length:=by omega
   have h1:=hx2.1;unfold zG8 at h1;rw[if_neg (by omega)] at h1;have e:n.keys.getD (j-1) lo=n.keys[j-1]:=by simp[List.getD,hl]
   rw[e] at h1;have hal2:a<n.keys.length:=by omega
   have h2:ltS key n.keys[a]=true:=by
    have hs:n.keys[zBI key n.keys]? = some n.keys[a]:=by rw[<- ha];exact uA hal2
    exact zCk (f:=λs=>ltS key s) hs
   have h3:ltS key n.keys[j-1]=true:=by
    by_cases e:a=j-1
    .subst e;exact h2
    .exact zAx h2 (zK8 hr (by omega) (uA hal2) (uA hl))
   exact λe=>by rw[e] at h1;rw[h1] at h3;cases h3
inductive zEK (V:Nat->Option zK) (key:ByteArray):Nat->Nat->List (Nat × Nat)->zK->Prop
 | leaf {id n}:V id=some n->n.leaf=true->zEK V key id 1 [(id,zBJ key n.entries)] n
 | inner {id n d st m k}:V id=some n->n.leaf=false->n.kids[zBI key n.keys]? = some k->zEK V key k.toNat d st m->zEK V key id (d+1) ((id,zBI key n.keys) :: st) m
def zCQ(R:Int->Int->Option ByteArray)(key:ByteArray)(n:zK):Option ByteArray:=match n.entries[zBJ key n.entries]? with
 | some e=>if e.key=key then zB5 R e else none
 | none=>none
theorem zIY{R:Int->Int->Option ByteArray}{n:zK}{l:List qM}(hr:(n.entries.map (·.key)).Pairwise λa b=>ltS a b=true)(hl:n.entries.length=l.length)(he:∀(i:Nat) (e:zS) (x:qM),n.entries[i]? = some e->l[i]? = some x->e.key=x.1/\zB5 R e=some x.2)(key:ByteArray) :
  vM key l=zCQ R key n:=by
 obtain⟨a,ha⟩:∃a,a=zBJ key n.entries:=⟨_,rfl⟩;have hlow:∀(i:Nat) (x:qM),i<a->l[i]? = some x->x.1≠key:=λi x hi hx=>by
  have hil:=(uB.1 hx).1;have hie:i<n.entries.length:=by omega
  have h1:=he i n.entries[i] x (uA hie) hx;have h2:=zCj (f:=λe:zS=>!ltS e.key key) (i:=i) (by show i<zBJ key n.entries;omega) (uA hie);simp only[Bool.not_eq_false'] at h2;rw[h1.1] at h2;exact zJY h2
 unfold zCQ;rw[<- ha];cases hea:n.entries[a]? with
 | none =>
  simp only;refine zA4 (λx hx=>?_);obtain⟨i,hi,e⟩:=uR hx;have hx2:l[i]? = some x:=by rw[<- e];exact uA hi
  have:n.entries.length<=a:=List.getElem?_eq_none_iff.1 hea;exact hlow i x (by omega) hx2
 | some e =>
  simp only;have hae:=(uB.1 hea).1;have hal:a<l.length:=by omega
  have hxa:l[a]? = some l[a]:=uA hal;obtain⟨h1,h2⟩:=he a e l[a] hea hxa;have hup:∀(j:Nat) (x:qM),a<j->l[j]? = some x->ltS l[a].1 x.1=true:=λj x hj hx=>by
   have hjl:=(uB.1 hx).1;have hje:j<n.entries.length:=by omega
   have h3:=(he j n.entries[j] x (uA hje) hx).1;have h4:=zK8 hr hj (a:=e.key) (b:=n.entries[j].key) (by rw[rH,hea];rfl) (by rw[rH,uA hje];rfl);rw[h1,h3] at h4;exact h4
  have hsplit:l=l.take a++l[a] :: l.drop (a+1):=by
   rw[<- wP hal,wS]
  have hno:vM key (l.take a)=none:=zA4 (λx hx=>by
   obtain⟨i,hi,e⟩:=uR hx;rw[List.getElem_take] at e;have hia:i<a:=by simp at hi;omega
   exact hlow i x hia (by rw[<- e];exact uA (by omega)))
  rw[hsplit,zBf,hno,Option.none_or,zCi];by_cases hk:e.key=key
  .rw[if_pos hk,if_pos (by rw[<- h1];exact hk),h2]
  .rw[if_neg hk,if_neg (by rw[<- h1];exact hk)];have hge:ltS e.key key=false:=by
    have:=zCk (f:=λe:zS=>!ltS e.key key) (a:=e) (by rw[show n.entries.findIdx (λe:zS=>!ltS e.key key)=a from ha.symm];exact hea);simpa using this
   have hgt:ltS key e.key=true:=(zFi hge).resolve_right (λh=>hk (by rw[h]));refine zJZ (λx hx=>?_);obtain⟨i,hi,e2⟩:=uR hx;rw[List.getElem_drop] at e2;have hil:a+1+i<l.length:=by simp at hi;omega
   rw[h1] at hgt;exact zAx hgt (hup (a+1+i) x (by omega) (by rw[<- e2];exact uA hil))
theorem zGN{n:zK}(h:zY n=true)(hl:n.leaf=true):(n.entries.map (·.key)).Pairwise λa b=>ltS a b=true:=by
 unfold zY at h;rw[if_pos hl] at h;simp only[uF] at h;exact zDQ h.1.2
theorem zBi{n:zK}(h:zY n=true)(hl:n.leaf=false):(n.keys.Pairwise λa b=>ltS a b=true)/\n.kids.length=n.keys.length+1/\∀k∈n.kids,2<=k/\k<256:=by
 unfold zY at h;rw[if_neg (by rw[hl];simp)] at h;simp only[uF,uM,wO] at h;obtain⟨⟨⟨⟨⟨⟨⟨h1,h2⟩,h3⟩,h4⟩,h5⟩,h6⟩,h7⟩,h8⟩:=h;exact⟨zDQ h8,h3,λk hk=>by simpa[zA9] using h5 k hk⟩
def zHB(n:zK)(a:Nat):zK × ByteArray × zK :=
 if n.leaf=true then (⟨true,n.entries.take a,[],[]⟩,(match n.entries[a]? with|some e=>e.key|none=>⟨#[]⟩),⟨true,n.entries.drop a,[],[]⟩)
 else (⟨false,[],n.keys.take (a-1),n.kids.take a⟩,n.keys.getD (a-1) ⟨#[]⟩,⟨false,[],n.keys.drop a,n.kids.drop a⟩)
def zH0(n:zK):Nat:=(zT n).length
def zKl(n:zK)(a:Nat):Nat:=((zH0 (zHB n a).1:Int)-(zH0 (zHB n a).2.2:Int)).natAbs
def zGO(d:Nat->Nat):Nat->Nat->Nat->Nat
 | b,_,0=>b
 | b,a,m+1=>zGO d (if d a<d b then a else b) (a+1) m
def zH1(n:zK):Nat:=if n.leaf=true then 1 else 2
def zH2(n:zK):Nat:=if n.leaf=true then n.entries.length-1 else n.kids.length-3
def zLg(n:zK):Option (zK × ByteArray × zK) :=
 if zY n=true/\0<zH2 n then some (zHB n (zGO (zKl n) (zH1 n) (zH1 n) (zH2 n))) else none
end
end Go.Proofs.YtgphfebjjedeaaaGreatDoor
