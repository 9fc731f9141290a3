import Derived.Test.YtchklfmggpconaaGreatDoorK07
namespace Go.Proofs.YtchklfmggpconaaGreatDoor
section
open Go.RowKit
def zE4(R:Int->Int->Option ByteArray)(e:zI):Option ByteArray:=if e.chain=0 then some e.value else R e.chain e.size
def inB(lo:ByteArray)(hi:Option ByteArray)(k:ByteArray):Prop:=qJ k lo=false/\∀h,hi=some h->qJ k h=true
def zDF(lo:ByteArray)(keys:List ByteArray)(i:Nat):ByteArray:=if i=0 then lo else keys.getD (i-1) lo
def zDx(hi:Option ByteArray)(keys:List ByteArray)(i:Nat):Option ByteArray:=match keys[i]? with
 | some s=>some s
 | none=>hi
inductive Tr (V:Nat->Option zF) (R:Int->Int->Option ByteArray):ByteArray->Option ByteArray->Nat->Nat->List zE->Prop
 | leaf {lo hi id n} {l:List zE}:V id=some n->n.leaf=true->zM n=true->n.entries.length=l.length->(∀(i:Nat) (e:zI) (x:zE),n.entries[i]? = some e->l[i]? = some x->e.key=x.1/\zE4 R e=some x.2)->(∀x∈l,inB lo hi x.1)->Tr V R lo hi id 1 l
 | inner {lo hi id n d} {parts:List (List zE)}:V id=some n->n.leaf=false->zM n=true->parts.length=n.kids.length->(∀(i:Nat) (k:Int) (p:List zE),n.kids[i]? = some k->parts[i]? = some p->Tr V R (zDF lo n.keys i) (zDx hi n.keys i) k.toNat d p)->(∀s∈n.keys,inB lo hi s)->Tr V R lo hi id (d+1) parts.flatten
theorem zFc{a b c:ByteArray}(h1:qJ b a=false)(h2:qJ c b=false):qJ c a=false:=by
 cases h:qJ c a with
 | false=>rfl
 | true =>
  rcases zCr h2 with k|rfl
  .have:=vU k h;rw[h1] at this;cases this
  .rw[h1] at h;cases h
theorem zBb{a b c:ByteArray}(h1:qJ a b=true)(h2:qJ c b=false):qJ a c=true:=by
 rcases zCr h2 with k|rfl
 .exact vU h1 k
 .exact h1
theorem zJe{a b c:ByteArray}(h1:qJ b a=false)(h2:qJ b c=true):qJ a c=true:=by
 rcases zCr h1 with k|rfl
 .exact vU k h2
 .exact h2
theorem zF9:∀{l:List ByteArray},jS l=true->l.Pairwise λa b=>qJ a b=true
 | [],_=>List.Pairwise.nil
 | [_],_=>List.pairwise_singleton _ _
 | a :: b :: l,h=>by
  simp only[jS,uK] at h;have h2:=zF9 h.2;refine wV.2 ⟨λy hy=>?_,h2⟩;rcases uN.1 hy with rfl|hy
  .exact h.1
  .exact vU h.1 ((wV.1 h2).1 y hy)
theorem zPg{l:List ByteArray}(h:l.Pairwise λa b=>qJ a b=true){i j:Nat}{a b:ByteArray}(hij:i<j)(hi:l[i]? = some a)(hj:l[j]? = some b):qJ a b=true:=by
 obtain⟨h1,rfl⟩:=uB.1 hi;obtain⟨h2,rfl⟩:=uB.1 hj;exact List.pairwise_iff_getElem.1 h i j h1 h2 hij
theorem zQk{lo:ByteArray}{hi:Option ByteArray}{keys:List ByteArray}(hs:∀s∈keys,inB lo hi s){i:Nat}{k:ByteArray}(h:inB (zDF lo keys i) (zDx hi keys i) k):inB lo hi k:=by
 refine⟨?_,λq hq=>?_⟩
 .unfold zDF at h;by_cases hi0:i=0
  .rw[if_pos hi0] at h;exact h.1
  .rw[if_neg hi0] at h;have h1:=h.1;by_cases hl:i-1<keys.length
   .have e:keys.getD (i-1) lo=keys[i-1]:=by simp[List.getD,hl]
    rw[e] at h1;exact zFc (hs _ (wH hl)).1 h1
   .have e:keys.getD (i-1) lo=lo:=by simp[List.getD,rQ (by omega:keys.length<=i-1)]
    rw[e] at h1;exact h1
 .have h2:=h.2;unfold zDx at h2;cases hk:keys[i]? with
  | none=>rw[hk] at h2;exact h2 q hq
  | some s =>
   rw[hk] at h2;obtain⟨hl,rfl⟩:=uB.1 hk;exact vU (h2 _ rfl) ((hs _ (wH hl)).2 q hq)
theorem Tr.keys{V:Nat->Option zF}{R:Int->Int->Option ByteArray}{lo:ByteArray}{hi:Option ByteArray}{id d:Nat}{l:List zE}(h:Tr V R lo hi id d l):∀x∈l,inB lo hi x.1:=by
 induction h with
 | leaf _ _ _ _ _ h6=>exact h6
 | @inner lo hi id n d parts h1 h2 h3 h4 h5 h6 ih =>
  intro x hx;obtain⟨p,hp,hx⟩:=rG.1 hx;obtain⟨i,hi,e⟩:=wQ hp;have hp2:parts[i]? = some p:=by rw[<- e];exact uA hi
  have hk:i<n.kids.length:=by omega
  exact zQk h6 (ih i n.kids[i] p (uA hk) hp2 x hx)
def zAY(key:ByteArray)(keys:List ByteArray):Nat:=keys.findIdx λs=>qJ key s
def vY(key:ByteArray)(es:List zI):Nat:=es.findIdx λe=>!qJ e.key key
def zAt(key:ByteArray)(es:List zI):Bool:=match es[vY key es]? with
 | some e=>decide (e.key=key)
 | none=>false
theorem zIe(key:ByteArray):∀(parts:List (List zE)) (at_:Nat) (p:List zE),parts[at_]? = some p->(∀(j:Nat) (q:List zE),j≠at_->parts[j]? = some q->∀x∈q,x.1≠key)->zAe key parts.flatten=zAe key p
 | [],_,_,h,_=>by simp at h
 | q :: parts,0,p,h,hn=>by
  simp at h;subst h;rw[wT,zA4];have:zAe key parts.flatten=none:=zDS (λx hx=>by
   obtain⟨r,hr,hx⟩:=rG.1 hx;obtain⟨i,hi,e⟩:=wQ hr;exact hn (i+1) r (by omega) (by rw[rA,<- e];exact uA hi) x hx)
  rw[this];cases zAe key q <;> rfl
 | q :: parts,at_+1,p,h,hn=>by
  rw[wT,zA4,zDS (λx hx=>hn 0 q (by omega) rfl x hx),zIe key parts at_ p (by simpa using h) (λj r hj hr=>hn (j+1) r (by omega) (by simpa using hr))];rfl
theorem zDV{α:Type}{f:α->Bool}{l:List α}{i:Nat}{a:α}(hi:i<l.findIdx f)(ha:l[i]? = some a):f a=false:=by
 obtain⟨h,rfl⟩:=uB.1 ha;simpa using List.not_of_lt_findIdx hi
theorem zDW{α:Type}{f:α->Bool}{l:List α}{a:α}(ha:l[l.findIdx f]? = some a):f a=true:=by
 obtain⟨h,rfl⟩:=uB.1 ha;exact List.findIdx_getElem
theorem zMD{V:Nat->Option zF}{R:Int->Int->Option ByteArray}{lo:ByteArray}{hi:Option ByteArray}{n:zF}{d:Nat}{parts:List (List zE)}{key:ByteArray}(hr:n.keys.Pairwise λa b=>qJ a b=true)(hkl:n.kids.length=n.keys.length+1)(hpl:parts.length=n.kids.length)
  (hT:∀(i:Nat) (k:Int) (p:List zE),n.kids[i]? = some k->parts[i]? = some p->Tr V R (zDF lo n.keys i) (zDx hi n.keys i) k.toNat d p) (hk:inB lo hi key) :
  ∃(k:Int) (p:List zE),n.kids[zAY key n.keys]? = some k/\parts[zAY key n.keys]? = some p/\inB (zDF lo n.keys (zAY key n.keys)) (zDx hi n.keys (zAY key n.keys)) key/\zAe key parts.flatten=zAe key p:=by
 obtain⟨a,ha⟩:∃a,a=zAY key n.keys:=⟨_,rfl⟩;rw[<- ha];have hal:a<=n.keys.length:=by rw[ha];exact rD
 have hak:a<n.kids.length:=by omega
 have hap:a<parts.length:=by omega
 refine⟨n.kids[a],parts[a],uA hak,uA hap,⟨?_,λq hq=>?_⟩,zIe key parts a parts[a] (uA hap) (λj q hj hq x hx=>?_)⟩
 .unfold zDF;by_cases h0:a=0
  .rw[if_pos h0];exact hk.1
  .rw[if_neg h0];have hl:a-1<n.keys.length:=by omega
   have e:n.keys.getD (a-1) lo=n.keys[a-1]:=by simp[List.getD,hl]
   rw[e];exact zDV (f:=λs=>qJ key s) (i:=a-1) (by show a-1<zAY key n.keys;omega) (uA hl)
 .unfold zDx at hq;cases hs:n.keys[a]? with
  | none=>rw[hs] at hq;exact hk.2 q hq
  | some s =>
   rw[hs] at hq;injection hq with hq;subst hq;rw[ha] at hs;exact zDW (f:=λs=>qJ key s) hs
 .have hjp:=(uB.1 hq).1;have hjk:j<n.kids.length:=by omega
  have hx2:=(hT j n.kids[j] q (uA hjk) hq).keys x hx;rcases Nat.lt_or_gt_of_ne hj with hlt|hgt
  .have hl:j<n.keys.length:=by omega
   have h1:qJ x.1 n.keys[j]=true:=hx2.2 _ (by unfold zDx;rw[uA hl]);have h2:qJ key n.keys[j]=false:=zDV (f:=λs=>qJ key s) (i:=j) (by show j<zAY key n.keys;omega) (uA hl);exact λe=>by rw[e] at h1;rw[h1] at h2;cases h2
  .have hl:j-1<n.keys.length:=by omega
   have h1:=hx2.1;unfold zDF at h1;rw[if_neg (by omega)] at h1;have e:n.keys.getD (j-1) lo=n.keys[j-1]:=by simp[List.getD,hl]
   rw[e] at h1;have hal2:a<n.keys.length:=by omega
   have h2:qJ key n.keys[a]=true:=by
    have hs:n.keys[zAY key n.keys]? = some n.keys[a]:=by rw[<- ha];exact uA hal2
    exact zDW (f:=λs=>qJ key s) hs
   have h3:qJ key n.keys[j-1]=true:=by
    by_cases e:a=j-1
    .subst e;exact h2
    .exact vU h2 (zPg hr (by omega) (uA hal2) (uA hl))
   exact λe=>by rw[e] at h1;rw[h1] at h3;cases h3
theorem zB9{n:zF}(h:zM n=true)(hl:n.leaf=true):(n.entries.map (·.key)).Pairwise λa b=>qJ a b=true:=by
 unfold zM at h;rw[if_pos hl] at h;simp only[uK] at h;exact zF9 h.1.2
theorem jC{n:zF}(h:zM n=true)(hl:n.leaf=false):(n.keys.Pairwise λa b=>qJ a b=true)/\n.kids.length=n.keys.length+1/\∀k∈n.kids,2<=k/\k<256:=by
 unfold zM at h;rw[if_neg (by rw[hl];simp)] at h;simp only[uK,uQ,tD] at h;obtain⟨⟨⟨⟨⟨⟨⟨h1,h2⟩,h3⟩,h4⟩,h5⟩,h6⟩,h7⟩,h8⟩:=h;exact⟨zF9 h8,h3,λk hk=>by simpa[zCL] using h5 k hk⟩
def zS(n:zF)(a:Nat):zF × ByteArray × zF :=
 if n.leaf=true then (⟨true,n.entries.take a,[],[]⟩,(match n.entries[a]? with|some e=>e.key|none=>⟨#[]⟩),⟨true,n.entries.drop a,[],[]⟩)
 else (⟨false,[],n.keys.take (a-1),n.kids.take a⟩,n.keys.getD (a-1) ⟨#[]⟩,⟨false,[],n.keys.drop a,n.kids.drop a⟩)
def zFd(n:zF):Nat:=(zZ n).length
def zAN(n:zF)(a:Nat):Nat:=((zFd (zS n a).1:Int)-(zFd (zS n a).2.2:Int)).natAbs
def yX(d:Nat->Nat):Nat->Nat->Nat->Nat
 | b,_,0=>b
 | b,a,m+1=>yX d (if d a<d b then a else b) (a+1) m
def qA(n:zF):Nat:=if n.leaf=true then 1 else 2
def qZ(n:zF):Nat:=if n.leaf=true then n.entries.length-1 else n.kids.length-3
def zDX(n:zF):Option (zF × ByteArray × zF) :=
 if zM n=true/\0<qZ n then some (zS n (yX (zAN n) (qA n) (qA n) (qZ n))) else none
theorem zIK(d:Nat->Nat)(b m:Nat):yX d b b (m+1)=yX d b (b+1) m:=by
 rw[yX,if_neg (Nat.lt_irrefl _)]
theorem zD3(d:Nat->Nat):∀(m b a lo hi:Nat),lo<=b->b<hi->lo<=a->a+m<=hi->lo<=yX d b a m/\yX d b a m<hi
 | 0,_,_,_,_,h1,h2,_,_=>⟨h1,h2⟩
 | m+1,b,a,lo,hi,h1,h2,h3,h4=>by
  rw[yX];split
  .exact zD3 d m a (a+1) lo hi h3 (by omega) (by omega) (by omega)
  .exact zD3 d m b (a+1) lo hi h1 h2 (by omega) (by omega)
theorem zIf(n:zF)(h:0<qZ n):qA n<=yX (zAN n) (qA n) (qA n) (qZ n)/\yX (zAN n) (qA n) (qA n) (qZ n)<qA n+qZ n :=
 zD3 _ _ _ _ _ _ (uJ _) (by omega) (uJ _) (uJ _)
end
section
def zAT(n:zF)(z:Int):Bool:=(n.leaf && decide ((n.entries.length:Int)=0)) || (!n.leaf && decide ((n.kids.length:Int)<2)) || decide (3 * zD n<z-24)
end
section
open Go.RowKit
section
variable {P:Program}{fn:Func}{p q u v:Tmp}{ty tq:TypeId}
theorem zSC{w:World}{g:Nat}{t ty:TypeId}{cs:Array Value}{d:TypeDesc}(hg:zL w g cs t)(hu:P.underlying ty=some d)(hd:(match d with | .struct _ | .array _ _=>true|_=>false)=true)(hi:(P.info? ty).map (·.size)=some cs.size) :
  ((asAddr (.pointer (some ⟨g,0,none⟩))).run P w).andThen (λa w₁=>(loadVar ty a).run P w₁)=.ok (.agg cs) w:=by
 have hg':w.heap[g]? = some (.cells cs t (0,0)):=hg;simp[asAddr,run_loadVar_row w g t ty cs (0,0) d hg' hu hd hi]
theorem zCQ(h:fn.results=#[.cell p ty,.tmp u,.cell q tq])(tmps:Array Value)(w:World)(g g2:Nat)(t t2:TypeId)(cs cs2:Array Value)(d:TypeDesc)
  (hp:tmps.getD p undef=.pointer (some ⟨g,0,none⟩)) (hg:zL w g cs t) (hq:tmps.getD q undef=.pointer (some ⟨g2,0,none⟩)) (hg2:zL w g2 cs2 t2) (e:tq=ty)
  (hu:P.underlying ty=some d) (hd:(match d with | .struct _ | .array _ _=>true|_=>false)=true) (hi:(P.info? ty).map (·.size)=some cs.size) (hi2:cs2.size=cs.size) :
  (results fn tmps).run P w=.ok (.tuple #[.agg cs,tmps.getD u undef,.agg cs2]) w:=by
 subst e;have hg':w.heap[g]? = some (.cells cs t (0,0)):=hg;have hg2':w.heap[g2]? = some (.cells cs2 t2 (0,0)):=hg2;have e1:=run_loadVar_row w g t tq cs (0,0) d hg' hu hd hi;have e2:=run_loadVar_row w g2 t2 tq cs2 (0,0) d hg2' hu hd (by rw[hi2];exact hi);have e:(results fn tmps).run P w=((asAddr (tmps.getD p undef)).run P w).andThen λa w₁=>((loadVar tq a).run P w₁).andThen λx w₂=>((asAddr (tmps.getD q undef)).run P w₂).andThen λb w₃=>((loadVar tq b).run P w₃).andThen λy w₄=>.ok (.tuple #[x,tmps.getD u undef,y]) w₄:=by
  simp only[results,h];simp[Sem.run_bind,Result.andThen]
 rw[e,hp,hq];simp[asAddr,e1,e2]
theorem zAZ(h:fn.results=#[.cell p ty,.tmp u,.cell q tq,.tmp v])(tmps:Array Value)(w:World)(g g2:Nat)(t t2:TypeId)(cs cs2:Array Value)(d:TypeDesc)
  (hp:tmps.getD p undef=.pointer (some ⟨g,0,none⟩)) (hg:zL w g cs t) (hq:tmps.getD q undef=.pointer (some ⟨g2,0,none⟩)) (hg2:zL w g2 cs2 t2) (e:tq=ty)
  (hu:P.underlying ty=some d) (hd:(match d with | .struct _ | .array _ _=>true|_=>false)=true) (hi:(P.info? ty).map (·.size)=some cs.size) (hi2:cs2.size=cs.size) :
  (results fn tmps).run P w=.ok (.tuple #[.agg cs,tmps.getD u undef,.agg cs2,tmps.getD v undef]) w:=by
 subst e;have hg':w.heap[g]? = some (.cells cs t (0,0)):=hg;have hg2':w.heap[g2]? = some (.cells cs2 t2 (0,0)):=hg2;have e1:=run_loadVar_row w g t tq cs (0,0) d hg' hu hd hi;have e2:=run_loadVar_row w g2 t2 tq cs2 (0,0) d hg2' hu hd (by rw[hi2];exact hi);have e:(results fn tmps).run P w=((asAddr (tmps.getD p undef)).run P w).andThen λa w₁=>((loadVar tq a).run P w₁).andThen λx w₂=>((asAddr (tmps.getD q undef)).run P w₂).andThen λb w₃=>((loadVar tq b).run P w₃).andThen λy w₄=>.ok (.tuple #[x,tmps.getD u undef,y,tmps.getD v undef]) w₄:=by
  simp only[results,h];simp[Sem.run_bind,Result.andThen]
 rw[e,hp,hq];simp[asAddr,e1,e2]
end
theorem zL.set5{w:World}{R:Nat}{t:TypeId}{a0 a1 a2 a3 a4:Value}(h:zL w R #[a0,a1,a2,a3,a4] t)(v0 v1 v2 v3 v4:Value) :
  zL (((((w.setCell ⟨R,0,none⟩ v0).setCell ⟨R,1,none⟩ v1).setCell ⟨R,2,none⟩ v2).setCell ⟨R,3,none⟩ v3).setCell ⟨R,4,none⟩ v4) R #[v0,v1,v2,v3,v4] t:=by
 simpa using ((((h.set 0 v0).set 1 v1).set 2 v2).set 3 v3).set 4 v4
theorem zA.set5{F:Nat->Prop}{w w':World}(m:zA F w w'){R:Nat}(hR:w.heap.size<=R\/F R)(v0 v1 v2 v3 v4:Value) :
  zA F w (((((w'.setCell ⟨R,0,none⟩ v0).setCell ⟨R,1,none⟩ v1).setCell ⟨R,2,none⟩ v2).setCell ⟨R,3,none⟩ v3).setCell ⟨R,4,none⟩ v4) :=
 (m.set4 hR v0 v1 v2 v3).setCell (p:=⟨R,4,none⟩) hR _
end
end Go.Proofs.YtchklfmggpconaaGreatDoor
