import Derived.Test.YtchklfmggpconaaGreatDoorK07
namespace Go.Proofs.YtchklfmggpconaaGreatDoor
section
open Go.RowKit
def tellsE(R:Int→Int→Option ByteArray)(e:EntryA):Option ByteArray:=if e.chain=0 then some e.value else R e.chain e.size
def inB(lo:ByteArray)(hi:Option ByteArray)(k:ByteArray):Prop:=ltS k lo=false∧∀h,hi=some h→ltS k h=true
def loAt(lo:ByteArray)(keys:List ByteArray)(i:Nat):ByteArray:=if i=0 then lo else keys.getD (i-1) lo
def hiAt(hi:Option ByteArray)(keys:List ByteArray)(i:Nat):Option ByteArray:=match keys[i]? with
 | some s=>some s
 | none=>hi
inductive Tr (V:Nat→Option NodeA) (R:Int→Int→Option ByteArray):ByteArray→Option ByteArray→Nat→Nat→List PairS→Prop
 | leaf {lo hi id n} {l:List PairS}:V id=some n→n.leaf=true→rightN n=true→n.entries.length=l.length→(∀(i:Nat) (e:EntryA) (x:PairS),n.entries[i]? = some e→l[i]? = some x→e.key=x.1∧tellsE R e=some x.2)→(∀x∈l,inB lo hi x.1)→Tr V R lo hi id 1 l
 | inner {lo hi id n d} {parts:List (List PairS)}:V id=some n→n.leaf=false→rightN n=true→parts.length=n.kids.length→(∀(i:Nat) (k:Int) (p:List PairS),n.kids[i]? = some k→parts[i]? = some p→Tr V R (loAt lo n.keys i) (hiAt hi n.keys i) k.toNat d p)→(∀s∈n.keys,inB lo hi s)→Tr V R lo hi id (d+1) parts.flatten
theorem not_lt_trans{a b c:ByteArray}(h1:ltS b a=false)(h2:ltS c b=false):ltS c a=false:=by
 cases h:ltS c a with
 | false=>rfl
 | true =>
  rcases not_ltS h2 with k|rfl
  ·have:=ltS_trans k h;rw[h1] at this;cases this
  ·rw[h1] at h;cases h
theorem lt_of_lt_not{a b c:ByteArray}(h1:ltS a b=true)(h2:ltS c b=false):ltS a c=true:=by
 rcases not_ltS h2 with k|rfl
 ·exact ltS_trans h1 k
 ·exact h1
theorem lt_of_not_lt{a b c:ByteArray}(h1:ltS b a=false)(h2:ltS b c=true):ltS a c=true:=by
 rcases not_ltS h1 with k|rfl
 ·exact ltS_trans k h2
 ·exact h2
theorem rising_pw:∀{l:List ByteArray},risingS l=true→l.Pairwise λa b=>ltS a b=true
 | [],_=>List.Pairwise.nil
 | [_],_=>List.pairwise_singleton _ _
 | a :: b :: l,h=>by
  simp only[risingS,Bool.and_eq_true] at h;have h2:=rising_pw h.2;refine List.pairwise_cons.2 ⟨λy hy=>?_,h2⟩;rcases List.mem_cons.1 hy with rfl|hy
  ·exact h.1
  ·exact ltS_trans h.1 ((List.pairwise_cons.1 h2).1 y hy)
theorem pw_at{l:List ByteArray}(h:l.Pairwise λa b=>ltS a b=true){i j:Nat}{a b:ByteArray}(hij:i<j)(hi:l[i]? = some a)(hj:l[j]? = some b):ltS a b=true:=by
 obtain⟨h1,rfl⟩:=List.getElem?_eq_some_iff.1 hi;obtain⟨h2,rfl⟩:=List.getElem?_eq_some_iff.1 hj;exact List.pairwise_iff_getElem.1 h i j h1 h2 hij
theorem inB_kid{lo:ByteArray}{hi:Option ByteArray}{keys:List ByteArray}(hs:∀s∈keys,inB lo hi s){i:Nat}{k:ByteArray}(h:inB (loAt lo keys i) (hiAt hi keys i) k):inB lo hi k:=by
 refine⟨?_,λq hq=>?_⟩
 ·unfold loAt at h;by_cases hi0:i=0
  ·rw[if_pos hi0] at h;exact h.1
  ·rw[if_neg hi0] at h;have h1:=h.1;by_cases hl:i-1<keys.length
   ·have e:keys.getD (i-1) lo=keys[i-1]:=by simp[List.getD,hl]
    rw[e] at h1;exact not_lt_trans (hs _ (List.getElem_mem hl)).1 h1
   ·have e:keys.getD (i-1) lo=lo:=by simp[List.getD,List.getElem?_eq_none (by omega:keys.length≤i-1)]
    rw[e] at h1;exact h1
 ·have h2:=h.2;unfold hiAt at h2;cases hk:keys[i]? with
  | none=>rw[hk] at h2;exact h2 q hq
  | some s =>
   rw[hk] at h2;obtain⟨hl,rfl⟩:=List.getElem?_eq_some_iff.1 hk;exact ltS_trans (h2 _ rfl) ((hs _ (List.getElem_mem hl)).2 q hq)
theorem Tr.keys{V:Nat→Option NodeA}{R:Int→Int→Option ByteArray}{lo:ByteArray}{hi:Option ByteArray}{id d:Nat}{l:List PairS}(h:Tr V R lo hi id d l):∀x∈l,inB lo hi x.1:=by
 induction h with
 | leaf _ _ _ _ _ h6=>exact h6
 | @inner lo hi id n d parts h1 h2 h3 h4 h5 h6 ih =>
  intro x hx;obtain⟨p,hp,hx⟩:=List.mem_flatten.1 hx;obtain⟨i,hi,e⟩:=List.getElem_of_mem hp;have hp2:parts[i]? = some p:=by rw[← e];exact List.getElem?_eq_getElem hi
  have hk:i<n.kids.length:=by omega
  exact inB_kid h6 (ih i n.kids[i] p (List.getElem?_eq_getElem hk) hp2 x hx)
def kidAt(key:ByteArray)(keys:List ByteArray):Nat:=keys.findIdx λs=>ltS key s
def entAt(key:ByteArray)(es:List EntryA):Nat:=es.findIdx λe=>!ltS e.key key
def entIs(key:ByteArray)(es:List EntryA):Bool:=match es[entAt key es]? with
 | some e=>decide (e.key=key)
 | none=>false
theorem flat_find(key:ByteArray):∀(parts:List (List PairS)) (at_:Nat) (p:List PairS),parts[at_]? = some p→(∀(j:Nat) (q:List PairS),j≠at_→parts[j]? = some q→∀x∈q,x.1≠key)→findP key parts.flatten=findP key p
 | [],_,_,h,_=>by simp at h
 | q :: parts,0,p,h,hn=>by
  simp at h;subst h;rw[List.flatten_cons,findP_append];have:findP key parts.flatten=none:=findP_none (λx hx=>by
   obtain⟨r,hr,hx⟩:=List.mem_flatten.1 hx;obtain⟨i,hi,e⟩:=List.getElem_of_mem hr;exact hn (i+1) r (by omega) (by rw[List.getElem?_cons_succ,← e];exact List.getElem?_eq_getElem hi) x hx)
  rw[this];cases findP key q <;> rfl
 | q :: parts,at_+1,p,h,hn=>by
  rw[List.flatten_cons,findP_append,findP_none (λx hx=>hn 0 q (by omega) rfl x hx),flat_find key parts at_ p (by simpa using h) (λj r hj hr=>hn (j+1) r (by omega) (by simpa using hr))];rfl
theorem findIdx_lt{α:Type}{f:α→Bool}{l:List α}{i:Nat}{a:α}(hi:i<l.findIdx f)(ha:l[i]? = some a):f a=false:=by
 obtain⟨h,rfl⟩:=List.getElem?_eq_some_iff.1 ha;simpa using List.not_of_lt_findIdx hi
theorem findIdx_at{α:Type}{f:α→Bool}{l:List α}{a:α}(ha:l[l.findIdx f]? = some a):f a=true:=by
 obtain⟨h,rfl⟩:=List.getElem?_eq_some_iff.1 ha;exact List.findIdx_getElem
theorem inner_find{V:Nat→Option NodeA}{R:Int→Int→Option ByteArray}{lo:ByteArray}{hi:Option ByteArray}{n:NodeA}{d:Nat}{parts:List (List PairS)}{key:ByteArray}(hr:n.keys.Pairwise λa b=>ltS a b=true)(hkl:n.kids.length=n.keys.length+1)(hpl:parts.length=n.kids.length)
  (hT:∀(i:Nat) (k:Int) (p:List PairS),n.kids[i]? = some k→parts[i]? = some p→Tr V R (loAt lo n.keys i) (hiAt hi n.keys i) k.toNat d p) (hk:inB lo hi key) :
  ∃(k:Int) (p:List PairS),n.kids[kidAt key n.keys]? = some k∧parts[kidAt key n.keys]? = some p∧inB (loAt lo n.keys (kidAt key n.keys)) (hiAt hi n.keys (kidAt key n.keys)) key∧findP key parts.flatten=findP key p:=by
 obtain⟨a,ha⟩:∃a,a=kidAt key n.keys:=⟨_,rfl⟩;rw[← ha];have hal:a≤n.keys.length:=by rw[ha];exact List.findIdx_le_length
 have hak:a<n.kids.length:=by omega
 have hap:a<parts.length:=by omega
 refine⟨n.kids[a],parts[a],List.getElem?_eq_getElem hak,List.getElem?_eq_getElem hap,⟨?_,λq hq=>?_⟩,flat_find key parts a parts[a] (List.getElem?_eq_getElem hap) (λj q hj hq x hx=>?_)⟩
 ·unfold loAt;by_cases h0:a=0
  ·rw[if_pos h0];exact hk.1
  ·rw[if_neg h0];have hl:a-1<n.keys.length:=by omega
   have e:n.keys.getD (a-1) lo=n.keys[a-1]:=by simp[List.getD,hl]
   rw[e];exact findIdx_lt (f:=λs=>ltS key s) (i:=a-1) (by show a-1<kidAt key n.keys;omega) (List.getElem?_eq_getElem hl)
 ·unfold hiAt at hq;cases hs:n.keys[a]? with
  | none=>rw[hs] at hq;exact hk.2 q hq
  | some s =>
   rw[hs] at hq;injection hq with hq;subst hq;rw[ha] at hs;exact findIdx_at (f:=λs=>ltS key s) hs
 ·have hjp:=(List.getElem?_eq_some_iff.1 hq).1;have hjk:j<n.kids.length:=by omega
  have hx2:=(hT j n.kids[j] q (List.getElem?_eq_getElem hjk) hq).keys x hx;rcases Nat.lt_or_gt_of_ne hj with hlt|hgt
  ·have hl:j<n.keys.length:=by omega
   have h1:ltS x.1 n.keys[j]=true:=hx2.2 _ (by unfold hiAt;rw[List.getElem?_eq_getElem hl]);have h2:ltS key n.keys[j]=false:=findIdx_lt (f:=λs=>ltS key s) (i:=j) (by show j<kidAt key n.keys;omega) (List.getElem?_eq_getElem hl);exact λe=>by rw[e] at h1;rw[h1] at h2;cases h2
  ·have hl:j-1<n.keys.length:=by omega
   have h1:=hx2.1;unfold loAt at h1;rw[if_neg (by omega)] at h1;have e:n.keys.getD (j-1) lo=n.keys[j-1]:=by simp[List.getD,hl]
   rw[e] at h1;have hal2:a<n.keys.length:=by omega
   have h2:ltS key n.keys[a]=true:=by
    have hs:n.keys[kidAt key n.keys]? = some n.keys[a]:=by rw[← ha];exact List.getElem?_eq_getElem hal2
    exact findIdx_at (f:=λs=>ltS key s) hs
   have h3:ltS key n.keys[j-1]=true:=by
    by_cases e:a=j-1
    ·subst e;exact h2
    ·exact ltS_trans h2 (pw_at hr (by omega) (List.getElem?_eq_getElem hal2) (List.getElem?_eq_getElem hl))
   exact λe=>by rw[e] at h1;rw[h1] at h3;cases h3
theorem rightN_inner{n:NodeA}(h:rightN n=true)(hl:n.leaf=false):(n.keys.Pairwise λa b=>ltS a b=true)∧n.kids.length=n.keys.length+1∧∀k∈n.kids,2≤k∧k<256:=by
 unfold rightN at h;rw[if_neg (by rw[hl];simp)] at h;simp only[Bool.and_eq_true,decide_eq_true_eq,List.all_eq_true] at h;obtain⟨⟨⟨⟨⟨⟨⟨h1,h2⟩,h3⟩,h4⟩,h5⟩,h6⟩,h7⟩,h8⟩:=h;exact⟨rising_pw h8,h3,λk hk=>by simpa[kidB] using h5 k hk⟩
def apartA(n:NodeA)(a:Nat):NodeA × ByteArray × NodeA :=
 if n.leaf=true then (⟨true,n.entries.take a,[],[]⟩,(match n.entries[a]? with|some e=>e.key|none=>⟨#[]⟩),⟨true,n.entries.drop a,[],[]⟩)
 else (⟨false,[],n.keys.take (a-1),n.kids.take a⟩,n.keys.getD (a-1) ⟨#[]⟩,⟨false,[],n.keys.drop a,n.kids.drop a⟩)
def weightA(n:NodeA):Nat:=(bytesN n).length
def unlikeA(n:NodeA)(a:Nat):Nat:=((weightA (apartA n a).1:Int)-(weightA (apartA n a).2.2:Int)).natAbs
def firstMin(d:Nat→Nat):Nat→Nat→Nat→Nat
 | b,_,0=>b
 | b,a,m+1=>firstMin d (if d a<d b then a else b) (a+1) m
def cutFrom(n:NodeA):Nat:=if n.leaf=true then 1 else 2
def cutMany(n:NodeA):Nat:=if n.leaf=true then n.entries.length-1 else n.kids.length-3
def cutA(n:NodeA):Option (NodeA × ByteArray × NodeA) :=
 if rightN n=true∧0<cutMany n then some (apartA n (firstMin (unlikeA n) (cutFrom n) (cutFrom n) (cutMany n))) else none
theorem firstMin_same(d:Nat→Nat)(b m:Nat):firstMin d b b (m+1)=firstMin d b (b+1) m:=by
 rw[firstMin,if_neg (Nat.lt_irrefl _)]
theorem firstMin_in(d:Nat→Nat):∀(m b a lo hi:Nat),lo≤b→b<hi→lo≤a→a+m≤hi→lo≤firstMin d b a m∧firstMin d b a m<hi
 | 0,_,_,_,_,h1,h2,_,_=>⟨h1,h2⟩
 | m+1,b,a,lo,hi,h1,h2,h3,h4=>by
  rw[firstMin];split
  ·exact firstMin_in d m a (a+1) lo hi h3 (by omega) (by omega) (by omega)
  ·exact firstMin_in d m b (a+1) lo hi h1 h2 (by omega) (by omega)
theorem cut_place(n:NodeA)(h:0<cutMany n):cutFrom n≤firstMin (unlikeA n) (cutFrom n) (cutFrom n) (cutMany n)∧firstMin (unlikeA n) (cutFrom n) (cutFrom n) (cutMany n)<cutFrom n+cutMany n :=
 firstMin_in _ _ _ _ _ _ (Nat.le_refl _) (by omega) (Nat.le_refl _) (Nat.le_refl _)
end
section
def lightN(n:NodeA)(z:Int):Bool:=(n.leaf && decide ((n.entries.length:Int)=0)) || (!n.leaf && decide ((n.kids.length:Int)<2)) || decide (3 * weightN n<z-24)
end
section
open Go.RowKit
section
variable {P:Program}{fn:Func}{p q u v:Tmp}{ty tq:TypeId}
theorem run_row{w:World}{g:Nat}{t ty:TypeId}{cs:Array Value}{d:TypeDesc}(hg:Blk w g cs t)(hu:P.underlying ty=some d)(hd:(match d with | .struct _ | .array _ _=>true|_=>false)=true)(hi:(P.info? ty).map (·.size)=some cs.size) :
  ((asAddr (.pointer (some ⟨g,0,none⟩))).run P w).andThen (λa w₁=>(loadVar ty a).run P w₁)=.ok (.agg cs) w:=by
 have hg':w.heap[g]? = some (.cells cs t (0,0)):=hg;simp[asAddr,run_loadVar_row w g t ty cs (0,0) d hg' hu hd hi]
theorem results_row_tmp_row(h:fn.results=#[.cell p ty,.tmp u,.cell q tq])(tmps:Array Value)(w:World)(g g2:Nat)(t t2:TypeId)(cs cs2:Array Value)(d:TypeDesc)
  (hp:tmps.getD p undef=.pointer (some ⟨g,0,none⟩)) (hg:Blk w g cs t) (hq:tmps.getD q undef=.pointer (some ⟨g2,0,none⟩)) (hg2:Blk w g2 cs2 t2) (e:tq=ty)
  (hu:P.underlying ty=some d) (hd:(match d with | .struct _ | .array _ _=>true|_=>false)=true) (hi:(P.info? ty).map (·.size)=some cs.size) (hi2:cs2.size=cs.size) :
  (results fn tmps).run P w=.ok (.tuple #[.agg cs,tmps.getD u undef,.agg cs2]) w:=by
 subst e;have hg':w.heap[g]? = some (.cells cs t (0,0)):=hg;have hg2':w.heap[g2]? = some (.cells cs2 t2 (0,0)):=hg2;have e1:=run_loadVar_row w g t tq cs (0,0) d hg' hu hd hi;have e2:=run_loadVar_row w g2 t2 tq cs2 (0,0) d hg2' hu hd (by rw[hi2];exact hi);have e:(results fn tmps).run P w=((asAddr (tmps.getD p undef)).run P w).andThen λa w₁=>((loadVar tq a).run P w₁).andThen λx w₂=>((asAddr (tmps.getD q undef)).run P w₂).andThen λb w₃=>((loadVar tq b).run P w₃).andThen λy w₄=>.ok (.tuple #[x,tmps.getD u undef,y]) w₄:=by
  simp only[results,h];simp[Sem.run_bind,Result.andThen]
 rw[e,hp,hq];simp[asAddr,e1,e2]
theorem results_row_tmp_row_tmp(h:fn.results=#[.cell p ty,.tmp u,.cell q tq,.tmp v])(tmps:Array Value)(w:World)(g g2:Nat)(t t2:TypeId)(cs cs2:Array Value)(d:TypeDesc)
  (hp:tmps.getD p undef=.pointer (some ⟨g,0,none⟩)) (hg:Blk w g cs t) (hq:tmps.getD q undef=.pointer (some ⟨g2,0,none⟩)) (hg2:Blk w g2 cs2 t2) (e:tq=ty)
  (hu:P.underlying ty=some d) (hd:(match d with | .struct _ | .array _ _=>true|_=>false)=true) (hi:(P.info? ty).map (·.size)=some cs.size) (hi2:cs2.size=cs.size) :
  (results fn tmps).run P w=.ok (.tuple #[.agg cs,tmps.getD u undef,.agg cs2,tmps.getD v undef]) w:=by
 subst e;have hg':w.heap[g]? = some (.cells cs t (0,0)):=hg;have hg2':w.heap[g2]? = some (.cells cs2 t2 (0,0)):=hg2;have e1:=run_loadVar_row w g t tq cs (0,0) d hg' hu hd hi;have e2:=run_loadVar_row w g2 t2 tq cs2 (0,0) d hg2' hu hd (by rw[hi2];exact hi);have e:(results fn tmps).run P w=((asAddr (tmps.getD p undef)).run P w).andThen λa w₁=>((loadVar tq a).run P w₁).andThen λx w₂=>((asAddr (tmps.getD q undef)).run P w₂).andThen λb w₃=>((loadVar tq b).run P w₃).andThen λy w₄=>.ok (.tuple #[x,tmps.getD u undef,y,tmps.getD v undef]) w₄:=by
  simp only[results,h];simp[Sem.run_bind,Result.andThen]
 rw[e,hp,hq];simp[asAddr,e1,e2]
end
theorem Blk.set5{w:World}{R:Nat}{t:TypeId}{a0 a1 a2 a3 a4:Value}(h:Blk w R #[a0,a1,a2,a3,a4] t)(v0 v1 v2 v3 v4:Value) :
  Blk (((((w.setCell ⟨R,0,none⟩ v0).setCell ⟨R,1,none⟩ v1).setCell ⟨R,2,none⟩ v2).setCell ⟨R,3,none⟩ v3).setCell ⟨R,4,none⟩ v4) R #[v0,v1,v2,v3,v4] t:=by
 simpa using ((((h.set 0 v0).set 1 v1).set 2 v2).set 3 v3).set 4 v4
theorem Mods.set5{F:Nat→Prop}{w w':World}(m:Mods F w w'){R:Nat}(hR:w.heap.size≤R∨F R)(v0 v1 v2 v3 v4:Value) :
  Mods F w (((((w'.setCell ⟨R,0,none⟩ v0).setCell ⟨R,1,none⟩ v1).setCell ⟨R,2,none⟩ v2).setCell ⟨R,3,none⟩ v3).setCell ⟨R,4,none⟩ v4) :=
 (m.set4 hR v0 v1 v2 v3).setCell (p:=⟨R,4,none⟩) hR _
end
end Go.Proofs.YtchklfmggpconaaGreatDoor
