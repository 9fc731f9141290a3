import Derived.Test.YtchklfmggpconaaGreatDoorK22
namespace Go.Proofs.YtchklfmggpconaaGreatDoor
open Lib renaming hid→oh
set_option maxRecDepth 100000
open Go.RowKit
def decodeA(p:PageA):NodeA ⊕ Err :=
 if p.kind=3∨p.kind=2 then (match getN (decide (p.kind=3)) p.body with|some n=>.inl n|none=>.inr ([pgOf p.id],5)) else .inr ([pgOf p.id],5)
def GA.load(G:GA)(id:Int):NodeA ⊕ Err :=
 match G.get id with
 | .inr (l,k)=>.inr (-1 :: l,k)
 | .inl p=>match decodeA p with
  | .inl n=>.inl n
  | .inr (l,k)=>.inr (-1 :: l,k)
def valueA(G:GA)(e:EntryA):ByteArray ⊕ Err :=
 if e.chain=0 then .inl e.value else match chErr G e.chain e.size with
  | none=>.inl ⟨((walkA G e.size.toNat e.chain e.size).1.flatMap (·.2)).toArray⟩
  | some (l,k)=>.inr (-1 :: l,k)
def valueOk(G:GA)(e:EntryA):Prop:=e.chain≠0→25≤e.size→e.size≤4096→walkOk G e.size.toNat e.chain e.size
theorem decodeA_right{p:PageA}{n:NodeA}(h:decodeA p=.inl n):rightN n=true∧n.leaf=decide (p.kind=3):=by
 unfold decodeA at h;split at h
 ·split at h
  ·rename_i h1;injection h with h;subst h;unfold getN at h1;simp only at h1;split at h1
   ·rename_i h2;injection h1 with h1;subst h1;refine⟨h2.2.1,?_⟩;unfold rdNode;simp only;split
    ·rename_i h3;simpa using h3.symm
    ·rename_i h3;simpa using h3
   ·cases h1
  ·cases h
 ·cases h
theorem GA.load_right{G:GA}{id:Int}{n:NodeA}(h:G.load id=.inl n):rightN n=true:=by
 unfold GA.load at h;split at h
 ·cases h
 ·split at h
  ·rename_i h1;injection h with h;subst h;exact (decodeA_right h1).1
  ·cases h
def GA.node(G:GA)(id:Nat):Option NodeA:=if id<G.blocks then (match G.view id with
 | some (.inl p)=>(match decodeA p with | .inl n=>some n | .inr _=>none)
 | _=>none) else none
theorem GA.node_load{G:GA}{id:Nat}{n:NodeA}(h:G.node id=some n):G.knows (id:Int)∧G.load (id:Int)=.inl n:=by
 unfold GA.node at h;split at h
 ·rename_i hlt;split at h
  ·rename_i p hp;refine⟨λ_=>⟨_,by rw[Int.toNat_natCast];exact hp⟩,?_⟩;unfold GA.load;rw[get_view hlt hp];simp only;split at h
   ·rename_i h1;injection h with h;subst h;rw[h1]
   ·cases h
  ·cases h
 ·cases h
def GA.R(G:GA)(c s:Int):Option ByteArray:=match chErr G c s with
 | none=>some ⟨((walkA G s.toNat c s).1.flatMap (·.2)).toArray⟩
 | some _=>none
def GA.total(G:GA):Prop:=∀i,i<G.blocks→∃r,G.view i=some r
theorem GA.total.knows{G:GA}(h:G.total)(id:Int):G.knows id:=λhc=>by
 unfold GA.check at hc;split at hc
 ·cases hc
 ·exact h _ (by omega)
theorem GA.total.walk{G:GA}(h:G.total):∀(f:Nat) (id n:Int),walkOk G f id n
 | 0,_,_=>trivial
 | f+1,id,n=>by
  rw[walkOk];exact λ_=>⟨h.knows id,λx _ _=>GA.total.walk h f _ _⟩
structure LeafOf(R:Int→Int→Option ByteArray)(m:NodeA)(p:List PairS):Prop where
 leaf:m.leaf=true
 right:rightN m=true
 len:m.entries.length=p.length
 tells:∀(i:Nat) (e:EntryA) (x:PairS),m.entries[i]? = some e→p[i]? = some x→e.key=x.1∧tellsE R e=some x.2
noncomputable def GA.R2 (G:GA) (c s:Int):Option ByteArray:=open Classical in if walkOk G s.toNat c s then G.R c s else none
theorem GA.R2_some{G:GA}{c s:Int}{v:ByteArray}(h:G.R2 c s=some v):walkOk G s.toNat c s∧G.R c s=some v:=by
 unfold GA.R2 at h;split at h
 ·rename_i hw;exact⟨hw,h⟩
 ·cases h
theorem value_tells{G:GA}{e:EntryA}{v:ByteArray}(h:tellsE G.R2 e=some v):valueA G e=.inl v∧valueOk G e:=by
 unfold tellsE at h;unfold valueA valueOk;by_cases hc:e.chain=0
 ·rw[if_pos hc] at h ⊢;exact⟨by rw[Option.some.inj h],λhn=>absurd hc hn⟩
 ·rw[if_neg hc] at h ⊢;obtain⟨h1,h2⟩:=GA.R2_some h;refine⟨?_,λ_ _ _=>h1⟩;unfold GA.R at h2;split at h2
  ·rename_i h3;rw[h3];simp only;rw[Option.some.inj h2]
  ·cases h2
theorem inB_all(k:ByteArray):inB e0 none k:=by
 refine⟨?_,λh hh=>by cases hh⟩;unfold ltS;have:e0.toList=[]:=by simp[ByteArray.toList_eq]
 rw[this];cases k.toList <;> rfl
def TreeG(G:GA)(root d:Nat)(l:List PairS):Prop :=
 (l=[]∧root=0∧d=0)∨(2≤root∧root<256∧d≤16∧Tr G.node G.R2 e0 none root d l)
structure WkS where
 pages:List Int
 keys:List ByteArray
 depth:Nat
def WkS.last(s:WkS):ByteArray:=s.keys.getLastD e0
structure Place where
 id:Int
 depth:Nat
 lo:ByteArray
 hi:ByteArray
def corrE(id:Int):Err:=([pgOf id],5)
def seeW(s:WkS)(id:Int):WkS ⊕ Err:=if id∈s.pages then .inr (corrE id) else .inl { s with pages:=s.pages++[id] }
def youngW(G:GA)(gen:Nat)(id:Int):PageA ⊕ Err:=match G.get id with
 | .inr e=>.inr e
 | .inl p=>if gen<p.gen then .inr (corrE id) else .inl p
def idsW(G:GA)(gen:Nat):List Int→WkS→WkS ⊕ Err
 | [],s=>.inl s
 | id :: r,s=>match seeW s id with
  | .inr e=>.inr e
  | .inl s1=>match youngW G gen id with
   | .inr e=>.inr e
   | .inl _=>idsW G gen r s1
def chainedW(G:GA)(gen:Nat)(e:EntryA)(s:WkS):WkS ⊕ Err :=
 if e.chain=0 then .inl s else match chErr G e.chain e.size with
  | some er=>.inr er
  | none=>idsW G gen ((walkA G e.size.toNat e.chain e.size).1.map (·.1)) s
def entBad(a:Place)(s:WkS)(e:EntryA):Bool:=leS e.key s.last || ltS e.key a.lo || (decide (a.hi≠e0) && leS a.hi e.key)
def entsW(G:GA)(gen:Nat)(a:Place):List EntryA→WkS→WkS ⊕ Err
 | [],s=>.inl s
 | e :: r,s=>if entBad a s e=true then .inr (corrE a.id) else
  match chainedW G gen e { s with keys:=s.keys++[e.key] } with
  | .inr er=>.inr er
  | .inl s1=>entsW G gen a r s1
def atDepth(a:Place)(s:WkS):WkS:=if s.depth=0 then { s with depth:=a.depth } else s
def leafW(G:GA)(gen:Nat)(n:NodeA)(a:Place)(s:WkS):WkS ⊕ Err :=
 if a.depth≠(atDepth a s).depth∨(n.entries=[]∧1<a.depth) then .inr (corrE a.id) else entsW G gen a n.entries (atDepth a s)
def kidPlace(n:NodeA)(a:Place)(i:Nat)(k:Int):Place :=
 ⟨k,a.depth+1,if i=0 then a.lo else n.keys.getD (i-1) e0,if i<n.keys.length then n.keys.getD i e0 else a.hi⟩
def kidBad(a b:Place):Bool:=ltS b.lo a.lo || (decide (a.hi≠e0) && ltS a.hi b.hi)
def kidsW(rec_:Place→WkS→WkS ⊕ Err)(n:NodeA)(a:Place):List Int→Nat→WkS→WkS ⊕ Err
 | [],_,s=>.inl s
 | k :: r,i,s=>if kidBad a (kidPlace n a i k)=true then .inr (corrE a.id) else
  match rec_ (kidPlace n a i k) s with
  | .inr e=>.inr e
  | .inl s1=>kidsW rec_ n a r (i+1) s1
def nodeW(G:GA)(gen:Nat):Nat→Place→WkS→WkS ⊕ Err
 | 0,a,_=>.inr (corrE a.id)
 | f+1,a,s=>match seeW s a.id with
  | .inr e=>.inr e
  | .inl s1=>match youngW G gen a.id with
   | .inr e=>.inr e
   | .inl p=>match decodeA p with
    | .inr e=>.inr e
    | .inl n=>if n.leaf=true then leafW G gen n a s1 else kidsW (nodeW G gen f) n a n.kids 0 s1
def wk0:WkS:=⟨[],[],0⟩
def walkW(G:GA)(gen:Nat)(root:Int):WkS ⊕ Err :=
 if root=0 then .inl wk0 else match nodeW G gen 16 ⟨root,1,e0,e0⟩ wk0 with
  | .inr (l,k)=>.inr (-1 :: l,k)
  | .inl s=>.inl s
def iL(l:List Nat):List Int:=l.map (λ(i:Nat)=>(i:Int))
theorem iL_app(a b:List Nat):iL (a++b)=iL a++iL b:=List.map_append
theorem leS_not{a b:ByteArray}(h:ltS a b=true):leS b a=false:=by
 cases hb:leS b a with
 | false=>rfl
 | true =>
  rcases (leS_iff b a).1 hb with k|k
  ·rw[ltS_asymm h] at k;cases k
  ·rw[k,ltS_irrefl] at h;cases h
section
variable {G:GA}{ps:List PageA}{gen g:Nat}
theorem ids_go:∀(ids:List Nat),(∀i∈ids,∃p,youngW G gen (i:Int)=.inl p)→∀(st:WkS),(st.pages++iL ids).Nodup→idsW G gen (iL ids) st=.inl { st with pages:=st.pages++iL ids }
 | [],_,st,_=>by simp[iL,idsW]
 | i :: ids,hy,st,hn=>by
  have hnot:(i:Int) ∉ st.pages:=λhm=>by
   rw[List.nodup_append] at hn;exact hn.2.2 _ hm (i:Int) (by simp[iL]) rfl
  obtain⟨p,hp⟩:=hy i List.mem_cons_self;have ih:=ids_go ids (λj hj=>hy j (List.mem_cons_of_mem _ hj)) { st with pages:=st.pages++[(i:Int)] } (by simpa[iL] using hn);show idsW G gen ((i:Int) :: iL ids) st=_;rw[idsW];unfold seeW;rw[if_neg hnot];simp only[hp];rw[ih];simp[iL]
theorem last_snoc(st:WkS)(key:ByteArray)(ps:List Int):({ st with pages:=ps,keys:=st.keys++[key] }:WkS).last=key:=by simp[WkS.last]
theorem kids_go{rec_:Place→WkS→WkS ⊕ Err}{n:NodeA}{a:Place}{Inv:Nat→WkS→Prop}(h:∀(i:Nat) (k:Int) (st:WkS),n.kids[i]? = some k→Inv i st→kidBad a (kidPlace n a i k)=false∧∃s1,rec_ (kidPlace n a i k) st=.inl s1∧Inv (i+1) s1) :
  ∀(ks:List Int) (i:Nat) (st:WkS),n.kids.drop i=ks→i+ks.length=n.kids.length→Inv i st→∃s',kidsW rec_ n a ks i st=.inl s'∧Inv n.kids.length s'
 | [],i,st,hd,hl,hI=>⟨st,rfl,by simp at hl;rw[← hl];exact hI⟩
 | k :: ks,i,st,hd,hl,hI=>by
  have hki:n.kids[i]? = some k:=by
   have:=List.getElem?_drop (xs:=n.kids) (i:=i) (j:=0);rw[hd] at this;simpa using this.symm
  obtain⟨h1,s1,h2,h3⟩:=h i k st hki hI;have hd2:n.kids.drop (i+1)=ks:=by
   rw[← List.drop_drop,hd];rfl
  obtain⟨s',h4,h5⟩:=kids_go h ks (i+1) s1 hd2 (by simp at hl;omega) h3;refine⟨s',?_,h5⟩;rw[kidsW,h1,if_neg (by simp),h2];exact h4
def hiR(hi:Option ByteArray)(h:ByteArray):Prop:=(hi=none∧h=e0)∨(hi=some h∧h≠e0)
theorem keyB_ne{s:ByteArray}(h:keyB s=true):s≠e0:=λe=>by
 have:=(keyB_iff s).1 h;rw[e] at this;have:(e0:ByteArray).size=0:=rfl;omega
theorem last_lt{ks:List ByteArray}{l1:List PairS}{x:ByteArray}(h1:ltS (ks.getLastD e0) x=true)(h2:∀y∈l1,ltS y.1 x=true):ltS ((ks++l1.map (·.1)).getLastD e0) x=true:=by
 rcases List.eq_nil_or_concat l1 with rfl|⟨l2,y,rfl⟩
 ·simpa using h1
 ·have:=h2 y (by simp);simpa using this
theorem rightN_keys{n:NodeA}(h:rightN n=true)(hl:n.leaf=false):∀s∈n.keys,keyB s=true:=by
 unfold rightN at h;rw[if_neg (by rw[hl];simp)] at h;simp only[Bool.and_eq_true,List.all_eq_true] at h;exact h.1.2
theorem kid_bounds{n:NodeA}{a:Place}{hi:Option ByteArray}(hr:rightN n=true)(hl:n.leaf=false)(hh:hiR hi a.hi)(hs:∀s∈n.keys,inB a.lo hi s){i:Nat}{k:Int}(hk:n.kids[i]? = some k) :
  kidBad a (kidPlace n a i k)=false∧(kidPlace n a i k).lo=loAt a.lo n.keys i∧hiR (hiAt hi n.keys i) (kidPlace n a i k).hi:=by
 have hkl:=(rightN_inner hr hl).2.1;have hik:=(List.getElem?_eq_some_iff.1 hk).1;have hlo:(kidPlace n a i k).lo=loAt a.lo n.keys i:=by
  unfold kidPlace loAt;by_cases h0:i=0
  ·rw[if_pos h0,if_pos h0]
  ·rw[if_neg h0,if_neg h0];have:i-1<n.keys.length:=by omega
   simp[List.getD,this]
 have hhi:hiR (hiAt hi n.keys i) (kidPlace n a i k).hi:=by
  unfold kidPlace hiAt;by_cases h0:i<n.keys.length
  ·simp only[if_pos h0,List.getElem?_eq_getElem h0];refine .inr ⟨by simp[List.getD,h0],?_⟩;simp only[List.getD,List.getElem?_eq_getElem h0,Option.getD_some];exact keyB_ne (rightN_keys hr hl _ (List.getElem_mem h0))
  ·simp only[if_neg h0,List.getElem?_eq_none (by omega:n.keys.length≤i)];exact hh
 refine⟨?_,hlo,hhi⟩;unfold kidBad;have h1:ltS (kidPlace n a i k).lo a.lo=false:=by
  rw[hlo];unfold loAt;by_cases h0:i=0
  ·rw[if_pos h0];exact ltS_irrefl _
  ·rw[if_neg h0];have hlt:i-1<n.keys.length:=by omega
   have e:n.keys.getD (i-1) a.lo=n.keys[i-1]:=by simp[List.getD,hlt]
   rw[e];exact (hs _ (List.getElem_mem hlt)).1
 rw[h1];by_cases hz:a.hi=e0
 ·simp[hz]
 ·have h2:ltS a.hi (kidPlace n a i k).hi=false:=by
   unfold kidPlace;by_cases h0:i<n.keys.length
   ·simp only[if_pos h0];have e:n.keys.getD i e0=n.keys[i]:=by simp[List.getD,h0]
    rw[e];rcases hh with ⟨_,h3⟩|⟨h3,_⟩
    ·exact absurd h3 hz
    ·exact ltS_asymm ((hs _ (List.getElem_mem h0)).2 _ h3)
   ·simp only[if_neg h0];exact ltS_irrefl _
  rw[h2];simp
end
variable {G:GA}{gen:Nat}{st st1:WkS}{id:Int}{p:PageA}
theorem nodup_fewW:∀(n:Nat) (l:List Int),l.Nodup→(∀i∈l,0≤i∧i<(n:Int))→l.length≤n
 | 0,[],_,_=>Nat.le_refl _
 | 0,i :: l,_,h=>by have:=h i List.mem_cons_self;omega
 | n+1,l,hn,h=>by
  by_cases hm:(n:Int)∈l
  ·have h1:=nodup_fewW n (l.erase (n:Int)) (hn.erase _) (λi hi=>by
    rw[hn.mem_erase_iff] at hi;have:=h i hi.2;have:=hi.1;omega)
   rw[List.length_erase_of_mem hm] at h1;omega
  ·have:=nodup_fewW n l hn (λi hi=>by
    have h1:=h i hi;have h2:i≠(n:Int):=λe=>hm (e ▸ hi)
    omega)
   omega
def WkInv(G:GA)(st:WkS):Prop:=st.pages.Nodup∧∀i∈st.pages,0≤i∧i<(G.blocks:Int)
theorem WkInv.few(h:WkInv G st):st.pages.length≤G.blocks:=nodup_fewW _ _ h.1 h.2
theorem youngW_in(h:youngW G gen id=.inl p):0≤id∧id<(G.blocks:Int):=by
 unfold youngW GA.get GA.check at h;by_cases hc:id<0∨(G.blocks:Int)≤id
 ·rw[if_pos hc] at h;cases h
 ·omega
theorem seeW_in(h:seeW st id=.inl st1):id ∉ st.pages∧st1 = { st with pages:=st.pages++[id] }:=by
 unfold seeW at h;split at h
 ·cases h
 ·rename_i hm;injection h with h;exact⟨hm,h.symm⟩
theorem WkInv.see(h:WkInv G st)(h1:seeW st id=.inl st1)(h2:youngW G gen id=.inl p):WkInv G st1:=by
 obtain⟨hm,rfl⟩:=seeW_in h1;have hy:=youngW_in h2;refine⟨?_,λi hi=>?_⟩
 ·show (st.pages++[id]).Nodup;rw[List.nodup_append];exact⟨h.1,by simp,λa ha b hb=>by simp at hb;subst hb;exact λe=>hm (e ▸ ha)⟩
 ·rcases List.mem_append.1 hi with h3|h3
  ·exact h.2 i h3
  ·simp at h3;subst h3;exact hy
theorem idsW_inv:∀(ids:List Int) (st st1:WkS),WkInv G st→idsW G gen ids st=.inl st1→WkInv G st1
 | [],st,st1,h,h1=>by rw[idsW] at h1;injection h1 with h1;exact h1 ▸ h
 | id :: r,st,st1,h,h1=>by
  rw[idsW] at h1;split at h1
  ·cases h1
  ·rename_i s1 hs;split at h1
   ·cases h1
   ·rename_i p hy;exact idsW_inv r s1 st1 (h.see hs hy) h1
theorem walkA_ids(G:GA):∀(f:Nat) (id n:Int), -9223372036854775808≤id∧id≤9223372036854775807→∀x∈(walkA G f id n).1, -9223372036854775808≤x.1∧x.1≤9223372036854775807
 | 0,_,_,_,x,hx=>by simp[walkA] at hx
 | f+1,id,n,h,x,hx=>by
  rw[walkA] at hx;split at hx
  ·simp at hx
  ·split at hx
   ·simp at hx
   ·rename_i y hy;split at hx
    ·simp at hx
    ·rcases List.mem_cons.1 hx with rfl|hx
     ·exact h
     ·have:=takeF_small y.body 0 4 (by omega);exact walkA_ids G f _ _ (by omega) x hx
theorem Sl.slc{α:Type}{F:Nat→Prop}{w:World}{sz:Nat}{enc:α→List Value}{a:Option Addr}{n c:Nat}{l:List α}(h:Sl F w sz enc (.slice a n c) l)(i j:Nat)(hij:i≤j)(hj:j≤n) :
  Sl F w sz enc (.slice (if c=i then a else a.map (·.add (i * sz))) (j-i) (c-i)) ((l.drop i).take (j-i)):=by
 obtain⟨a',cap,he,h1,h2,h3,h4⟩:=h;simp only[Value.slice.injEq] at he;obtain⟨rfl,rfl,rfl⟩:=he;have hlen:((l.drop i).take (j-i)).length=j-i:=by simp[List.length_take,List.length_drop];omega
 refine⟨_,c-i,by rw[hlen],by rw[hlen];omega,by omega,by rw[hlen];omega,?_⟩;rcases h4 with rfl|⟨b,off,rfl,hb,hF,hc⟩
 ·exact .inl (by simp)
 ·by_cases hz:c=i
  ·exact .inl (List.eq_nil_of_length_eq_zero (by rw[hlen];omega))
  ·refine .inr ⟨b,off+i * sz,?_,hb,hF,λk x hk q u hu=>?_⟩
   ·rw[if_neg hz];simp only[Option.map_some,Addr.add];by_cases h0:i * sz=0
    ·rw[if_pos h0,h0];rfl
    ·rw[if_neg h0]
   ·have hk1:k<j-i:=by
     have:=(List.getElem?_eq_some_iff.1 hk).1;rwa [hlen] at this
    rw[List.getElem?_take_of_lt hk1,List.getElem?_drop] at hk;have:=hc (i+k) x hk q u hu;rw[← this];congr 2
    rw[Nat.add_mul];omega
theorem Sl.tail_{α:Type}{F:Nat→Prop}{w:World}{sz:Nat}{enc:α→List Value}{a:Option Addr}{n c:Nat}{l:List α}(h:Sl F w sz enc (.slice a n c) l)(i:Nat)(hi:i≤n) :
  Sl F w sz enc (.slice (if c=i then a else a.map (·.add (i * sz))) (n-i) (c-i)) (l.drop i):=by
 have:=h.slc i n hi (Nat.le_refl _);obtain⟨a',cap,he, -⟩:=_root_.id h;simp only[Value.slice.injEq] at he;rw[he.2.1] at this ⊢;rwa [List.take_of_length_le (by simp)] at this
section
variable {F H:Nat→Prop}{w w':World}
theorem laidE_any(lv mv:Value)(L M:List EntryA)(hl:Sl F w 4 encE lv L)(hm:Sl H w 4 encE mv M)(i many:Nat)(h1:i+many≤L.length)(hb:L.length≤1000000)(hb2:M.length≤1000000) :
  Calls Tryz.prog 92 #[lv,.int .i64 (i:Int),.int .i64 (many:Int),mv] w λe w'=>∃v,e=.returned v∧Own (λ_=>False) w' w.heap.size 141 4 encE v (L.take i++M++L.drop (i+many))∧Ext w w':=by
 obtain⟨la,lc,rfl,l1,l2,l3, -⟩:=_root_.id hl;unfold maxLen at l2;have HL:=oh hl;have HM:=oh hm;have hO0:Hid (Own (λ_=>False) (w.alloc (.cells #[] 141)) w.heap.size 141 4 encE (.slice (some ⟨w.heap.size,0,none⟩) 0 0) ([]:List EntryA)):=oh (Own.empty (λk f=>f.elim) _ _ _ encE_ok.len);have hm0:Hid (Ext w (w.alloc (.cells #[] 141))):=oh ((Mods.refl _ w).alloc _);obtain⟨ma,mc,rfl,m1,m2,m3, -⟩:=hm;have u1:IntKind.i64.wrap ((i:Int)+(many:Int))=((i+many:Nat):Int):=by rw[IntWalk.i64_in _ (by omega)];omega
 have lt1:(L.take i).length=i:=by rw[List.length_take];omega
 have lt2:(L.drop (i+many)).length=L.length-(i+many):=List.length_drop;have HT1:=oh lt1;have HT2:=oh lt2;clear hl lt1 lt2;have p1:Hid (Sl F w 4 encE (.slice la i lc) (L.take i)):=oh (HL.out.pre i (by omega));have p3:Hid (Sl F w 4 encE (.slice (if lc=i+many then la else la.map (·.add ((i+many) * 4))) (L.length-(i+many)) (lc-(i+many))) (L.drop (i+many))):=oh (by have:=HL.out.tail_ (i+many) h1;simpa only[Nat.mul_one] using this);obtain⟨R,hR⟩:∃R,R=L.take i++M++L.drop (i+many):=⟨_,rfl⟩;rw[← hR];have HR:=oh hR;clear hR
 go_enter Tryz.func92, Tryz.ntmps92
 go_wp2_with (first
  | (at_builtin;refine wpl_app2 Tryz.elE encE_ok rfl _ _ rfl w.heap.size _ (.slice la i lc) [] (L.take i) rfl rfl hO0.out (p1.out.ext hm0.out) (by rw[HT1.out];simp only[List.length_nil];omega) (by simp) (λf=>f) ?_;rw[List.nil_append,List.length_nil,HT1.out,Nat.zero_add];intro a1 c1 w1 hO1 hm1 hat1;have HO1:=oh hO1;have HM1:Hid (Ext w w1):=oh (Mods.past hm0.out (hm1.mono (λk hk=>(hO0.out.lt k hk).1)));clear hO1 hm1 hat1)
  | (at_builtin;refine wpl_app2 Tryz.elE encE_ok rfl _ _ rfl w.heap.size (.slice a1 i c1) (.slice ma M.length mc) (L.take i) M rfl rfl HO1.out (HM.out.ext HM1.out) (by rw[HT1.out];omega) HM1.out.size (λf=>f) ?_;rw[HT1.out];intro a2 c2 w2 hO2 hm2 hat2;have HO2:=oh hO2;have HM2:Hid (Ext w w2):=oh (Mods.past HM1.out (hm2.mono (λk hk=>(HO1.out.lt k hk).1)));clear hO2 hm2 hat2)
  | (at_builtin;refine wpl_app2 Tryz.elE encE_ok rfl _ _ rfl w.heap.size (.slice a2 (i+M.length) c2) _ (L.take i++M) (L.drop (i+many)) rfl rfl HO2.out (p3.out.ext HM2.out) (by rw[List.length_append,HT1.out,HT2.out];omega) HM2.out.size (λf=>f) ?_;rw[List.length_append,HT1.out,HT2.out];intro a3 c3 w3 hO3 hm3 hat3;have HO3:=oh hO3;have HM3:Hid (Ext w w3):=oh (Mods.past HM2.out (hm3.mono (λk hk=>(HO2.out.lt k hk).1)));clear hO3 hm3 hat3)
  | fail)
 all_goals
  go_ret;exact⟨_,rfl,by rw[HR.out];exact HO3.out,HM3.out⟩
theorem laidE_end(lv:Value)(L:List EntryA)(hl:Sl F w 4 encE lv L)(k:Nat)(hk:k=L.length)(hb:L.length≤1000000) :
  Calls Tryz.prog 92 #[lv,.int .i64 (k:Int),.int .i64 0,.slice none 0 0] w λe w'=>∃a c,e=.returned (.slice a k c)∧Own (λ_=>False) w' w.heap.size 141 4 encE (.slice a k c) L∧Ext w w':=by
 have h:=laidE_any lv (.slice none 0 0) L [] hl (Sl.nil (λ_=>False) w 4 encE) k 0 (by omega) hb (by simp);refine h.mono ?_;rintro e w' ⟨v,rfl,ho,hm⟩;have e1:L.take k++[]++L.drop (k+0)=L:=by rw[Nat.add_zero,List.append_nil,List.take_append_drop]
 rw[e1] at ho;obtain⟨a,c,rfl,_⟩:=ho.form;subst hk;exact⟨a,c,rfl,ho,hm⟩
theorem laidE_beg(lv:Value)(L:List EntryA)(hl:Sl F w 4 encE lv L)(k:Nat)(hk:k=L.length)(hb:L.length≤1000000) :
  Calls Tryz.prog 92 #[lv,.int .i64 0,.int .i64 0,.slice none 0 0] w λe w'=>∃a c,e=.returned (.slice a k c)∧Own (λ_=>False) w' w.heap.size 141 4 encE (.slice a k c) L∧Ext w w':=by
 have h:=laidE_any lv (.slice none 0 0) L [] hl (Sl.nil (λ_=>False) w 4 encE) 0 0 (by omega) hb (by simp);refine h.mono ?_;rintro e w' ⟨v,rfl,ho,hm⟩;have e1:L.take 0++[]++L.drop (0+0)=L:=by simp
 rw[e1] at ho;obtain⟨a,c,rfl,_⟩:=ho.form;subst hk;exact⟨a,c,rfl,ho,hm⟩
theorem laidS_any(lv mv:Value)(L M:List ByteArray)(hl:Sl F w 1 encS lv L)(hm:Sl H w 1 encS mv M)(i many:Nat)(h1:i+many≤L.length)(hb:L.length≤1000000)(hb2:M.length≤1000000) :
  Calls Tryz.prog 95 #[lv,.int .i64 (i:Int),.int .i64 (many:Int),mv] w λe w'=>∃v,e=.returned v∧Own (λ_=>False) w' w.heap.size 9 1 encS v (L.take i++M++L.drop (i+many))∧Ext w w':=by
 obtain⟨la,lc,rfl,l1,l2,l3, -⟩:=_root_.id hl;unfold maxLen at l2;have HL:=oh hl;have HM:=oh hm;have hO0:Hid (Own (λ_=>False) (w.alloc (.cells #[] 9)) w.heap.size 9 1 encS (.slice (some ⟨w.heap.size,0,none⟩) 0 0) ([]:List ByteArray)):=oh (Own.empty (λk f=>f.elim) _ _ _ encS_ok.len);have hm0:Hid (Ext w (w.alloc (.cells #[] 9))):=oh ((Mods.refl _ w).alloc _);obtain⟨ma,mc,rfl,m1,m2,m3, -⟩:=hm;have u1:IntKind.i64.wrap ((i:Int)+(many:Int))=((i+many:Nat):Int):=by rw[IntWalk.i64_in _ (by omega)];omega
 have lt1:(L.take i).length=i:=by rw[List.length_take];omega
 have lt2:(L.drop (i+many)).length=L.length-(i+many):=List.length_drop;have HT1:=oh lt1;have HT2:=oh lt2;clear hl lt1 lt2;have p1:Hid (Sl F w 1 encS (.slice la i lc) (L.take i)):=oh (HL.out.pre i (by omega));have p3:Hid (Sl F w 1 encS (.slice (if lc=i+many then la else la.map (·.add (i+many))) (L.length-(i+many)) (lc-(i+many))) (L.drop (i+many))):=oh (by have:=HL.out.tail_ (i+many) h1;simpa only[Nat.mul_one] using this);obtain⟨R,hR⟩:∃R,R=L.take i++M++L.drop (i+many):=⟨_,rfl⟩;rw[← hR];have HR:=oh hR;clear hR
 go_enter Tryz.func95, Tryz.ntmps95
 go_wp2_with (first
  | (at_builtin;refine wpl_app2 Tryz.elS encS_ok rfl _ _ rfl w.heap.size _ (.slice la i lc) [] (L.take i) rfl rfl hO0.out (p1.out.ext hm0.out) (by rw[HT1.out];simp only[List.length_nil];omega) (by simp) (λf=>f) ?_;rw[List.nil_append,List.length_nil,HT1.out,Nat.zero_add];intro a1 c1 w1 hO1 hm1 hat1;have HO1:=oh hO1;have HM1:Hid (Ext w w1):=oh (Mods.past hm0.out (hm1.mono (λk hk=>(hO0.out.lt k hk).1)));clear hO1 hm1 hat1)
  | (at_builtin;refine wpl_app2 Tryz.elS encS_ok rfl _ _ rfl w.heap.size (.slice a1 i c1) (.slice ma M.length mc) (L.take i) M rfl rfl HO1.out (HM.out.ext HM1.out) (by rw[HT1.out];omega) HM1.out.size (λf=>f) ?_;rw[HT1.out];intro a2 c2 w2 hO2 hm2 hat2;have HO2:=oh hO2;have HM2:Hid (Ext w w2):=oh (Mods.past HM1.out (hm2.mono (λk hk=>(HO1.out.lt k hk).1)));clear hO2 hm2 hat2)
  | (at_builtin;refine wpl_app2 Tryz.elS encS_ok rfl _ _ rfl w.heap.size (.slice a2 (i+M.length) c2) _ (L.take i++M) (L.drop (i+many)) rfl rfl HO2.out (p3.out.ext HM2.out) (by rw[List.length_append,HT1.out,HT2.out];omega) HM2.out.size (λf=>f) ?_;rw[List.length_append,HT1.out,HT2.out];intro a3 c3 w3 hO3 hm3 hat3;have HO3:=oh hO3;have HM3:Hid (Ext w w3):=oh (Mods.past HM2.out (hm3.mono (λk hk=>(HO2.out.lt k hk).1)));clear hO3 hm3 hat3)
  | fail)
 all_goals
  go_ret;exact⟨_,rfl,by rw[HR.out];exact HO3.out,HM3.out⟩
theorem laidS_end(lv:Value)(L:List ByteArray)(hl:Sl F w 1 encS lv L)(k:Nat)(hk:k=L.length)(hb:L.length≤1000000) :
  Calls Tryz.prog 95 #[lv,.int .i64 (k:Int),.int .i64 0,.slice none 0 0] w λe w'=>∃a c,e=.returned (.slice a k c)∧Own (λ_=>False) w' w.heap.size 9 1 encS (.slice a k c) L∧Ext w w':=by
 have h:=laidS_any lv (.slice none 0 0) L [] hl (Sl.nil (λ_=>False) w 1 encS) k 0 (by omega) hb (by simp);refine h.mono ?_;rintro e w' ⟨v,rfl,ho,hm⟩;have e1:L.take k++[]++L.drop (k+0)=L:=by rw[Nat.add_zero,List.append_nil,List.take_append_drop]
 rw[e1] at ho;obtain⟨a,c,rfl,_⟩:=ho.form;subst hk;exact⟨a,c,rfl,ho,hm⟩
theorem laidS_beg(lv:Value)(L:List ByteArray)(hl:Sl F w 1 encS lv L)(k:Nat)(hk:k=L.length)(hb:L.length≤1000000) :
  Calls Tryz.prog 95 #[lv,.int .i64 0,.int .i64 0,.slice none 0 0] w λe w'=>∃a c,e=.returned (.slice a k c)∧Own (λ_=>False) w' w.heap.size 9 1 encS (.slice a k c) L∧Ext w w':=by
 have h:=laidS_any lv (.slice none 0 0) L [] hl (Sl.nil (λ_=>False) w 1 encS) 0 0 (by omega) hb (by simp);refine h.mono ?_;rintro e w' ⟨v,rfl,ho,hm⟩;have e1:L.take 0++[]++L.drop (0+0)=L:=by simp
 rw[e1] at ho;obtain⟨a,c,rfl,_⟩:=ho.form;subst hk;exact⟨a,c,rfl,ho,hm⟩
theorem laidI_any(lv mv:Value)(L M:List Int)(hl:Sl F w 1 encI lv L)(hm:Sl H w 1 encI mv M)(i many:Nat)(h1:i+many≤L.length)(hb:L.length≤1000000)(hb2:M.length≤1000000) :
  Calls Tryz.prog 94 #[lv,.int .i64 (i:Int),.int .i64 (many:Int),mv] w λe w'=>∃v,e=.returned v∧Own (λ_=>False) w' w.heap.size 3 1 encI v (L.take i++M++L.drop (i+many))∧Ext w w':=by
 obtain⟨la,lc,rfl,l1,l2,l3, -⟩:=_root_.id hl;unfold maxLen at l2;have HL:=oh hl;have HM:=oh hm;have hO0:Hid (Own (λ_=>False) (w.alloc (.cells #[] 3)) w.heap.size 3 1 encI (.slice (some ⟨w.heap.size,0,none⟩) 0 0) ([]:List Int)):=oh (Own.empty (λk f=>f.elim) _ _ _ encI_ok.len);have hm0:Hid (Ext w (w.alloc (.cells #[] 3))):=oh ((Mods.refl _ w).alloc _);obtain⟨ma,mc,rfl,m1,m2,m3, -⟩:=hm;have u1:IntKind.i64.wrap ((i:Int)+(many:Int))=((i+many:Nat):Int):=by rw[IntWalk.i64_in _ (by omega)];omega
 have lt1:(L.take i).length=i:=by rw[List.length_take];omega
 have lt2:(L.drop (i+many)).length=L.length-(i+many):=List.length_drop;have HT1:=oh lt1;have HT2:=oh lt2;clear hl lt1 lt2;have p1:Hid (Sl F w 1 encI (.slice la i lc) (L.take i)):=oh (HL.out.pre i (by omega));have p3:Hid (Sl F w 1 encI (.slice (if lc=i+many then la else la.map (·.add (i+many))) (L.length-(i+many)) (lc-(i+many))) (L.drop (i+many))):=oh (by have:=HL.out.tail_ (i+many) h1;simpa only[Nat.mul_one] using this);obtain⟨R,hR⟩:∃R,R=L.take i++M++L.drop (i+many):=⟨_,rfl⟩;rw[← hR];have HR:=oh hR;clear hR
 go_enter Tryz.func94, Tryz.ntmps94
 go_wp2_with (first
  | (at_builtin;refine wpl_app2 Tryz.elI encI_ok rfl _ _ rfl w.heap.size _ (.slice la i lc) [] (L.take i) rfl rfl hO0.out (p1.out.ext hm0.out) (by rw[HT1.out];simp only[List.length_nil];omega) (by simp) (λf=>f) ?_;rw[List.nil_append,List.length_nil,HT1.out,Nat.zero_add];intro a1 c1 w1 hO1 hm1 hat1;have HO1:=oh hO1;have HM1:Hid (Ext w w1):=oh (Mods.past hm0.out (hm1.mono (λk hk=>(hO0.out.lt k hk).1)));clear hO1 hm1 hat1)
  | (at_builtin;refine wpl_app2 Tryz.elI encI_ok rfl _ _ rfl w.heap.size (.slice a1 i c1) (.slice ma M.length mc) (L.take i) M rfl rfl HO1.out (HM.out.ext HM1.out) (by rw[HT1.out];omega) HM1.out.size (λf=>f) ?_;rw[HT1.out];intro a2 c2 w2 hO2 hm2 hat2;have HO2:=oh hO2;have HM2:Hid (Ext w w2):=oh (Mods.past HM1.out (hm2.mono (λk hk=>(HO1.out.lt k hk).1)));clear hO2 hm2 hat2)
  | (at_builtin;refine wpl_app2 Tryz.elI encI_ok rfl _ _ rfl w.heap.size (.slice a2 (i+M.length) c2) _ (L.take i++M) (L.drop (i+many)) rfl rfl HO2.out (p3.out.ext HM2.out) (by rw[List.length_append,HT1.out,HT2.out];omega) HM2.out.size (λf=>f) ?_;rw[List.length_append,HT1.out,HT2.out];intro a3 c3 w3 hO3 hm3 hat3;have HO3:=oh hO3;have HM3:Hid (Ext w w3):=oh (Mods.past HM2.out (hm3.mono (λk hk=>(HO2.out.lt k hk).1)));clear hO3 hm3 hat3)
  | fail)
 all_goals
  go_ret;exact⟨_,rfl,by rw[HR.out];exact HO3.out,HM3.out⟩
theorem laidI_end(lv:Value)(L:List Int)(hl:Sl F w 1 encI lv L)(k:Nat)(hk:k=L.length)(hb:L.length≤1000000) :
  Calls Tryz.prog 94 #[lv,.int .i64 (k:Int),.int .i64 0,.slice none 0 0] w λe w'=>∃a c,e=.returned (.slice a k c)∧Own (λ_=>False) w' w.heap.size 3 1 encI (.slice a k c) L∧Ext w w':=by
 have h:=laidI_any lv (.slice none 0 0) L [] hl (Sl.nil (λ_=>False) w 1 encI) k 0 (by omega) hb (by simp);refine h.mono ?_;rintro e w' ⟨v,rfl,ho,hm⟩;have e1:L.take k++[]++L.drop (k+0)=L:=by rw[Nat.add_zero,List.append_nil,List.take_append_drop]
 rw[e1] at ho;obtain⟨a,c,rfl,_⟩:=ho.form;subst hk;exact⟨a,c,rfl,ho,hm⟩
theorem laidI_beg(lv:Value)(L:List Int)(hl:Sl F w 1 encI lv L)(k:Nat)(hk:k=L.length)(hb:L.length≤1000000) :
  Calls Tryz.prog 94 #[lv,.int .i64 0,.int .i64 0,.slice none 0 0] w λe w'=>∃a c,e=.returned (.slice a k c)∧Own (λ_=>False) w' w.heap.size 3 1 encI (.slice a k c) L∧Ext w w':=by
 have h:=laidI_any lv (.slice none 0 0) L [] hl (Sl.nil (λ_=>False) w 1 encI) 0 0 (by omega) hb (by simp);refine h.mono ?_;rintro e w' ⟨v,rfl,ho,hm⟩;have e1:L.take 0++[]++L.drop (0+0)=L:=by simp
 rw[e1] at ho;obtain⟨a,c,rfl,_⟩:=ho.form;subst hk;exact⟨a,c,rfl,ho,hm⟩
end
abbrev StC:=List (NodeA × Int)
def endsA(n:NodeA):Nat:=if n.leaf then n.entries.length else n.kids.length
def lastI(n:NodeA):Int:=max 0 ((endsA n:Int)-1)
def pushA(G:GA)(st:StC)(id:Int):StC ⊕ Err :=
 if 16≤st.length then .inr ([pgOf id],5) else match G.load id with
  | .inr e=>.inr e
  | .inl n=>.inl ((n,0) :: st)
def edgeTop(last:Bool)(st:StC):StC:=match st with
 | []=>[]
 | (n,a) :: r=>if last=true then (n,lastI n) :: r else (n,a) :: r
def downA(G:GA)(last:Bool):Nat→StC→StC ⊕ Err
 | 0,st=>.inl st
 | _+1,[]=>.inl []
 | f+1,(n,a) :: r=>if n.leaf=true then .inl ((n,a) :: r) else
  match pushA G ((n,a) :: r) (n.kids.getD a.toNat 0) with
  | .inr e=>.inr e
  | .inl st=>downA G last f (edgeTop last st)
def downF(G:GA)(last:Bool)(st:StC):StC ⊕ Err:=downA G last (18-st.length) st
def moveA(G:GA)(by_:Int):StC→StC ⊕ Err
 | []=>.inl []
 | (n,a) :: r=>if 0≤a+by_∧a+by_<(endsA n:Int) then downF G (decide (by_<0)) ((n,a+by_) :: r) else moveA G by_ r
def topNone(st:StC):Bool:=match st with
 | []=>false
 | (n,_) :: _=>n.entries.isEmpty
def edgeA(G:GA)(root:Int)(last:Bool):StC ⊕ Err :=
 if root=0 then .inl [] else match pushA G [] root with
  | .inr e=>.inr e
  | .inl st=>match downF G last (edgeTop last st) with
   | .inr e=>.inr e
   | .inl st1=>if topNone st1=true then .inl [] else .inl st1
def seekDown(G:GA)(key:ByteArray):Nat→StC→Int→StC ⊕ Err
 | 0,_,id=>.inr ([pgOf id],5)
 | f+1,st,id=>match pushA G st id with
  | .inr e=>.inr e
  | .inl []=>.inl []
  | .inl ((n,_) :: r)=>if n.leaf=true then .inl ((n,((findN n key).1:Int)) :: r) else seekDown G key f ((n,((findN n key).1:Int)) :: r) (n.kids.getD (findN n key).1 0)
def seekA(G:GA)(root:Int)(key:ByteArray):StC ⊕ Err :=
 if root=0 then .inl [] else match seekDown G key 17 [] root with
  | .inr e=>.inr e
  | .inl []=>.inl []
  | .inl ((n,a) :: r)=>if a<(n.entries.length:Int) then .inl ((n,a) :: r) else moveA G 1 ((n,a-1) :: r)
def FrOkA(x:NodeA × Int):Prop:=rightN x.1=true ∧ -2≤x.2∧x.2≤65537
def TopOk(x:NodeA × Int):Prop:=x.1.leaf=false→0≤x.2∧x.2<(x.1.kids.length:Int)
def StOk(st:StC):Prop:=(∀x∈st,FrOkA x)∧st.length≤16
section
variable {G:GA}{st st1:StC}{id:Int}{last:Bool}
theorem rightN_few{n:NodeA}(h:rightN n=true):n.entries.length≤65535∧n.kids.length≤256∧(n.leaf=false→2≤n.kids.length):=by
 unfold rightN at h;split at h
 ·rename_i hl;simp only[Bool.and_eq_true,decide_eq_true_eq,List.isEmpty_iff] at h;refine⟨h.2,by rw[h.1.1.2];simp,λhf=>by rw[hl] at hf;cases hf⟩
 ·simp only[Bool.and_eq_true,decide_eq_true_eq,List.isEmpty_iff] at h;obtain⟨⟨⟨⟨⟨⟨⟨h1,h2⟩,h3⟩,h4⟩,h5⟩,h6⟩,h7⟩,h8⟩:=h;exact⟨by rw[h1];simp,h4,λ_=>h2⟩
theorem lastI_ok{n:NodeA}(h:rightN n=true):FrOkA (n,lastI n)∧TopOk (n,lastI n):=by
 obtain⟨h1,h2,h3⟩:=rightN_few h;have he:(endsA n:Int)≤65535:=by unfold endsA;split <;> omega
 refine⟨⟨h,by show (-2:Int)≤max 0 ((endsA n:Int)-1);omega,by show max 0 ((endsA n:Int)-1)≤65537;omega⟩,λhl=>?_⟩;have:=h3 hl;show 0≤lastI n∧lastI n<(n.kids.length:Int);unfold lastI endsA;rw[if_neg (by rw[show n.leaf=false from hl];simp)];omega
theorem zero_ok{n:NodeA}(h:rightN n=true):FrOkA (n,0)∧TopOk (n,0):=by
 obtain⟨h1,h2,h3⟩:=rightN_few h;refine⟨⟨h,by show (-2:Int)≤0;omega,by show (0:Int)≤65537;omega⟩,λhl=>?_⟩;have:=h3 hl;show (0:Int)≤0∧(0:Int)<(n.kids.length:Int);omega
theorem pushA_ok(h:StOk st)(hp:pushA G st id=.inl st1):StOk st1∧∃n,st1=(n,0) :: st∧G.load id=.inl n:=by
 unfold pushA at hp;split at hp
 ·cases hp
 ·rename_i hl;split at hp
  ·cases hp
  ·rename_i n hn;injection hp with hp;subst hp;refine⟨⟨λx hx=>?_,by simp;omega⟩,n,rfl,hn⟩;rcases List.mem_cons.1 hx with rfl|hx
   ·exact (zero_ok (GA.load_right hn)).1
   ·exact h.1 x hx
theorem edgeTop_len(last:Bool)(st:StC):(edgeTop last st).length=st.length:=by
 unfold edgeTop;cases st with
 | nil=>rfl
 | cons x r=>obtain⟨n,a⟩:=x;simp only;split <;> rfl
theorem findN_le{n:NodeA}(hr:rightN n=true)(key:ByteArray):(findN n key).1≤65535∧(n.leaf=true→(findN n key).1≤n.entries.length)∧(n.leaf=false→(findN n key).1<n.kids.length):=by
 obtain⟨h1,h2,h3⟩:=rightN_few hr;cases hl:n.leaf with
 | true =>
  rw[findN_leaf hl];have:entAt key n.entries≤n.entries.length:=List.findIdx_le_length;exact⟨by show entAt key n.entries≤_;omega,λ_=>this,λh=>by cases h⟩
 | false =>
  have hk:=(rightN_inner hr hl).2.1;rw[findN_inner hl];have:kidAt key n.keys≤n.keys.length:=List.findIdx_le_length;exact⟨by show kidAt key n.keys≤_;omega,λh=>(by cases h),λ_=>(by show kidAt key n.keys<_;omega)⟩
theorem downF_step{n:NodeA}{a:Int}{r:StC}(hl:n.leaf=false)(hlen:r.length+1≤16):downF G last ((n,a) :: r)=match pushA G ((n,a) :: r) (n.kids.getD a.toNat 0) with | .inr e=>.inr e | .inl st=>downF G last (edgeTop last st):=by
 unfold downF;have e:18-((n,a) :: r).length=(16-r.length)+1:=by simp only[List.length_cons];omega
 rw[e,downA,if_neg (by rw[hl];simp)];cases hp:pushA G ((n,a) :: r) (n.kids.getD a.toNat 0) with
 | inr e=>rfl
 | inl st =>
  simp only;have hst:st.length=r.length+2:=by
   unfold pushA at hp;split at hp
   ·cases hp
   ·split at hp
    ·cases hp
    ·injection hp with hp;subst hp;simp
  rw[edgeTop_len,hst];congr 1
  omega
theorem downF_leaf{n:NodeA}{a:Int}{r:StC}(hl:n.leaf=true)(hlen:r.length+1≤16):downF G last ((n,a) :: r)=.inl ((n,a) :: r):=by
 unfold downF;have e:18-((n,a) :: r).length=(16-r.length)+1:=by simp only[List.length_cons];omega
 rw[e,downA,if_pos hl]
end
inductive TrE (V:Nat→Option NodeA):Nat→Nat→Prop
 | leaf {id n}:V id=some n→n.leaf=true→n.entries≠[]→TrE V id 1
 | inner {id n d}:V id=some n→n.leaf=false→(∀k∈n.kids,TrE V k.toNat d)→TrE V id (d+1)
inductive Ctx (G:GA) (L:List PairS) (D:Nat):StC→List PairS→List PairS→List PairS→Nat→ByteArray→Option ByteArray→Prop
 | nil:Ctx G L D [] [] L [] D e0 none
 | cons {n:NodeA} {j:Nat} {r pre suf d lo hi} {parts:List (List PairS)} {p:List PairS}:Ctx G L D r pre parts.flatten suf (d+1) lo hi→n.leaf=false→rightN n=true→parts.length=n.kids.length →
   (∀(i:Nat) (k:Int) (p:List PairS),n.kids[i]? = some k→parts[i]? = some p→Tr G.node G.R2 (loAt lo n.keys i) (hiAt hi n.keys i) k.toNat d p)→(∀k∈n.kids,TrE G.node k.toNat d)→(∀s∈n.keys,inB lo hi s)→parts[j]? = some p →
   Ctx G L D ((n,(j:Int)) :: r) (pre++(parts.take j).flatten) p ((parts.drop (j+1)).flatten++suf) d (loAt lo n.keys j) (hiAt hi n.keys j)
def AtPos(G:GA)(L:List PairS)(D:Nat)(st:StC)(i:Nat):Prop :=
 ∃(n:NodeA) (a:Nat) (r:StC) (pre p suf:List PairS) (lo:ByteArray) (hi:Option ByteArray),st=(n,(a:Int)) :: r∧Ctx G L D r pre p suf 1 lo hi∧LeafOf G.R2 n p∧a<p.length∧i=pre.length+a
def OnPos(G:GA)(L:List PairS)(D:Nat)(st:StC)(i:Int):Prop:=(0≤i∧i<(L.length:Int)∧AtPos G L D st i.toNat)∨((i<0∨(L.length:Int)≤i)∧st=[])
section
variable {G:GA}{L pre f suf p:List PairS}{D d id:Nat}{st r:StC}{lo:ByteArray}{hi:Option ByteArray}{n:NodeA}
theorem split_at{α:Type}{l:List α}{j:Nat}{x:α}(h:l[j]? = some x):l=l.take j++x :: l.drop (j+1):=by
 obtain⟨hj,rfl⟩:=List.getElem?_eq_some_iff.1 h;rw[List.getElem_cons_drop,List.take_append_drop]
theorem flat_at{parts:List (List PairS)}{j:Nat}(h:parts[j]? = some p):parts.flatten=(parts.take j).flatten++p++(parts.drop (j+1)).flatten:=by
 conv=>lhs;rw[split_at h]
 simp
theorem flat_take{parts:List (List PairS)}{j:Nat}(h:parts[j]? = some p):(parts.take (j+1)).flatten.length=(parts.take j).flatten.length+p.length:=by
 rw[List.take_add_one,h,List.flatten_append,List.length_append];simp only[Option.toList_some,List.flatten_cons,List.flatten_nil,List.append_nil]
theorem Ctx.whole(h:Ctx G L D r pre f suf d lo hi):L=pre++f++suf:=by
 induction h with
 | nil=>simp
 | cons _ _ _ _ _ _ _ h8 ih=>rw[ih,flat_at h8];simp
theorem Ctx.deep(h:Ctx G L D r pre f suf d lo hi):r.length+d=D:=by
 induction h with
 | nil=>simp
 | cons _ _ _ _ _ _ _ _ ih=>simp only[List.length_cons];omega
theorem TrE.ne{R:Int→Int→Option ByteArray}{V:Nat→Option NodeA}(h:Tr V R lo hi id d f):TrE V id d→f≠[]:=by
 induction h with
 | @leaf lo hi id n l h1 h2 h3 h4 h5 h6 =>
  intro he;cases he with
  | leaf k1 k2 k3 =>
   rw[h1] at k1;injection k1 with k1;subst k1;rintro rfl;exact k3 (List.length_eq_zero_iff.1 h4)
  | inner k1 k2 k3=>rw[h1] at k1;injection k1 with k1;subst k1;rw[h2] at k2;cases k2
 | @inner lo hi id n d parts h1 h2 h3 h4 h5 h6 ih =>
  intro he hf;cases he with
  | leaf k1 k2 k3=>rw[h1] at k1;injection k1 with k1;subst k1;rw[h2] at k2;cases k2
  | inner k1 k2 k3 =>
   rw[h1] at k1;injection k1 with k1;subst k1;have h7:=(rightN_few h3).2.2 h2;have hk:0<n.kids.length:=by omega
   have hp:0<parts.length:=by omega
   have:=ih 0 n.kids[0] parts[0] (List.getElem?_eq_getElem hk) (List.getElem?_eq_getElem hp) (k3 _ (List.getElem_mem hk));exact this (List.flatten_eq_nil_iff.1 hf _ (List.getElem_mem hp))
def goA(G:GA)(last:Bool)(r:StC)(id:Int):StC ⊕ Err:=match pushA G r id with
 | .inr e=>.inr e
 | .inl st=>downF G last (edgeTop last st)
theorem edge_top(last:Bool)(n:NodeA)(r:StC):edgeTop last ((n,0) :: r)=(n,if last=true then lastI n else 0) :: r:=by
 unfold edgeTop;cases last <;> rfl
theorem kid_at{n:NodeA}(hn:rightN n=true)(hl:n.leaf=false){j:Nat}(hj:j<n.kids.length):n.kids.getD j 0=((n.kids[j].toNat:Nat):Int):=by
 have:=((rightN_inner hn hl).2.2 _ (List.getElem_mem hj)).1;rw[List.getD_eq_getElem?_getD,List.getElem?_eq_getElem hj];simp only[Option.getD_some];omega
theorem go_tr(last:Bool)(h:Tr G.node G.R2 lo hi id d f):∀{r:StC} {pre suf:List PairS},TrE G.node id d→Ctx G L D r pre f suf d lo hi→D≤16 →
  ∃st',goA G last r (id:Int)=.inl st'∧AtPos G L D st' (if last=true then pre.length+f.length-1 else pre.length):=by
 induction h with
 | @leaf lo hi id n l h1 h2 h3 h4 h5 h6 =>
  intro r pre suf hE hC hD;have hdp:=hC.deep;have hne:=TrE.ne (.leaf h1 h2 h3 h4 h5 h6:Tr G.node G.R2 lo hi id 1 l) hE;have hpos:0<l.length:=List.length_pos_iff.2 hne;have hp:pushA G r (id:Int)=.inl ((n,0) :: r):=by
   unfold pushA;rw[if_neg (by omega),(GA.node_load h1).2]
  unfold goA;rw[hp];simp only;rw[edge_top,downF_leaf h2 (by omega)];cases last with
  | false=>exact⟨_,rfl,n,0,r,pre,l,suf,lo,hi,rfl,hC,⟨h2,h3,h4,h5⟩,hpos,by simp⟩
  | true =>
   refine⟨_,rfl,n,l.length-1,r,pre,l,suf,lo,hi,?_,hC,⟨h2,h3,h4,h5⟩,by omega,by simp;omega⟩;simp only[if_true];congr 2
   unfold lastI endsA;rw[if_pos h2,h4];omega
 | @inner lo hi id n d parts h1 h2 h3 h4 h5 h6 ih =>
  intro r pre suf hE hC hD;have hdp:=hC.deep;have hkids:=(rightN_few h3).2.2 h2;cases hE with
  | leaf k1 k2 k3=>rw[h1] at k1;injection k1 with k1;subst k1;rw[h2] at k2;cases k2
  | inner k1 k2 k3 =>
   rw[h1] at k1;injection k1 with k1;subst k1;have hp:pushA G r (id:Int)=.inl ((n,0) :: r):=by
    unfold pushA;rw[if_neg (by omega),(GA.node_load h1).2]
   unfold goA;rw[hp];simp only;obtain⟨j,hj,hjt,hjl⟩:∃j:Nat,(if last=true then lastI n else 0)=(j:Int)∧j<n.kids.length∧(j=if last=true then n.kids.length-1 else 0):=by
    cases last with
    | false=>exact⟨0,rfl,by omega,rfl⟩
    | true =>
     refine⟨n.kids.length-1,?_,by omega,rfl⟩;simp only[if_true];unfold lastI endsA;rw[if_neg (by rw[h2];simp)];omega
   rw[edge_top,hj,downF_step h2 (by omega),Int.toNat_natCast,kid_at h3 h2 hjt];have hjp:j<parts.length:=by omega
   have hpj:parts[j]? = some parts[j]:=List.getElem?_eq_getElem hjp;have hCj:=Ctx.cons hC h2 h3 h4 h5 k3 h6 hpj;obtain⟨st',e1,e2⟩:=ih j n.kids[j] parts[j] (List.getElem?_eq_getElem hjt) hpj (k3 _ (List.getElem_mem hjt)) hCj hD;refine⟨st',e1,?_⟩;have hfl:=congrArg List.length (flat_at hpj);simp only[List.length_append] at hfl e2 ⊢;cases last with
   | false =>
    simp only[if_false,Bool.false_eq_true] at hjl e2 ⊢;rw[hjl] at e2;simpa using e2
   | true =>
    simp only[if_true] at hjl e2 ⊢;have hd:parts.drop (j+1)=[]:=List.drop_eq_nil_of_le (by omega);rw[hd] at hfl;simp only[List.flatten_nil,List.length_nil,Nat.add_zero] at hfl;rw[hfl];rwa [Nat.add_assoc] at e2
theorem next_ctx(hD:D≤16)(h:Ctx G L D r pre f suf d lo hi):(suf=[]∧moveA G 1 r=.inl [])∨(suf≠[]∧∃st',moveA G 1 r=.inl st'∧AtPos G L D st' (pre.length+f.length)):=by
 induction h with
 | nil=>exact .inl ⟨rfl,rfl⟩
 | @cons n j r pre suf d lo hi parts p h1 h2 h3 h4 h5 h6 h7 h8 ih =>
  have hdp:=h1.deep;have hj:=(List.getElem?_eq_some_iff.1 h8).1;have hfl:=congrArg List.length (flat_at h8);simp only[List.length_append] at hfl;by_cases hn:j+1<n.kids.length
  ·have hjp:j+1<parts.length:=by omega
   have hpj:parts[j+1]? = some parts[j+1]:=List.getElem?_eq_getElem hjp;have hCj:=Ctx.cons h1 h2 h3 h4 h5 h6 h7 hpj;have hT:=h5 (j+1) n.kids[j+1] parts[j+1] (List.getElem?_eq_getElem hn) hpj;have hE:=h6 _ (List.getElem_mem hn);obtain⟨st',e1,e2⟩:=go_tr false hT hE hCj hD;refine .inr ⟨?_,st',?_,?_⟩
   ·intro hs;have:=TrE.ne hT hE;rw[List.drop_eq_getElem_cons hjp,List.flatten_cons] at hs;exact this (List.append_eq_nil_iff.1 (List.append_eq_nil_iff.1 hs).1).1
   ·unfold moveA;rw[if_pos (by unfold endsA;rw[if_neg (by rw[h2];simp)];omega),show decide ((1:Int)<0)=false from rfl,show ((j:Int)+1)=((j+1:Nat):Int) by omega,downF_step h2 (by omega),Int.toNat_natCast,kid_at h3 h2 hn];exact e1
   ·simp only[Bool.false_eq_true,if_false,List.length_append] at e2 ⊢;have hs:(parts.take (j+1)).flatten.length=(parts.take j).flatten.length+p.length:=flat_take h8;rw[hs] at e2;rwa [Nat.add_assoc]
  ·have hd:parts.drop (j+1)=[]:=List.drop_eq_nil_of_le (by omega);have hm:moveA G 1 ((n,(j:Int)) :: r)=moveA G 1 r:=by
    conv=>lhs;unfold moveA
    rw[if_neg (by unfold endsA;rw[if_neg (by rw[h2];simp)];omega)]
   rw[hm,hd];rw[hd] at hfl;simp only[List.flatten_nil,List.nil_append,List.length_append,List.length_nil,Nat.add_zero] at hfl ⊢;rcases ih with ⟨i1,i2⟩|⟨i1,st',i2,i3⟩
   ·exact .inl ⟨i1,i2⟩
   ·refine .inr ⟨i1,st',i2,?_⟩;rw[hfl] at i3;rwa [Nat.add_assoc]
theorem prev_ctx(hD:D≤16)(h:Ctx G L D r pre f suf d lo hi):(pre=[]∧moveA G (-1) r=.inl [])∨(pre≠[]∧∃st',moveA G (-1) r=.inl st'∧AtPos G L D st' (pre.length-1)):=by
 induction h with
 | nil=>exact .inl ⟨rfl,rfl⟩
 | @cons n j r pre suf d lo hi parts p h1 h2 h3 h4 h5 h6 h7 h8 ih =>
  have hdp:=h1.deep;have hj:=(List.getElem?_eq_some_iff.1 h8).1;by_cases hn:1≤j
  ·have hjp:j-1<parts.length:=by omega
   have hjk:j-1<n.kids.length:=by omega
   have hpj:parts[j-1]? = some parts[j-1]:=List.getElem?_eq_getElem hjp;have hCj:=Ctx.cons h1 h2 h3 h4 h5 h6 h7 hpj;have hT:=h5 (j-1) n.kids[j-1] parts[j-1] (List.getElem?_eq_getElem hjk) hpj;have hE:=h6 _ (List.getElem_mem hjk);have hne:=TrE.ne hT hE;obtain⟨st',e1,e2⟩:=go_tr true hT hE hCj hD;have hs:(parts.take j).flatten.length=(parts.take (j-1)).flatten.length+parts[j-1].length:=by
    obtain⟨q,rfl⟩:∃q,j=q+1:=⟨j-1,by omega⟩;exact flat_take hpj
   have hpos:0<parts[j-1].length:=List.length_pos_iff.2 hne;refine .inr ⟨?_,st',?_,?_⟩
   ·intro hs2;have:=congrArg List.length hs2;simp only[List.length_append,List.length_nil] at this;omega
   ·unfold moveA;rw[if_pos (by unfold endsA;rw[if_neg (by rw[h2];simp)];omega),show decide ((-1:Int)<0)=true from rfl,show ((j:Int) + -1)=((j-1:Nat):Int) by omega,downF_step h2 (by omega),Int.toNat_natCast,kid_at h3 h2 hjk];exact e1
   ·simp only[if_true,List.length_append] at e2 ⊢;rw[hs];have e3:pre.length+(parts.take (j-1)).flatten.length+parts[j-1].length-1=pre.length+((parts.take (j-1)).flatten.length+parts[j-1].length)-1:=by omega
    rwa [e3] at e2
  ·have hj0:j=0:=by omega
   subst hj0;have hm:moveA G (-1) ((n,((0:Nat):Int)) :: r)=moveA G (-1) r:=by
    conv=>lhs;unfold moveA
    rw[if_neg (by omega)]
   rw[hm];simp only[List.take_zero,List.flatten_nil,List.append_nil];exact ih
end
end Go.Proofs.YtchklfmggpconaaGreatDoor
