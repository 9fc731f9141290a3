import Derived.Test.YtchklfmggpconaaGreatDoorK26
namespace Go.Proofs.YtchklfmggpconaaGreatDoor
open Go.RowKit
def EntC(G:GA)(gen:Nat)(e:EntryA)(v:ByteArray)(ids:List Nat):Prop :=
 (e.chain=0∧e.value=v∧ids=[])∨(e.chain≠0∧ChG G gen e.chain e.size v ids)
inductive Ents (G:GA) (gen:Nat):List EntryA→List PairS→List Nat→Prop
 | nil:Ents G gen [] [] []
 | cons {e x ids es l q}:e.key=x.1→EntC G gen e x.2 ids→Ents G gen es l q→Ents G gen (e :: es) (x :: l) (ids++q)
abbrev TreeT:=ByteArray→Option ByteArray→Nat→List PairS→List Nat→Prop
inductive Kids (T:TreeT):ByteArray→Option ByteArray→List ByteArray→List Int→List PairS→List Nat→Prop
 | one {lo hi c l q}:T lo hi c l q→Kids T lo hi [] [(c:Int)] l q
 | cons {lo hi s c keys kids l1 l2 q1 q2}:T lo (some s) c l1 q1→inB lo hi s→Kids T s hi keys kids l2 q2→Kids T lo hi (s :: keys) ((c:Int) :: kids) (l1++l2) (q1++q2)
structure PgN(G:GA)(gen id:Nat)(n:NodeA):Prop where
 lo:2≤id
 lt:id<G.blocks
 page:∃p,G.view id=some (.inl p)∧p.gen≤gen∧decodeA p=.inl n
 fit:weightN n≤(G.size:Int)-24
def Body(G:GA)(gen:Nat)(T:TreeT)(d:Nat)(lo:ByteArray)(hi:Option ByteArray)(n:NodeA)(l:List PairS)(q:List Nat):Prop :=
 (n.leaf=true∧d=0∧l≠[]∧Ents G gen n.entries l q∧∀x∈l,inB lo hi x.1)∨(n.leaf=false∧Kids T lo hi n.keys n.kids l q)
def TrD(G:GA)(gen:Nat):Nat→TreeT
 | 0=>λ_ _ _ _ _=>False
 | d+1=>λlo hi id l pgs=>∃n q,PgN G gen id n∧rightN n=true∧pgs=id :: q∧Body G gen (TrD G gen d) d lo hi n l q
section
variable {G G':GA}{gen gen':Nat}{T T':TreeT}{lo:ByteArray}{hi:Option ByteArray}{l:List PairS}{q:List Nat}{keys:List ByteArray}{kids:List Int}
theorem inB_low{lo s x:ByteArray}{hi:Option ByteArray}(h1:inB lo hi s)(h2:inB s hi x):inB lo hi x:=⟨not_lt_trans h1.1 h2.1,h2.2⟩
theorem inB_high{lo s x:ByteArray}{hi:Option ByteArray}(h1:inB lo hi s)(h2:inB lo (some s) x):inB lo hi x:=⟨h2.1,λh e=>ltS_trans (h2.2 s rfl) (h1.2 h e)⟩
theorem Kids.bounds(hT:∀lo hi c l q,T lo hi c l q→∀x∈l,inB lo hi x.1)(h:Kids T lo hi keys kids l q):∀x∈l,inB lo hi x.1:=by
 induction h with
 | one h=>exact hT _ _ _ _ _ h
 | cons h1 h2 _ ih =>
  intro x hx;rcases List.mem_append.1 hx with hx|hx
  ·exact inB_high h2 (hT _ _ _ _ _ h1 x hx)
  ·exact inB_low h2 (ih x hx)
theorem TrD.bounds:∀(d:Nat) (lo:ByteArray) (hi:Option ByteArray) (id:Nat) (l:List PairS) (q:List Nat),TrD G gen d lo hi id l q→∀x∈l,inB lo hi x.1
 | 0,_,_,_,_,_,h=>h.elim
 | d+1,lo,hi,id,l,q,h=>by
  obtain⟨n,q,_,_,_,h⟩:=h;rcases h with ⟨_,_,_,_,h⟩|⟨_,h⟩
  ·exact h
  ·exact h.bounds (TrD.bounds d)
theorem Kids.mono(h:Kids T lo hi keys kids l q):(∀lo hi c l p,(∀x∈p,x∈q)→T lo hi c l p→T' lo hi c l p)→Kids T' lo hi keys kids l q:=by
 induction h with
 | one h=>exact λhm=>.one (hm _ _ _ _ _ (λ_ hx=>hx) h)
 | cons h1 h2 _ ih=>exact λhm=>.cons (hm _ _ _ _ _ (λ_ hx=>List.mem_append_left _ hx) h1) h2 (ih (λlo hi c l p hp=>hm lo hi c l p (λx hx=>List.mem_append_right _ (hp x hx))))
theorem EntC.mono{e:EntryA}{v:ByteArray}{ids:List Nat}(h:EntC G gen e v ids)(hg:gen≤gen')(hb:G'.blocks=G.blocks)(hs:G'.size=G.size)(hv:∀i∈ids,G'.view i=G.view i):EntC G' gen' e v ids :=
 h.imp id (λh=>⟨h.1,h.2.mono hg hb hs hv⟩)
theorem Ents.mono{es:List EntryA}(h:Ents G gen es l q):gen≤gen'→G'.blocks=G.blocks→G'.size=G.size→(∀i∈q,G'.view i=G.view i)→Ents G' gen' es l q:=by
 induction h with
 | nil=>exact λ_ _ _ _=>.nil
 | cons h1 h2 _ ih=>exact λhg hb hs hv=>.cons h1 (h2.mono hg hb hs (λi hi=>hv i (List.mem_append_left _ hi))) (ih hg hb hs (λi hi=>hv i (List.mem_append_right _ hi)))
theorem PgN.mono{id:Nat}{n:NodeA}(h:PgN G gen id n)(hg:gen≤gen')(hb:G'.blocks=G.blocks)(hs:G'.size=G.size)(hv:G'.view id=G.view id):PgN G' gen' id n:=by
 obtain⟨p,h1,h2,h3⟩:=h.page;exact⟨h.lo,by rw[hb];exact h.lt,⟨p,hv.trans h1,Nat.le_trans h2 hg,h3⟩,by rw[hs];exact h.fit⟩
theorem TrD.mono(hg:gen≤gen')(hb:G'.blocks=G.blocks)(hs:G'.size=G.size):∀(d:Nat) (lo:ByteArray) (hi:Option ByteArray) (id:Nat) (l:List PairS) (q:List Nat),(∀i∈q,G'.view i=G.view i)→TrD G gen d lo hi id l q→TrD G' gen' d lo hi id l q
 | 0,_,_,_,_,_,_,h=>h.elim
 | d+1,lo,hi,id,l,pgs,hv,h=>by
  obtain⟨n,q,h1,h2,rfl,h3⟩:=h;refine⟨n,q,h1.mono hg hb hs (hv id List.mem_cons_self),h2,rfl,?_⟩;have hv2:∀i∈q,G'.view i=G.view i:=λi hi=>hv i (List.mem_cons_of_mem _ hi)
  rcases h3 with ⟨a1,a2,a3,a4,a5⟩|⟨a1,a2⟩
  ·exact .inl ⟨a1,a2,a3,a4.mono hg hb hs hv2,a5⟩
  ·exact .inr ⟨a1,a2.mono (λlo hi c l p hp=>TrD.mono hg hb hs d lo hi c l p (λi hi=>hv2 i (hp i hi)))⟩
theorem Body.mono{d:Nat}{n:NodeA}(h:Body G gen (TrD G gen d) d lo hi n l q)(hg:gen≤gen')(hb:G'.blocks=G.blocks)(hs:G'.size=G.size)(hv:∀i∈q,G'.view i=G.view i):Body G' gen' (TrD G' gen' d) d lo hi n l q:=by
 rcases h with ⟨a1,a2,a3,a4,a5⟩|⟨a1,a2⟩
 ·exact .inl ⟨a1,a2,a3,a4.mono hg hb hs hv,a5⟩
 ·exact .inr ⟨a1,a2.mono (λlo hi c l p hp=>TrD.mono hg hb hs d lo hi c l p (λi hi=>hv i (hp i hi)))⟩
theorem Kids.len(h:Kids T lo hi keys kids l q):kids.length=keys.length+1:=by
 induction h with
 | one=>rfl
 | cons _ _ _ ih=>simp[ih]
theorem Kids.keysIn(h:Kids T lo hi keys kids l q):∀s∈keys,inB lo hi s:=by
 induction h with
 | one=>intro s hs;simp at hs
 | cons _ h2 _ ih =>
  intro s hs;rcases List.mem_cons.1 hs with rfl|hs
  ·exact h2
  ·exact inB_low h2 (ih s hs)
theorem Kids.join{s:ByteArray}{k1 k2:List ByteArray}{c1 c2:List Int}{l1 l2:List PairS}{q1 q2:List Nat}(h2:Kids T s hi k2 c2 l2 q2)(h1:Kids T lo (some s) k1 c1 l1 q1):inB lo hi s→Kids T lo hi (k1++s :: k2) (c1++c2) (l1++l2) (q1++q2):=by
 generalize ho:(some s:Option ByteArray)=o at h1
 induction h1 with
 | one h=>subst ho;exact λhs=>.cons h hs h2
 | cons h hb _ ih =>
  subst ho;intro hs;have h3:=ih rfl ⟨(by
   have:=hb.2 s rfl;exact ltS_asymm this),hs.2⟩
  simp only[List.cons_append,List.append_assoc];exact .cons h (inB_high hs hb) h3
theorem Kids.split:∀(k1:List ByteArray) {s:ByteArray} {k2:List ByteArray} {c1 c2:List Int} {lo:ByteArray} {l:List PairS} {q:List Nat},Kids T lo hi (k1++s :: k2) (c1++c2) l q→c1.length=k1.length+1→((k1++s :: k2).Pairwise λa b=>ltS a b=true) →
  ∃l1 l2 q1 q2,Kids T lo (some s) k1 c1 l1 q1∧Kids T s hi k2 c2 l2 q2∧l=l1++l2∧q=q1++q2∧inB lo hi s
 | [],s,k2,c1,c2,lo,l,q,h,hc,_=>by
  match c1,hc with
  | [c],_ =>
   generalize e1:([]++s :: k2:List ByteArray)=ks at h
   generalize e2:([c]++c2:List Int)=cs at h
   cases h with
   | one h=>simp at e1
   | cons h1 h2 h3 =>
    simp at e1 e2;obtain⟨rfl,rfl⟩:=e1;obtain⟨rfl,rfl⟩:=e2;exact⟨_,_,_,_,.one h1,h3,rfl,rfl,h2⟩
 | a :: k1,s,k2,c1,c2,lo,l,q,h,hc,hp=>by
  match c1,hc with
  | c :: c1,hc =>
   have hp2:=List.pairwise_cons.1 hp;generalize e1:(a :: k1++s :: k2:List ByteArray)=ks at h
   generalize e2:(c :: c1++c2:List Int)=cs at h
   cases h with
   | one h=>simp at e1
   | cons h1 h2 h3 =>
    simp at e1 e2;obtain⟨rfl,rfl⟩:=e1;obtain⟨rfl,rfl⟩:=e2;obtain⟨l1,l2,q1,q2,j1,j2,rfl,rfl,j3⟩:=Kids.split k1 h3 (by simpa using hc) hp2.2;exact⟨_,_,_,_,.cons h1 ⟨h2.1,λh e=>by injection e with e;subst e;exact hp2.1 _ (by simp)⟩ j1,j2,(List.append_assoc _ _ _).symm,(List.append_assoc _ _ _).symm,inB_low h2 j3⟩
end
theorem firstMin_le(d:Nat→Nat):∀(m b a x:Nat),(x=b∨(a≤x∧x<a+m))→d (firstMin d b a m)≤d x
 | 0,b,a,x,h=>by
  rcases h with rfl|h
  ·exact Nat.le_refl _
  ·omega
 | m+1,b,a,x,h=>by
  rw[firstMin];by_cases hlt:d a<d b
  ·rw[if_pos hlt];rcases h with rfl|⟨h1,h2⟩
   ·exact Nat.le_trans (firstMin_le d m a (a+1) a (.inl rfl)) (Nat.le_of_lt hlt)
   ·by_cases e:x=a
    ·exact firstMin_le d m a (a+1) x (.inl e)
    ·exact firstMin_le d m a (a+1) x (.inr ⟨by omega,by omega⟩)
  ·rw[if_neg hlt];rcases h with rfl|⟨h1,h2⟩
   ·exact firstMin_le d m x (a+1) x (.inl rfl)
   ·by_cases e:x=a
    ·subst e;exact Nat.le_trans (firstMin_le d m b (x+1) b (.inl rfl)) (by omega)
    ·exact firstMin_le d m b (a+1) x (.inr ⟨by omega,by omega⟩)
theorem turn_point(g:Nat→Int)(lo:Nat):∀(k:Nat),g lo≤0→0<g (lo+k)→∃a,lo≤a∧a<lo+k∧g a≤0∧0<g (a+1)
 | 0,h1,h2=>by simp only[Nat.add_zero] at h2;omega
 | k+1,h1,h2=>by
  by_cases h3:0<g (lo+k)
  ·obtain⟨a,a1,a2,a3,a4⟩:=turn_point g lo k h1 h3;exact⟨a,a1,by omega,a3,a4⟩
  ·exact⟨lo+k,by omega,by omega,by omega,h2⟩
theorem near_zero(g:Nat→Int)(M:Int)(lo k:Nat)(h1:g lo≤M)(h2 : -M≤g (lo+k))(h3:∀a,lo≤a→a<lo+k→g (a+1)-g a≤2 * M):∃a,lo≤a∧a≤lo+k ∧ -M≤g a∧g a≤M:=by
 by_cases c1:0<g lo
 ·exact⟨lo,Nat.le_refl _,by omega,by omega,h1⟩
 ·by_cases c2:g (lo+k)≤0
  ·exact⟨lo+k,by omega,Nat.le_refl _,h2,by omega⟩
  ·obtain⟨a,a1,a2,a3,a4⟩:=turn_point g lo k (by omega) (by omega);have:=h3 a a1 a2;by_cases c3 : -M≤g a
   ·exact⟨a,a1,by omega,c3,by omega⟩
   ·exact⟨a+1,by omega,by omega,by omega,by omega⟩
theorem sumE_snoc{l:List EntryA}{k:Nat}{e:EntryA}(h:l[k]? = some e):sumE (l.take (k+1))=sumE (l.take k)+weightE e:=by
 rw[take_one l k e h,sumE_append];simp[sumE]
theorem sumK_snoc{l:List ByteArray}{k:Nat}{e:ByteArray}(h:l[k]? = some e):sumK (l.take (k+1))=sumK (l.take k)+(5+(e.size:Int)):=by
 rw[take_one l k e h,sumK_append];simp[sumK]
theorem sumE_split(l:List EntryA)(k:Nat):sumE (l.take k)+sumE (l.drop k)=sumE l:=by
 rw[← sumE_append,List.take_append_drop]
theorem sumK_split(l:List ByteArray)(k:Nat):sumK (l.take k)+sumK (l.drop k)=sumK l:=by
 rw[← sumK_append,List.take_append_drop]
theorem sumE_le{M:Int}:∀(l:List EntryA),(∀e∈l,weightE e≤M)→sumE l≤M * l.length
 | [],_=>by simp[sumE]
 | e :: l,h=>by
  have h1:=h e List.mem_cons_self;have h2:=sumE_le l (λx hx=>h x (List.mem_cons_of_mem _ hx));rw[sumE,List.length_cons,Int.natCast_add,Int.mul_add];simp only[Int.natCast_one,Int.mul_one];omega
theorem sumK_le{M:Int}:∀(l:List ByteArray),(∀e∈l,5+(e.size:Int)≤M)→sumK l≤M * l.length
 | [],_=>by simp[sumK]
 | e :: l,h=>by
  have h1:=h e List.mem_cons_self;have h2:=sumK_le l (λx hx=>h x (List.mem_cons_of_mem _ hx));rw[sumK,List.length_cons,Int.natCast_add,Int.mul_add];simp only[Int.natCast_one,Int.mul_one];omega
theorem rightE_wt{e:EntryA}(h:rightE e=true):weightE e≤59:=by
 unfold rightE at h;simp only[Bool.and_eq_true] at h;have hk:=(keyB_iff e.key).1 h.1;have h2:=h.2;unfold weightE;by_cases hc:e.chain=0
 ·rw[if_pos hc] at h2 ⊢;simp only[Bool.and_eq_true,decide_eq_true_eq] at h2;omega
 ·rw[if_neg hc];omega
theorem rightN_ents{n:NodeA}(h:rightN n=true):∀e∈n.entries,rightE e=true:=by
 unfold rightN at h;split at h
 ·simp only[Bool.and_eq_true,List.all_eq_true] at h;exact h.1.1.1.1
 ·simp only[Bool.and_eq_true,List.isEmpty_iff] at h;intro e he;rw[h.1.1.1.1.1.1.1] at he;simp at he
theorem rightN_keyB{n:NodeA}(h:rightN n=true):∀s∈n.keys,keyB s=true:=by
 unfold rightN at h;split at h
 ·simp only[Bool.and_eq_true,List.isEmpty_iff] at h;intro e he;rw[h.1.1.1.2] at he;simp at he
 ·simp only[Bool.and_eq_true,List.all_eq_true] at h;exact h.1.2
def cutAt(n:NodeA):Option Nat:=if rightN n=true∧0<cutMany n then some (firstMin (unlikeA n) (cutFrom n) (cutFrom n) (cutMany n)) else none
theorem cutA_at(n:NodeA):cutA n=(cutAt n).map (apartA n):=by
 unfold cutA cutAt;split <;> rfl
section
variable {n:NodeA}{a:Nat}
theorem apart_wtL(hl:n.leaf=true)(hf:formN n):weightN (apartA n a).1=2+sumE (n.entries.take a)∧weightN (apartA n a).2.2=2+(sumE n.entries-sumE (n.entries.take a))∧weightN n=2+sumE n.entries:=by
 have h:=sumE_split n.entries a;unfold formN at hf;rw[if_pos hl] at hf;rw[apart_leafA hl,apart_leafB hl];unfold weightN;simp only[hl,if_true,sumK,hf.1];omega
theorem apart_wtI(hl:n.leaf=false)(hf:formN n):weightN (apartA n a).1=6+sumK (n.keys.take (a-1))∧weightN (apartA n a).2.2=6+(sumK n.keys-sumK (n.keys.take a))∧weightN n=6+sumK n.keys:=by
 have h:=sumK_split n.keys a;unfold formN at hf;rw[if_neg (by rw[hl];simp)] at hf;rw[apart_innerA hl,apart_innerB hl];unfold weightN;simp only[hl,Bool.false_eq_true,if_false,sumE,hf.1];omega
theorem cut_best(hr:rightN n=true)(hf:formN n){x:Nat}(hx:PlaceN n x){M:Int}(hM:(unlikeA n x:Int)≤M) :
  ∃a,PlaceN n a∧cutAt n=some a∧weightN (apartA n a).1-weightN (apartA n a).2.2≤M∧weightN (apartA n a).2.2-weightN (apartA n a).1≤M:=by
 have hpos:0<cutMany n∧cutFrom n≤x∧x<cutFrom n+cutMany n:=by
  unfold cutMany cutFrom;cases hl:n.leaf with
  | true=>have:=hx.leaf hl;simp only[if_true];omega
  | false=>have:=hx.inner hl;simp only[Bool.false_eq_true,if_false];omega
 obtain⟨p1,p2⟩:=cut_place n hpos.1;have hb:=firstMin_le (unlikeA n) (cutMany n) (cutFrom n) (cutFrom n) x (.inr hpos.2);generalize hq:firstMin (unlikeA n) (cutFrom n) (cutFrom n) (cutMany n)=q at p1 p2 hb
 have hpl:=place_in p1 p2;have hu:=unlike_eq hf hpl;refine⟨q,hpl,?_,?_⟩
 ·unfold cutAt;rw[if_pos ⟨hr,hpos.1⟩,hq]
 ·split at hu <;> omega
theorem cut_fit2(hr:rightN n=true){W:Int}(hW:232≤W)(h1:W<weightN n)(h2:weightN n+61≤2 * W) :
  ∃a,PlaceN n a∧cutAt n=some a∧weightN (apartA n a).1≤W∧weightN (apartA n a).2.2≤W:=by
 have hf:=form_right hr;cases hl:n.leaf with
 | true =>
  have hM:∀e∈n.entries,weightE e≤59:=λe he=>rightE_wt (rightN_ents hr e he)
  obtain⟨_,_,hw⟩:=apart_wtL (a:=0) hl hf;have hs:=sumE_le n.entries hM;have hlen:4≤n.entries.length:=by omega
  obtain⟨L,hL⟩:∃L,n.entries.length=L+2:=⟨n.entries.length-2,by omega⟩;have hel:∀k,k<n.entries.length→∃e,n.entries[k]? = some e∧weightE e≤59∧0≤weightE e∧sumE (n.entries.take (k+1))=sumE (n.entries.take k)+weightE e:=λk hk=>by
   refine⟨n.entries[k],List.getElem?_eq_getElem hk,hM _ (List.getElem_mem hk),?_,sumE_snoc (List.getElem?_eq_getElem hk)⟩;have:=weightE_nonneg n.entries[k];omega
  have h0:sumE (n.entries.take 0)=0:=by simp[sumE]
  have hall:sumE (n.entries.take n.entries.length)=sumE n.entries:=by rw[List.take_length]
  obtain⟨a,a1,a2,a3,a4⟩:=near_zero (λa=>2 * sumE (n.entries.take a)-sumE n.entries) 59 1 L (by
   obtain⟨e,_,e2,e3,e4⟩:=hel 0 (by omega);have:=sumE_take_le n.entries 1;simp only[Nat.zero_add] at e4;show 2 * sumE (n.entries.take 1)-sumE n.entries≤59;omega) (by
   obtain⟨e,_,e2,e3,e4⟩:=hel (1+L) (by omega);rw[show 1+L+1=n.entries.length by omega,hall] at e4;have:=sumE_nonneg (n.entries.take (1+L));show -59≤2 * sumE (n.entries.take (1+L))-sumE n.entries;omega) (λk k1 k2=>by
   obtain⟨e,_,e2,e3,e4⟩:=hel k (by omega);show 2 * sumE (n.entries.take (k+1))-sumE n.entries-(2 * sumE (n.entries.take k)-sumE n.entries)≤2 * 59;omega)
  have hp:PlaceN n a:=⟨λ_=>by omega,λhc=>(by rw[hl] at hc;cases hc)⟩;have hu:=unlike_eq hf hp;obtain⟨w1,w2,_⟩:=apart_wtL (a:=a) hl hf;obtain⟨b,b1,b2,b3,b4⟩:=cut_best hr hf hp (M:=59) (by split at hu <;> omega);obtain⟨v1,v2,_⟩:=apart_wtL (a:=b) hl hf;exact⟨b,b1,b2,by omega,by omega⟩
 | false =>
  have hM:∀s∈n.keys,5+(s.size:Int)≤37:=λs hs=>by have:=(keyB_iff s).1 (rightN_keyB hr s hs);omega
  obtain⟨_,_,hw⟩:=apart_wtI (a:=0) hl hf;have hs:=sumK_le n.keys hM;have hlen:4≤n.keys.length:=by omega
  have hkl:n.kids.length=n.keys.length+1:=(rightN_inner hr hl).2.1;obtain⟨L,hL⟩:∃L,n.keys.length=L+3:=⟨n.keys.length-3,by omega⟩;have hel:∀k,k<n.keys.length→∃e,0≤e∧e≤37∧sumK (n.keys.take (k+1))=sumK (n.keys.take k)+e:=λk hk=>by
   have:=hM _ (List.getElem_mem hk);exact⟨5+(n.keys[k].size:Int),by omega,this,sumK_snoc (List.getElem?_eq_getElem hk)⟩
  have h0:sumK (n.keys.take 0)=0:=by simp[sumK]
  have hall:sumK (n.keys.take n.keys.length)=sumK n.keys:=by rw[List.take_length]
  obtain⟨a,a1,a2,a3,a4⟩:=near_zero (λa=>sumK (n.keys.take (a-1))+sumK (n.keys.take a)-sumK n.keys) 37 2 L (by
   obtain⟨e,e2,e3,e4⟩:=hel 0 (by omega);obtain⟨f,f2,f3,f4⟩:=hel 1 (by omega);have:=sumK_take_le n.keys 2;simp only[Nat.zero_add] at e4 f4;show sumK (n.keys.take 1)+sumK (n.keys.take 2)-sumK n.keys≤37;omega) (by
   obtain⟨e,e2,e3,e4⟩:=hel (2+L) (by omega);rw[show 2+L+1=n.keys.length by omega,hall] at e4;have:=sumK_nonneg (n.keys.take (2+L-1));show -37≤sumK (n.keys.take (2+L-1))+sumK (n.keys.take (2+L))-sumK n.keys;omega) (λk k1 k2=>by
   obtain⟨e,e2,e3,e4⟩:=hel k (by omega);obtain⟨f,f2,f3,f4⟩:=hel (k-1) (by omega);rw[show k-1+1=k by omega] at f4;show sumK (n.keys.take (k+1-1))+sumK (n.keys.take (k+1))-sumK n.keys-(sumK (n.keys.take (k-1))+sumK (n.keys.take k)-sumK n.keys)≤2 * 37;rw[Nat.add_sub_cancel];omega)
  have hp:PlaceN n a:=⟨λhc=>(by rw[hl] at hc;cases hc),λ_=>by omega⟩;have hu:=unlike_eq hf hp;obtain⟨w1,w2,_⟩:=apart_wtI (a:=a) hl hf;obtain⟨b,b1,b2,b3,b4⟩:=cut_best hr hf hp (M:=37) (by split at hu <;> omega);obtain⟨v1,v2,_⟩:=apart_wtI (a:=b) hl hf;have h3:=b1.inner hl;obtain⟨f,f2,f3,f4⟩:=hel (b-1) (by omega);rw[show b-1+1=b by omega] at f4;exact⟨b,b1,b2,by omega,by omega⟩
end
theorem right_leafI{es:List EntryA}(h1:∀e∈es,rightE e=true)(h2:(es.map (·.key)).Pairwise λa b=>ltS a b=true)(h3:es.length≤65535):rightN ⟨true,es,[],[]⟩=true:=by
 unfold rightN;simp only[if_true,Bool.and_eq_true,decide_eq_true_eq,List.all_eq_true];exact⟨⟨⟨⟨h1,rfl⟩,rfl⟩,pw_rising h2⟩,h3⟩
theorem right_innerI{keys:List ByteArray}{kids:List Int}(h1:2≤kids.length)(h2:kids.length=keys.length+1)(h3:∀k∈kids,2≤k∧k<256)(h4:kids.Nodup)(h5:∀s∈keys,keyB s=true)(h6:keys.Pairwise λa b=>ltS a b=true):rightN ⟨false,[],keys,kids⟩=true:=by
 unfold rightN;simp only[Bool.false_eq_true,if_false,Bool.and_eq_true,decide_eq_true_eq,List.all_eq_true];have h7:=nodup_fewW 256 kids h4 (λi hi=>by have:=h3 i hi;omega);exact⟨⟨⟨⟨⟨⟨⟨rfl,h1⟩,h2⟩,h7⟩,λk hk=>by have:=h3 k hk;simp[kidB];omega⟩,h4⟩,h5⟩,pw_rising h6⟩
theorem rightN_sz{n:NodeA}(h:rightN n=true):n.entries.length≤65535∧n.kids.length≤256∧(n.leaf=false→2≤n.kids.length):=by
 unfold rightN at h;split at h
 ·rename_i hl;simp only[Bool.and_eq_true,decide_eq_true_eq,List.isEmpty_iff] at h;refine⟨h.2,by rw[h.1.1.2];simp,λhf=>by rw[hl] at hf;cases hf⟩
 ·simp only[Bool.and_eq_true,decide_eq_true_eq,List.isEmpty_iff] at h;obtain⟨⟨⟨⟨⟨⟨⟨h1,h2⟩,h3⟩,h4⟩,h5⟩,h6⟩,h7⟩,h8⟩:=h;exact⟨by rw[h1];simp,h4,λ_=>h2⟩
section
variable {G G':GA}{gen:Nat}{T:TreeT}{lo:ByteArray}{hi:Option ByteArray}{l:List PairS}{q:List Nat}{kk:List ByteArray}{cc:List Int}
theorem Ents.keys{es:List EntryA}(h:Ents G gen es l q):es.map (·.key)=l.map (·.1):=by
 induction h with
 | nil=>rfl
 | cons h1 _ _ ih=>simp[h1,ih]
theorem Ents.len{es:List EntryA}(h:Ents G gen es l q):es.length=l.length:=by
 have:=congrArg List.length h.keys;simpa using this
theorem Ents.split:∀(es1:List EntryA) {es2:List EntryA} {l:List PairS} {q:List Nat},Ents G gen (es1++es2) l q→∃l1 l2 q1 q2,Ents G gen es1 l1 q1∧Ents G gen es2 l2 q2∧l=l1++l2∧q=q1++q2
 | [],es2,l,q,h=>⟨[],l,[],q,.nil,h,rfl,rfl⟩
 | e :: es1,es2,l,q,h=>by
  generalize hs:e :: es1++es2=es at h
  cases h with
  | nil=>simp at hs
  | cons a b c =>
   simp only[List.cons_append,List.cons.injEq] at hs;obtain⟨rfl,rfl⟩:=hs;obtain⟨l1,l2,q1,q2,h1,h2,rfl,rfl⟩:=Ents.split es1 c;exact⟨_,_,_,_,.cons a b h1,h2,rfl,(List.append_assoc _ _ _).symm⟩
theorem Ents.lt{es:List EntryA}(h:Ents G gen es l q):∀i∈q,2≤i∧i<G.blocks:=by
 induction h with
 | nil=>intro i hi;simp at hi
 | cons _ b _ ih =>
  intro i hi;rcases List.mem_append.1 hi with hi|hi
  ·rcases b with ⟨_,_,b⟩|⟨_,b⟩
   ·rw[b] at hi;simp at hi
   ·exact b.lt i hi
  ·exact ih i hi
theorem Kids.ne(hT:∀lo hi c l q,T lo hi c l q→l≠[])(h:Kids T lo hi kk cc l q):l≠[]:=by
 cases h with
 | one h=>exact hT _ _ _ _ _ h
 | cons h _ _=>exact λe=>hT _ _ _ _ _ h (List.append_eq_nil_iff.1 e).1
theorem TrD.ne:∀(d:Nat) (lo:ByteArray) (hi:Option ByteArray) (id:Nat) (l:List PairS) (q:List Nat),TrD G gen d lo hi id l q→l≠[]
 | 0,_,_,_,_,_,h=>h.elim
 | d+1,lo,hi,id,l,q,h=>by
  obtain⟨n,q,_,_,_,h⟩:=h;rcases h with ⟨_,_,h,_⟩|⟨_,h⟩
  ·exact h
  ·exact h.ne (TrD.ne d)
theorem Kids.ltq(hT:∀lo hi c l q,T lo hi c l q→∀i∈q,2≤i∧i<G.blocks)(h:Kids T lo hi kk cc l q):∀i∈q,2≤i∧i<G.blocks:=by
 induction h with
 | one h=>exact hT _ _ _ _ _ h
 | cons h _ _ ih =>
  intro i hi;rcases List.mem_append.1 hi with hi|hi
  ·exact hT _ _ _ _ _ h i hi
  ·exact ih i hi
theorem TrD.ltq:∀(d:Nat) (lo:ByteArray) (hi:Option ByteArray) (id:Nat) (l:List PairS) (q:List Nat),TrD G gen d lo hi id l q→∀i∈q,2≤i∧i<G.blocks
 | 0,_,_,_,_,_,h=>h.elim
 | d+1,lo,hi,id,l,q,h=>by
  obtain⟨n,q,hp,_,rfl,h⟩:=h;intro i hi;rcases List.mem_cons.1 hi with rfl|hi
  ·exact⟨hp.lo,hp.lt⟩
  ·rcases h with ⟨_,_,_,h,_⟩|⟨_,h⟩
   ·exact h.lt i hi
   ·exact h.ltq (TrD.ltq d) i hi
theorem Kids.heads(hT:∀lo hi c l q,T lo hi c l q→∃r,q=c :: r)(h:Kids T lo hi kk cc l q):∃ks:List Nat,cc=ks.map (λ(i:Nat)=>(i:Int))∧ks.Sublist q:=by
 induction h with
 | @one lo hi c l q h =>
  obtain⟨r,rfl⟩:=hT _ _ _ _ _ h;exact⟨[c],rfl,List.Sublist.cons_cons _ (List.nil_sublist _)⟩
 | @cons lo hi s c keys kids l1 l2 q1 q2 h _ _ ih =>
  obtain⟨r,rfl⟩:=hT _ _ _ _ _ h;obtain⟨ks,rfl,hs⟩:=ih;exact⟨c :: ks,rfl,List.Sublist.cons_cons _ (hs.trans (List.sublist_append_right _ _))⟩
theorem TrD.head:∀(d:Nat) (lo:ByteArray) (hi:Option ByteArray) (id:Nat) (l:List PairS) (q:List Nat),TrD G gen d lo hi id l q→∃r,q=id :: r
 | 0,_,_,_,_,_,h=>h.elim
 | d+1,lo,hi,id,l,q,h=>by
  obtain⟨n,q,_,_,rfl,_⟩:=h;exact⟨_,rfl⟩
theorem Kids.rise(hb:∀lo hi c l q,T lo hi c l q→∀x∈l,inB lo hi x.1)(hT:∀lo hi c l q,T lo hi c l q→l≠[])(h:Kids T lo hi kk cc l q):(kk.Pairwise λa b=>ltS a b=true)∧∀s∈kk,ltS lo s=true:=by
 induction h with
 | one=>exact⟨List.Pairwise.nil,λs hs=>by simp at hs⟩
 | @cons lo hi s c keys kids l1 l2 q1 q2 h _ _ ih =>
  have hls:ltS lo s=true:=by
   obtain⟨x,hx⟩:=List.exists_mem_of_ne_nil _ (hT _ _ _ _ _ h);have:=hb _ _ _ _ _ h x hx;exact lt_of_not_lt this.1 (this.2 s rfl)
  refine⟨List.pairwise_cons.2 ⟨λt ht=>ih.2 t ht,ih.1⟩,λt ht=>?_⟩;rcases List.mem_cons.1 ht with rfl|ht
  ·exact hls
  ·exact ltS_trans hls (ih.2 t ht)
end
structure CtxG(G:GA)(l:List Nat):Prop where
 low:LowL l
 len:l.length=G.blocks
 b256:G.blocks≤256
 s256:256≤G.size
 s1024:G.size≤1024
section
variable {G G' G1:GA}{l l' l1:List Nat}{gen:Nat}{lo:ByteArray}{hi:Option ByteArray}{ps:List PairS}{q:List Nat}
theorem CtxG.upd{A A1:Nat→Prop}(hc:CtxG G l)(h:Upd G l A G' l' A1)(hA:∀i,A i→2≤i):CtxG G' l' :=
 ⟨(h.fr hA).lowL hc.low,by rw[h.len,h.bl];exact hc.len,by rw[h.bl];exact hc.b256,by rw[h.sz];exact hc.s256,by rw[h.sz];exact hc.s1024⟩
theorem CtxG.free2(hc:CtxG G l){i:Nat}(h:l[i]? = some 0):2≤i:=by
 rcases Nat.lt_or_ge i 2 with h2|h2
 ·obtain rfl|rfl:i=0∨i=1:=by omega
  ·rw[hc.low.1] at h;simp at h
  ·rw[hc.low.2] at h;simp at h
 ·exact h2
theorem UseL.ne0{A:Nat→Prop}(hu:UseL l A){i:Nat}(hi:A i):l[i]? ≠ some 0:=λe=>by
 rcases hu i hi with h|h <;> rw[e] at h <;> simp at h
theorem Upd.views{A A1:Nat→Prop}(h:Upd G l A G1 l1 A1){ids:List Nat}(hd:∀i∈ids,¬ A i)(hu:UseL l (· ∈ ids)):(∀i∈ids,G1.view i=G.view i∧l1[i]? = l[i]? ∧ ¬ A1 i)∧UseL l1 (· ∈ ids) :=
 ⟨λi hi=>h.view (hd i hi) (hu.ne0 hi),λi hi=>by rw[(h.view (hd i hi) (hu.ne0 hi)).2.1];exact hu i hi⟩
theorem placeI_none{old:Nat}(h:placeI l old=none)(ho:PlaceOf l old):phiL l≤0:=by
 unfold placeI at h;by_cases hz:old=0
 ·rw[if_neg (by simp[hz])] at h;rcases Int.lt_or_le 0 (phiL l) with hp|hp
  ·obtain⟨i,hi⟩:=phi_free (l:=l) (by omega);rw[hi] at h;cases h
  ·exact hp
 ·split at h
  ·cases h
  ·rename_i hn;rcases ho with ho|⟨_,ho⟩
   ·exact absurd ho hz
   ·rcases ho with ho|ho
    ·rcases Int.lt_or_le 0 (phiL l) with hp|hp
     ·obtain⟨i,hi⟩:=phi_last (l:=l) (by omega) ho;rw[hi] at h;cases h
     ·exact hp
    ·exfalso;refine hn ⟨hz,?_⟩;unfold spFresh;rw[Int.toNat_natCast,ho];simp
theorem downI_none{old:Nat}{n:NodeA}(h:downI G l old n=none)(hd:downOk n G.size)(ho:PlaceOf l old):phiL l≤0:=by
 unfold downI at h;rw[if_pos hd] at h;exact placeI_none h ho
theorem dec_put{n:NodeA}(hr:rightN n=true)(i:Int)(gen:Nat):decodeA ⟨kindA n,i,gen,bytesN n⟩=.inl n:=by
 unfold decodeA kindA;cases hl:n.leaf with
 | true =>
  have:=(getN_iff true (bytesN n) n).2 ⟨hr,hl,rfl⟩;simp[this]
 | false =>
  have:=(getN_iff false (bytesN n) n).2 ⟨hr,hl,rfl⟩;simp[this]
theorem down_tr{old i d:Nat}{n:NodeA}(hc:CtxG G l)(ho:PlaceOf l old)(hdn:downI G l old n=some i)(hr:rightN n=true)(hb:Body G gen (TrD G gen d) d lo hi n ps q)(hq:q.Nodup)(hu:UseL l (· ∈ q))(hoq:old≠0→old ∉ q)(_h2:∀x∈q,2≤x) :
  Upd G l (λk=>(k=old∧old≠0)∨k∈q) (downG G l gen old n) (downL G l old n) (λk=>k=i∨k∈q)∧TrD (downG G l gen old n) gen (d+1) lo hi i ps (i :: q)∧(i :: q).Nodup∧2≤i∧CtxG (downG G l gen old n) (downL G l old n) ∧
   UseL (downL G l old n) (λk=>k=i∨k∈q)∧PlaceOf (downL G l old n) i:=by
 obtain⟨u1,_,u3,u4,u5,u6⟩:=upd_down (gen:=gen) ho hdn (by rw[hc.low.1];simp);have hA2:∀k,(k=old∧old≠0)→2≤k:=λk hk=>by
  obtain⟨rfl,hz⟩:=hk;rcases ho with h|h
  ·exact absurd h hz
  ·exact h.1
 have huA:UseL l (λk=>k=old∧old≠0):=λk hk=>by
  obtain⟨rfl,hz⟩:=hk;rcases ho with h|h
  ·exact absurd h hz
  ·exact h.2
 have hdis:∀k∈q,¬ (k=old∧old≠0):=λk hk h=>hoq h.2 (h.1 ▸ hk)
 obtain⟨hv,hu1⟩:=u1.views hdis hu;have hiq:i ∉ q:=λhm=>(hv i hm).2.2 rfl
 have hi2:2≤i:=by
  rcases u1.inn i rfl with ⟨h,_⟩|⟨h,_⟩
  ·exact hA2 i h
  ·exact hc.free2 h
 have hc1:=hc.upd u1 hA2;have hui:=u1.use huA;refine⟨u1.frame (λk hk=>⟨hdis k hk,hu.ne0 hk⟩),⟨n,q,⟨hi2,?_,⟨_,u5,Nat.le_refl _,dec_put hr _ _⟩,by rw[u1.sz];exact u6.2⟩,hr,rfl,hb.mono (Nat.le_refl _) u1.bl u1.sz (λk hk=>(hv k hk).1)⟩,List.nodup_cons.2 ⟨hiq,hq⟩,hi2,hc1,λk hk=>?_,.inr ⟨hi2,hui i rfl⟩⟩
 ·rw[u1.bl];have:=hc.len;omega
 ·rcases hk with rfl|hk
  ·exact hui k rfl
  ·exact hu1 k hk
end
def sumR(f:Nat→Int):Nat→Int
 | 0=>0
 | n+1=>sumR f n+f n
theorem sumR_add(f g:Nat→Int):∀n,sumR (λi=>f i+g i) n=sumR f n+sumR g n
 | 0=>rfl
 | n+1=>by simp only[sumR,sumR_add f g n];omega
theorem sumR_one(x:Nat):∀n,sumR (λi=>if i=x then 1 else 0) n=if x<n then 1 else 0
 | 0=>by simp[sumR]
 | n+1=>by
  rw[sumR,sumR_one x n];by_cases h1:n=x
  ·subst h1;simp
  ·rw[if_neg h1];by_cases h2:x<n
   ·rw[if_pos h2,if_pos (by omega)];rfl
   ·rw[if_neg h2,if_neg (by omega)];rfl
theorem sumR_zero:∀n,sumR (λ_=>0) n=0
 | 0=>rfl
 | n+1=>by rw[sumR,sumR_zero n];rfl
theorem sumR_in:∀(a:List Nat) (n:Nat),a.Nodup→(∀i∈a,i<n)→sumR (λi=>if i∈a then 1 else 0) n=a.length
 | [],n,_,_=>by simpa using sumR_zero n
 | x :: a,n,hn,h=>by
  have hn2:=List.nodup_cons.1 hn;have e:(λi=>if i∈x :: a then (1:Int) else 0)=λi=>(if i=x then 1 else 0)+(if i∈a then 1 else 0):=by
   funext i
   by_cases h1:i=x
   ·subst h1;simp[hn2.1]
   ·simp[h1]
  rw[e,sumR_add,sumR_one,if_pos (h x List.mem_cons_self),sumR_in a n hn2.2 (λi hi=>h i (List.mem_cons_of_mem _ hi)),List.length_cons];omega
def wtL(x:Option Nat):Int:=if x=some 0 then 1 else if x=some 1 then -1 else 0
theorem phi_sum(l:List Nat):∀n,n≤l.length→phiL (l.take n)=sumR (λi=>wtL l[i]?) n
 | 0,_=>by simp[phiL,sumR]
 | n+1,h=>by
  have hx:l[n]? = some l[n]:=List.getElem?_eq_getElem (by omega);rw[sumR,← phi_sum l n (by omega),take_one l n _ hx,hx];unfold phiL wtL;rw[List.countP_append,List.countP_append];simp only[List.countP_cons,List.countP_nil,beq_iff_eq,Option.some.injEq];generalize l[n]=x
  by_cases h0:x=0
  ·subst h0;simp;omega
  ·by_cases h1:x=1
   ·subst h1;simp;omega
   ·simp[h0,h1]
section
variable {G G' G1:GA}{l l' l1:List Nat}{gen:Nat}{lo:ByteArray}{hi:Option ByteArray}{ps:List PairS}{q:List Nat}
theorem Upd.phi{a b:List Nat}(h:Upd G l (λk=>k∈a) G' l' (λk=>k∈b))(hu:UseL l (λk=>k∈a))(ha:a.Nodup)(hb:b.Nodup):phiL l'+b.length=phiL l+a.length:=by
 have hub:=h.use hu;have hla:∀i∈a,i<l.length:=λi hi=>by
  rcases hu i hi with e|e <;> exact (List.getElem?_eq_some_iff.1 e).1
 have hlb:∀i∈b,i<l.length:=λi hi=>by
  rw[← h.len];rcases hub i hi with e|e <;> exact (List.getElem?_eq_some_iff.1 e).1
 have e1:=phi_sum l l.length (Nat.le_refl _);have e2:=phi_sum l' l.length (by rw[h.len];exact Nat.le_refl _);rw[List.take_length] at e1;rw[List.take_of_length_le (by rw[h.len];exact Nat.le_refl _)] at e2;rw[e1,e2,← sumR_in a l.length ha hla,← sumR_in b l.length hb hlb,← sumR_add,← sumR_add];congr 1
 funext i
 unfold wtL;by_cases hia:i∈a
 ·by_cases hib:i∈b
  ·rcases h.inn i hib with ⟨_,e⟩|⟨e,_⟩
   ·rw[e,if_pos hia,if_pos hib]
   ·exact absurd e (hu.ne0 hia)
  ·rw[if_pos hia,if_neg hib];rcases h.gone i hia hib with ⟨e,f⟩|⟨e,f⟩ <;> simp[e,f]
 ·by_cases hib:i∈b
  ·rw[if_neg hia,if_pos hib];rcases h.inn i hib with ⟨e,_⟩|⟨e,f⟩
   ·exact absurd e hia
   ·simp[e,f]
  ·rw[if_neg hia,if_neg hib,(h.rest i hia hib).1]
theorem sumE_len:∀es:List EntryA,2 * (es.length:Int)≤sumE es
 | []=>by simp[sumE]
 | e :: es=>by
  have h1:=weightE_nonneg e;have h2:=sumE_len es;rw[sumE,List.length_cons];omega
def ndV(sz:Nat)(v:ByteArray):Nat:=if v.size≤24 then 0 else ndS sz v.size
theorem entry_tr{key v:ByteArray}(hc:CtxG G l)(hk:keyB key=true)(hv:v.size≤4096) :
  (entryP G l gen key v=.inr 3∧phiL l<ndV G.size v) ∨
  ∃G' l' e ids,entryP G l gen key v=.inl (G',l',e)∧Upd G l (λ_=>False) G' l' (λi=>i∈ids)∧ids.Nodup∧ids.length=ndV G.size v∧e.key=key∧EntC G' gen e v ids∧rightE e=true∧phiL l'=phiL l-ndV G.size v:=by
 unfold entryP ndV;by_cases h24:v.size≤24
 ·rw[if_pos h24,if_pos h24];refine .inr ⟨G,l,_,[],rfl,(Upd.refl G l (λ_=>False)).iff (λ_=>Iff.rfl) (λi=>by simp),List.nodup_nil,rfl,rfl,.inl ⟨rfl,rfl,rfl⟩,?_,by simp⟩;unfold rightE;simp[hk,h24]
 ·rw[if_neg h24,if_neg h24];have hnd:=ndS_need G.size v.size (by omega) hc.s256 hc.s1024;have hnn:(needN (v.size:Int) (G.size:Int)).toNat=ndS G.size v.size:=by rw[hnd,Int.toNat_natCast]
  rw[hnn];cases ht:takeA (ndS G.size v.size) l with
  | none =>
   refine .inl ⟨rfl,?_⟩;rcases Int.lt_or_le (phiL l) (ndS G.size v.size:Int) with h|h
   ·exact h
   ·obtain⟨ids,l1,h1⟩:=takeA_some _ _ h;rw[ht] at h1;cases h1
  | some x =>
   obtain⟨ids,l1⟩:=x;obtain⟨t1,t2,t3,t4,t5,t6⟩:=takeA_taken _ _ _ _ ht;have hlen:ids.length=ndS G.size v.size:=t1;have hch:=chG_new (G:=G) ht rfl (by omega) hv (by rw[hc.low.1];simp) (by rw[hc.low.2];simp) (Nat.le_of_eq hc.len) gen;have hup:=upd_write (G:=G) ht gen v.data.toList (G.size-28);simp only;rw[hlen];refine .inr ⟨_,_,_,ids,rfl,hup,t3,hlen,rfl,.inr ⟨?_,?_⟩,?_,t6⟩
   ·have h1:0<ids.length:=by rw[hlen];exact Nat.succ_pos _
    have:=hch.lt _ (getD_in h1);show ((ids.getD 0 0:Nat):Int)≠0;omega
   ·exact hch
   ·have h1:0<ids.length:=by rw[hlen];exact Nat.succ_pos _
    have h2:=hch.lt _ (getD_in h1);have h3:=hc.b256;have h4:(chPuts gen v.data.toList (G.size-28) ids (ndS G.size v.size) G).blocks=G.blocks:=(chPuts_same _ _ _ _ _ G).1;rw[h4] at h2;unfold rightE;have hne:¬ ((ids.getD 0 0:Nat):Int)=0:=by omega
    simp only[hk,Bool.true_and];rw[if_neg hne];unfold kidB;simp only[Bool.and_eq_true,decide_eq_true_eq];have:(e0:ByteArray).size=0:=rfl;omega
end
section
variable {G G' G1:GA}{l l' l1:List Nat}{gen:Nat}{lo:ByteArray}{hi:Option ByteArray}{ps:List PairS}{q:List Nat}
theorem pg_load{id:Nat}{n:NodeA}(h:PgN G gen id n):G.load (id:Int)=.inl n∧G.node id=some n:=by
 obtain⟨p,h1,_,h3⟩:=h.page;have h4:G.node id=some n:=by
  unfold GA.node;rw[if_pos h.lt,h1];simp only[h3]
 exact⟨(GA.node_load h4).2,h4⟩
end
section
variable {α:Type}(mk:List α→NodeA)(z:Int)
def fillG:List (List α)→List α→List (List α)
 | out,[]=>out
 | out,x :: l=>match out.getLast? with
  | some g=>if weightN (mk (g++[x]))≤z then fillG (out.dropLast++[g++[x]]) l else fillG (out++[[x]]) l
  | none=>fillG (out++[[x]]) l
def evenG(out:List (List α)):List (List α) :=
 match out.reverse with
 | b :: a :: r=>if lightN (mk b) (z+24)=true then (if weightN (mk (a++b))≤z then r.reverse++[a++b] else match cutAt (mk (a++b)) with
   | none=>out
   | some k=>r.reverse++[(a++b).take k,(a++b).drop k]) else out
 | _=>out
def groupsG(l:List α):List (List α):=evenG mk z (fillG mk z [] l)
theorem fillG_flat:∀(l:List α) (out:List (List α)),(fillG mk z out l).flatten=out.flatten++l
 | [],out=>by simp[fillG]
 | x :: l,out=>by
  rw[fillG];cases h:out.getLast? with
  | none =>
   simp only;rw[fillG_flat l];simp
  | some g =>
   simp only;obtain⟨pre,rfl⟩:∃pre,out=pre++[g]:=by
    rw[List.getLast?_eq_some_iff] at h;exact h
   split
   ·rw[fillG_flat l];simp
   ·rw[fillG_flat l];simp
theorem fillG_ne:∀(l:List α) (out:List (List α)),(∀g∈out,g≠[])→∀g∈fillG mk z out l,g≠[]
 | [],out,h=>by simpa[fillG] using h
 | x :: l,out,h=>by
  rw[fillG];cases hg:out.getLast? with
  | none =>
   simp only;refine fillG_ne l _ (λg hm=>?_);rcases List.mem_append.1 hm with hm|hm
   ·exact h g hm
   ·simp at hm;rw[hm];simp
  | some g0 =>
   simp only;split
   ·refine fillG_ne l _ (λg hm=>?_);rcases List.mem_append.1 hm with hm|hm
    ·exact h g ((List.dropLast_sublist _).subset hm)
    ·simp at hm;rw[hm];simp
   ·refine fillG_ne l _ (λg hm=>?_);rcases List.mem_append.1 hm with hm|hm
    ·exact h g hm
    ·simp at hm;rw[hm];simp
theorem fillG_fit'(A:α→Prop)(h1:∀x,A x→weightN (mk [x])≤z):∀(l:List α) (out:List (List α)),(∀x∈l,A x)→(∀g∈out,weightN (mk g)≤z)→∀g∈fillG mk z out l,weightN (mk g)≤z
 | [],out,_,h=>by simpa[fillG] using h
 | x :: l,out,hA,h=>by
  have hx:=h1 x (hA x List.mem_cons_self);have hA2:∀y∈l,A y:=λy hy=>hA y (List.mem_cons_of_mem _ hy)
  rw[fillG];cases hg:out.getLast? with
  | none =>
   simp only;refine fillG_fit' A h1 l _ hA2 (λg hm=>?_);rcases List.mem_append.1 hm with hm|hm
   ·exact h g hm
   ·simp at hm;rw[hm];exact hx
  | some g0 =>
   simp only;split
   ·rename_i hw;refine fillG_fit' A h1 l _ hA2 (λg hm=>?_);rcases List.mem_append.1 hm with hm|hm
    ·exact h g ((List.dropLast_sublist _).subset hm)
    ·simp at hm;rw[hm];exact hw
   ·refine fillG_fit' A h1 l _ hA2 (λg hm=>?_);rcases List.mem_append.1 hm with hm|hm
    ·exact h g hm
    ·simp at hm;rw[hm];exact hx
def FullG:List (List α)→Prop
 | []=>True
 | g :: r=>(match r with|[]=>True|h :: _=>∃x t,h=x :: t∧z<weightN (mk (g++[x])))∧FullG r
theorem FullG.more:∀(pre:List (List α)) (g:List α) (x:α),g≠[]→FullG mk z (pre++[g])→FullG mk z (pre++[g++[x]])
 | [],g,x,_,_=>⟨trivial,trivial⟩
 | [p],g,x,hg,h=>by
  obtain⟨⟨y,t,h1,h2⟩,_⟩:=h;exact⟨⟨y,t++[x],by rw[h1];rfl,h2⟩,trivial,trivial⟩
 | p :: p2 :: pre,g,x,hg,h=>⟨h.1,FullG.more (p2 :: pre) g x hg h.2⟩
theorem FullG.next:∀(pre:List (List α)) (g:List α) (x:α),z<weightN (mk (g++[x]))→FullG mk z (pre++[g])→FullG mk z (pre++[g]++[[x]])
 | [],_g,x,hx,_=>⟨⟨x,[],rfl,hx⟩,trivial,trivial⟩
 | [_],_g,x,hx,h=>⟨h.1,⟨x,[],rfl,hx⟩,trivial,trivial⟩
 | _p :: p2 :: pre,g,x,hx,h=>⟨h.1,FullG.next (p2 :: pre) g x hx h.2⟩
theorem fillG_full:∀(l:List α) (out:List (List α)),(∀g∈out,g≠[])→FullG mk z out→FullG mk z (fillG mk z out l)
 | [],out,_,h=>by simpa[fillG] using h
 | x :: l,out,hne,h=>by
  rw[fillG];cases hg:out.getLast? with
  | none =>
   simp only;rw[List.getLast?_eq_none_iff] at hg;subst hg;exact fillG_full l _ (by simp) ⟨trivial,trivial⟩
  | some g0 =>
   simp only;obtain⟨pre,rfl⟩:∃pre,out=pre++[g0]:=by
    rw[List.getLast?_eq_some_iff] at hg;exact hg
   have hg0:=hne g0 (by simp);split
   ·rw[List.dropLast_concat];refine fillG_full l _ (λg hm=>?_) (FullG.more mk z pre g0 x hg0 h);rcases List.mem_append.1 hm with hm|hm
    ·exact hne g (by simp[hm])
    ·simp at hm;rw[hm];simp
   ·rename_i hw;refine fillG_full l _ (λg hm=>?_) (FullG.next mk z pre g0 x (by omega) h);rcases List.mem_append.1 hm with hm|hm
    ·exact hne g hm
    ·simp at hm;rw[hm];simp
theorem FullG.at_:∀{out:List (List α)},FullG mk z out→∀(r:List (List α)) (g h:List α) (s:List (List α)),out=r++g :: h :: s→∃x t,h=x :: t∧z<weightN (mk (g++[x]))
 | out,hf,[],g,h,s,e=>by subst e;exact hf.1
 | out,hf,p :: r,g,h,s,e=>by subst e;exact FullG.at_ hf.2 r g h s rfl
theorem evenG_cases{z:Int}(out:List (List α)):evenG mk z out=out ∨
  (∃r a b,out=r++[a,b]∧lightN (mk b) (z+24)=true∧((weightN (mk (a++b))≤z∧evenG mk z out=r++[a++b])∨(z<weightN (mk (a++b))∧∃k,cutAt (mk (a++b))=some k∧evenG mk z out=r++[(a++b).take k,(a++b).drop k]))):=by
 unfold evenG;cases h:out.reverse with
 | nil=>exact .inl rfl
 | cons b t =>
  cases t with
  | nil=>exact .inl rfl
  | cons a r =>
   have ho:out=r.reverse++[a,b]:=by
    have:=congrArg List.reverse h;simpa using this
   simp only;by_cases hl:lightN (mk b) (z+24)=true
   ·rw[if_pos hl];by_cases hw:weightN (mk (a++b))≤z
    ·rw[if_pos hw];exact .inr ⟨r.reverse,a,b,ho,hl,.inl ⟨hw,rfl⟩⟩
    ·rw[if_neg hw];cases hc:cutAt (mk (a++b)) with
     | none=>exact .inl rfl
     | some k=>exact .inr ⟨r.reverse,a,b,ho,hl,.inr ⟨by omega,k,hc,rfl⟩⟩
   ·rw[if_neg hl];exact .inl rfl
theorem evenG_flat(z:Int)(out:List (List α)):(evenG mk z out).flatten=out.flatten:=by
 rcases evenG_cases mk (z:=z) out with h|⟨r,a,b,rfl,_,⟨_,h⟩|⟨_,k,_,h⟩⟩
 ·rw[h]
 ·rw[h];simp
 ·rw[h];simp[List.take_append_drop]
theorem evenG_heavy(r:List (List α))(a b:List α)(h:lightN (mk b) (z+24)=false):evenG mk z (r++[a,b])=r++[a,b]:=by
 unfold evenG;simp only[List.reverse_append,List.reverse_cons,List.reverse_nil,List.nil_append,List.cons_append];rw[if_neg (by rw[h];simp)]
theorem evenG_last(z:Int)(r:List (List α))(a b:List α)(h:lightN (mk b) (z+24)=true):(weightN (mk (a++b))≤z∧evenG mk z (r++[a,b])=r++[a++b])∨(z<weightN (mk (a++b))∧∀k,cutAt (mk (a++b))=some k→evenG mk z (r++[a,b])=r++[(a++b).take k,(a++b).drop k]):=by
 unfold evenG;simp only[List.reverse_append,List.reverse_cons,List.reverse_nil,List.nil_append,List.cons_append,List.reverse_reverse];rw[if_pos h];by_cases hw:weightN (mk (a++b))≤z
 ·exact .inl ⟨hw,by rw[if_pos hw]⟩
 ·refine .inr ⟨by omega,λk hk=>?_⟩;rw[if_neg hw,hk]
end
def mkL(es:List EntryA):NodeA:=⟨true,es,[],[]⟩
theorem mkL_wt(es:List EntryA):weightN (mkL es)=2+sumE es:=by unfold weightN mkL;simp[sumK]
def EntsOk(es:List EntryA):Prop:=(∀e∈es,rightE e=true)∧(es.map (·.key)).Pairwise λa b=>ltS a b=true
theorem EntsOk.sub{es es':List EntryA}(h:EntsOk es)(hs:es'.Sublist es):EntsOk es' :=
 ⟨λe he=>h.1 e (hs.subset he),h.2.sublist (hs.map _)⟩
theorem mkL_right{es:List EntryA}(h:EntsOk es)(hl:es.length≤65535):rightN (mkL es)=true:=right_leafI h.1 h.2 hl
theorem mkL_cut{a b:List EntryA}{z:Int}(hz:232≤z)(hz2:z≤1000)(h:EntsOk (a++b))(ha:weightN (mkL a)≤z)(hb:lightN (mkL b) (z+24)=true)(hw:z<weightN (mkL (a++b))) :
  ∃k,cutAt (mkL (a++b))=some k∧0<k∧k<(a++b).length∧weightN (mkL ((a++b).take k))≤z∧weightN (mkL ((a++b).drop k))≤z:=by
 have hb2:b=[]∨3 * weightN (mkL b)<z:=by
  unfold lightN mkL at hb;simp only[Bool.true_and,Bool.not_true,Bool.false_and,Bool.or_false,Bool.or_eq_true,decide_eq_true_eq] at hb;rcases hb with hb|hb
  ·exact .inl (List.length_eq_zero_iff.1 (by omega))
  ·exact .inr (by unfold mkL;omega)
 rcases hb2 with rfl|hb2
 ·rw[List.append_nil] at hw;omega
 ·rw[mkL_wt] at ha hb2;rw[mkL_wt,sumE_append] at hw;have hlen:=sumE_len (a++b);rw[sumE_append] at hlen;have hr:=mkL_right h (by omega);obtain⟨k,p1,p2,p3,p4⟩:=cut_fit2 hr hz (by rw[mkL_wt,sumE_append];omega) (by rw[mkL_wt,sumE_append];omega);have hp:=p1.leaf rfl;rw[apart_leafA rfl] at p3;rw[apart_leafB rfl] at p4;exact⟨k,p2,by omega,hp.2,p3,p4⟩
abbrev KidA:=Nat × ByteArray
def mkI(ks:List KidA):NodeA:=⟨false,[],ks.tail.map (·.2),ks.map λk=>(k.1:Int)⟩
theorem mkI_wt(ks:List KidA):weightN (mkI ks)=6+sumK (ks.tail.map (·.2)):=by unfold weightN mkI;simp[sumE]
def KidsOk(ks:List KidA):Prop:=(∀k∈ks,2≤k.1∧k.1<256∧keyB k.2=true)∧(ks.map (·.2)).Pairwise (λa b=>ltS a b=true)∧(ks.map (·.1)).Nodup
theorem KidsOk.sub{es es':List KidA}(h:KidsOk es)(hs:es'.Sublist es):KidsOk es' :=
 ⟨λe he=>h.1 e (hs.subset he),h.2.1.sublist (hs.map _),h.2.2.sublist (hs.map _)⟩
theorem mkI_right{ks:List KidA}(h:KidsOk ks)(h2:2≤ks.length):rightN (mkI ks)=true:=by
 refine right_innerI (by simpa using h2) (by simp;omega) (λk hk=>?_) ?_ (λs hs=>?_) ?_
 ·obtain⟨x,hx,rfl⟩:=List.mem_map.1 hk;have:=h.1 x hx;omega
 ·have:=h.2.2;rw[List.nodup_iff_pairwise_ne,List.pairwise_map] at this ⊢;exact this.imp (λhne e=>hne (by omega))
 ·obtain⟨x,hx,rfl⟩:=List.mem_map.1 hs;exact (h.1 x (List.mem_of_mem_tail hx)).2.2
 ·exact h.2.1.sublist ((List.tail_sublist ks).map _)
theorem mkI_light{ks:List KidA}{z:Int}(hne:ks≠[])(h:lightN (mkI ks) (z+24)=true)(_hz:18<z):ks.length=1∨3 * weightN (mkI ks)<z:=by
 unfold lightN mkI at h;simp only[Bool.false_and,Bool.not_false,Bool.true_and,Bool.false_or,Bool.or_eq_true,decide_eq_true_eq,List.length_map] at h;have:=List.length_pos_iff.2 hne;rcases h with h|h
 ·exact .inl (by omega)
 ·exact .inr (by unfold mkI;omega)
theorem tail_append{α:Type}{a b:List α}(h:a≠[]):(a++b).tail=a.tail++b:=by
 cases a with
 | nil=>exact absurd rfl h
 | cons x a=>rfl
theorem tail_take1{α:Type}(l:List α)(k:Nat):(l.take k).tail=l.tail.take (k-1):=by
 cases l with
 | nil=>simp
 | cons x l =>
  cases k with
  | zero=>simp
  | succ k=>simp
theorem sumK_tail{ks:List KidA}(h:KidsOk ks):sumK (ks.map (·.2))≤sumK (ks.tail.map (·.2))+37:=by
 cases ks with
 | nil=>simp[sumK]
 | cons k ks =>
  have:=(keyB_iff _).1 (h.1 k List.mem_cons_self).2.2;simp only[List.map_cons,List.tail_cons,sumK];omega
theorem mkI_cut{a b:List KidA}{z:Int}(hz:232≤z)(h:KidsOk (a++b))(hna:a≠[])(hnb:b≠[])(ha:weightN (mkI a)≤z)(hb:lightN (mkI b) (z+24)=true)(hw:z<weightN (mkI (a++b))) :
  ∃k,cutAt (mkI (a++b))=some k∧2≤k∧k+2≤(a++b).length∧weightN (mkI ((a++b).take k))≤z∧weightN (mkI ((a++b).drop k))≤z:=by
 have hb2:=mkI_light hnb hb (by omega);have hkb:=sumK_tail (h.sub (List.sublist_append_right a b));have h2:2≤(a++b).length:=by
  have:=List.length_pos_iff.2 hna;have:=List.length_pos_iff.2 hnb;simp;omega
 have hr:=mkI_right h h2;have hsb:sumK (b.tail.map (·.2))≤77 * z∧(3 * (6+sumK (b.tail.map (·.2)))<z∨sumK (b.tail.map (·.2))=0):=by
  rcases hb2 with hb2|hb2
  ·have:b.tail=[]:=by rw[← List.length_eq_zero_iff,List.length_tail];omega
   rw[this];simp[sumK];omega
  ·rw[mkI_wt] at hb2;omega
 rw[mkI_wt] at ha;have hwt:weightN (mkI (a++b))=6+(sumK (a.tail.map (·.2))+sumK (b.map (·.2))):=by
  rw[mkI_wt,tail_append hna,List.map_append,sumK_append]
 obtain⟨k,p1,p2,p3,p4⟩:=cut_fit2 hr hz hw (by rw[hwt];omega);have hp:=p1.inner rfl;have e1:(mkI (a++b)).kids.length=(a++b).length:=by simp[mkI]
 rw[e1] at hp;rw[apart_innerA rfl] at p3;rw[apart_innerB rfl] at p4;have q3:(⟨false,[],(mkI (a++b)).keys.take (k-1),(mkI (a++b)).kids.take k⟩:NodeA)=mkI ((a++b).take k):=by
  unfold mkI;simp only[List.map_take,NodeA.mk.injEq,true_and,and_true];rw[tail_take1,List.map_take]
 have q4:(⟨false,[],(mkI (a++b)).keys.drop k,(mkI (a++b)).kids.drop k⟩:NodeA)=mkI ((a++b).drop k):=by
  unfold mkI;simp only[List.map_drop,NodeA.mk.injEq,true_and,and_true];rw[List.tail_drop,← List.map_drop,List.drop_tail]
 rw[q3] at p3;rw[q4] at p4;exact⟨k,p2,hp.1,by omega,p3,p4⟩
end Go.Proofs.YtchklfmggpconaaGreatDoor
