import Derived.Test.YtchklfmggpconaaGreatDoorK27
namespace Go.Proofs.YtchklfmggpconaaGreatDoor
open Go.RowKit
def chS(sz:Nat)(l:List PairS):Nat:=(l.map λx=>ndV sz x.2).sum
theorem chS_append(sz:Nat)(a b:List PairS):chS sz (a++b)=chS sz a+chS sz b:=by unfold chS;simp
theorem chS_cons(sz:Nat)(x:PairS)(b:List PairS):chS sz (x :: b)=ndV sz x.2+chS sz b:=by unfold chS;simp
section
variable {G G':GA}{gen:Nat}{T:TreeT}{lo:ByteArray}{hi:Option ByteArray}{l:List PairS}{q:List Nat}{kk:List ByteArray}{cc:List Int}
theorem Ents.count{es:List EntryA}(h:Ents G gen es l q)(hr:∀e∈es,rightE e=true):q.length=chS G.size l:=by
 induction h with
 | nil=>rfl
 | @cons e x ids es l q h1 h2 _ ih =>
  rw[List.length_append,chS_cons,ih (λy hy=>hr y (List.mem_cons_of_mem _ hy))];congr 1
  have he:=hr e List.mem_cons_self;unfold rightE at he;simp only[Bool.and_eq_true] at he;unfold ndV;rcases h2 with ⟨c1,c2,c3⟩|⟨c1,c2⟩
  ·have h4:=he.2;rw[if_pos c1] at h4;simp only[Bool.and_eq_true,decide_eq_true_eq] at h4;rw[c2] at h4;rw[if_pos h4.2,c3];rfl
  ·rw[if_neg (by have:=c2.lo;omega)];exact c2.len
theorem Kids.count{P:List PairS→List Nat→Prop}(hT:∀lo hi c l q,T lo hi c l q→P l q)(h:Kids T lo hi kk cc l q){sz a:Nat}(hP:∀l q,P l q→q.length+1≤2 * l.length+chS sz l∧a≤l.length∧a+a≤q.length+1∧chS sz l+1≤q.length):q.length+kk.length+1≤2 * l.length+chS sz l∧(kk.length+1) * a≤l.length∧(kk.length+1) * (a+a)≤q.length+kk.length+1∧chS sz l+kk.length+1≤q.length:=by
 induction h with
 | one h=>have:=hP _ _ (hT _ _ _ _ _ h);simpa using this
 | cons h _ _ ih =>
  have h1:=hP _ _ (hT _ _ _ _ _ h);have h2:=ih;simp only[List.length_append,List.length_cons,chS_append];have m1:∀k:Nat,(k+1+1) * a=(k+1) * a+a:=λk=>Nat.succ_mul _ _
  have m2:∀k:Nat,(k+1+1) * (a+a)=(k+1) * (a+a)+(a+a):=λk=>Nat.succ_mul _ _
  rw[m1,m2];omega
theorem Kids.pos(h:Kids (TrD G gen 0) lo hi kk cc l q):False:=by
 cases h with
 | one h=>exact h
 | cons h _ _=>exact h
theorem TrD.count:∀(d:Nat) (lo:ByteArray) (hi:Option ByteArray) (id:Nat) (l:List PairS) (q:List Nat),TrD G gen d lo hi id l q→q.length+1≤2 * l.length+chS G.size l∧2 ^ (d-1)≤l.length∧2 ^ (d-1)+2 ^ (d-1)≤q.length+1∧chS G.size l+1≤q.length
 | 0,_,_,_,_,_,h=>h.elim
 | d+1,lo,hi,id,l,q,h=>by
  obtain⟨n,q,hp,hr,rfl,h⟩:=h;rcases h with ⟨hl,rfl,hne,he,_⟩|⟨hl,hk⟩
  ·have hc:=he.count (rightN_ents hr);have:1≤l.length:=List.length_pos_iff.2 hne;simp only[List.length_cons];refine⟨by omega,by simpa using this,by simp,by omega⟩
  ·have hlen:=hk.len;have h2:=(rightN_sz hr).2.2 hl;have h3:=hk.count (P:=λl q=>q.length+1≤2 * l.length+chS G.size l∧2 ^ (d-1)≤l.length∧2 ^ (d-1)+2 ^ (d-1)≤q.length+1∧chS G.size l+1≤q.length) (λlo hi c l q h=>TrD.count d lo hi c l q h) (sz:=G.size) (a:=2 ^ (d-1)) (λ_ _ h=>h);have hd:1≤d:=by
    rcases Nat.eq_zero_or_pos d with h0|h0
    ·subst h0;exact hk.pos.elim
    ·exact h0
   obtain⟨k,hkk⟩:∃k,n.keys.length=k+1:=⟨n.keys.length-1,by omega⟩;rw[hkk] at h3;have e:2 ^ (d+1-1)=2 ^ (d-1)+2 ^ (d-1):=by
    rw[show d+1-1=(d-1)+1 by omega,Nat.pow_succ];omega
   rw[e];generalize 2 ^ (d-1)=a at *
   have m1:(k+1+1) * a=k * a+a+a:=by rw[Nat.succ_mul,Nat.succ_mul]
   have m2:(k+1+1) * (a+a)=k * (a+a)+(a+a)+(a+a):=by rw[Nat.succ_mul,Nat.succ_mul]
   rw[m1,m2] at h3;have m3:k≤k * (a+a)∨a=0:=by
    rcases Nat.eq_zero_or_pos a with h|h
    ·exact .inr h
    ·exact .inl (Nat.le_mul_of_pos_right k (by omega))
   simp only[List.length_cons];refine⟨by omega,by omega,?_,by omega⟩;omega
def PairOk(x:PairS):Prop:=keyB x.1=true∧x.2.size≤4096
end
structure TD(G:GA)(gen root d:Nat)(ps:List PairS)(pgs:List Nat):Prop where
 tree:(root=0∧d=0∧ps=[]∧pgs=[])∨(1≤d∧TrD G gen d e0 none root ps pgs)
 nodup:pgs.Nodup
section
variable {G G':GA}{l l':List Nat}{gen root d:Nat}{ps:List PairS}{pgs:List Nat}
theorem TD.none(G:GA)(gen:Nat):TD G gen 0 0 [] []:=⟨.inl ⟨rfl,rfl,rfl,rfl⟩,List.nodup_nil⟩
theorem TD.lt(h:TD G gen root d ps pgs):∀i∈pgs,2≤i∧i<G.blocks:=by
 rcases h.tree with ⟨_,_,_,rfl⟩|⟨_,h⟩
 ·intro x hx;simp at hx
 ·exact TrD.ltq _ _ _ _ _ _ h
theorem TD.count(h:TD G gen root d ps pgs):pgs.length+(if ps=[] then 0 else 1)≤2 * ps.length+chS G.size ps∧(ps≠[]→2 ^ (d-1)≤ps.length)∧(if d=0 then 0 else 2 ^ (d-1)+2 ^ (d-1))≤pgs.length+1∧chS G.size ps+(if ps=[] then 0 else 1)≤pgs.length:=by
 rcases h.tree with ⟨_,rfl,rfl,rfl⟩|⟨hd,h⟩
 ·simp[chS]
 ·obtain⟨h1,h2,h3,h4⟩:=TrD.count _ _ _ _ _ _ h;have hne:=TrD.ne _ _ _ _ _ _ h;rw[if_neg hne,if_neg (by omega)];exact⟨h1,λ_=>h2,h3,h4⟩
theorem TD.few(h:TD G gen root d ps pgs)(hb:G.blocks≤256):pgs.length≤254∧d≤7:=by
 have hl:pgs.length≤254:=by
  have h1:=nodup_fewW 254 (pgs.map λ(i:Nat)=>(i:Int)-2) (List.pairwise_map.2 (h.nodup.imp (λhne e=>hne (by omega)))) (λi hi=>by
   obtain⟨j,hj,rfl⟩:=List.mem_map.1 hi;have:=h.lt j hj;omega)
  simpa using h1
 refine⟨hl,?_⟩;have h3:=h.count.2.2.1;rcases Nat.lt_or_ge 7 d with hd|hd
 ·rw[if_neg (by omega)] at h3;have:2 ^ 7≤2 ^ (d-1):=Nat.pow_le_pow_right (by omega) (by omega);omega
 ·exact hd
theorem TD.mono(h:TD G gen root d ps pgs){gen':Nat}(hg:gen≤gen')(hb:G'.blocks=G.blocks)(hs:G'.size=G.size)(hv:∀i∈pgs,G'.view i=G.view i):TD G' gen' root d ps pgs :=
 ⟨h.tree.imp id (λh=>⟨h.1,TrD.mono hg hb hs _ _ _ _ _ _ hv h.2⟩),h.nodup⟩
end
def downsP(gen:Nat):GA→List Nat→List (NodeA × ByteArray)→StA (List KidA)
 | G,l,[]=>.inl (G,l,[])
 | G,l,x :: r=>match downI G l 0 x.1 with
  | none=>.inr (downK G x.1)
  | some i=>match downsP gen (downG G l gen 0 x.1) (downL G l 0 x.1) r with
   | .inr k=>.inr k
   | .inl (G2,l2,ks)=>.inl (G2,l2,(i,x.2) :: ks)
theorem downG_cost(G:GA)(l:List Nat)(gen old:Nat)(n:NodeA):(downG G l gen old n).size=G.size∧(downG G l gen old n).blocks=G.blocks∧(downG G l gen old n).cost≤G.cost+1:=by
 unfold downG;split
 ·exact⟨rfl,rfl,by omega⟩
 ·unfold placeG;split
  ·exact⟨rfl,rfl,Nat.le_refl _⟩
  ·split
   ·exact⟨rfl,rfl,Nat.le_refl _⟩
   ·exact⟨rfl,rfl,Nat.le_refl _⟩
def firstG{α:Type}(fst:α→ByteArray)(g:List α):ByteArray:=match g with|[]=>e0|x :: _=>fst x
theorem firstG_flat{α:Type}(fst:α→ByteArray){g:List α}{r:List (List α)}(h:g≠[]):firstG fst ((g :: r).flatten)=firstG fst g:=by
 cases g with
 | nil=>exact absurd rfl h
 | cons x g=>rfl
structure UnitL{α:Type}(mk:List α→NodeA)(fst:α→ByteArray)(gen d:Nat)(U:GA→ByteArray→Option ByteArray→List α→List PairS→List Nat→Prop):Prop where
 split:∀{G lo hi g1 g2 ps q},g1≠[]→g2≠[]→U G lo hi (g1++g2) ps q→∃l1 l2 q1 q2,U G lo (some (firstG fst g2)) g1 l1 q1∧U G (firstG fst g2) hi g2 l2 q2∧ps=l1++l2∧q=q1++q2∧inB lo hi (firstG fst g2)
 body:∀{G lo hi g ps q},g≠[]→U G lo hi g ps q→Body G gen (TrD G gen d) d lo hi (mk g) ps q
 mono:∀{G G' lo hi g ps q},G'.blocks=G.blocks→G'.size=G.size→(∀i∈q,G'.view i=G.view i)→U G lo hi g ps q→U G' lo hi g ps q
theorem downs_tr{α:Type}{mk:List α→NodeA}{fst:α→ByteArray}{gen d:Nat}{U:GA→ByteArray→Option ByteArray→List α→List PairS→List Nat→Prop}(hU:UnitL mk fst gen d U) :
  ∀(gs:List (List α)) (G:GA) (l:List Nat) (lo:ByteArray) (hi:Option ByteArray) (ps:List PairS) (q:List Nat),gs≠[]→CtxG G l→(∀g∈gs,g≠[])→(∀g∈gs,rightN (mk g)=true∧weightN (mk g)≤(G.size:Int)-24) →
   U G lo hi gs.flatten ps q→q.Nodup→UseL l (· ∈ q)→(∀x∈q,2≤x) →
   (downsP gen G l (gs.map λg=>(mk g,firstG fst g))=.inr 3∧phiL l<(gs.length:Int)) ∨
   ∃G' l' ks q',downsP gen G l (gs.map λg=>(mk g,firstG fst g))=.inl (G',l',ks)∧ks.map (·.2)=gs.map (firstG fst)∧Upd G l (· ∈ q) G' l' (· ∈ q')∧q'.Nodup∧(∀x∈q',2≤x)∧CtxG G' l'∧UseL l' (· ∈ q') ∧
    Kids (TrD G' gen (d+1)) lo hi (ks.tail.map (·.2)) (ks.map λk=>(k.1:Int)) ps q'∧q'.length=q.length+gs.length∧G'.cost≤G.cost+gs.length
 | [],_,_,_,_,_,_,hne,_,_,_,_,_,_,_=>absurd rfl hne
 | g :: r,G,l,lo,hi,ps,q,_,hc,hg,hf,hu0,hq,hu,h2=>by
  have hgne:=hg g List.mem_cons_self;obtain⟨hr,hw⟩:=hf g List.mem_cons_self;rw[List.map_cons,downsP];cases hd:downI G l 0 (mk g) with
  | none =>
   refine .inl ⟨by simp only;unfold downK;rw[if_pos ⟨hr,hw⟩],?_⟩;have:=downI_none hd ⟨hr,hw⟩ (.inl rfl);simp only[List.length_cons];omega
  | some i =>
   simp only;have hphi:=(upd_down (gen:=gen) (G:=G) (l:=l) (.inl rfl) hd (by rw[hc.low.1];simp)).2.1;rw[if_pos rfl] at hphi;by_cases hre:r=[]
   ·subst hre;simp only[List.flatten_cons,List.flatten_nil,List.append_nil] at hu0;obtain⟨b1,b2,b3,b4,b5,b6,_⟩:=down_tr (gen:=gen) hc (.inl rfl) hd hr (hU.body hgne hu0) hq hu (λh=>absurd rfl h) h2;refine .inr ⟨_,_,[(i,firstG fst g)],i :: q,rfl,rfl,b1.iff (λk=>by simp) (λk=>by rw[List.mem_cons]),b3,λx hx=>?_,b5,λk hk=>b6 k (List.mem_cons.1 hk),.one b2,by simp,(downG_cost G l gen 0 (mk g)).2.2⟩;rcases List.mem_cons.1 hx with rfl|hx
    ·exact b4
    ·exact h2 x hx
   ·obtain⟨g2,r2,rfl⟩:∃g2 r2,r=g2 :: r2:=List.exists_cons_of_ne_nil hre;have hg2:=hg g2 (by simp);rw[List.flatten_cons] at hu0;obtain⟨l1,l2,q1,q2,u1,u2,rfl,rfl,hin⟩:=hU.split hgne (by
     rw[List.flatten_cons];intro h;exact hg2 (List.append_eq_nil_iff.1 h).1) hu0
    rw[firstG_flat fst hg2] at u1 u2 hin;have hnd:=List.nodup_append.1 hq;have hu1:UseL l (λk=>k∈q1):=λk hk=>hu k (by simp[hk])
    have hu2:UseL l (λk=>k∈q2):=λk hk=>hu k (by simp[hk])
    obtain⟨b1,b2,b3,b4,b5,b6,_⟩:=down_tr (gen:=gen) hc (.inl rfl) hd hr (hU.body hgne u1) hnd.1 hu1 (λh=>absurd rfl h) (λx hx=>h2 x (by simp[hx]));have b1':=b1.iff (A':=λk=>k∈q1) (A1':=λk=>k∈i :: q1) (λk=>by simp) (λk=>by rw[List.mem_cons]);have hdis:∀k∈q2,¬ (k∈q1):=λk hk h=>hnd.2.2 k h k hk rfl
    obtain⟨v1,v2⟩:=b1'.views hdis hu2;rcases downs_tr hU (g2 :: r2) _ _ (firstG fst g2) hi l2 q2 (by simp) b5 (λx hx=>hg x (List.mem_cons_of_mem _ hx)) (λx hx=>by rw[b1.sz];exact hf x (List.mem_cons_of_mem _ hx)) (hU.mono b1.bl b1.sz (λk hk=>(v1 k hk).1) u2) hnd.2.1 v2 (λx hx=>h2 x (by simp[hx])) with ⟨c1,c2⟩|⟨G2,l2',ks,q',c1,c2,c3,c4,c5,c6,c7,c8,c9,c10⟩
    ·refine .inl ⟨by rw[c1],?_⟩;simp only[List.length_cons] at c2 ⊢;omega
    ·rw[c1];have hks:ks≠[]:=by
      intro h;rw[h] at c2;simp at c2
     obtain⟨k0,kr,rfl⟩:=List.exists_cons_of_ne_nil hks;have hk0:k0.2=firstG fst g2:=by
      simp only[List.map_cons,List.cons.injEq] at c2;exact c2.1
     have huse1:UseL (downL G l 0 (mk g)) (λk=>k∈i :: q1):=λk hk=>b6 k (List.mem_cons.1 hk)
     have hdi:∀k∈i :: q1,¬ (k∈q2):=λk hk h=>(v1 k h).2.2 hk
     obtain⟨w1,w2⟩:=c3.views hdi huse1;have hT:=TrD.mono (G':=G2) (Nat.le_refl gen) c3.bl c3.sz (d+1) _ _ _ _ _ (λk hk=>(w1 k hk).1) b2;refine .inr ⟨G2,l2',(i,firstG fst g) :: k0 :: kr,(i :: q1)++q',rfl,by have c2':(k0 :: kr).map (·.2)=(g2 :: r2).map (firstG fst):=c2;simp only[List.map_cons] at c2' ⊢;rw[c2'],?_,?_,λx hx=>?_,c6,λk hk=>?_,?_,?_,?_⟩
     ·have f1:=b1'.frame (B:=λk=>k∈q2) (λk hk=>⟨hdis k hk,hu2.ne0 hk⟩);have f2:=c3.frame (B:=λk=>k∈i :: q1) (λk hk=>⟨hdi k hk,huse1.ne0 hk⟩);have f1':=f1.iff (A':=λk=>k∈q1++q2) (A1':=λk=>k∈(i :: q1)++q2) (λk=>List.mem_append) (λk=>List.mem_append);have f2':=f2.iff (A':=λk=>k∈(i :: q1)++q2) (A1':=λk=>k∈(i :: q1)++q') (λk=>by rw[List.mem_append];exact or_comm) (λk=>by rw[List.mem_append];exact or_comm);exact f1'.trans f2' hu
     ·refine List.nodup_append.2 ⟨b3,c4,λx hx y hy e=>?_⟩;subst e;exact (w1 x hx).2.2 hy
     ·rcases List.mem_append.1 hx with hx|hx
      ·rcases List.mem_cons.1 hx with rfl|hx
       ·exact b4
       ·exact h2 x (by simp[hx])
      ·exact c5 x hx
     ·rcases List.mem_append.1 hk with hk|hk
      ·exact w2 k hk
      ·exact c7 k hk
     ·have hj:=Kids.join c8 (.one hT) hin;simp only[List.tail_cons,List.map_cons,List.nil_append,List.cons_append] at hj ⊢;rw[hk0];exact hj
     ·simp only[List.length_append,List.length_cons] at c9 ⊢;omega
     ·have:=(downG_cost G l gen 0 (mk g)).2.2;simp only[List.length_cons] at c10 ⊢;omega
def UL(gen:Nat)(G:GA)(lo:ByteArray)(hi:Option ByteArray)(es:List EntryA)(ps:List PairS)(q:List Nat):Prop:=Ents G gen es ps q∧SortedP ps∧∀x∈ps,inB lo hi x.1
def UI(gen d:Nat)(G:GA)(lo:ByteArray)(hi:Option ByteArray)(ks:List KidA)(ps:List PairS)(q:List Nat):Prop:=Kids (TrD G gen d) lo hi (ks.tail.map (·.2)) (ks.map λk=>(k.1:Int)) ps q
theorem unitL(gen:Nat):UnitL mkL (·.key) gen 0 (UL gen):=by
 refine⟨λ{G lo hi g1 g2 ps q} h1 h2 h=>?_,λ{G lo hi g ps q} hne h=>?_,λ{G G' lo hi g ps q} hb hs hv h=>⟨h.1.mono (Nat.le_refl _) hb hs hv,h.2⟩⟩
 ·obtain⟨he,hs,hi'⟩:=h;obtain⟨l1,l2,q1,q2,e1,e2,rfl,rfl⟩:=Ents.split g1 he;obtain⟨e,g2,rfl⟩:=List.exists_cons_of_ne_nil h2;have hp:=List.pairwise_append.1 hs;generalize hgg:e :: g2=gg at e2
  cases e2 with
  | nil=>cases hgg
  | @cons e' x ids es' l2 q2 k1 k2 k3 =>
   injection hgg with k4 k5;subst k4 k5;have hf:firstG (·.key) (e :: g2)=x.1:=k1;rw[hf];have hp2:=List.pairwise_cons.1 hp.2.1;refine⟨l1,x :: l2,q1,ids++q2,⟨e1,hp.1,λy hy=>⟨(hi' y (by simp[hy])).1,λs hs=>?_⟩⟩,⟨.cons k1 k2 k3,hp.2.1,λy hy=>⟨?_,(hi' y (by simp[hy])).2⟩⟩,rfl,rfl,hi' x (by simp)⟩
   ·injection hs with hs;subst hs;exact hp.2.2 y hy x List.mem_cons_self
   ·rcases List.mem_cons.1 hy with rfl|hy
    ·exact ltS_irrefl _
    ·exact ltS_asymm (hp2.1 y hy)
 ·obtain⟨he,hs,hi'⟩:=h;refine .inl ⟨rfl,rfl,?_,he,hi'⟩;intro hps;have:=he.len;rw[hps] at this;exact hne (List.length_eq_zero_iff.1 (by simpa using this))
theorem Kids.pairw{G:GA}{gen d:Nat}{lo:ByteArray}{hi:Option ByteArray}{kk:List ByteArray}{cc:List Int}{ps:List PairS}{q:List Nat}(h:Kids (TrD G gen d) lo hi kk cc ps q):kk.Pairwise λa b=>ltS a b=true :=
 (h.rise (TrD.bounds d) (TrD.ne d)).1
theorem unitI(gen d:Nat):UnitL mkI (·.2) gen (d+1) (UI gen (d+1)):=by
 refine⟨λ{G lo hi g1 g2 ps q} h1 h2 h=>?_,λ{G lo hi g ps q} hne h=>.inr ⟨rfl,h⟩,λ{G G' lo hi g ps q} hb hs hv h=>?_⟩
 ·unfold UI at h;obtain⟨k,g2,rfl⟩:=List.exists_cons_of_ne_nil h2;rw[tail_append h1,List.map_append,List.map_append,List.map_cons] at h;have hpw:=h.pairw;obtain⟨l1,l2,q1,q2,k1,k2,e1,e2,e3⟩:=Kids.split _ h (by
   have:=List.length_pos_iff.2 h1;simp only[List.length_map,List.length_tail];omega) hpw
  exact⟨l1,l2,q1,q2,k1,k2,e1,e2,e3⟩
 ·exact Kids.mono h (λlo hi c l p hp ht=>TrD.mono (Nat.le_refl _) hb hs (d+1) lo hi c l p (λi hi=>hv i (hp i hi)) ht)
theorem groupsL_ok{es:List EntryA}{z:Int}(hz:232≤z)(hz2:z≤1000)(h:EntsOk es):∀g∈groupsG mkL z es,g≠[]∧rightN (mkL g)=true∧weightN (mkL g)≤z:=by
 have hone:∀e∈es,weightN (mkL [e])≤z:=λe he=>by
  rw[mkL_wt];have:=rightE_wt (h.1 e he);simp only[sumE];omega
 have key:∀g∈groupsG mkL z es,g≠[]∧weightN (mkL g)≤z:=by
  have hne:=fillG_ne mkL z es [] (by simp);have hfit:=fillG_fit' mkL z (λx=>x∈es) (λx hx=>hone x hx) es [] (λ_ h=>h) (by simp);have hflat:=fillG_flat mkL z es [];simp only[List.flatten_nil,List.nil_append] at hflat;unfold groupsG;rcases evenG_cases mkL (z:=z) (fillG mkL z [] es) with e|⟨r,a,b,e0,hl,⟨hw,e⟩|⟨hw,k,hk,e⟩⟩
  ·rw[e];exact λg hg=>⟨hne g hg,hfit g hg⟩
  ·rw[e0] at hne hfit;rw[e];intro g hg;rcases List.mem_append.1 hg with hg|hg
   ·exact⟨hne g (by simp[hg]),hfit g (by simp[hg])⟩
   ·simp at hg;subst hg;exact⟨λhh=>hne a (by simp) (List.append_eq_nil_iff.1 hh).1,hw⟩
  ·rw[e0] at hne hfit hflat;rw[e];have hab:EntsOk (a++b):=h.sub (by rw[← hflat];simp);obtain⟨k',c1,c2,c3,c4,c5⟩:=mkL_cut hz hz2 hab (hfit a (by simp)) hl hw;rw[hk] at c1;injection c1 with c1;subst c1;intro g hg;rcases List.mem_append.1 hg with hg|hg
   ·exact⟨hne g (by simp[hg]),hfit g (by simp[hg])⟩
   ·simp only[List.mem_cons,List.not_mem_nil,or_false] at hg;rcases hg with rfl|rfl
    ·exact⟨λhh=>by have:=congrArg List.length hh;rw[List.length_take] at this;simp only[List.length_nil] at this;omega,c4⟩
    ·exact⟨λhh=>by have:=congrArg List.length hh;rw[List.length_drop] at this;simp only[List.length_nil] at this;omega,c5⟩
 have hflat:(groupsG mkL z es).flatten=es:=by
  unfold groupsG;rw[evenG_flat,fillG_flat];rfl
 intro g hg;obtain⟨h1,h2⟩:=key g hg;have hsub:g.Sublist es:=by rw[← hflat];exact List.sublist_flatten_of_mem hg
 have hlen:=sumE_len g;rw[mkL_wt] at h2;exact⟨h1,mkL_right (h.sub hsub) (by omega),by rw[mkL_wt];exact h2⟩
theorem two_or{α:Type}(out:List (List α)):out=[]∨(∃g,out=[g])∨∃r a b,out=r++[a,b]:=by
 rcases List.eq_nil_or_concat out with rfl|⟨r,b,rfl⟩
 ·exact .inl rfl
 ·rcases List.eq_nil_or_concat r with rfl|⟨r,a,rfl⟩
  ·exact .inr (.inl ⟨b,rfl⟩)
  ·exact .inr (.inr ⟨r,a,b,by simp⟩)
theorem groupsI_ok{ks:List KidA}{z:Int}(hz:232≤z)(h:KidsOk ks)(h2:2≤ks.length):∀g∈groupsG mkI z ks,2≤g.length∧rightN (mkI g)=true∧weightN (mkI g)≤z:=by
 have hone:∀k∈ks,weightN (mkI [k])≤z:=λk hk=>by rw[mkI_wt];simp[sumK];omega
 have hne:=fillG_ne mkI z ks [] (by simp);have hfit:=fillG_fit' mkI z (λx=>x∈ks) (λx hx=>hone x hx) ks [] (λ_ h=>h) (by simp);have hflat:=fillG_flat mkI z ks [];have hfull:=fillG_full mkI z ks [] (by simp) trivial;simp only[List.flatten_nil,List.nil_append] at hflat;have key:∀g∈groupsG mkI z ks,2≤g.length∧weightN (mkI g)≤z:=by
  unfold groupsG;generalize fillG mkI z [] ks=out at hne hfit hflat hfull
  have hmid:∀(r:List (List KidA)) (g h':List KidA) (s:List (List KidA)),out=r++g :: h' :: s→2≤g.length:=λr g h' s e=>by
   obtain⟨x,t,e1,e2⟩:=hfull.at_ mkI z r g h' s e;have hg:=hne g (by rw[e];simp);have hgs:(g++[x]).Sublist ks:=by
    rw[← hflat,e,e1];simp only[List.flatten_append,List.flatten_cons];refine (List.Sublist.trans ?_ (List.sublist_append_right _ _));refine List.Sublist.append (List.Sublist.refl _) ?_;simp
   match g,hg with
   | [k],_ =>
    rw[mkI_wt] at e2;have:=(keyB_iff _).1 ((h.sub hgs).1 x (by simp)).2.2;simp[sumK] at e2;omega
   | a :: b :: g,_=>simp
  have hpre:∀(r:List (List KidA)) (a b:List KidA),out=r++[a,b]→(∀g∈r,2≤g.length)∧2≤a.length:=λr a b e=>by
   refine⟨λg hg=>?_,hmid r a b [] e⟩;obtain⟨s,t,rfl⟩:=List.append_of_mem hg;cases t with
   | nil=>exact hmid s g a [b] (by rw[e];simp)
   | cons y t=>exact hmid s g y (t++[a,b]) (by rw[e];simp)
  rcases two_or out with rfl|⟨g,rfl⟩|⟨r,a,b,rfl⟩
  ·simp at hflat;subst hflat;simp at h2
  ·intro g' hg';have e:evenG mkI z [g]=[g]:=rfl;rw[e] at hg';simp at hg';subst hg';simp at hflat;exact⟨by rw[hflat];exact h2,hfit g' (by simp)⟩
  ·obtain⟨p1,p2⟩:=hpre r a b rfl;have hna:=hne a (by simp);have hnb:=hne b (by simp);have hab:KidsOk (a++b):=h.sub (by rw[← hflat];simp);cases hl:lightN (mkI b) (z+24) with
   | false =>
    rw[evenG_heavy mkI z r a b hl];intro g hg;refine⟨?_,hfit g hg⟩;rcases List.mem_append.1 hg with hg|hg
    ·exact p1 g hg
    ·simp only[List.mem_cons,List.not_mem_nil,or_false] at hg;rcases hg with rfl|rfl
     ·exact p2
     ·unfold lightN mkI at hl;simp only[Bool.false_and,Bool.not_false,Bool.true_and,Bool.false_or,Bool.or_eq_false_iff,decide_eq_false_iff_not,List.length_map] at hl;omega
   | true =>
    rcases evenG_last mkI z r a b hl with ⟨hw,e⟩|⟨hw,e⟩
    ·rw[e];intro g hg;rcases List.mem_append.1 hg with hg|hg
     ·exact⟨p1 g hg,hfit g (by simp[hg])⟩
     ·simp at hg;subst hg;exact⟨by simp;omega,hw⟩
    ·obtain⟨k,c1,c2,c3,c4,c5⟩:=mkI_cut hz hab hna hnb (hfit a (by simp)) hl hw;rw[e k c1];intro g hg;rcases List.mem_append.1 hg with hg|hg
     ·exact⟨p1 g hg,hfit g (by simp[hg])⟩
     ·simp only[List.mem_cons,List.not_mem_nil,or_false] at hg;rcases hg with rfl|rfl
      ·exact⟨by rw[List.length_take];omega,c4⟩
      ·exact⟨by rw[List.length_drop];omega,c5⟩
 have hflat2:(groupsG mkI z ks).flatten=ks:=by unfold groupsG;rw[evenG_flat,fillG_flat];rfl
 intro g hg;obtain⟨k1,k2⟩:=key g hg;have hsub:g.Sublist ks:=by rw[← hflat2];exact List.sublist_flatten_of_mem hg
 exact⟨k1,mkI_right (h.sub hsub) k1,k2⟩
theorem groups_flat{α:Type}(mk:List α→NodeA)(z:Int)(l:List α):(groupsG mk z l).flatten=l:=by unfold groupsG;rw[evenG_flat,fillG_flat];rfl
theorem half_len{α:Type}:∀(gs:List (List α)),(∀g∈gs,2≤g.length)→2 * gs.length≤gs.flatten.length
 | [],_=>by simp
 | g :: gs,h=>by
  have:=half_len gs (λx hx=>h x (List.mem_cons_of_mem _ hx));have:=h g List.mem_cons_self;simp only[List.length_cons,List.flatten_cons,List.length_append];omega
theorem some_len{α:Type}:∀(gs:List (List α)),(∀g∈gs,g≠[])→gs.length≤gs.flatten.length
 | [],_=>by simp
 | g :: gs,h=>by
  have:=some_len gs (λx hx=>h x (List.mem_cons_of_mem _ hx));have:=List.length_pos_iff.2 (h g List.mem_cons_self);simp only[List.length_cons,List.flatten_cons,List.length_append];omega
def entsP(gen:Nat):GA→List Nat→List PairS→StA (List EntryA)
 | G,l,[]=>.inl (G,l,[])
 | G,l,x :: ps=>match entryP G l gen x.1 x.2 with
  | .inr k=>.inr k
  | .inl (G1,l1,e)=>match entsP gen G1 l1 ps with
   | .inr k=>.inr k
   | .inl (G2,l2,es)=>.inl (G2,l2,e :: es)
def levelsP(gen:Nat):Nat→GA→List Nat→List KidA→StA Nat
 | 0,_,_,_=>.inr 6
 | f+1,G,l,ks=>match ks with
  | []=>.inl (G,l,0)
  | [k]=>.inl (G,l,k.1)
  | k1 :: k2 :: ks=>match downsP gen G l ((groupsG mkI ((G.size:Int)-24) (k1 :: k2 :: ks)).map λg=>(mkI g,firstG (·.2) g)) with
   | .inr k=>.inr k
   | .inl (G',l',ks')=>levelsP gen f G' l' ks'
def loadP(gen:Nat)(G:GA)(l:List Nat)(ps:List PairS):StA Nat:=match entsP gen G l ps with
 | .inr k=>.inr k
 | .inl (G1,l1,es)=>match downsP gen G1 l1 ((groupsG mkL ((G.size:Int)-24) es).map λg=>(mkL g,firstG (·.key) g)) with
  | .inr k=>.inr k
  | .inl (G2,l2,ks)=>levelsP gen 64 G2 l2 ks
theorem ents_tr(gen:Nat):∀(ps:List PairS) (G:GA) (l:List Nat),CtxG G l→(∀x∈ps,PairOk x) →
  (entsP gen G l ps=.inr 3∧phiL l<(chS G.size ps:Nat)) ∨
  ∃G' l' es q,entsP gen G l ps=.inl (G',l',es)∧Upd G l (λ_=>False) G' l' (· ∈ q)∧q.Nodup∧(∀x∈q,2≤x)∧CtxG G' l'∧UseL l' (· ∈ q)∧Ents G' gen es ps q∧(∀e∈es,rightE e=true)∧phiL l'=phiL l-(chS G.size ps:Nat)
 | [],G,l,hc,_=>.inr ⟨G,l,[],[],rfl,(Upd.refl G l (λ_=>False)).iff (λ_=>Iff.rfl) (λi=>by simp),List.nodup_nil,by simp,hc,λk hk=>by simp at hk,.nil,by simp,by simp[chS]⟩
 | x :: ps,G,l,hc,hp=>by
  obtain⟨hk,hv⟩:=hp x List.mem_cons_self;rw[entsP,chS_cons];rcases entry_tr (gen:=gen) hc hk hv with ⟨a1,a2⟩|⟨G1,l1,e,ids,a1,a2,a3,a4,a5,a6,a7,a8⟩
  ·exact .inl ⟨by rw[a1],by omega⟩
  ·rw[a1];simp only;have hc1:=hc.upd a2 (λ_ f=>f.elim);have hu1:UseL l1 (λk=>k∈ids):=a2.use (λ_ f=>f.elim);rcases ents_tr gen ps G1 l1 hc1 (λy hy=>hp y (List.mem_cons_of_mem _ hy)) with ⟨b1,b2⟩|⟨G2,l2,es,q,b1,b2,b3,b4,b5,b6,b7,b8,b9⟩
   ·rw[a2.sz] at b2;exact .inl ⟨by rw[b1],by omega⟩
   ·rw[b1];rw[a2.sz] at b9;obtain⟨v1,v2⟩:=b2.views (ids:=ids) (λ_ _ f=>f) hu1;have hids2:∀i∈ids,2≤i:=λi hi=>by
     rcases a2.inn i hi with ⟨f,_⟩|⟨h0,_⟩
     ·exact f.elim
     ·exact hc.free2 h0
    refine .inr ⟨G2,l2,e :: es,ids++q,rfl,?_,?_,λy hy=>?_,b5,λk hk=>?_,.cons a5 (a6.mono (Nat.le_refl _) b2.bl b2.sz (λi hi=>(v1 i hi).1)) b7,λy hy=>?_,by omega⟩
    ·have f2:=b2.frame (B:=λk=>k∈ids) (λk hk=>⟨λf=>f,hu1.ne0 hk⟩);have f2':=f2.iff (A':=λk=>k∈ids) (A1':=λk=>k∈ids++q) (λk=>by simp) (λk=>by rw[List.mem_append];exact or_comm);exact a2.trans f2' (λ_ f=>f.elim)
    ·refine List.nodup_append.2 ⟨a3,b3,λy hy z hz e=>?_⟩;subst e;exact (v1 y hy).2.2 hz
    ·rcases List.mem_append.1 hy with hy|hy
     ·exact hids2 y hy
     ·exact b4 y hy
    ·rcases List.mem_append.1 hk with hk|hk
     ·exact v2 k hk
     ·exact b6 k hk
    ·rcases List.mem_cons.1 hy with rfl|hy
     ·exact a7
     ·exact b8 y hy
theorem kidsOk_of{G:GA}{gen d:Nat}{lo:ByteArray}{hi:Option ByteArray}{ks:List KidA}{ps:List PairS}{q:List Nat}(h:Kids (TrD G gen d) lo hi (ks.tail.map (·.2)) (ks.map λk=>(k.1:Int)) ps q)(hq:q.Nodup)(hb:G.blocks≤256)(hk:∀k∈ks,keyB k.2=true)(hr:(ks.map (·.2)).Pairwise λa b=>ltS a b=true):KidsOk ks:=by
 obtain⟨hs,e,hsub⟩:=h.heads (TrD.head d);have e2:ks.map (·.1)=hs:=by
  have:=congrArg (List.map Int.toNat) e;simp only[List.map_map] at this;have i1:(Int.toNat ∘ λk:KidA=>(k.1:Int))=(·.1):=funext λk=>Int.toNat_natCast k.1
  have i2:(Int.toNat ∘ λk:Nat=>(k:Int))=id:=funext λk=>Int.toNat_natCast k
  rw[i1,i2,List.map_id] at this;exact this
 refine⟨λk hk'=>?_,hr,by rw[e2];exact hq.sublist hsub⟩;have hm:k.1∈q:=hsub.subset (by rw[← e2];exact List.mem_map_of_mem hk');have:=h.ltq (TrD.ltq d) k.1 hm;exact⟨this.1,by omega,hk k hk'⟩
theorem firsts_sub{α:Type}(fst:α→ByteArray):∀(gs:List (List α)),(∀g∈gs,g≠[])→(gs.map (firstG fst)).Sublist (gs.flatten.map fst)
 | [],_=>by simp
 | g :: gs,h=>by
  have ih:=firsts_sub fst gs (λx hx=>h x (List.mem_cons_of_mem _ hx));obtain⟨x,t,rfl⟩:=List.exists_cons_of_ne_nil (h g List.mem_cons_self);simp only[List.map_cons,List.flatten_cons,List.cons_append,List.map_append];exact List.Sublist.cons_cons _ (ih.trans (List.sublist_append_right _ _))
theorem groups_ne_nil{α:Type}(mk:List α→NodeA)(z:Int){l:List α}(h:l≠[]):groupsG mk z l≠[]:=λe=>by
 have:=groups_flat mk z l;rw[e] at this;exact h this.symm
theorem levels_tr(gen:Nat):∀(f:Nat) (G:GA) (l:List Nat) (d:Nat) (ks:List KidA) (ps:List PairS) (q:List Nat),ks≠[]→ks.length<2 ^ f→CtxG G l→Kids (TrD G gen (d+1)) e0 none (ks.tail.map (·.2)) (ks.map λk=>(k.1:Int)) ps q→q.Nodup→UseL l (· ∈ q)→(∀x∈q,2≤x)→(∀k∈ks,keyB k.2=true)→((ks.map (·.2)).Pairwise λa b=>ltS a b=true) →
  (levelsP gen f G l ks=.inr 3∧phiL l<(ks.length:Int)) ∨
  ∃G' l' root d' q',levelsP gen f G l ks=.inl (G',l',root)∧Upd G l (· ∈ q) G' l' (· ∈ q')∧q'.Nodup∧CtxG G' l'∧UseL l' (· ∈ q')∧TrD G' gen (d'+1) e0 none root ps q'∧G'.cost≤G.cost+ks.length
 | 0,G,l,d,ks,ps,q,hne,hl,_,_,_,_,_,_,_=>by
  have:=List.length_pos_iff.2 hne;rw[Nat.pow_zero] at hl;omega
 | f+1,G,l,d,[k],ps,q,_,_,hc,hk,hq,hu,h2,hkb,hr=>by
  simp only[List.tail_cons,List.map_nil,List.map_cons] at hk;rw[levelsP];generalize hkk:[(k.1:Int)]=kk at hk
  cases hk with
  | @one _ _ c _ _ hT =>
   simp only[List.cons.injEq,and_true] at hkk;have hcc:c=k.1:=by omega
   subst hcc;exact .inr ⟨G,l,k.1,d,q,rfl,Upd.refl _ _ _,hq,hc,hu,hT,by simp⟩
 | f+1,G,l,d,k1 :: k2 :: ks,ps,q,_,hl,hc,hk,hq,hu,h2,hkb,hr=>by
  rw[levelsP];have hs:=hc.s256;have hs2:=hc.s1024;obtain⟨kk,hkk⟩:∃kk,kk=k1 :: k2 :: ks:=⟨_,rfl⟩;rw[← hkk] at hl hk hkb hr ⊢;have hk2:2≤kk.length:=by rw[hkk];simp
  have hok:=kidsOk_of hk hq hc.b256 hkb hr;obtain⟨gs,hgs⟩:∃gs,gs=groupsG mkI ((G.size:Int)-24) kk:=⟨_,rfl⟩;have hgo:=groupsI_ok (z:=(G.size:Int)-24) (by omega) hok hk2;have hfl:=groups_flat mkI ((G.size:Int)-24) kk;have hgn:=groups_ne_nil mkI ((G.size:Int)-24) (l:=kk) (by rw[hkk];simp);rw[← hgs] at hgo hfl hgn ⊢;have hne:∀g∈gs,g≠[]:=λg hg e=>by have:=(hgo g hg).1;rw[e] at this;simp at this
  have hhalf:=half_len gs (λg hg=>(hgo g hg).1);rw[hfl] at hhalf;rcases downs_tr (unitI gen d) gs G l e0 none ps q hgn hc hne (λg hg=>(hgo g hg).2) (by rw[hfl];exact hk) hq hu h2 with ⟨c1,c2⟩|⟨G2,l2,ks2,q2,c1,c2,c3,c4,c5,c6,c7,c8,c9,c10⟩
  ·exact .inl ⟨by rw[c1],by omega⟩
  ·rw[c1];simp only;have hlen:ks2.length=gs.length:=by have:=congrArg List.length c2;simpa using this
   have hsub:=firsts_sub (λk:KidA=>k.2) gs hne;rw[hfl,← c2] at hsub;have hphi:=c3.phi hu hq c4;rcases levels_tr gen f G2 l2 (d+1) ks2 ps q2 (λe=>by rw[e] at hlen;exact hgn (List.length_eq_zero_iff.1 (by simpa using hlen.symm))) (by rw[Nat.pow_succ] at hl;omega) c6 c8 c4 c7 c5 (λk hk'=>by
    have:k.2∈kk.map (·.2):=hsub.subset (List.mem_map_of_mem hk');obtain⟨k',h1,h2⟩:=List.mem_map.1 this;rw[← h2];exact hkb k' h1) (hr.sublist hsub) with ⟨e1,e2⟩|⟨G3,l3,root,d',q3,e1,e2,e3,e4,e5,e6,e7⟩
   ·exact .inl ⟨e1,by omega⟩
   ·exact .inr ⟨G3,l3,root,d',q3,e1,c3.trans e2 hu,e3,e4,e5,e6,by omega⟩
theorem entry_cst{G G':GA}{l l':List Nat}{gen:Nat}{key v:ByteArray}{e:EntryA}(hv:v.size≤4096)(h1:256≤G.size)(h2:G.size≤1024)(h:entryP G l gen key v=.inl (G',l',e)):G'.cost≤G.cost+18:=by
 unfold entryP at h;split at h
 ·injection h with h;injection h with h _;rw[← h];omega
 ·split at h
  ·rename_i ids2 l2' ht;injection h with h;injection h with h _;rw[← h,(chPuts_same _ _ _ _ _ _).2.2];have h3:=(takeA_taken _ _ _ _ ht).len;have h4:=ndS_need G.size v.size (by omega) h1 h2;have h5:=ndS_le G.size v.size hv h1;rw[h4,Int.toNat_natCast] at h3;omega
  ·cases h
theorem ents_cost(gen:Nat):∀(ps:List PairS) (G:GA) (l:List Nat) {G':GA} {l':List Nat} {es:List EntryA},256≤G.size→G.size≤1024→(∀x∈ps,x.2.size≤4096)→entsP gen G l ps=.inl (G',l',es)→G'.cost≤G.cost+18 * ps.length∧G'.size=G.size∧es.length=ps.length
 | [],G,l,G',l',es,_,_,_,h=>by
  injection h with h;injection h with h1 h2;injection h2 with h2 h3;subst h1 h3;exact⟨by simp,rfl,rfl⟩
 | x :: ps,G,l,G',l',es,hs,hs2,hv,h=>by
  rw[entsP] at h;split at h
  ·cases h
  ·rename_i G1 l1 e he;split at h
   ·cases h
   ·rename_i G2 l2 es2 hes;injection h with h;injection h with h1 h2;injection h2 with h2 h3;subst h1 h3;have c1:=entry_cst (hv x List.mem_cons_self) hs hs2 he;have c0:G1.size=G.size:=by
     unfold entryP at he;split at he
     ·injection he with he;injection he with he _;rw[← he]
     ·split at he
      ·injection he with he;injection he with he _;rw[← he];exact (chPuts_same _ _ _ _ _ _).2.1
      ·cases he
    obtain⟨c2,c3,c4⟩:=ents_cost gen ps G1 l1 (by rw[c0];exact hs) (by rw[c0];exact hs2) (λy hy=>hv y (List.mem_cons_of_mem _ hy)) hes;refine⟨by simp only[List.length_cons];omega,c3.trans c0,by simp[c4]⟩
theorem load_tr{gen:Nat}{G:GA}{l:List Nat}{ps:List PairS}(hc:CtxG G l)(hs:SortedP ps)(hp:∀x∈ps,PairOk x)(hlen:ps.length≤100000) :
  (loadP gen G l ps=.inr 3∧phiL l<(chS G.size ps:Nat)+2 * (ps.length:Int)) ∨
  ∃G' l' root d pgs,loadP gen G l ps=.inl (G',l',root)∧Upd G l (λ_=>False) G' l' (· ∈ pgs)∧TD G' gen root d ps pgs∧UseL l' (· ∈ pgs)∧CtxG G' l'∧G'.cost≤G.cost+20 * ps.length:=by
 have hz:=hc.s256;have hz2:=hc.s1024;unfold loadP;rcases ents_tr gen ps G l hc hp with ⟨a1,a2⟩|⟨G1,l1,es,q,a1,a2,a3,a4,a5,a6,a7,a8,a9⟩
 ·exact .inl ⟨by rw[a1],by omega⟩
 ·obtain⟨b1,b2,b3⟩:=ents_cost gen ps G l hz hz2 (λx hx=>(hp x hx).2) a1;rw[a1];simp only;by_cases hps:ps=[]
  ·subst hps;have hes:es=[]:=List.length_eq_zero_iff.1 (by simpa using b3);subst hes;have hq:q=[]:=by cases a7;rfl
   subst hq;refine .inr ⟨G1,l1,0,0,[],rfl,a2,TD.none _ _,a6,a5,by simpa using b1⟩
  ·have hene:es≠[]:=λe=>by rw[e] at b3;exact hps (List.length_eq_zero_iff.1 (by simpa using b3.symm))
   have hok:EntsOk es:=⟨a8,by rw[a7.keys];exact List.pairwise_map.2 hs⟩;obtain⟨gs,hgs⟩:∃gs,gs=groupsG mkL ((G.size:Int)-24) es:=⟨_,rfl⟩;have hgo:=groupsL_ok (z:=(G.size:Int)-24) (by omega) (by omega) hok;have hfl:=groups_flat mkL ((G.size:Int)-24) es;have hgn:=groups_ne_nil mkL ((G.size:Int)-24) hene;rw[← hgs] at hgo hfl hgn ⊢;have hne:∀g∈gs,g≠[]:=λg hg=>(hgo g hg).1
   have hlen2:=some_len gs hne;rw[hfl,b3] at hlen2;rcases downs_tr (unitL gen) gs G1 l1 e0 none ps q hgn a5 hne (λg hg=>by rw[b2];exact (hgo g hg).2) (by rw[hfl];exact⟨a7,hs,λx _=>inB_all x.1⟩) a3 a6 a4 with ⟨c1,c2⟩|⟨G2,l2,ks2,q2,c1,c2,c3,c4,c5,c6,c7,c8,c9,c10⟩
   ·exact .inl ⟨by rw[c1],by omega⟩
   ·rw[c1];simp only;have hkl:ks2.length=gs.length:=by have:=congrArg List.length c2;simpa using this
    have hsub:=firsts_sub (λe:EntryA=>e.key) gs hne;rw[hfl,← c2] at hsub;have hphi:=c3.phi a6 a3 c4;have hpow:ks2.length<2 ^ 64:=by
     have:(100000:Nat)<2 ^ 64:=by decide
     omega
    rcases levels_tr gen 64 G2 l2 0 ks2 ps q2 (λe=>by rw[e] at hkl;exact hgn (List.length_eq_zero_iff.1 (by simpa using hkl.symm))) hpow c6 c8 c4 c7 c5 (λk hk'=>by
     have:k.2∈es.map (·.key):=hsub.subset (List.mem_map_of_mem hk');obtain⟨e,h1,h2⟩:=List.mem_map.1 this;have h3:=a8 e h1;unfold rightE at h3;simp only[Bool.and_eq_true] at h3;rw[← h2];exact h3.1) (hok.2.sublist hsub) with ⟨e1,e2⟩|⟨G3,l3,root,d',q3,e1,e2,e3,e4,e5,e6,e7⟩
    ·exact .inl ⟨e1,by omega⟩
    ·exact .inr ⟨G3,l3,root,d'+1,q3,e1,(a2.trans c3 (λ_ f=>f.elim)).trans e2 (λ_ f=>f.elim),⟨.inr ⟨by omega,e6⟩,e3⟩,e5,e4,by omega⟩
def leafsG(G:GA):Nat→Nat→List Nat
 | 0,_=>[]
 | d+1,id=>match G.node id with
  | none=>[]
  | some n=>if n.leaf=true then [n.entries.length] else n.kids.flatMap λk=>leafsG G d k.toNat
section
variable {G G':GA}{gen:Nat}
theorem Kids.each{T:TreeT}{lo:ByteArray}{hi:Option ByteArray}{kk:List ByteArray}{cc:List Int}{ps:List PairS}{q:List Nat}(h:Kids T lo hi kk cc ps q):∀c∈cc,∃(k:Nat) (lo':ByteArray) (hi':Option ByteArray) (l':List PairS) (q':List Nat),c=(k:Int)∧T lo' hi' k l' q'∧∀x∈q',x∈q:=by
 induction h with
 | @one lo hi c l q h =>
  intro c' hc;simp only[List.mem_singleton] at hc;exact⟨c,_,_,_,_,hc,h,λ_ hx=>hx⟩
 | @cons lo hi s c keys kids l1 l2 q1 q2 h1 _ _ ih =>
  intro c' hc;rcases List.mem_cons.1 hc with rfl|hc
  ·exact⟨c,_,_,_,_,rfl,h1,λ_ hx=>List.mem_append_left _ hx⟩
  ·obtain⟨k,lo',hi',l',q',e,t,hs⟩:=ih c' hc;exact⟨k,lo',hi',l',q',e,t,λx hx=>List.mem_append_right _ (hs x hx)⟩
theorem flatMap_eq{α β:Type}{f g:α→List β}:∀(l:List α),(∀x∈l,f x=g x)→l.flatMap f=l.flatMap g
 | [],_=>rfl
 | x :: l,h=>by rw[List.flatMap_cons,List.flatMap_cons,h x List.mem_cons_self,flatMap_eq l (λy hy=>h y (List.mem_cons_of_mem _ hy))]
theorem pgn_node{id:Nat}{n:NodeA}(h:PgN G gen id n):G.node id=some n:=(pg_load h).2
theorem leafs_mono(hb:G'.blocks=G.blocks):∀(d f:Nat) (lo:ByteArray) (hi:Option ByteArray) (id:Nat) (l:List PairS) (q:List Nat),d≤f→(∀i∈q,G'.view i=G.view i)→TrD G gen d lo hi id l q→leafsG G' f id=leafsG G d id
 | 0,_,_,_,_,_,_,_,_,h=>h.elim
 | d+1,f,lo,hi,id,l,pgs,hf,hv,h=>by
  obtain⟨f,rfl⟩:∃f',f=f'+1:=⟨f-1,by omega⟩;obtain⟨n,q,h1,_,rfl,h3⟩:=h;have hn:=pgn_node h1;have hn':G'.node id=some n:=by
   rw[← hn];unfold GA.node;rw[hb,hv id List.mem_cons_self]
  rw[leafsG,leafsG,hn,hn'];simp only;rcases h3 with ⟨a1,_,_,_,_⟩|⟨a1,a2⟩
  ·rw[if_pos a1,if_pos a1]
  ·rw[if_neg (by rw[a1];simp),if_neg (by rw[a1];simp)];refine flatMap_eq _ (λc hc=>?_);obtain⟨k,lo',hi',l',q',rfl,t,hs⟩:=a2.each c hc;exact leafs_mono hb d f lo' hi' _ l' q' (by omega) (λi hi=>hv i (List.mem_cons_of_mem _ (hs i hi))) t
theorem leafs_kids(hb:G'.blocks=G.blocks){d f:Nat}{lo:ByteArray}{hi:Option ByteArray}{kk:List ByteArray}{cc:List Int}{ps:List PairS}{q:List Nat}(hf:d≤f)(hv:∀i∈q,G'.view i=G.view i)(h:Kids (TrD G gen d) lo hi kk cc ps q) :
  (cc.flatMap λk=>leafsG G' f k.toNat)=cc.flatMap λk=>leafsG G d k.toNat:=by
 refine flatMap_eq _ (λc hc=>?_);obtain⟨k,lo',hi',l',q',rfl,t,hs⟩:=h.each c hc;exact leafs_mono hb d f lo' hi' _ l' q' hf (λi hi=>hv i (hs i hi)) t
theorem downs_nodes{α:Type}(mk:List α→NodeA)(fst:List α→ByteArray):∀(gs:List (List α)) (G:GA) (l:List Nat) {G':GA} {l':List Nat} {ks:List KidA},l[0]? ≠ some 0→l.length≤G.blocks→downsP gen G l (gs.map λg=>(mk g,fst g))=.inl (G',l',ks) →
  G'.blocks=G.blocks∧(∀j,l[j]? ≠ some 0→G'.view j=G.view j)∧ks.map (λk=>G'.node k.1)=gs.map (λg=>some (mk g))
 | [],G,l,G',l',ks,_,_,h=>by
  simp only[List.map_nil,downsP] at h;injection h with h;injection h with h1 h2;injection h2 with h2 h3;subst h1 h3;exact⟨rfl,λ_ _=>rfl,rfl⟩
 | g :: gs,G,l,G',l',ks,h0,hb,h=>by
  rw[List.map_cons,downsP] at h;cases hd:downI G l 0 (mk g) with
  | none=>rw[hd] at h;cases h
  | some i =>
   rw[hd] at h;simp only at h;obtain⟨u1,_,u3,u4,u5,u6⟩:=upd_down (gen:=gen) (G:=G) (l:=l) (.inl rfl) hd h0;have hrt:=u6.1;have hl1:(downL G l 0 (mk g))[i]? = some 2:=by
    rcases u1.inn i rfl with ⟨h,_⟩|⟨_,h⟩
    ·exact absurd rfl h.2
    ·exact h
   have hli:l[i]? = some 0:=by
    rcases u1.inn i rfl with ⟨h,_⟩|⟨h,_⟩
    ·exact absurd rfl h.2
    ·exact h
   have hrest:∀j,l[j]? ≠ some 0→(downL G l 0 (mk g))[j]? ≠ some 0∧(downG G l gen 0 (mk g)).view j=G.view j:=λj hj=>by
    have hne:¬ j=i:=λe=>hj (e ▸ hli)
    obtain⟨r1,r2⟩:=u1.rest j (λe=>e.2 rfl) hne;exact⟨by rw[r1];exact hj,r2 hj⟩
   cases hr:downsP gen (downG G l gen 0 (mk g)) (downL G l 0 (mk g)) (gs.map λg=>(mk g,fst g)) with
   | inr k=>rw[hr] at h;cases h
   | inl y =>
    obtain⟨G2,l2,ks2⟩:=y;rw[hr] at h;injection h with h;injection h with h1 h2;injection h2 with h2 h3;subst h1 h2 h3;obtain⟨a1,a2,a3⟩:=downs_nodes mk fst gs _ _ (hrest 0 h0).1 (by rw[u1.bl,u1.len];exact hb) hr;refine⟨a1.trans u1.bl,λj hj=>(a2 j (hrest j hj).1).trans (hrest j hj).2,?_⟩;rw[List.map_cons,List.map_cons,a3];congr 1
    unfold GA.node;rw[if_pos (by rw[a1,u1.bl];omega),a2 i (by rw[hl1];simp),u5];simp only;rw[dec_put hrt]
end
section
variable {gen:Nat}
theorem leafs_leaf{G:GA}{id d:Nat}{n:NodeA}(h:G.node id=some n)(hl:n.leaf=true):leafsG G (d+1) id=[n.entries.length]:=by
 rw[leafsG,h];simp only;rw[if_pos hl]
theorem leafs_inner{G:GA}{id d:Nat}{n:NodeA}(h:G.node id=some n)(hl:n.leaf=false):leafsG G (d+1) id=n.kids.flatMap λk=>leafsG G d k.toNat:=by
 rw[leafsG,h];simp only;rw[if_neg (by rw[hl];simp)]
theorem downs_leafsL{G':GA}(d:Nat):∀(ks:List KidA) (gs:List (List EntryA)),ks.map (λk=>G'.node k.1)=gs.map (λg=>some (mkL g))→(ks.flatMap λk=>leafsG G' (d+1) k.1)=gs.map List.length
 | [],[],_=>rfl
 | [],_ :: _,h=>by simp at h
 | _ :: _,[],h=>by simp at h
 | k :: ks,g :: gs,h=>by
  simp only[List.map_cons,List.cons.injEq] at h;rw[List.flatMap_cons,List.map_cons,leafs_leaf h.1 rfl,downs_leafsL d ks gs h.2];rfl
theorem downs_leafsI{G':GA}(d:Nat):∀(ks:List KidA) (gs:List (List KidA)),ks.map (λk=>G'.node k.1)=gs.map (λg=>some (mkI g))→(ks.flatMap λk=>leafsG G' (d+1) k.1)=gs.flatten.flatMap λk=>leafsG G' d k.1
 | [],[],_=>rfl
 | [],_ :: _,h=>by simp at h
 | _ :: _,[],h=>by simp at h
 | k :: ks,g :: gs,h=>by
  simp only[List.map_cons,List.cons.injEq] at h;rw[List.flatMap_cons,leafs_inner h.1 rfl,downs_leafsI d ks gs h.2,List.flatten_cons,List.flatMap_append];congr 1
  show (List.map (λk:KidA=>(k.1:Int)) g).flatMap _=_;rw[List.flatMap_map];exact flatMap_eq _ (λx _=>by rw[Int.toNat_natCast])
theorem levels_leafs:∀(f:Nat) (G:GA) (l:List Nat) (d:Nat) (ks:List KidA) (ps:List PairS) (q:List Nat) {G':GA} {l':List Nat} {root:Nat},ks≠[]→ks.length<2 ^ f→CtxG G l→Kids (TrD G gen (d+1)) e0 none (ks.tail.map (·.2)) (ks.map λk=>(k.1:Int)) ps q→q.Nodup→UseL l (· ∈ q)→(∀x∈q,2≤x)→(∀k∈ks,keyB k.2=true)→((ks.map (·.2)).Pairwise λa b=>ltS a b=true) →
  levelsP gen f G l ks=.inl (G',l',root)→∃d' q',TrD G' gen (d'+1) e0 none root ps q'∧leafsG G' (d'+1) root=ks.flatMap λk=>leafsG G (d+1) k.1
 | 0,G,l,d,ks,ps,q,G',l',root,hne,hl,_,_,_,_,_,_,_,_=>by
  have:=List.length_pos_iff.2 hne;rw[Nat.pow_zero] at hl;omega
 | f+1,G,l,d,[k],ps,q,G',l',root,_,_,hc,hk,hq,hu,h2,hkb,hr,he=>by
  simp only[List.tail_cons,List.map_nil,List.map_cons] at hk;rw[levelsP] at he;injection he with he;injection he with h1 h2';injection h2' with h2' h3;subst h1 h3;generalize hkk:[(k.1:Int)]=kk at hk
  cases hk with
  | @one _ _ c _ _ hT =>
   simp only[List.cons.injEq,and_true] at hkk;have hcc:c=k.1:=by omega
   subst hcc;exact⟨d,q,hT,by simp⟩
 | f+1,G,l,d,k1 :: k2 :: ks,ps,q,G',l',root,_,hl,hc,hk,hq,hu,h2,hkb,hr,he=>by
  rw[levelsP] at he;have hs:=hc.s256;obtain⟨kk,hkk⟩:∃kk,kk=k1 :: k2 :: ks:=⟨_,rfl⟩;rw[← hkk] at hl hk hkb hr he ⊢;have hk2:2≤kk.length:=by rw[hkk];simp
  have hok:=kidsOk_of hk hq hc.b256 hkb hr;obtain⟨gs,hgs⟩:∃gs,gs=groupsG mkI ((G.size:Int)-24) kk:=⟨_,rfl⟩;have hgo:=groupsI_ok (z:=(G.size:Int)-24) (by omega) hok hk2;have hfl:=groups_flat mkI ((G.size:Int)-24) kk;have hgn:=groups_ne_nil mkI ((G.size:Int)-24) (l:=kk) (by rw[hkk];simp);rw[← hgs] at hgo hfl hgn he;have hne:∀g∈gs,g≠[]:=λg hg e=>by have:=(hgo g hg).1;rw[e] at this;simp at this
  have hhalf:=half_len gs (λg hg=>(hgo g hg).1);rw[hfl] at hhalf;rcases downs_tr (unitI gen d) gs G l e0 none ps q hgn hc hne (λg hg=>(hgo g hg).2) (by rw[hfl];exact hk) hq hu h2 with ⟨c1,c2⟩|⟨G2,l2,ks2,q2,c1,c2,c3,c4,c5,c6,c7,c8,c9,c10⟩
  ·rw[c1] at he;cases he
  ·rw[c1] at he;simp only at he;have hlen:ks2.length=gs.length:=by have:=congrArg List.length c2;simpa using this
   have hsub:=firsts_sub (λk:KidA=>k.2) gs hne;rw[hfl,← c2] at hsub;obtain⟨d',q',e1,e2⟩:=levels_leafs f G2 l2 (d+1) ks2 ps q2 (λe=>by rw[e] at hlen;exact hgn (List.length_eq_zero_iff.1 (by simpa using hlen.symm))) (by rw[Nat.pow_succ] at hl;omega) c6 c8 c4 c7 c5 (λk hk'=>by
    have:k.2∈kk.map (·.2):=hsub.subset (List.mem_map_of_mem hk');obtain⟨k',h1,h2⟩:=List.mem_map.1 this;rw[← h2];exact hkb k' h1) (hr.sublist hsub) he
   refine⟨d',q',e1,?_⟩;obtain⟨n1,n2,n3⟩:=downs_nodes mkI (firstG (·.2)) gs G l (by rw[hc.low.1];simp) (by have:=hc.len;omega) c1;rw[e2,downs_leafsI (d+1) ks2 gs n3,hfl];have h5:=leafs_kids n1 (Nat.le_refl _) (λi hi=>n2 i (hu.ne0 hi)) hk;rw[List.flatMap_map,List.flatMap_map] at h5;have h6:∀H:GA,(kk.flatMap λk=>leafsG H (d+1) k.1)=kk.flatMap λa=>leafsG H (d+1) ((λk:KidA=>(k.1:Int)) a).toNat:=λH=>flatMap_eq _ (λx _=>by rw[Int.toNat_natCast])
   rw[h6,h6];exact h5
theorem load_leafs{G G':GA}{l l':List Nat}{ps:List PairS}{root:Nat}(hc:CtxG G l)(hs:SortedP ps)(hp:∀x∈ps,PairOk x)(hlen:ps.length≤100000)(he:loadP gen G l ps=.inl (G',l',root))(hps:ps≠[]) :
  ∃G1 l1 es q d' q',entsP gen G l ps=.inl (G1,l1,es)∧Ents G1 gen es ps q∧(∀e∈es,rightE e=true)∧TrD G' gen (d'+1) e0 none root ps q'∧leafsG G' (d'+1) root=(groupsG mkL ((G.size:Int)-24) es).map List.length:=by
 have hz:=hc.s256;have hz2:=hc.s1024;unfold loadP at he;rcases ents_tr gen ps G l hc hp with ⟨a1,a2⟩|⟨G1,l1,es,q,a1,a2,a3,a4,a5,a6,a7,a8,a9⟩
 ·rw[a1] at he;cases he
 ·obtain⟨b1,b2,b3⟩:=ents_cost gen ps G l hz hz2 (λx hx=>(hp x hx).2) a1;rw[a1] at he;simp only at he;have hene:es≠[]:=λe=>by rw[e] at b3;exact hps (List.length_eq_zero_iff.1 (by simpa using b3.symm))
  have hok:EntsOk es:=⟨a8,by rw[a7.keys];exact List.pairwise_map.2 hs⟩;obtain⟨gs,hgs⟩:∃gs,gs=groupsG mkL ((G.size:Int)-24) es:=⟨_,rfl⟩;have hgo:=groupsL_ok (z:=(G.size:Int)-24) (by omega) (by omega) hok;have hfl:=groups_flat mkL ((G.size:Int)-24) es;have hgn:=groups_ne_nil mkL ((G.size:Int)-24) hene;rw[← hgs] at hgo hfl hgn he;have hne:∀g∈gs,g≠[]:=λg hg=>(hgo g hg).1
  have hlen2:=some_len gs hne;rw[hfl,b3] at hlen2;rcases downs_tr (unitL gen) gs G1 l1 e0 none ps q hgn a5 hne (λg hg=>by rw[b2];exact (hgo g hg).2) (by rw[hfl];exact⟨a7,hs,λx _=>inB_all x.1⟩) a3 a6 a4 with ⟨c1,c2⟩|⟨G2,l2,ks2,q2,c1,c2,c3,c4,c5,c6,c7,c8,c9,c10⟩
  ·rw[c1] at he;cases he
  ·rw[c1] at he;simp only at he;have hkl:ks2.length=gs.length:=by have:=congrArg List.length c2;simpa using this
   have hsub:=firsts_sub (λe:EntryA=>e.key) gs hne;rw[hfl,← c2] at hsub;have hpow:ks2.length<2 ^ 64:=by
    have:(100000:Nat)<2 ^ 64:=by decide
    omega
   obtain⟨d',q',e1,e2⟩:=levels_leafs 64 G2 l2 0 ks2 ps q2 (λe=>by rw[e] at hkl;exact hgn (List.length_eq_zero_iff.1 (by simpa using hkl.symm))) hpow c6 c8 c4 c7 c5 (λk hk'=>by
     have:k.2∈es.map (·.key):=hsub.subset (List.mem_map_of_mem hk');obtain⟨e,h1,h2⟩:=List.mem_map.1 this;have h3:=a8 e h1;unfold rightE at h3;simp only[Bool.and_eq_true] at h3;rw[← h2];exact h3.1) (hok.2.sublist hsub) he
   obtain⟨_,_,n3⟩:=downs_nodes mkL (firstG (·.key)) gs G1 l1 (by rw[a5.low.1];simp) (by have:=a5.len;omega) c1;exact⟨G1,l1,es,q,d',q',a1,a7,a8,e1,by rw[e2,downs_leafsL 0 ks2 gs n3,hgs]⟩
end
end Go.Proofs.YtchklfmggpconaaGreatDoor
