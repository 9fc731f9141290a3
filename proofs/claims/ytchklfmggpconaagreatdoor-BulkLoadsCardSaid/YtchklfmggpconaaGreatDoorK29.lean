import Derived.Test.YtchklfmggpconaaGreatDoorK28
namespace Go.Proofs.YtchklfmggpconaaGreatDoor
open Go.RowKit
section
variable {G G' G1:GA}{l l' l1:List Nat}{gen:Nat}{lo:ByteArray}{hi:Option ByteArray}{ps:List PairS}{q:List Nat}
theorem pg_load{id:Nat}{n:NodeA}(h:PgN G gen id n):G.load (id:Int)=.inl n∧G.node id=some n:=by
 obtain⟨p,h1,_,h3⟩:=h.page;have h4:G.node id=some n:=by
  unfold GA.node;rw[if_pos h.lt,h1];simp only[h3]
 exact⟨(GA.node_load h4).2,h4⟩
end
section
variable {α:Type}(mk:List α→NodeA)(z:Int)
def fillG:List (List α)→List α→List (List α)
 | out,[]=>out
 | out,x :: l=>match out.getLast? with
  | some g=>if weightN (mk (g++[x]))≤z then fillG (out.dropLast++[g++[x]]) l else fillG (out++[[x]]) l
  | none=>fillG (out++[[x]]) l
def evenG(out:List (List α)):List (List α) :=
 match out.reverse with
 | b :: a :: r=>if lightN (mk b) (z+24)=true then (if weightN (mk (a++b))≤z then r.reverse++[a++b] else match cutAt (mk (a++b)) with
   | none=>out
   | some k=>r.reverse++[(a++b).take k,(a++b).drop k]) else out
 | _=>out
def groupsG(l:List α):List (List α):=evenG mk z (fillG mk z [] l)
theorem fillG_flat:∀(l:List α) (out:List (List α)),(fillG mk z out l).flatten=out.flatten++l
 | [],out=>by simp[fillG]
 | x :: l,out=>by
  rw[fillG];cases h:out.getLast? with
  | none =>
   simp only;rw[fillG_flat l];simp
  | some g =>
   simp only;obtain⟨pre,rfl⟩:∃pre,out=pre++[g]:=by
    rw[List.getLast?_eq_some_iff] at h;exact h
   split
   ·rw[fillG_flat l];simp
   ·rw[fillG_flat l];simp
theorem fillG_ne:∀(l:List α) (out:List (List α)),(∀g∈out,g≠[])→∀g∈fillG mk z out l,g≠[]
 | [],out,h=>by simpa[fillG] using h
 | x :: l,out,h=>by
  rw[fillG];cases hg:out.getLast? with
  | none =>
   simp only;refine fillG_ne l _ (λg hm=>?_);rcases List.mem_append.1 hm with hm|hm
   ·exact h g hm
   ·simp at hm;rw[hm];simp
  | some g0 =>
   simp only;split
   ·refine fillG_ne l _ (λg hm=>?_);rcases List.mem_append.1 hm with hm|hm
    ·exact h g ((List.dropLast_sublist _).subset hm)
    ·simp at hm;rw[hm];simp
   ·refine fillG_ne l _ (λg hm=>?_);rcases List.mem_append.1 hm with hm|hm
    ·exact h g hm
    ·simp at hm;rw[hm];simp
theorem fillG_fit'(A:α→Prop)(h1:∀x,A x→weightN (mk [x])≤z):∀(l:List α) (out:List (List α)),(∀x∈l,A x)→(∀g∈out,weightN (mk g)≤z)→∀g∈fillG mk z out l,weightN (mk g)≤z
 | [],out,_,h=>by simpa[fillG] using h
 | x :: l,out,hA,h=>by
  have hx:=h1 x (hA x List.mem_cons_self);have hA2:∀y∈l,A y:=λy hy=>hA y (List.mem_cons_of_mem _ hy)
  rw[fillG];cases hg:out.getLast? with
  | none =>
   simp only;refine fillG_fit' A h1 l _ hA2 (λg hm=>?_);rcases List.mem_append.1 hm with hm|hm
   ·exact h g hm
   ·simp at hm;rw[hm];exact hx
  | some g0 =>
   simp only;split
   ·rename_i hw;refine fillG_fit' A h1 l _ hA2 (λg hm=>?_);rcases List.mem_append.1 hm with hm|hm
    ·exact h g ((List.dropLast_sublist _).subset hm)
    ·simp at hm;rw[hm];exact hw
   ·refine fillG_fit' A h1 l _ hA2 (λg hm=>?_);rcases List.mem_append.1 hm with hm|hm
    ·exact h g hm
    ·simp at hm;rw[hm];exact hx
def FullG:List (List α)→Prop
 | []=>True
 | g :: r=>(match r with|[]=>True|h :: _=>∃x t,h=x :: t∧z<weightN (mk (g++[x])))∧FullG r
theorem FullG.more:∀(pre:List (List α)) (g:List α) (x:α),g≠[]→FullG mk z (pre++[g])→FullG mk z (pre++[g++[x]])
 | [],g,x,_,_=>⟨trivial,trivial⟩
 | [p],g,x,hg,h=>by
  obtain⟨⟨y,t,h1,h2⟩,_⟩:=h;exact⟨⟨y,t++[x],by rw[h1];rfl,h2⟩,trivial,trivial⟩
 | p :: p2 :: pre,g,x,hg,h=>⟨h.1,FullG.more (p2 :: pre) g x hg h.2⟩
theorem FullG.next:∀(pre:List (List α)) (g:List α) (x:α),z<weightN (mk (g++[x]))→FullG mk z (pre++[g])→FullG mk z (pre++[g]++[[x]])
 | [],_g,x,hx,_=>⟨⟨x,[],rfl,hx⟩,trivial,trivial⟩
 | [_],_g,x,hx,h=>⟨h.1,⟨x,[],rfl,hx⟩,trivial,trivial⟩
 | _p :: p2 :: pre,g,x,hx,h=>⟨h.1,FullG.next (p2 :: pre) g x hx h.2⟩
theorem fillG_full:∀(l:List α) (out:List (List α)),(∀g∈out,g≠[])→FullG mk z out→FullG mk z (fillG mk z out l)
 | [],out,_,h=>by simpa[fillG] using h
 | x :: l,out,hne,h=>by
  rw[fillG];cases hg:out.getLast? with
  | none =>
   simp only;rw[List.getLast?_eq_none_iff] at hg;subst hg;exact fillG_full l _ (by simp) ⟨trivial,trivial⟩
  | some g0 =>
   simp only;obtain⟨pre,rfl⟩:∃pre,out=pre++[g0]:=by
    rw[List.getLast?_eq_some_iff] at hg;exact hg
   have hg0:=hne g0 (by simp);split
   ·rw[List.dropLast_concat];refine fillG_full l _ (λg hm=>?_) (FullG.more mk z pre g0 x hg0 h);rcases List.mem_append.1 hm with hm|hm
    ·exact hne g (by simp[hm])
    ·simp at hm;rw[hm];simp
   ·rename_i hw;refine fillG_full l _ (λg hm=>?_) (FullG.next mk z pre g0 x (by omega) h);rcases List.mem_append.1 hm with hm|hm
    ·exact hne g hm
    ·simp at hm;rw[hm];simp
theorem FullG.at_:∀{out:List (List α)},FullG mk z out→∀(r:List (List α)) (g h:List α) (s:List (List α)),out=r++g :: h :: s→∃x t,h=x :: t∧z<weightN (mk (g++[x]))
 | out,hf,[],g,h,s,e=>by subst e;exact hf.1
 | out,hf,p :: r,g,h,s,e=>by subst e;exact FullG.at_ hf.2 r g h s rfl
theorem evenG_cases{z:Int}(out:List (List α)):evenG mk z out=out ∨
  (∃r a b,out=r++[a,b]∧lightN (mk b) (z+24)=true∧((weightN (mk (a++b))≤z∧evenG mk z out=r++[a++b])∨(z<weightN (mk (a++b))∧∃k,cutAt (mk (a++b))=some k∧evenG mk z out=r++[(a++b).take k,(a++b).drop k]))):=by
 unfold evenG;cases h:out.reverse with
 | nil=>exact .inl rfl
 | cons b t =>
  cases t with
  | nil=>exact .inl rfl
  | cons a r =>
   have ho:out=r.reverse++[a,b]:=by
    have:=congrArg List.reverse h;simpa using this
   simp only;by_cases hl:lightN (mk b) (z+24)=true
   ·rw[if_pos hl];by_cases hw:weightN (mk (a++b))≤z
    ·rw[if_pos hw];exact .inr ⟨r.reverse,a,b,ho,hl,.inl ⟨hw,rfl⟩⟩
    ·rw[if_neg hw];cases hc:cutAt (mk (a++b)) with
     | none=>exact .inl rfl
     | some k=>exact .inr ⟨r.reverse,a,b,ho,hl,.inr ⟨by omega,k,hc,rfl⟩⟩
   ·rw[if_neg hl];exact .inl rfl
theorem evenG_flat(z:Int)(out:List (List α)):(evenG mk z out).flatten=out.flatten:=by
 rcases evenG_cases mk (z:=z) out with h|⟨r,a,b,rfl,_,⟨_,h⟩|⟨_,k,_,h⟩⟩
 ·rw[h]
 ·rw[h];simp
 ·rw[h];simp[List.take_append_drop]
theorem evenG_heavy(r:List (List α))(a b:List α)(h:lightN (mk b) (z+24)=false):evenG mk z (r++[a,b])=r++[a,b]:=by
 unfold evenG;simp only[List.reverse_append,List.reverse_cons,List.reverse_nil,List.nil_append,List.cons_append];rw[if_neg (by rw[h];simp)]
theorem evenG_last(z:Int)(r:List (List α))(a b:List α)(h:lightN (mk b) (z+24)=true):(weightN (mk (a++b))≤z∧evenG mk z (r++[a,b])=r++[a++b])∨(z<weightN (mk (a++b))∧∀k,cutAt (mk (a++b))=some k→evenG mk z (r++[a,b])=r++[(a++b).take k,(a++b).drop k]):=by
 unfold evenG;simp only[List.reverse_append,List.reverse_cons,List.reverse_nil,List.nil_append,List.cons_append,List.reverse_reverse];rw[if_pos h];by_cases hw:weightN (mk (a++b))≤z
 ·exact .inl ⟨hw,by rw[if_pos hw]⟩
 ·refine .inr ⟨by omega,λk hk=>?_⟩;rw[if_neg hw,hk]
end
def mkL(es:List EntryA):NodeA:=⟨true,es,[],[]⟩
theorem mkL_wt(es:List EntryA):weightN (mkL es)=2+sumE es:=by unfold weightN mkL;simp[sumK]
def EntsOk(es:List EntryA):Prop:=(∀e∈es,rightE e=true)∧(es.map (·.key)).Pairwise λa b=>ltS a b=true
theorem EntsOk.sub{es es':List EntryA}(h:EntsOk es)(hs:es'.Sublist es):EntsOk es' :=
 ⟨λe he=>h.1 e (hs.subset he),h.2.sublist (hs.map _)⟩
theorem mkL_right{es:List EntryA}(h:EntsOk es)(hl:es.length≤65535):rightN (mkL es)=true:=right_leafI h.1 h.2 hl
theorem mkL_cut{a b:List EntryA}{z:Int}(hz:232≤z)(hz2:z≤1000)(h:EntsOk (a++b))(ha:weightN (mkL a)≤z)(hb:lightN (mkL b) (z+24)=true)(hw:z<weightN (mkL (a++b))) :
  ∃k,cutAt (mkL (a++b))=some k∧0<k∧k<(a++b).length∧weightN (mkL ((a++b).take k))≤z∧weightN (mkL ((a++b).drop k))≤z:=by
 have hb2:b=[]∨3 * weightN (mkL b)<z:=by
  unfold lightN mkL at hb;simp only[Bool.true_and,Bool.not_true,Bool.false_and,Bool.or_false,Bool.or_eq_true,decide_eq_true_eq] at hb;rcases hb with hb|hb
  ·exact .inl (List.length_eq_zero_iff.1 (by omega))
  ·exact .inr (by unfold mkL;omega)
 rcases hb2 with rfl|hb2
 ·rw[List.append_nil] at hw;omega
 ·rw[mkL_wt] at ha hb2;rw[mkL_wt,sumE_append] at hw;have hlen:=sumE_len (a++b);rw[sumE_append] at hlen;have hr:=mkL_right h (by omega);obtain⟨k,p1,p2,p3,p4⟩:=cut_fit2 hr hz (by rw[mkL_wt,sumE_append];omega) (by rw[mkL_wt,sumE_append];omega);have hp:=p1.leaf rfl;rw[apart_leafA rfl] at p3;rw[apart_leafB rfl] at p4;exact⟨k,p2,by omega,hp.2,p3,p4⟩
abbrev KidA:=Nat × ByteArray
def mkI(ks:List KidA):NodeA:=⟨false,[],ks.tail.map (·.2),ks.map λk=>(k.1:Int)⟩
theorem mkI_wt(ks:List KidA):weightN (mkI ks)=6+sumK (ks.tail.map (·.2)):=by unfold weightN mkI;simp[sumE]
def KidsOk(ks:List KidA):Prop:=(∀k∈ks,2≤k.1∧k.1<256∧keyB k.2=true)∧(ks.map (·.2)).Pairwise (λa b=>ltS a b=true)∧(ks.map (·.1)).Nodup
theorem KidsOk.sub{es es':List KidA}(h:KidsOk es)(hs:es'.Sublist es):KidsOk es' :=
 ⟨λe he=>h.1 e (hs.subset he),h.2.1.sublist (hs.map _),h.2.2.sublist (hs.map _)⟩
theorem mkI_right{ks:List KidA}(h:KidsOk ks)(h2:2≤ks.length):rightN (mkI ks)=true:=by
 refine right_innerI (by simpa using h2) (by simp;omega) (λk hk=>?_) ?_ (λs hs=>?_) ?_
 ·obtain⟨x,hx,rfl⟩:=List.mem_map.1 hk;have:=h.1 x hx;omega
 ·have:=h.2.2;rw[List.nodup_iff_pairwise_ne,List.pairwise_map] at this ⊢;exact this.imp (λhne e=>hne (by omega))
 ·obtain⟨x,hx,rfl⟩:=List.mem_map.1 hs;exact (h.1 x (List.mem_of_mem_tail hx)).2.2
 ·exact h.2.1.sublist ((List.tail_sublist ks).map _)
theorem mkI_light{ks:List KidA}{z:Int}(hne:ks≠[])(h:lightN (mkI ks) (z+24)=true)(_hz:18<z):ks.length=1∨3 * weightN (mkI ks)<z:=by
 unfold lightN mkI at h;simp only[Bool.false_and,Bool.not_false,Bool.true_and,Bool.false_or,Bool.or_eq_true,decide_eq_true_eq,List.length_map] at h;have:=List.length_pos_iff.2 hne;rcases h with h|h
 ·exact .inl (by omega)
 ·exact .inr (by unfold mkI;omega)
theorem tail_append{α:Type}{a b:List α}(h:a≠[]):(a++b).tail=a.tail++b:=by
 cases a with
 | nil=>exact absurd rfl h
 | cons x a=>rfl
theorem tail_take1{α:Type}(l:List α)(k:Nat):(l.take k).tail=l.tail.take (k-1):=by
 cases l with
 | nil=>simp
 | cons x l =>
  cases k with
  | zero=>simp
  | succ k=>simp
theorem sumK_tail{ks:List KidA}(h:KidsOk ks):sumK (ks.map (·.2))≤sumK (ks.tail.map (·.2))+37:=by
 cases ks with
 | nil=>simp[sumK]
 | cons k ks =>
  have:=(keyB_iff _).1 (h.1 k List.mem_cons_self).2.2;simp only[List.map_cons,List.tail_cons,sumK];omega
theorem mkI_cut{a b:List KidA}{z:Int}(hz:232≤z)(h:KidsOk (a++b))(hna:a≠[])(hnb:b≠[])(ha:weightN (mkI a)≤z)(hb:lightN (mkI b) (z+24)=true)(hw:z<weightN (mkI (a++b))) :
  ∃k,cutAt (mkI (a++b))=some k∧2≤k∧k+2≤(a++b).length∧weightN (mkI ((a++b).take k))≤z∧weightN (mkI ((a++b).drop k))≤z:=by
 have hb2:=mkI_light hnb hb (by omega);have hkb:=sumK_tail (h.sub (List.sublist_append_right a b));have h2:2≤(a++b).length:=by
  have:=List.length_pos_iff.2 hna;have:=List.length_pos_iff.2 hnb;simp;omega
 have hr:=mkI_right h h2;have hsb:sumK (b.tail.map (·.2))≤77 * z∧(3 * (6+sumK (b.tail.map (·.2)))<z∨sumK (b.tail.map (·.2))=0):=by
  rcases hb2 with hb2|hb2
  ·have:b.tail=[]:=by rw[← List.length_eq_zero_iff,List.length_tail];omega
   rw[this];simp[sumK];omega
  ·rw[mkI_wt] at hb2;omega
 rw[mkI_wt] at ha;have hwt:weightN (mkI (a++b))=6+(sumK (a.tail.map (·.2))+sumK (b.map (·.2))):=by
  rw[mkI_wt,tail_append hna,List.map_append,sumK_append]
 obtain⟨k,p1,p2,p3,p4⟩:=cut_fit2 hr hz hw (by rw[hwt];omega);have hp:=p1.inner rfl;have e1:(mkI (a++b)).kids.length=(a++b).length:=by simp[mkI]
 rw[e1] at hp;rw[apart_innerA rfl] at p3;rw[apart_innerB rfl] at p4;have q3:(⟨false,[],(mkI (a++b)).keys.take (k-1),(mkI (a++b)).kids.take k⟩:NodeA)=mkI ((a++b).take k):=by
  unfold mkI;simp only[List.map_take,NodeA.mk.injEq,true_and,and_true];rw[tail_take1,List.map_take]
 have q4:(⟨false,[],(mkI (a++b)).keys.drop k,(mkI (a++b)).kids.drop k⟩:NodeA)=mkI ((a++b).drop k):=by
  unfold mkI;simp only[List.map_drop,NodeA.mk.injEq,true_and,and_true];rw[List.tail_drop,← List.map_drop,List.drop_tail]
 rw[q3] at p3;rw[q4] at p4;exact⟨k,p2,hp.1,by omega,p3,p4⟩
def chS(sz:Nat)(l:List PairS):Nat:=(l.map λx=>ndV sz x.2).sum
theorem chS_append(sz:Nat)(a b:List PairS):chS sz (a++b)=chS sz a+chS sz b:=by unfold chS;simp
theorem chS_cons(sz:Nat)(x:PairS)(b:List PairS):chS sz (x :: b)=ndV sz x.2+chS sz b:=by unfold chS;simp
section
variable {G G':GA}{gen:Nat}{T:TreeT}{lo:ByteArray}{hi:Option ByteArray}{l:List PairS}{q:List Nat}{kk:List ByteArray}{cc:List Int}
theorem Ents.count{es:List EntryA}(h:Ents G gen es l q)(hr:∀e∈es,rightE e=true):q.length=chS G.size l:=by
 induction h with
 | nil=>rfl
 | @cons e x ids es l q h1 h2 _ ih =>
  rw[List.length_append,chS_cons,ih (λy hy=>hr y (List.mem_cons_of_mem _ hy))];congr 1
  have he:=hr e List.mem_cons_self;unfold rightE at he;simp only[Bool.and_eq_true] at he;unfold ndV;rcases h2 with ⟨c1,c2,c3⟩|⟨c1,c2⟩
  ·have h4:=he.2;rw[if_pos c1] at h4;simp only[Bool.and_eq_true,decide_eq_true_eq] at h4;rw[c2] at h4;rw[if_pos h4.2,c3];rfl
  ·rw[if_neg (by have:=c2.lo;omega)];exact c2.len
theorem Kids.count{P:List PairS→List Nat→Prop}(hT:∀lo hi c l q,T lo hi c l q→P l q)(h:Kids T lo hi kk cc l q){sz a:Nat}(hP:∀l q,P l q→q.length+1≤2 * l.length+chS sz l∧a≤l.length∧a+a≤q.length+1∧chS sz l+1≤q.length):q.length+kk.length+1≤2 * l.length+chS sz l∧(kk.length+1) * a≤l.length∧(kk.length+1) * (a+a)≤q.length+kk.length+1∧chS sz l+kk.length+1≤q.length:=by
 induction h with
 | one h=>have:=hP _ _ (hT _ _ _ _ _ h);simpa using this
 | cons h _ _ ih =>
  have h1:=hP _ _ (hT _ _ _ _ _ h);have h2:=ih;simp only[List.length_append,List.length_cons,chS_append];have m1:∀k:Nat,(k+1+1) * a=(k+1) * a+a:=λk=>Nat.succ_mul _ _
  have m2:∀k:Nat,(k+1+1) * (a+a)=(k+1) * (a+a)+(a+a):=λk=>Nat.succ_mul _ _
  rw[m1,m2];omega
theorem Kids.pos(h:Kids (TrD G gen 0) lo hi kk cc l q):False:=by
 cases h with
 | one h=>exact h
 | cons h _ _=>exact h
theorem TrD.count:∀(d:Nat) (lo:ByteArray) (hi:Option ByteArray) (id:Nat) (l:List PairS) (q:List Nat),TrD G gen d lo hi id l q→q.length+1≤2 * l.length+chS G.size l∧2 ^ (d-1)≤l.length∧2 ^ (d-1)+2 ^ (d-1)≤q.length+1∧chS G.size l+1≤q.length
 | 0,_,_,_,_,_,h=>h.elim
 | d+1,lo,hi,id,l,q,h=>by
  obtain⟨n,q,hp,hr,rfl,h⟩:=h;rcases h with ⟨hl,rfl,hne,he,_⟩|⟨hl,hk⟩
  ·have hc:=he.count (rightN_ents hr);have:1≤l.length:=List.length_pos_iff.2 hne;simp only[List.length_cons];refine⟨by omega,by simpa using this,by simp,by omega⟩
  ·have hlen:=hk.len;have h2:=(rightN_sz hr).2.2 hl;have h3:=hk.count (P:=λl q=>q.length+1≤2 * l.length+chS G.size l∧2 ^ (d-1)≤l.length∧2 ^ (d-1)+2 ^ (d-1)≤q.length+1∧chS G.size l+1≤q.length) (λlo hi c l q h=>TrD.count d lo hi c l q h) (sz:=G.size) (a:=2 ^ (d-1)) (λ_ _ h=>h);have hd:1≤d:=by
    rcases Nat.eq_zero_or_pos d with h0|h0
    ·subst h0;exact hk.pos.elim
    ·exact h0
   obtain⟨k,hkk⟩:∃k,n.keys.length=k+1:=⟨n.keys.length-1,by omega⟩;rw[hkk] at h3;have e:2 ^ (d+1-1)=2 ^ (d-1)+2 ^ (d-1):=by
    rw[show d+1-1=(d-1)+1 by omega,Nat.pow_succ];omega
   rw[e];generalize 2 ^ (d-1)=a at *
   have m1:(k+1+1) * a=k * a+a+a:=by rw[Nat.succ_mul,Nat.succ_mul]
   have m2:(k+1+1) * (a+a)=k * (a+a)+(a+a)+(a+a):=by rw[Nat.succ_mul,Nat.succ_mul]
   rw[m1,m2] at h3;have m3:k≤k * (a+a)∨a=0:=by
    rcases Nat.eq_zero_or_pos a with h|h
    ·exact .inr h
    ·exact .inl (Nat.le_mul_of_pos_right k (by omega))
   simp only[List.length_cons];refine⟨by omega,by omega,?_,by omega⟩;omega
theorem Kids.sorted(hb:∀lo hi c l q,T lo hi c l q→∀x∈l,inB lo hi x.1)(hT:∀lo hi c l q,T lo hi c l q→SortedP l)(h:Kids T lo hi kk cc l q):SortedP l:=by
 induction h with
 | one h=>exact hT _ _ _ _ _ h
 | @cons lo hi s c keys kids l1 l2 q1 q2 h h2 h3 ih =>
  refine List.pairwise_append.2 ⟨hT _ _ _ _ _ h,ih,λx hx y hy=>?_⟩;exact lt_of_lt_not ((hb _ _ _ _ _ h x hx).2 s rfl) (h3.bounds hb y hy).1
theorem TrD.sorted:∀(d:Nat) (lo:ByteArray) (hi:Option ByteArray) (id:Nat) (l:List PairS) (q:List Nat),TrD G gen d lo hi id l q→SortedP l
 | 0,_,_,_,_,_,h=>h.elim
 | d+1,lo,hi,id,l,q,h=>by
  obtain⟨n,q,hp,hr,rfl,h⟩:=h;rcases h with ⟨hl,rfl,hne,he,_⟩|⟨hl,hk⟩
  ·have:=rightN_leaf hr hl;rw[he.keys] at this;exact List.pairwise_map.1 this
  ·exact hk.sorted (TrD.bounds d) (TrD.sorted d)
def PairOk(x:PairS):Prop:=keyB x.1=true∧x.2.size≤4096
theorem Ents.ok{es:List EntryA}(h:Ents G gen es l q)(hr:∀e∈es,rightE e=true):∀x∈l,PairOk x:=by
 induction h with
 | nil=>intro x hx;simp at hx
 | @cons e x ids es l q h1 h2 _ ih =>
  intro y hy;rcases List.mem_cons.1 hy with rfl|hy
  ·have he:=hr e List.mem_cons_self;unfold rightE at he;simp only[Bool.and_eq_true] at he;refine⟨by rw[← h1];exact he.1,?_⟩;rcases h2 with ⟨c1,c2,c3⟩|⟨c1,c2⟩
   ·have h4:=he.2;rw[if_pos c1] at h4;simp only[Bool.and_eq_true,decide_eq_true_eq] at h4;rw[← c2];omega
   ·exact c2.hi
  ·exact ih (λz hz=>hr z (List.mem_cons_of_mem _ hz)) y hy
theorem Kids.ok(hT:∀lo hi c l q,T lo hi c l q→∀x∈l,PairOk x)(h:Kids T lo hi kk cc l q):∀x∈l,PairOk x:=by
 induction h with
 | one h=>exact hT _ _ _ _ _ h
 | cons h _ _ ih =>
  intro x hx;rcases List.mem_append.1 hx with hx|hx
  ·exact hT _ _ _ _ _ h x hx
  ·exact ih x hx
theorem TrD.ok:∀(d:Nat) (lo:ByteArray) (hi:Option ByteArray) (id:Nat) (l:List PairS) (q:List Nat),TrD G gen d lo hi id l q→∀x∈l,PairOk x
 | 0,_,_,_,_,_,h=>h.elim
 | d+1,lo,hi,id,l,q,h=>by
  obtain⟨n,q,hp,hr,rfl,h⟩:=h;rcases h with ⟨hl,rfl,hne,he,_⟩|⟨hl,hk⟩
  ·exact he.ok (rightN_ents hr)
  ·exact hk.ok (TrD.ok d)
end
structure TD(G:GA)(gen root d:Nat)(ps:List PairS)(pgs:List Nat):Prop where
 tree:(root=0∧d=0∧ps=[]∧pgs=[])∨(1≤d∧TrD G gen d e0 none root ps pgs)
 nodup:pgs.Nodup
section
variable {G G':GA}{l l':List Nat}{gen root d:Nat}{ps:List PairS}{pgs:List Nat}
theorem TD.none(G:GA)(gen:Nat):TD G gen 0 0 [] []:=⟨.inl ⟨rfl,rfl,rfl,rfl⟩,List.nodup_nil⟩
theorem TD.ok(h:TD G gen root d ps pgs):∀x∈ps,PairOk x:=by
 rcases h.tree with ⟨_,_,rfl,_⟩|⟨_,h⟩
 ·intro x hx;simp at hx
 ·exact TrD.ok _ _ _ _ _ _ h
theorem TD.lt(h:TD G gen root d ps pgs):∀i∈pgs,2≤i∧i<G.blocks:=by
 rcases h.tree with ⟨_,_,_,rfl⟩|⟨_,h⟩
 ·intro x hx;simp at hx
 ·exact TrD.ltq _ _ _ _ _ _ h
theorem TD.count(h:TD G gen root d ps pgs):pgs.length+(if ps=[] then 0 else 1)≤2 * ps.length+chS G.size ps∧(ps≠[]→2 ^ (d-1)≤ps.length)∧(if d=0 then 0 else 2 ^ (d-1)+2 ^ (d-1))≤pgs.length+1∧chS G.size ps+(if ps=[] then 0 else 1)≤pgs.length:=by
 rcases h.tree with ⟨_,rfl,rfl,rfl⟩|⟨hd,h⟩
 ·simp[chS]
 ·obtain⟨h1,h2,h3,h4⟩:=TrD.count _ _ _ _ _ _ h;have hne:=TrD.ne _ _ _ _ _ _ h;rw[if_neg hne,if_neg (by omega)];exact⟨h1,λ_=>h2,h3,h4⟩
theorem TD.few(h:TD G gen root d ps pgs)(hb:G.blocks≤256):pgs.length≤254∧d≤7:=by
 have hl:pgs.length≤254:=by
  have h1:=nodup_fewW 254 (pgs.map λ(i:Nat)=>(i:Int)-2) (List.pairwise_map.2 (h.nodup.imp (λhne e=>hne (by omega)))) (λi hi=>by
   obtain⟨j,hj,rfl⟩:=List.mem_map.1 hi;have:=h.lt j hj;omega)
  simpa using h1
 refine⟨hl,?_⟩;have h3:=h.count.2.2.1;rcases Nat.lt_or_ge 7 d with hd|hd
 ·rw[if_neg (by omega)] at h3;have:2 ^ 7≤2 ^ (d-1):=Nat.pow_le_pow_right (by omega) (by omega);omega
 ·exact hd
theorem TD.mono(h:TD G gen root d ps pgs){gen':Nat}(hg:gen≤gen')(hb:G'.blocks=G.blocks)(hs:G'.size=G.size)(hv:∀i∈pgs,G'.view i=G.view i):TD G' gen' root d ps pgs :=
 ⟨h.tree.imp id (λh=>⟨h.1,TrD.mono hg hb hs _ _ _ _ _ _ hv h.2⟩),h.nodup⟩
end
def downsP(gen:Nat):GA→List Nat→List (NodeA × ByteArray)→StA (List KidA)
 | G,l,[]=>.inl (G,l,[])
 | G,l,x :: r=>match downI G l 0 x.1 with
  | none=>.inr (downK G x.1)
  | some i=>match downsP gen (downG G l gen 0 x.1) (downL G l 0 x.1) r with
   | .inr k=>.inr k
   | .inl (G2,l2,ks)=>.inl (G2,l2,(i,x.2) :: ks)
theorem downG_cost(G:GA)(l:List Nat)(gen old:Nat)(n:NodeA):(downG G l gen old n).size=G.size∧(downG G l gen old n).blocks=G.blocks∧(downG G l gen old n).cost≤G.cost+1:=by
 unfold downG;split
 ·exact⟨rfl,rfl,by omega⟩
 ·unfold placeG;split
  ·exact⟨rfl,rfl,Nat.le_refl _⟩
  ·split
   ·exact⟨rfl,rfl,Nat.le_refl _⟩
   ·exact⟨rfl,rfl,Nat.le_refl _⟩
def firstG{α:Type}(fst:α→ByteArray)(g:List α):ByteArray:=match g with|[]=>e0|x :: _=>fst x
theorem firstG_flat{α:Type}(fst:α→ByteArray){g:List α}{r:List (List α)}(h:g≠[]):firstG fst ((g :: r).flatten)=firstG fst g:=by
 cases g with
 | nil=>exact absurd rfl h
 | cons x g=>rfl
structure UnitL{α:Type}(mk:List α→NodeA)(fst:α→ByteArray)(gen d:Nat)(U:GA→ByteArray→Option ByteArray→List α→List PairS→List Nat→Prop):Prop where
 split:∀{G lo hi g1 g2 ps q},g1≠[]→g2≠[]→U G lo hi (g1++g2) ps q→∃l1 l2 q1 q2,U G lo (some (firstG fst g2)) g1 l1 q1∧U G (firstG fst g2) hi g2 l2 q2∧ps=l1++l2∧q=q1++q2∧inB lo hi (firstG fst g2)
 body:∀{G lo hi g ps q},g≠[]→U G lo hi g ps q→Body G gen (TrD G gen d) d lo hi (mk g) ps q
 mono:∀{G G' lo hi g ps q},G'.blocks=G.blocks→G'.size=G.size→(∀i∈q,G'.view i=G.view i)→U G lo hi g ps q→U G' lo hi g ps q
theorem downs_tr{α:Type}{mk:List α→NodeA}{fst:α→ByteArray}{gen d:Nat}{U:GA→ByteArray→Option ByteArray→List α→List PairS→List Nat→Prop}(hU:UnitL mk fst gen d U) :
  ∀(gs:List (List α)) (G:GA) (l:List Nat) (lo:ByteArray) (hi:Option ByteArray) (ps:List PairS) (q:List Nat),gs≠[]→CtxG G l→(∀g∈gs,g≠[])→(∀g∈gs,rightN (mk g)=true∧weightN (mk g)≤(G.size:Int)-24) →
   U G lo hi gs.flatten ps q→q.Nodup→UseL l (· ∈ q)→(∀x∈q,2≤x) →
   (downsP gen G l (gs.map λg=>(mk g,firstG fst g))=.inr 3∧phiL l<(gs.length:Int)) ∨
   ∃G' l' ks q',downsP gen G l (gs.map λg=>(mk g,firstG fst g))=.inl (G',l',ks)∧ks.map (·.2)=gs.map (firstG fst)∧Upd G l (· ∈ q) G' l' (· ∈ q')∧q'.Nodup∧(∀x∈q',2≤x)∧CtxG G' l'∧UseL l' (· ∈ q') ∧
    Kids (TrD G' gen (d+1)) lo hi (ks.tail.map (·.2)) (ks.map λk=>(k.1:Int)) ps q'∧q'.length=q.length+gs.length∧G'.cost≤G.cost+gs.length
 | [],_,_,_,_,_,_,hne,_,_,_,_,_,_,_=>absurd rfl hne
 | g :: r,G,l,lo,hi,ps,q,_,hc,hg,hf,hu0,hq,hu,h2=>by
  have hgne:=hg g List.mem_cons_self;obtain⟨hr,hw⟩:=hf g List.mem_cons_self;rw[List.map_cons,downsP];cases hd:downI G l 0 (mk g) with
  | none =>
   refine .inl ⟨by simp only;unfold downK;rw[if_pos ⟨hr,hw⟩],?_⟩;have:=downI_none hd ⟨hr,hw⟩ (.inl rfl);simp only[List.length_cons];omega
  | some i =>
   simp only;have hphi:=(upd_down (gen:=gen) (G:=G) (l:=l) (.inl rfl) hd (by rw[hc.low.1];simp)).2.1;rw[if_pos rfl] at hphi;by_cases hre:r=[]
   ·subst hre;simp only[List.flatten_cons,List.flatten_nil,List.append_nil] at hu0;obtain⟨b1,b2,b3,b4,b5,b6,_⟩:=down_tr (gen:=gen) hc (.inl rfl) hd hr (hU.body hgne hu0) hq hu (λh=>absurd rfl h) h2;refine .inr ⟨_,_,[(i,firstG fst g)],i :: q,rfl,rfl,b1.iff (λk=>by simp) (λk=>by rw[List.mem_cons]),b3,λx hx=>?_,b5,λk hk=>b6 k (List.mem_cons.1 hk),.one b2,by simp,(downG_cost G l gen 0 (mk g)).2.2⟩;rcases List.mem_cons.1 hx with rfl|hx
    ·exact b4
    ·exact h2 x hx
   ·obtain⟨g2,r2,rfl⟩:∃g2 r2,r=g2 :: r2:=List.exists_cons_of_ne_nil hre;have hg2:=hg g2 (by simp);rw[List.flatten_cons] at hu0;obtain⟨l1,l2,q1,q2,u1,u2,rfl,rfl,hin⟩:=hU.split hgne (by
     rw[List.flatten_cons];intro h;exact hg2 (List.append_eq_nil_iff.1 h).1) hu0
    rw[firstG_flat fst hg2] at u1 u2 hin;have hnd:=List.nodup_append.1 hq;have hu1:UseL l (λk=>k∈q1):=λk hk=>hu k (by simp[hk])
    have hu2:UseL l (λk=>k∈q2):=λk hk=>hu k (by simp[hk])
    obtain⟨b1,b2,b3,b4,b5,b6,_⟩:=down_tr (gen:=gen) hc (.inl rfl) hd hr (hU.body hgne u1) hnd.1 hu1 (λh=>absurd rfl h) (λx hx=>h2 x (by simp[hx]));have b1':=b1.iff (A':=λk=>k∈q1) (A1':=λk=>k∈i :: q1) (λk=>by simp) (λk=>by rw[List.mem_cons]);have hdis:∀k∈q2,¬ (k∈q1):=λk hk h=>hnd.2.2 k h k hk rfl
    obtain⟨v1,v2⟩:=b1'.views hdis hu2;rcases downs_tr hU (g2 :: r2) _ _ (firstG fst g2) hi l2 q2 (by simp) b5 (λx hx=>hg x (List.mem_cons_of_mem _ hx)) (λx hx=>by rw[b1.sz];exact hf x (List.mem_cons_of_mem _ hx)) (hU.mono b1.bl b1.sz (λk hk=>(v1 k hk).1) u2) hnd.2.1 v2 (λx hx=>h2 x (by simp[hx])) with ⟨c1,c2⟩|⟨G2,l2',ks,q',c1,c2,c3,c4,c5,c6,c7,c8,c9,c10⟩
    ·refine .inl ⟨by rw[c1],?_⟩;simp only[List.length_cons] at c2 ⊢;omega
    ·rw[c1];have hks:ks≠[]:=by
      intro h;rw[h] at c2;simp at c2
     obtain⟨k0,kr,rfl⟩:=List.exists_cons_of_ne_nil hks;have hk0:k0.2=firstG fst g2:=by
      simp only[List.map_cons,List.cons.injEq] at c2;exact c2.1
     have huse1:UseL (downL G l 0 (mk g)) (λk=>k∈i :: q1):=λk hk=>b6 k (List.mem_cons.1 hk)
     have hdi:∀k∈i :: q1,¬ (k∈q2):=λk hk h=>(v1 k h).2.2 hk
     obtain⟨w1,w2⟩:=c3.views hdi huse1;have hT:=TrD.mono (G':=G2) (Nat.le_refl gen) c3.bl c3.sz (d+1) _ _ _ _ _ (λk hk=>(w1 k hk).1) b2;refine .inr ⟨G2,l2',(i,firstG fst g) :: k0 :: kr,(i :: q1)++q',rfl,by have c2':(k0 :: kr).map (·.2)=(g2 :: r2).map (firstG fst):=c2;simp only[List.map_cons] at c2' ⊢;rw[c2'],?_,?_,λx hx=>?_,c6,λk hk=>?_,?_,?_,?_⟩
     ·have f1:=b1'.frame (B:=λk=>k∈q2) (λk hk=>⟨hdis k hk,hu2.ne0 hk⟩);have f2:=c3.frame (B:=λk=>k∈i :: q1) (λk hk=>⟨hdi k hk,huse1.ne0 hk⟩);have f1':=f1.iff (A':=λk=>k∈q1++q2) (A1':=λk=>k∈(i :: q1)++q2) (λk=>List.mem_append) (λk=>List.mem_append);have f2':=f2.iff (A':=λk=>k∈(i :: q1)++q2) (A1':=λk=>k∈(i :: q1)++q') (λk=>by rw[List.mem_append];exact or_comm) (λk=>by rw[List.mem_append];exact or_comm);exact f1'.trans f2' hu
     ·refine List.nodup_append.2 ⟨b3,c4,λx hx y hy e=>?_⟩;subst e;exact (w1 x hx).2.2 hy
     ·rcases List.mem_append.1 hx with hx|hx
      ·rcases List.mem_cons.1 hx with rfl|hx
       ·exact b4
       ·exact h2 x (by simp[hx])
      ·exact c5 x hx
     ·rcases List.mem_append.1 hk with hk|hk
      ·exact w2 k hk
      ·exact c7 k hk
     ·have hj:=Kids.join c8 (.one hT) hin;simp only[List.tail_cons,List.map_cons,List.nil_append,List.cons_append] at hj ⊢;rw[hk0];exact hj
     ·simp only[List.length_append,List.length_cons] at c9 ⊢;omega
     ·have:=(downG_cost G l gen 0 (mk g)).2.2;simp only[List.length_cons] at c10 ⊢;omega
end Go.Proofs.YtchklfmggpconaaGreatDoor
