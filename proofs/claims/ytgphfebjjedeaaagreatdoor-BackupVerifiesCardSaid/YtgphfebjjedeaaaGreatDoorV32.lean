import Derived.Test.YtgphfebjjedeaaaGreatDoorV31
namespace Go.Proofs.YtgphfebjjedeaaaGreatDoor
open Go.RowKit
theorem zBL(d:Nat->Nat):∀(m b a x:Nat),(x=b\/(a<=x/\x<a+m))->d (vF d b a m)<=d x
 | 0,b,a,x,h=>by
  rcases h with rfl|h
  .exact uJ _
  .omega
 | m+1,b,a,x,h=>by
  rw[vF];by_cases hlt:d a<d b
  .rw[if_pos hlt];rcases h with rfl|⟨h1,h2⟩
   .exact uT (zBL d m a (a+1) a (.inl rfl)) (Nat.le_of_lt hlt)
   .by_cases e:x=a
    .exact zBL d m a (a+1) x (.inl e)
    .exact zBL d m a (a+1) x (.inr ⟨by omega,by omega⟩)
  .rw[if_neg hlt];rcases h with rfl|⟨h1,h2⟩
   .exact zBL d m x (a+1) x (.inl rfl)
   .by_cases e:x=a
    .subst e;exact uT (zBL d m b (x+1) b (.inl rfl)) (by omega)
    .exact zBL d m b (a+1) x (.inr ⟨by omega,by omega⟩)
theorem zIS(g:Nat->Int)(lo:Nat):∀(k:Nat),g lo<=0->0<g (lo+k)->∃a,lo<=a/\a<lo+k/\g a<=0/\0<g (a+1)
 | 0,h1,h2=>by simp only[uO] at h2;omega
 | k+1,h1,h2=>by
  by_cases h3:0<g (lo+k)
  .obtain⟨a,a1,a2,a3,a4⟩:=zIS g lo k h1 h3;exact⟨a,a1,by omega,a3,a4⟩
  .exact⟨lo+k,by omega,by omega,by omega,h2⟩
theorem zJv(g:Nat->Int)(M:Int)(lo k:Nat)(h1:g lo<=M)(h2 : -M<=g (lo+k))(h3:∀a,lo<=a->a<lo+k->g (a+1)-g a<=2 * M):∃a,lo<=a/\a<=lo+k /\ -M<=g a/\g a<=M:=by
 by_cases c1:0<g lo
 .exact⟨lo,uJ _,by omega,by omega,h1⟩
 .by_cases c2:g (lo+k)<=0
  .exact⟨lo+k,by omega,uJ _,h2,by omega⟩
  .obtain⟨a,a1,a2,a3,a4⟩:=zIS g lo k (by omega) (by omega);have:=h3 a a1 a2;by_cases c3 : -M<=g a
   .exact⟨a,a1,by omega,c3,by omega⟩
   .exact⟨a+1,by omega,by omega,by omega,by omega⟩
theorem zPd{l:List zR}{k:Nat}{e:zR}(h:l[k]? = some e):yI (l.take (k+1))=yI (l.take k)+zAe e:=by
 rw[qD l k e h,jT];simp[yI]
theorem zPe{l:List ByteArray}{k:Nat}{e:ByteArray}(h:l[k]? = some e):yJ (l.take (k+1))=yJ (l.take k)+(5+(e.size:Int)):=by
 rw[qD l k e h,jG];simp[yJ]
theorem zNY(l:List zR)(k:Nat):yI (l.take k)+yI (l.drop k)=yI l:=by
 rw[<- jT,wC]
theorem zNZ(l:List ByteArray)(k:Nat):yJ (l.take k)+yJ (l.drop k)=yJ l:=by
 rw[<- jG,wC]
theorem zON{M:Int}:∀(l:List zR),(∀e∈l,zAe e<=M)->yI l<=M * l.length
 | [],_=>by simp[yI]
 | e :: l,h=>by
  have h1:=h e uH;have h2:=zON l (λx hx=>h x (uI _ hx));rw[yI,uD,Int.natCast_add,Int.mul_add];simp only[Int.natCast_one,Int.mul_one];omega
theorem zOO{M:Int}:∀(l:List ByteArray),(∀e∈l,5+(e.size:Int)<=M)->yJ l<=M * l.length
 | [],_=>by simp[yJ]
 | e :: l,h=>by
  have h1:=h e uH;have h2:=zOO l (λx hx=>h x (uI _ hx));rw[yJ,uD,Int.natCast_add,Int.mul_add];simp only[Int.natCast_one,Int.mul_one];omega
theorem zGd{e:zR}(h:qZ e=true):zAe e<=59:=by
 unfold qZ at h;simp only[uL] at h;have hk:=(jX e.key).1 h.1;have h2:=h.2;unfold zAe;by_cases hc:e.chain=0
 .rw[if_pos hc] at h2 ⊢;simp only[uL,uR] at h2;omega
 .rw[if_neg hc];omega
theorem zBM{n:zJ}(h:zQ n=true):∀e∈n.entries,qZ e=true:=by
 unfold zQ at h;split at h
 .simp only[uL,tC] at h;exact h.1.1.1.1
 .simp only[uL,wV] at h;intro e he;rw[h.1.1.1.1.1.1.1] at he;simp at he
theorem zBo{n:zJ}(h:zQ n=true):∀s∈n.keys,qP s=true:=by
 unfold zQ at h;split at h
 .simp only[uL,wV] at h;intro e he;rw[h.1.1.1.2] at he;simp at he
 .simp only[uL,tC] at h;exact h.1.2
def zMA(n:zJ):Option Nat:=if zQ n=true/\0<jI n then some (vF (zAw n) (vG n) (vG n) (jI n)) else none
theorem zR5(n:zJ):zFR n=(zMA n).map (zW n):=by
 unfold zFR zMA;split <;> rfl
section
variable {n:zJ}{a:Nat}
theorem zGe(hl:n.leaf=true)(hf:zA0 n):zH (zW n a).1=2+yI (n.entries.take a)/\zH (zW n a).2.2=2+(yI n.entries-yI (n.entries.take a))/\zH n=2+yI n.entries:=by
 have h:=zNY n.entries a;unfold zA0 at hf;rw[if_pos hl] at hf;rw[zEh hl,zEi hl];unfold zH;simp only[hl,tY,yJ,hf.1];omega
theorem zGf(hl:n.leaf=false)(hf:zA0 n):zH (zW n a).1=6+yJ (n.keys.take (a-1))/\zH (zW n a).2.2=6+(yJ n.keys-yJ (n.keys.take a))/\zH n=6+yJ n.keys:=by
 have h:=zNZ n.keys a;unfold zA0 at hf;rw[if_neg (by rw[hl];simp)] at hf;rw[zD3 hl,zD4 hl];unfold zH;simp only[hl,wH,tO,yI,hf.1];omega
theorem zMB(hr:zQ n=true)(hf:zA0 n){x:Nat}(hx:zBX n x){M:Int}(hM:(zAw n x:Int)<=M) :
  ∃a,zBX n a/\zMA n=some a/\zH (zW n a).1-zH (zW n a).2.2<=M/\zH (zW n a).2.2-zH (zW n a).1<=M:=by
 have hpos:0<jI n/\vG n<=x/\x<vG n+jI n:=by
  unfold jI vG;cases hl:n.leaf with
  | true=>have:=hx.leaf hl;simp only[tY];omega
  | false=>have:=hx.inner hl;simp only[wH,tO];omega
 obtain⟨p1,p2⟩:=zOp n hpos.1;have hb:=zBL (zAw n) (jI n) (vG n) (vG n) x (.inr hpos.2);generalize hq:vF (zAw n) (vG n) (vG n) (jI n)=q at p1 p2 hb
 have hpl:=zL1 p1 p2;have hu:=zEz hf hpl;refine⟨q,hpl,?_,?_⟩
 .unfold zMA;rw[if_pos ⟨hr,hpos.1⟩,hq]
 .split at hu <;> omega
theorem zRK(hr:zQ n=true){W:Int}(hW:232<=W)(h1:W<zH n)(h2:zH n+61<=2 * W) :
  ∃a,zBX n a/\zMA n=some a/\zH (zW n a).1<=W/\zH (zW n a).2.2<=W:=by
 have hf:=vA hr;cases hl:n.leaf with
 | true =>
  have hM:∀e∈n.entries,zAe e<=59:=λe he=>zGd (zBM hr e he)
  obtain⟨_,_,hw⟩:=zGe (a:=0) hl hf;have hs:=zON n.entries hM;have hlen:4<=n.entries.length:=by omega
  obtain⟨L,hL⟩:∃L,n.entries.length=L+2:=⟨n.entries.length-2,by omega⟩;have hel:∀k,k<n.entries.length->∃e,n.entries[k]? = some e/\zAe e<=59/\0<=zAe e/\yI (n.entries.take (k+1))=yI (n.entries.take k)+zAe e:=λk hk=>by
   refine⟨n.entries[k],uA hk,hM _ (wL hk),?_,zPd (uA hk)⟩;have:=zBs n.entries[k];omega
  have h0:yI (n.entries.take 0)=0:=by simp[yI]
  have hall:yI (n.entries.take n.entries.length)=yI n.entries:=by rw[wU]
  obtain⟨a,a1,a2,a3,a4⟩:=zJv (λa=>2 * yI (n.entries.take a)-yI n.entries) 59 1 L (by
   obtain⟨e,_,e2,e3,e4⟩:=hel 0 (by omega);have:=zCm n.entries 1;simp only[uV] at e4;show 2 * yI (n.entries.take 1)-yI n.entries<=59;omega) (by
   obtain⟨e,_,e2,e3,e4⟩:=hel (1+L) (by omega);rw[show 1+L+1=n.entries.length by omega,hall] at e4;have:=zAm (n.entries.take (1+L));show -59<=2 * yI (n.entries.take (1+L))-yI n.entries;omega) (λk k1 k2=>by
   obtain⟨e,_,e2,e3,e4⟩:=hel k (by omega);show 2 * yI (n.entries.take (k+1))-yI n.entries-(2 * yI (n.entries.take k)-yI n.entries)<=2 * 59;omega)
  have hp:zBX n a:=⟨λ_=>by omega,λhc=>(by rw[hl] at hc;cases hc)⟩;have hu:=zEz hf hp;obtain⟨w1,w2,_⟩:=zGe (a:=a) hl hf;obtain⟨b,b1,b2,b3,b4⟩:=zMB hr hf hp (M:=59) (by split at hu <;> omega);obtain⟨v1,v2,_⟩:=zGe (a:=b) hl hf;exact⟨b,b1,b2,by omega,by omega⟩
 | false =>
  have hM:∀s∈n.keys,5+(s.size:Int)<=37:=λs hs=>by have:=(jX s).1 (zBo hr s hs);omega
  obtain⟨_,_,hw⟩:=zGf (a:=0) hl hf;have hs:=zOO n.keys hM;have hlen:4<=n.keys.length:=by omega
  have hkl:n.kids.length=n.keys.length+1:=(zAv hr hl).2.1;obtain⟨L,hL⟩:∃L,n.keys.length=L+3:=⟨n.keys.length-3,by omega⟩;have hel:∀k,k<n.keys.length->∃e,0<=e/\e<=37/\yJ (n.keys.take (k+1))=yJ (n.keys.take k)+e:=λk hk=>by
   have:=hM _ (wL hk);exact⟨5+(n.keys[k].size:Int),by omega,this,zPe (uA hk)⟩
  have h0:yJ (n.keys.take 0)=0:=by simp[yJ]
  have hall:yJ (n.keys.take n.keys.length)=yJ n.keys:=by rw[wU]
  obtain⟨a,a1,a2,a3,a4⟩:=zJv (λa=>yJ (n.keys.take (a-1))+yJ (n.keys.take a)-yJ n.keys) 37 2 L (by
   obtain⟨e,e2,e3,e4⟩:=hel 0 (by omega);obtain⟨f,f2,f3,f4⟩:=hel 1 (by omega);have:=zCn n.keys 2;simp only[uV] at e4 f4;show yJ (n.keys.take 1)+yJ (n.keys.take 2)-yJ n.keys<=37;omega) (by
   obtain⟨e,e2,e3,e4⟩:=hel (2+L) (by omega);rw[show 2+L+1=n.keys.length by omega,hall] at e4;have:=zAn (n.keys.take (2+L-1));show -37<=yJ (n.keys.take (2+L-1))+yJ (n.keys.take (2+L))-yJ n.keys;omega) (λk k1 k2=>by
   obtain⟨e,e2,e3,e4⟩:=hel k (by omega);obtain⟨f,f2,f3,f4⟩:=hel (k-1) (by omega);rw[show k-1+1=k by omega] at f4;show yJ (n.keys.take (k+1-1))+yJ (n.keys.take (k+1))-yJ n.keys-(yJ (n.keys.take (k-1))+yJ (n.keys.take k)-yJ n.keys)<=2 * 37;rw[tN];omega)
  have hp:zBX n a:=⟨λhc=>(by rw[hl] at hc;cases hc),λ_=>by omega⟩;have hu:=zEz hf hp;obtain⟨w1,w2,_⟩:=zGf (a:=a) hl hf;obtain⟨b,b1,b2,b3,b4⟩:=zMB hr hf hp (M:=37) (by split at hu <;> omega);obtain⟨v1,v2,_⟩:=zGf (a:=b) hl hf;have h3:=b1.inner hl;obtain⟨f,f2,f3,f4⟩:=hel (b-1) (by omega);rw[show b-1+1=b by omega] at f4;exact⟨b,b1,b2,by omega,by omega⟩
theorem zOP(hr:zQ n=true){W:Int}(hW:232<=W)(h1:W<zH n)(h2:zH n<=W+77) :
  ∃a,zBX n a/\zFR n=some (zW n a)/\zH (zW n a).1<=W/\zH (zW n a).2.2<=W:=by
 obtain⟨a,a1,a2,a3⟩:=zRK hr hW h1 (by omega);exact⟨a,a1,by rw[zR5,a2];rfl,a3⟩
end
theorem zDI{es:List zR}(h1:∀e∈es,qZ e=true)(h2:(es.map (·.key)).Pairwise λa b=>qH a b=true)(h3:es.length<=65535):zQ ⟨true,es,[],[]⟩=true:=by
 unfold zQ;simp only[tY,uL,uR,tC];exact⟨⟨⟨⟨h1,rfl⟩,rfl⟩,zGT h2⟩,h3⟩
theorem zKn{keys:List ByteArray}{kids:List Int}(h1:2<=kids.length)(h2:kids.length=keys.length+1)(h3:∀k∈kids,2<=k/\k<256)(h4:kids.Nodup)(h5:∀s∈keys,qP s=true)(h6:keys.Pairwise λa b=>qH a b=true):zQ ⟨false,[],keys,kids⟩=true:=by
 unfold zQ;simp only[wH,tO,uL,uR,tC];have h7:=zDz 256 kids h4 (λi hi=>by have:=h3 i hi;omega);exact⟨⟨⟨⟨⟨⟨⟨rfl,h1⟩,h2⟩,h7⟩,λk hk=>by have:=h3 k hk;simp[zCo];omega⟩,h4⟩,h5⟩,zGT h6⟩
theorem zGg{n:zJ}(h:zQ n=true):n.entries.length<=65535/\n.kids.length<=256/\(n.leaf=false->2<=n.kids.length):=by
 unfold zQ at h;split at h
 .rename_i hl;simp only[uL,uR,wV] at h;refine⟨h.2,by rw[h.1.1.2];simp,λhf=>by rw[hl] at hf;cases hf⟩
 .simp only[uL,uR,wV] at h;obtain⟨⟨⟨⟨⟨⟨⟨h1,h2⟩,h3⟩,h4⟩,h5⟩,h6⟩,h7⟩,h8⟩:=h;exact⟨by rw[h1];simp,h4,λ_=>h2⟩
section
variable {G G':GA}{gen:Nat}{T:zEk}{lo:ByteArray}{hi:Option ByteArray}{l:List zE}{q:List Nat}{kk:List ByteArray}{cc:List Int}
theorem jL.keys{es:List zR}(h:jL G gen es l q):es.map (·.key)=l.map (·.1):=by
 induction h with
 | nil=>rfl
 | cons h1 _ _ ih=>simp[h1,ih]
theorem jL.len{es:List zR}(h:jL G gen es l q):es.length=l.length:=by
 have:=congrArg List.length h.keys;simpa using this
theorem jL.append{es1 es2:List zR}{l1 l2:List zE}{q1 q2:List Nat}(h1:jL G gen es1 l1 q1)(h2:jL G gen es2 l2 q2):jL G gen (es1++es2) (l1++l2) (q1++q2):=by
 induction h1 with
 | nil=>exact h2
 | cons a b _ ih=>simp only[wX,uM];exact .cons a b ih
theorem jL.split:∀(es1:List zR) {es2:List zR} {l:List zE} {q:List Nat},jL G gen (es1++es2) l q->∃l1 l2 q1 q2,jL G gen es1 l1 q1/\jL G gen es2 l2 q2/\l=l1++l2/\q=q1++q2
 | [],es2,l,q,h=>⟨[],l,[],q,.nil,h,rfl,rfl⟩
 | e :: es1,es2,l,q,h=>by
  generalize hs:e :: es1++es2=es at h
  cases h with
  | nil=>simp at hs
  | cons a b c =>
   simp only[wX,List.cons.injEq] at hs;obtain⟨rfl,rfl⟩:=hs;obtain⟨l1,l2,q1,q2,h1,h2,rfl,rfl⟩:=jL.split es1 c;exact⟨_,_,_,_,.cons a b h1,h2,rfl,(uM _ _ _).symm⟩
theorem jL.one{e:zR}{x:zE}{ids:List Nat}(h1:e.key=x.1)(h2:zHN G gen e x.2 ids):jL G gen [e] [x] ids:=by
 have:=jL.cons h1 h2 .nil;simpa using this
theorem jL.lt{es:List zR}(h:jL G gen es l q):∀i∈q,2<=i/\i<G.blocks:=by
 induction h with
 | nil=>intro i hi;simp at hi
 | cons _ b _ ih =>
  intro i hi;rcases uN.1 hi with hi|hi
  .rcases b with ⟨_,_,b⟩|⟨_,b⟩
   .rw[b] at hi;simp at hi
   .exact b.lt i hi
  .exact ih i hi
theorem vY.ne(hT:∀lo hi c l q,T lo hi c l q->l≠[])(h:vY T lo hi kk cc l q):l≠[]:=by
 cases h with
 | one h=>exact hT _ _ _ _ _ h
 | cons h _ _=>exact λe=>hT _ _ _ _ _ h (List.append_eq_nil_iff.1 e).1
theorem TrD.ne:∀(d:Nat) (lo:ByteArray) (hi:Option ByteArray) (id:Nat) (l:List zE) (q:List Nat),TrD G gen d lo hi id l q->l≠[]
 | 0,_,_,_,_,_,h=>h.elim
 | d+1,lo,hi,id,l,q,h=>by
  obtain⟨n,q,_,_,_,h⟩:=h;rcases h with ⟨_,_,h,_⟩|⟨_,h⟩
  .exact h
  .exact h.ne (TrD.ne d)
theorem vY.ltq(hT:∀lo hi c l q,T lo hi c l q->∀i∈q,2<=i/\i<G.blocks)(h:vY T lo hi kk cc l q):∀i∈q,2<=i/\i<G.blocks:=by
 induction h with
 | one h=>exact hT _ _ _ _ _ h
 | cons h _ _ ih =>
  intro i hi;rcases uN.1 hi with hi|hi
  .exact hT _ _ _ _ _ h i hi
  .exact ih i hi
theorem TrD.ltq:∀(d:Nat) (lo:ByteArray) (hi:Option ByteArray) (id:Nat) (l:List zE) (q:List Nat),TrD G gen d lo hi id l q->∀i∈q,2<=i/\i<G.blocks
 | 0,_,_,_,_,_,h=>h.elim
 | d+1,lo,hi,id,l,q,h=>by
  obtain⟨n,q,hp,_,rfl,h⟩:=h;intro i hi;rcases uP.1 hi with rfl|hi
  .exact⟨hp.lo,hp.lt⟩
  .rcases h with ⟨_,_,_,h,_⟩|⟨_,h⟩
   .exact h.lt i hi
   .exact h.ltq (TrD.ltq d) i hi
theorem vY.heads(hT:∀lo hi c l q,T lo hi c l q->∃r,q=c :: r)(h:vY T lo hi kk cc l q):∃ks:List Nat,cc=ks.map (λ(i:Nat)=>(i:Int))/\ks.Sublist q:=by
 induction h with
 | @one lo hi c l q h =>
  obtain⟨r,rfl⟩:=hT _ _ _ _ _ h;exact⟨[c],rfl,List.Sublist.cons_cons _ (List.nil_sublist _)⟩
 | @cons lo hi s c keys kids l1 l2 q1 q2 h _ _ ih =>
  obtain⟨r,rfl⟩:=hT _ _ _ _ _ h;obtain⟨ks,rfl,hs⟩:=ih;exact⟨c :: ks,rfl,List.Sublist.cons_cons _ (hs.trans (List.sublist_append_right _ _))⟩
theorem TrD.head:∀(d:Nat) (lo:ByteArray) (hi:Option ByteArray) (id:Nat) (l:List zE) (q:List Nat),TrD G gen d lo hi id l q->∃r,q=id :: r
 | 0,_,_,_,_,_,h=>h.elim
 | d+1,lo,hi,id,l,q,h=>by
  obtain⟨n,q,_,_,rfl,_⟩:=h;exact⟨_,rfl⟩
theorem vY.rise(hb:∀lo hi c l q,T lo hi c l q->∀x∈l,inB lo hi x.1)(hT:∀lo hi c l q,T lo hi c l q->l≠[])(h:vY T lo hi kk cc l q):(kk.Pairwise λa b=>qH a b=true)/\∀s∈kk,qH lo s=true:=by
 induction h with
 | one=>exact⟨List.Pairwise.nil,λs hs=>by simp at hs⟩
 | @cons lo hi s c keys kids l1 l2 q1 q2 h _ _ ih =>
  have hls:qH lo s=true:=by
   obtain⟨x,hx⟩:=List.exists_mem_of_ne_nil _ (hT _ _ _ _ _ h);have:=hb _ _ _ _ _ h x hx;exact zKK this.1 (this.2 s rfl)
  refine⟨wT.2 ⟨λt ht=>ih.2 t ht,ih.1⟩,λt ht=>?_⟩;rcases uP.1 ht with rfl|ht
  .exact hls
  .exact qQ hls (ih.2 t ht)
theorem vY.right{d:Nat}(h:vY (TrD G gen d) lo hi kk cc l q)(hn:q.Nodup)(hk:∀s∈kk,qP s=true)(h2:2<=cc.length)(hb:G.blocks<=256):zQ ⟨false,[],kk,cc⟩=true:=by
 obtain⟨ks,rfl,hs⟩:=h.heads (TrD.head d);refine zKn h2 h.len (λk hk=>?_) ?_ hk (h.rise (TrD.bounds d) (TrD.ne d)).1
 .obtain⟨i,hi,rfl⟩:=rK.1 hk;have:=h.ltq (TrD.ltq d) i (hs.subset hi);omega
 .exact tK.2 ((hn.sublist hs).imp (λh e=>h (by omega)))
theorem zIR.cut{d:Nat}{n:zJ}{a:Nat}(hb:zIR G gen (TrD G gen d) d lo hi n l q)(hr:zQ n=true)(hp:zBX n a)(hq:q.Nodup)(hbl:G.blocks<=256) :
  ∃l1 l2 q1 q2,zIR G gen (TrD G gen d) d lo (some (zW n a).2.1) (zW n a).1 l1 q1/\zIR G gen (TrD G gen d) d (zW n a).2.1 hi (zW n a).2.2 l2 q2/\l=l1++l2/\q=q1++q2 /\
   inB lo hi (zW n a).2.1/\qP (zW n a).2.1=true/\zQ (zW n a).1=true/\zQ (zW n a).2.2=true:=by
 rcases hb with ⟨hl,hd,hne,he,hbd⟩|⟨hl,hk⟩
 .have hpl:=hp.leaf hl;have hright:=zBM hr;have hpw:=zEN hr hl;have hlen:n.entries.length<=65535:=by
   unfold zQ at hr;rw[if_pos hl] at hr;simp only[uL,uR] at hr;exact hr.2
  obtain⟨e,hea⟩:∃e,n.entries[a]? = some e:=⟨_,uA hpl.2⟩;have hap:zW n a=(⟨true,n.entries.take a,[],[]⟩,e.key,⟨true,n.entries.drop a,[],[]⟩):=by unfold zW;rw[if_pos hl,hea]
  rw[hap];simp only;have he2:jL G gen (n.entries.take a++n.entries.drop a) l q:=by rw[wC];exact he
  obtain⟨l1,l2,q1,q2,s1,s2,rfl,rfl⟩:=jL.split _ he2;have hkeys:=he.keys;have hsort:yK (l1++l2):=by
   rw[hkeys] at hpw;exact tK.1 hpw
  have hdrop:n.entries.drop a=e :: n.entries.drop (a+1):=by
   obtain⟨h1,rfl⟩:=uB.1 hea;exact wK h1
  obtain⟨y,l3,rfl,hy⟩:∃y l3,l2=y :: l3/\e.key=y.1:=by
   have h4:=s2.keys;rw[hdrop] at h4;cases l2 with
   | nil=>simp at h4
   | cons y l3=>simp only[wO,List.cons.injEq] at h4;exact⟨y,l3,rfl,h4.1⟩
  have hse:=List.pairwise_append.1 hsort;have h1ne:l1≠[]:=λe1=>by
   have:=s1.len;rw[e1,uQ,uF] at this;omega
  have hin:inB lo hi e.key:=by rw[hy];exact hbd y (by simp)
  refine⟨l1,y :: l3,q1,q2,.inl ⟨rfl,hd,h1ne,s1,λx hx=>⟨(hbd x (wR _ hx)).1,λk hk=>?_⟩⟩,.inl ⟨rfl,hd,by simp,s2,λx hx=>⟨?_,(hbd x (wQ _ hx)).2⟩⟩,rfl,rfl,hin,?_,?_,?_⟩
  .injection hk with hk;rw[<- hk,hy];exact hse.2.2 x hx y uH
  .rw[hy];rcases uP.1 hx with rfl|hx
   .exact zBA _
   .exact zBj ((wT.1 hse.2.1).1 x hx)
  .have:=hright e (wD hea);unfold qZ at this;simp only[uL] at this;exact this.1
  .refine zDI (λx hx=>hright x (pJ hx)) ?_ (by rw[uQ];omega);rw[List.map_take];exact hpw.sublist (List.take_sublist _ _)
  .refine zDI (λx hx=>hright x (pK hx)) ?_ (by rw[wM];omega);rw[List.map_drop];exact hpw.sublist (List.drop_sublist _ _)
 .have hpl:=hp.inner hl;obtain⟨hpw,hkl,_⟩:=zAv hr hl;have hkb:=zBo hr;have hlt:a-1<n.keys.length:=by omega
  obtain⟨s,hs⟩:∃s,n.keys[a-1]? = some s:=⟨_,uA hlt⟩;have hap:zW n a=(⟨false,[],n.keys.take (a-1),n.kids.take a⟩,s,⟨false,[],n.keys.drop a,n.kids.drop a⟩):=by
   unfold zW;rw[if_neg (by rw[hl];simp)];simp[List.getD,hs]
  have hke:n.keys=n.keys.take (a-1)++s :: n.keys.drop a:=by
   have h1:n.keys.drop (a-1)=s :: n.keys.drop (a-1+1):=by
    obtain⟨h1,rfl⟩:=uB.1 hs;exact wK h1
   rw[show a-1+1=a by omega] at h1;rw[<- h1,wC]
  have hks:vY (TrD G gen d) lo hi (n.keys.take (a-1)++s :: n.keys.drop a) (n.kids.take a++n.kids.drop a) l q:=by rw[<- hke,wC];exact hk
  obtain⟨l1,l2,q1,q2,k1,k2,rfl,rfl,k5⟩:=vY.split _ hks (by rw[uQ,uQ];omega) (by rw[<- hke];exact hpw);rw[hap];simp only;have hnd:=wG.1 hq;refine⟨l1,l2,q1,q2,.inr ⟨rfl,k1⟩,.inr ⟨rfl,k2⟩,rfl,rfl,k5,hkb s (wD hs),?_,?_⟩
  .exact k1.right hnd.1 (λt ht=>hkb t (pJ ht)) (by rw[uQ];omega) hbl
  .exact k2.right hnd.2.1 (λt ht=>hkb t (pK ht)) (by rw[wM];omega) hbl
end
structure zCZ(G:GA)(l:List Nat):Prop where
 low:zGb l
 len:l.length=G.blocks
 b256:G.blocks<=256
 s256:256<=G.size
 s1024:G.size<=1024
section
variable {G G' G1:GA}{l l' l1:List Nat}{gen:Nat}{lo:ByteArray}{hi:Option ByteArray}{ps:List zE}{q:List Nat}
theorem zCZ.upd{A A1:NP}(hc:zCZ G l)(h:Upd G l A G' l' A1)(hA:∀i,A i->2<=i):zCZ G' l' :=
 ⟨(h.fr hA).lowL hc.low,by rw[h.len,h.bl];exact hc.len,by rw[h.bl];exact hc.b256,by rw[h.sz];exact hc.s256,by rw[h.sz];exact hc.s1024⟩
theorem zCZ.free2(hc:zCZ G l){i:Nat}(h:l[i]? = some 0):2<=i:=by
 rcases p9 i 2 with h2|h2
 .obtain rfl|rfl:i=0\/i=1:=by omega
  .rw[hc.low.1] at h;simp at h
  .rw[hc.low.2] at h;simp at h
 .exact h2
theorem zAb.ne0{A:NP}(hu:zAb l A){i:Nat}(hi:A i):l[i]? ≠ some 0:=λe=>by
 rcases hu i hi with h|h <;> rw[e] at h <;> simp at h
theorem Upd.views{A A1:NP}(h:Upd G l A G1 l1 A1){ids:List Nat}(hd:∀i∈ids,¬ A i)(hu:zAb l (· ∈ ids)):(∀i∈ids,G1.view i=G.view i/\l1[i]? = l[i]? /\ ¬ A1 i)/\zAb l1 (· ∈ ids) :=
 ⟨λi hi=>h.view (hd i hi) (hu.ne0 hi),λi hi=>by rw[(h.view (hd i hi) (hu.ne0 hi)).2.1];exact hu i hi⟩
theorem zMC{old:Nat}(h:zAC l old=none)(ho:vH l old):zA4 l<=0:=by
 unfold zAC at h;by_cases hz:old=0
 .rw[if_neg (by simp[hz])] at h;rcases Int.lt_or_le 0 (zA4 l) with hp|hp
  .obtain⟨i,hi⟩:=zL4 (l:=l) (by omega);rw[hi] at h;cases h
  .exact hp
 .split at h
  .cases h
  .rename_i hn;rcases ho with ho|⟨_,ho⟩
   .exact absurd ho hz
   .rcases ho with ho|ho
    .rcases Int.lt_or_le 0 (zA4 l) with hp|hp
     .obtain⟨i,hi⟩:=zRD (l:=l) (by omega) ho;rw[hi] at h;cases h
     .exact hp
    .exfalso;refine hn ⟨hz,?_⟩;unfold jS;rw[uK,ho];simp
theorem zD8{old:Nat}{n:zJ}(h:qO G l old n=none)(hd:zCd n G.size)(ho:vH l old):zA4 l<=0:=by
 unfold qO at h;rw[if_pos hd] at h;exact zMC h ho
theorem zR6{n:zJ}(hr:zQ n=true)(i:Int)(gen:Nat):zAf ⟨zCl n,i,gen,yB n⟩=.inl n:=by
 unfold zAf zCl;cases hl:n.leaf with
 | true =>
  have:=(zFu true (yB n) n).2 ⟨hr,hl,rfl⟩;simp[this]
 | false =>
  have:=(zFu false (yB n) n).2 ⟨hr,hl,rfl⟩;simp[this]
theorem zHU{old i d:Nat}{n:zJ}(hc:zCZ G l)(ho:vH l old)(hdn:qO G l old n=some i)(hr:zQ n=true)(hb:zIR G gen (TrD G gen d) d lo hi n ps q)(hq:q.Nodup)(hu:zAb l (· ∈ q))(hoq:old≠0->old ∉ q)(_h2:∀x∈q,2<=x) :
  Upd G l (λk=>(k=old/\old≠0)\/k∈q) (yG G l gen old n) (yS G l old n) (λk=>k=i\/k∈q)/\TrD (yG G l gen old n) gen (d+1) lo hi i ps (i :: q)/\(i :: q).Nodup/\2<=i/\zCZ (yG G l gen old n) (yS G l old n) /\
   zAb (yS G l old n) (λk=>k=i\/k∈q)/\vH (yS G l old n) i:=by
 obtain⟨u1,_,u3,u4,u5,u6⟩:=zIP (gen:=gen) ho hdn (by rw[hc.low.1];simp);have hA2:∀k,(k=old/\old≠0)->2<=k:=λk hk=>by
  obtain⟨rfl,hz⟩:=hk;rcases ho with h|h
  .exact absurd h hz
  .exact h.1
 have huA:zAb l (λk=>k=old/\old≠0):=λk hk=>by
  obtain⟨rfl,hz⟩:=hk;rcases ho with h|h
  .exact absurd h hz
  .exact h.2
 have hdis:∀k∈q,¬ (k=old/\old≠0):=λk hk h=>hoq h.2 (h.1 ▸ hk)
 obtain⟨hv,hu1⟩:=u1.views hdis hu;have hiq:i ∉ q:=λhm=>(hv i hm).2.2 rfl
 have hi2:2<=i:=by
  rcases u1.inn i rfl with ⟨h,_⟩|⟨h,_⟩
  .exact hA2 i h
  .exact hc.free2 h
 have hc1:=hc.upd u1 hA2;have hui:=u1.use huA;refine⟨u1.frame (λk hk=>⟨hdis k hk,hu.ne0 hk⟩),⟨n,q,⟨hi2,?_,⟨_,u5,uJ _,zR6 hr _ _⟩,by rw[u1.sz];exact u6.2⟩,hr,rfl,hb.mono (uJ _) u1.bl u1.sz (λk hk=>(hv k hk).1)⟩,wF.2 ⟨hiq,hq⟩,hi2,hc1,λk hk=>?_,.inr ⟨hi2,hui i rfl⟩⟩
 .rw[u1.bl];have:=hc.len;omega
 .rcases hk with rfl|hk
  .exact hui k rfl
  .exact hu1 k hk
def vW(o:zBr):List ByteArray:=if o.two=true then [o.key] else []
def zA6(o:zBr):List Int:=if o.two=true then [(o.id0:Int),(o.id1:Int)] else [(o.id0:Int)]
structure zPf(G:GA)(l:List Nat)(A:NP)(gen d:Nat)(lo:ByteArray)(hi:Option ByteArray)(ps:List zE)(G':GA)(l':List Nat)(o:zBr)(pgs:List Nat):Prop where
 upd:Upd G l A G' l' (λk=>k∈pgs)
 nodup:pgs.Nodup
 two:∀i∈pgs,2<=i
 kids:vY (TrD G' gen d) lo hi (vW o) (zA6 o) ps pgs
 keys:∀s∈vW o,qP s=true
 ctx:zCZ G' l'
 use:zAb l' (λk=>k∈pgs)
theorem zJw{old d:Nat}{n:zJ}(hc:zCZ G l)(ho:vH l old)(hr:zQ n=true)(hw:zH n<=(G.size:Int)-24+77)(hb:zIR G gen (TrD G gen d) d lo hi n ps q)(hq:q.Nodup)(hu:zAb l (· ∈ q))(hoq:old≠0->old ∉ q)(h2:∀x∈q,2<=x) :
  (qL G l gen old n=.inr 3/\zA4 l<=1) \/
  ∃G' l' o pgs,qL G l gen old n=.inl (G',l',o)/\o.news=false/\zPf G l (λk=>(k=old/\old≠0)\/k∈q) gen (d+1) lo hi ps G' l' o pgs/\pgs.length<=q.length+2/\(zH n<=(G.size:Int)-24->o.two=false):=by
 have hs:=hc.s256;by_cases hfit:zH n<=(G.size:Int)-24
 .unfold qL;rw[if_pos hfit];cases hdn:qO G l old n with
  | none =>
   refine .inl ⟨?_,by have:=zD8 hdn ⟨hr,hfit⟩ ho;omega⟩;unfold zBJ;rw[if_pos ⟨hr,hfit⟩]
  | some i =>
   obtain⟨a1,a2,a3,a4,a5,a6,a7⟩:=zHU hc ho hdn hr hb hq hu hoq h2;refine .inr ⟨_,_,_,i :: q,rfl,rfl,⟨a1.iff (λ_=>pB) (λk=>by rw[uP]),a3,λk hk=>?_,?_,λs hs=>by simp[vW] at hs,a5,λk hk=>a6 k (uP.1 hk)⟩,by simp,λ_=>rfl⟩
   .rcases uP.1 hk with rfl|hk
    .exact a4
    .exact h2 k hk
   .exact .one a2
 .obtain⟨a,ha,hcut,w1,w2⟩:=zOP hr (W:=(G.size:Int)-24) (by omega) (by omega) (by omega);obtain⟨l1,l2,q1,q2,b1,b2,rfl,rfl,b5,b6,b7,b8⟩:=hb.cut hr ha hq hc.b256;obtain⟨⟨x,k,y⟩,hx⟩:∃x,x=zW n a:=⟨_,rfl⟩;rw[<- hx] at hcut w1 w2 b1 b2 b5 b6 b7 b8;simp only at w1 w2 b1 b2 b5 b6 b7 b8;have hnd:=wG.1 hq;have e:qL G l gen old n=(match qO G l old x with
    | none=>.inr (zBJ G x)
    | some i=>match qO (yG G l gen old x) (yS G l old x) 0 y with
     | none=>.inr (zBJ (yG G l gen old x) y)
     | some j=>.inl (yG (yG G l gen old x) (yS G l old x) gen 0 y,yS (yG G l gen old x) (yS G l old x) 0 y,⟨i,j,k,true,false⟩)):=by
   unfold qL;rw[if_neg hfit,hcut];simp only;rw[if_pos ⟨w1,w2⟩];try rfl
  rw[e];cases hdn:qO G l old x with
  | none =>
   refine .inl ⟨?_,by have:=zD8 hdn ⟨b7,w1⟩ ho;omega⟩;simp only;unfold zBJ;rw[if_pos ⟨b7,w1⟩]
  | some i =>
   have hu1:zAb l (· ∈ q1):=λk hk=>hu k (wR _ hk)
   have hu2:zAb l (· ∈ q2):=λk hk=>hu k (wQ _ hk)
   obtain⟨a1,a2,a3,a4,a5,a6,a7⟩:=zHU hc ho hdn b7 b1 hnd.1 hu1 (λhz hm=>hoq hz (wR _ hm)) (λk hk=>h2 k (wR _ hk));simp only;generalize hGx:yG G l gen old x=Gx at a1 a2 a5 ⊢
   generalize hlx:yS G l old x=lx at a1 a5 a6 a7 ⊢
   have hdq:∀k∈q2,¬ ((k=old/\old≠0)\/k∈q1):=λk hk h=>by
    rcases h with ⟨rfl,hz⟩|h
    .exact hoq hz (wQ _ hk)
    .exact hnd.2.2 k h k hk rfl
   obtain⟨v1,v2⟩:=a1.views hdq hu2;have huA:zAb l (λk=>(k=old/\old≠0)\/k∈q1):=λk hk=>by
    rcases hk with ⟨rfl,hz⟩|hk
    .rcases ho with h|h
     .exact absurd h hz
     .exact h.2
    .exact hu1 k hk
   cases hdm:qO Gx lx 0 y with
   | none =>
    refine .inl ⟨?_,?_⟩
    .simp only;unfold zBJ;rw[if_pos ⟨b8,by rw[a1.sz];exact w2⟩]
    .have h3:=zD8 hdm ⟨b8,by rw[a1.sz];exact w2⟩ (.inl rfl);have h4:=(zIP (gen:=gen) ho hdn (by rw[hc.low.1];simp)).2.1;rw[hlx] at h4;split at h4 <;> omega
   | some j =>
    have hb2:=b2.mono (uJ _) a1.bl a1.sz (λk hk=>(v1 k hk).1);obtain⟨c1,c2,c3,c4,c5,c6,c7⟩:=zHU (gen:=gen) a5 (.inl rfl) hdm b8 hb2 hnd.2.1 v2 (λh=>absurd rfl h) (λk hk=>h2 k (wQ _ hk));simp only;generalize hGy:yG Gx lx gen 0 y=Gy at c1 c2 c5 ⊢
    generalize hly:yS Gx lx 0 y=ly at c1 c5 c6 c7 ⊢
    -- the first half stays
    have hd1:∀k∈i :: q1,¬ ((k=0/\(0:Nat)≠0)\/k∈q2):=λk hk h=>by
     rcases h with ⟨_,h⟩|h
     .exact h rfl
     .rcases uP.1 hk with rfl|hk
      .exact (v1 k h).2.2 (.inl rfl)
      .exact hnd.2.2 k hk k h rfl
    obtain⟨z1,z2⟩:=c1.views hd1 (λk hk=>a6 k (uP.1 hk));have hT1:TrD Gy gen (d+1) lo (some k) i l1 (i :: q1):=TrD.mono (uJ _) c1.bl c1.sz _ _ _ _ _ _ (λt ht=>(z1 t ht).1) a2;have f1:=a1.frame (B:=λt=>t∈q2) (λt ht=>⟨hdq t ht,hu2.ne0 ht⟩);have f2:=(c1.frame (B:=λt=>t∈i :: q1) (λt ht=>⟨hd1 t ht,(λe=>by
     rcases a6 t (uP.1 ht) with h|h <;> rw[e] at h <;> simp at h)⟩)).iff (A':=λt=>(t=i\/t∈q1)\/t∈q2) (A1':=λt=>t∈(i :: q1)++(j :: q2)) (λt=>by
      simp only[uP];constructor
      .rintro ((h|h)|h)
       .exact .inr (.inl h)
       .exact .inr (.inr h)
       .exact .inl (.inr h)
      .rintro ((⟨_,h⟩|h)|(h|h))
       .exact absurd rfl h
       .exact .inr h
       .exact .inl (.inl h)
       .exact .inl (.inr h)) (λt=>by
      simp only[uN,uP];exact or_comm)
    have huB:zAb l (λt=>((t=old/\old≠0)\/t∈q1)\/t∈q2):=λt ht=>by
     rcases ht with ht|ht
     .exact huA t ht
     .exact hu2 t ht
    have f3:=(f1.trans f2 huB).iff (A':=λk=>(k=old/\old≠0)\/k∈q1++q2) (A1':=λt=>t∈(i :: q1)++(j :: q2)) (λt=>by
     rw[uN,or_assoc]) (λt=>pB)
    have huE:=f3.use (λt ht=>by
     rcases ht with ⟨rfl,hz⟩|ht
     .exact huA t (.inl ⟨rfl,hz⟩)
     .exact hu t ht)
    refine .inr ⟨Gy,ly,_,(i :: q1)++(j :: q2),rfl,rfl,⟨f3,?_,λt ht=>?_,?_,λs hs=>?_,c5,huE⟩,by simp;omega,λh=>absurd h hfit⟩
    .refine wG.2 ⟨a3,c3,λt ht u hu e=>?_⟩;subst e;rcases uP.1 hu with rfl|hu
     .exact (z1 t ht).2.2 (.inl rfl)
     .exact hd1 t ht (.inr hu)
    .rcases uN.1 ht with ht|ht
     .rcases uP.1 ht with rfl|ht
      .exact a4
      .exact h2 t (wR _ ht)
     .rcases uP.1 ht with rfl|ht
      .exact c4
      .exact h2 t (wQ _ ht)
    .exact .cons hT1 b5 (.one c2)
    .simp[vW] at hs;rw[hs];exact b6
end
def zGD(f:Nat->Int):Nat->Int
 | 0=>0
 | n+1=>zGD f n+f n
theorem zGE(f g:Nat->Int):∀n,zGD (λi=>f i+g i) n=zGD f n+zGD g n
 | 0=>rfl
 | n+1=>by simp only[zGD,zGE f g n];omega
theorem zMD(x:Nat):∀n,zGD (λi=>if i=x then 1 else 0) n=if x<n then 1 else 0
 | 0=>by simp[zGD]
 | n+1=>by
  rw[zGD,zMD x n];by_cases h1:n=x
  .subst h1;simp
  .rw[if_neg h1];by_cases h2:x<n
   .rw[if_pos h2,if_pos (by omega)];rfl
   .rw[if_neg h2,if_neg (by omega)];rfl
theorem zJx:∀n,zGD (λ_=>0) n=0
 | 0=>rfl
 | n+1=>by rw[zGD,zJx n];rfl
theorem zKo:∀(a:List Nat) (n:Nat),a.Nodup->(∀i∈a,i<n)->zGD (λi=>if i∈a then 1 else 0) n=a.length
 | [],n,_,_=>by simpa using zJx n
 | x :: a,n,hn,h=>by
  have hn2:=wF.1 hn;have e:(λi=>if i∈x :: a then (1:Int) else 0)=λi=>(if i=x then 1 else 0)+(if i∈a then 1 else 0):=by
   funext i
   by_cases h1:i=x
   .subst h1;simp[hn2.1]
   .simp[h1]
  rw[e,zGE,zMD,if_pos (h x uH),zKo a n hn2.2 (λi hi=>h i (uI _ hi)),uD];omega
def wtL(x:Option Nat):Int:=if x=some 0 then 1 else if x=some 1 then -1 else 0
theorem zKp(l:List Nat):∀n,n<=l.length->zA4 (l.take n)=zGD (λi=>wtL l[i]?) n
 | 0,_=>by simp[zA4,zGD]
 | n+1,h=>by
  have hx:l[n]? = some l[n]:=uA (by omega);rw[zGD,<- zKp l n (by omega),qD l n _ hx,hx];unfold zA4 wtL;rw[List.countP_append,List.countP_append];simp only[List.countP_cons,List.countP_nil,rC,Option.some.injEq];generalize l[n]=x
  by_cases h0:x=0
  .subst h0;simp;omega
  .by_cases h1:x=1
   .subst h1;simp;omega
   .simp[h0,h1]
section
variable {G G' G1:GA}{l l' l1:List Nat}{gen:Nat}{lo:ByteArray}{hi:Option ByteArray}{ps:List zE}{q:List Nat}
theorem Upd.phi{a b:List Nat}(h:Upd G l (λk=>k∈a) G' l' (λk=>k∈b))(hu:zAb l (λk=>k∈a))(ha:a.Nodup)(hb:b.Nodup):zA4 l'+b.length=zA4 l+a.length:=by
 have hub:=h.use hu;have hla:∀i∈a,i<l.length:=λi hi=>by
  rcases hu i hi with e|e <;> exact (uB.1 e).1
 have hlb:∀i∈b,i<l.length:=λi hi=>by
  rw[<- h.len];rcases hub i hi with e|e <;> exact (uB.1 e).1
 have e1:=zKp l l.length (uJ _);have e2:=zKp l' l.length (by rw[h.len];exact uJ _);rw[wU] at e1;rw[wB (by rw[h.len];exact uJ _)] at e2;rw[e1,e2,<- zKo a l.length ha hla,<- zKo b l.length hb hlb,<- zGE,<- zGE];congr 1
 funext i
 unfold wtL;by_cases hia:i∈a
 .by_cases hib:i∈b
  .rcases h.inn i hib with ⟨_,e⟩|⟨e,_⟩
   .rw[e,if_pos hia,if_pos hib]
   .exact absurd e (hu.ne0 hia)
  .rw[if_pos hia,if_neg hib];rcases h.gone i hia hib with ⟨e,f⟩|⟨e,f⟩ <;> simp[e,f]
 .by_cases hib:i∈b
  .rw[if_neg hia,if_pos hib];rcases h.inn i hib with ⟨e,_⟩|⟨e,f⟩
   .exact absurd e hia
   .simp[e,f]
  .rw[if_neg hia,if_neg hib,(h.rest i hia hib).1]
theorem zPf.pre{A A1:NP}{d:Nat}{o:zBr}{pgs:List Nat}(h:zPf G1 l1 A1 gen d lo hi ps G' l' o pgs)(u:Upd G l A G1 l1 A1)(hu:zAb l A):zPf G l A gen d lo hi ps G' l' o pgs :=
 ⟨u.trans h.upd hu,h.nodup,h.two,h.kids,h.keys,h.ctx,h.use⟩
theorem zGF:∀es:List zR,2 * (es.length:Int)<=yI es
 | []=>by simp[yI]
 | e :: es=>by
  have h1:=zBs e;have h2:=zGF es;rw[yI,uD];omega
theorem zFf{α:Type}{l:List α}{i:Nat}{x:α}(h:l[i]? = some x):l=l.take i++(x :: l.drop (i+1)):=by
 obtain⟨h1,rfl⟩:=uB.1 h;rw[<- wK h1,wC]
theorem jL.at_{es:List zR}(h:jL G gen es ps q)(hpw:(es.map (·.key)).Pairwise λa b=>qH a b=true)(key:ByteArray)(hs:256<=G.size)(hb:G.blocks<=256) :
  ∃l1 lm l2 q1 qm q2,jL G gen (es.take (vN key es)) l1 q1/\jL G gen (es.drop (vN key es+if zAp key es=true then 1 else 0)) l2 q2/\ps=l1++(lm++l2)/\q=q1++(qm++q2) /\
   (∀x∈l1,qH x.1 key=true)/\(∀x∈l2,qH key x.1=true)/\(zAp key es=(yV key ps).isSome)/\(lm=[]\/∃old,lm=[(key,old)]) /\
   (∀n:zJ,n.entries=es->qV G n key=qm)/\yI (es.take (vN key es))+yI (es.drop (vN key es+if zAp key es=true then 1 else 0))<=yI es:=by
 have hlow:∀(i:Nat) (e:zR),i<vN key es->es[i]? = some e->qH e.key key=true:=λi e hi he=>by
  have:=zDo (f:=λe:zR=>!qH e.key key) (show i<es.findIdx _ from hi) he;simpa using this
 have h1low:∀(l1:List zE) (q1:List Nat),jL G gen (es.take (vN key es)) l1 q1->∀x∈l1,qH x.1 key=true:=λl1 q1 h1 x hx=>by
  have hk:=h1.keys;have hm:x.1∈(es.take (vN key es)).map (·.key):=by rw[hk];exact List.mem_map_of_mem hx
  obtain⟨e,he,hex⟩:=rK.1 hm;obtain⟨i,hi,hie⟩:=wI he;rw[uQ] at hi;rw[<- hex];refine hlow i e (by omega) ?_;rw[<- hie,rR];exact uA (by omega)
 cases hm:es[vN key es]? with
 | none =>
  have his:zAp key es=false:=by unfold zAp;rw[hm]
  have hlen:es.length<=vN key es:=List.getElem?_eq_none_iff.1 hm;have htk:es.take (vN key es)=es:=wB hlen;rw[his];simp only[wH,tO,uO];rw[tH hlen,htk];have hl:=h1low ps q (by rw[htk];exact h);refine⟨ps,[],[],q,[],[],h,.nil,by simp,by simp,hl,by simp,by rw[zEK hl];rfl,.inl rfl,λn hn=>?_,by simp[yI]⟩;unfold qV;rw[hn,hm]
 | some e =>
  have hes:=zFf hm;have hge:qH e.key key=false:=by
   have:=zDp (f:=λe:zR=>!qH e.key key) (l:=es) (a:=e) hm;simpa using this
  have h2:jL G gen (es.take (vN key es)++(e :: es.drop (vN key es+1))) ps q:=by rw[<- hes];exact h
  obtain⟨l1,l2,q1,q2,e1,e2,rfl,rfl⟩:=jL.split _ h2;have hl:=h1low l1 q1 e1;generalize hr:es.drop (vN key es+1)=r at *
  obtain⟨x,ids,l3,q3,e3,e4,e5,rfl,rfl⟩:∃x ids l3 q3,e.key=x.1/\zHN G gen e x.2 ids/\jL G gen r l3 q3/\l2=x :: l3/\q2=ids++q3:=by
   cases e2 with
   | cons a b c=>exact⟨_,_,_,_,a,b,c,rfl,rfl⟩
  have hsort:yK (l1++x :: l3):=by
   rw[h.keys] at hpw;exact tK.1 hpw
  have hse:=(List.pairwise_append.1 hsort).2.1;have hx3:=(wT.1 hse).1;have hsum:=congrArg yI hes;rw[jT,yI] at hsum;have hw:=zBs e;by_cases hk:e.key=key
  .have his:zAp key es=true:=by unfold zAp;rw[hm];simp[hk]
   rw[his];simp only[tY];rw[hr];refine⟨l1,[x],l3,q1,ids,q3,e1,e5,rfl,rfl,hl,λy hy=>by rw[<- hk,e3];exact hx3 y hy,?_,.inr ⟨x.2,by rw[<- hk,e3]⟩,λn hn=>?_,by omega⟩
   .rw[zAQ,zEK hl,qE,if_pos (by rw[<- e3,hk])];rfl
   .unfold qV;rw[hn,hm];simp only[his,true_and];rcases e4 with ⟨c1,_,c3⟩|⟨c1,c2⟩
    .rw[if_neg (by rw[c1];simp),c3]
    .rw[if_pos c1];have hw:=(c2.walk hs hb).2.2.1;have:=congrArg (List.map Int.toNat) hw;simp only[List.map_map] at this;rw[show (λx:Int × List UInt8=>x.1.toNat)=Int.toNat ∘ (·.1) from rfl,this];rw[show (Int.toNat ∘ λk:Nat=>(k:Int))=id from funext λk=>uK k,List.map_id]
  .have his:zAp key es=false:=by unfold zAp;rw[hm];simp[hk]
   have hlt:qH key e.key=true:=(zC8 hge).resolve_right hk;rw[his];simp only[wH,tO,uO];have hd:es.drop (vN key es)=e :: r:=by
    rw[<- hr];obtain⟨h3,rfl⟩:=uB.1 hm;exact wK h3
   rw[hd];have hgt:∀y∈x :: l3,qH key y.1=true:=λy hy=>by
    rcases uP.1 hy with rfl|hy
    .rw[<- e3];exact hlt
    .refine qQ (b:=x.1) (by rw[<- e3];exact hlt) (hx3 y hy)
   refine⟨l1,[],x :: l3,q1,[],ids++q3,e1,.cons e3 e4 e5,rfl,rfl,hl,hgt,?_,.inl rfl,λn hn=>?_,by rw[yI];omega⟩
   .rw[zAQ,zEK hl,zDW hgt];rfl
   .unfold qV;rw[hn,hm];simp only[his];simp
def ndV(sz:Nat)(v:ByteArray):Nat:=if v.size<=24 then 0 else ndS sz v.size
theorem zMF{key v:ByteArray}(hc:zCZ G l)(hk:qP key=true)(hv:v.size<=4096) :
  (zB3 G l gen key v=.inr 3/\zA4 l<ndV G.size v) \/
  ∃G' l' e ids,zB3 G l gen key v=.inl (G',l',e)/\Upd G l (λ_=>False) G' l' (λi=>i∈ids)/\ids.Nodup/\ids.length=ndV G.size v/\e.key=key/\zHN G' gen e v ids/\qZ e=true/\zA4 l'=zA4 l-ndV G.size v:=by
 unfold zB3 ndV;by_cases h24:v.size<=24
 .rw[if_pos h24,if_pos h24];refine .inr ⟨G,l,_,[],rfl,(Upd.refl G l (λ_=>False)).iff (λ_=>pB) (λi=>by simp),rX,rfl,rfl,.inl ⟨rfl,rfl,rfl⟩,?_,by simp⟩;unfold qZ;simp[hk,h24]
 .rw[if_neg h24,if_neg h24];have hnd:=zIM G.size v.size (by omega) hc.s256 hc.s1024;have hnn:(zCv (v.size:Int) (G.size:Int)).toNat=ndS G.size v.size:=by rw[hnd,uK]
  rw[hnn];cases ht:zAy (ndS G.size v.size) l with
  | none =>
   refine .inl ⟨rfl,?_⟩;rcases Int.lt_or_le (zA4 l) (ndS G.size v.size:Int) with h|h
   .exact h
   .obtain⟨ids,l1,h1⟩:=zIN _ _ h;rw[ht] at h1;cases h1
  | some x =>
   obtain⟨ids,l1⟩:=x;obtain⟨t1,t2,t3,t4,t5,t6⟩:=zBn _ _ _ _ ht;have hlen:ids.length=ndS G.size v.size:=t1;have hch:=zR4 (G:=G) ht rfl (by omega) hv (by rw[hc.low.1];simp) (by rw[hc.low.2];simp) (Nat.le_of_eq hc.len) gen;have hup:=zPZ (G:=G) ht gen v.data.toList (G.size-28);simp only;rw[hlen];refine .inr ⟨_,_,_,ids,rfl,hup,t3,hlen,rfl,.inr ⟨?_,?_⟩,?_,t6⟩
   .have h1:0<ids.length:=by rw[hlen];exact Nat.succ_pos _
    have:=hch.lt _ (zDG h1);show ((ids.getD 0 0:Nat):Int)≠0;omega
   .exact hch
   .have h1:0<ids.length:=by rw[hlen];exact Nat.succ_pos _
    have h2:=hch.lt _ (zDG h1);have h3:=hc.b256;have h4:(zAV gen v.data.toList (G.size-28) ids (ndS G.size v.size) G).blocks=G.blocks:=(vS _ _ _ _ _ G).1;rw[h4] at h2;unfold qZ;have hne:¬ ((ids.getD 0 0:Nat):Int)=0:=by omega
    simp only[hk,nN];rw[if_neg hne];unfold zCo;simp only[uL,uR];have:(e0:ByteArray).size=0:=rfl;omega
end
section
variable {G G' G1:GA}{l l' l1:List Nat}{gen:Nat}{lo:ByteArray}{hi:Option ByteArray}{ps:List zE}{q:List Nat}
theorem zDJ{old:Nat}{A A1:NP}(h:Upd G l A G1 l1 A1)(ho:vH l old)(hn:old≠0->¬ A old):vH l1 old:=by
 rcases ho with ho|⟨h1,h2⟩
 .exact .inl ho
 .have h0:l[old]? ≠ some 0:=λe=>by rcases h2 with h2|h2 <;> rw[e] at h2 <;> simp at h2
  exact .inr ⟨h1,by rw[(h.view (hn (by omega)) h0).2.1];exact h2⟩
theorem zFg{old:Nat}{n:zJ}{key v:ByteArray}(hc:zCZ G l)(ho:vH l old)(hl:n.leaf=true)(hr:zQ n=true)(hw:zH n<=(G.size:Int)-24)(he:jL G gen n.entries ps q)(hbd:∀x∈ps,inB lo hi x.1)(hk:inB lo hi key)(hkb:qP key=true)(hv:v.size<=4096)
  (hq:q.Nodup) (hu:zAb l (λk=>k∈q)) (hoq:old≠0->old ∉ q) :
  (zC1 G l gen old n key v=.inr 3/\zA4 l<=1+(ndV G.size v:Nat)) \/
  ∃G' l' o pgs,zC1 G l gen old n key v=.inl (G',l',o)/\o.news=(yV key ps).isNone/\zPf G l (λk=>(k=old/\old≠0)\/k∈q) gen 1 lo hi (yM key v true ps) G' l' o pgs/\pgs.length<=q.length+ndV G.size v+2/\(n.entries=[]->o.two=false):=by
 have hpw:=zEN hr hl;have h2q:∀i∈q,2<=i:=λi hi=>(he.lt i hi).1
 obtain⟨l1,lm,l2,q1,qm,q2,e1,e2,rfl,rfl,hlow,hhigh,his,hlm,hold,hsum⟩:=he.at_ hpw key hc.s256 hc.b256;have hsort:yK (l1++(lm++l2)):=by
  rw[he.keys] at hpw;exact tK.1 hpw
 have hnd:=wG.1 hq;have hnd2:=wG.1 hnd.2.1;have hum:zAb l (λk=>k∈qm):=λk hk=>hu k (by simp[hk])
 obtain⟨u1,u2,u3⟩:=zE0 (G:=G) qm l hnd2.1 (λi hi=>h2q i (by simp[hi])) hum;have hA2:∀k,k∈qm->2<=k:=λk hk=>h2q k (by simp[hk])
 have hcg:=hc.upd u1 hA2;unfold zC1;rw[hold n rfl];have hszg:(zAA G qm).size=G.size:=u1.sz;rcases zMF (gen:=gen) hcg hkb hv with ⟨f1,f2⟩|⟨Gw,lw,e,ids,f1,f2,f3,f4,f5,f6,f7,f8⟩
 .rw[f1];rw[hszg] at f2;exact .inl ⟨rfl,by omega⟩
 .rw[f1];simp only;rw[hszg] at f4 f8;have u4:=u1.trans f2 hum
  -- what stays
  have hd1:∀k∈q1++q2,¬ (k∈qm):=λk hk hm=>by
   rcases uN.1 hk with hk|hk
   .exact hnd.2.2 k hk k (by simp[hm]) rfl
   .exact hnd2.2.2 k hm k hk rfl
  obtain⟨z1,z2⟩:=u4.views hd1 (λk hk=>hu k (by rcases uN.1 hk with hk|hk <;> simp[hk]));have hcw:=hc.upd u4 hA2;have how:=zDJ u4 ho (λhz hm=>hoq hz (by simp[hm]));have hszw:Gw.size=G.size:=u4.sz;have hblw:Gw.blocks=G.blocks:=u4.bl
  -- the entries then
  have hE:jL Gw gen (n.entries.take (vN key n.entries)++[e]++n.entries.drop (vN key n.entries+if zAp key n.entries=true then 1 else 0)) (l1++([(key,v)]++l2)) (q1++(ids++q2)):=by
   rw[uM];exact (e1.mono (uJ _) hblw hszw (λi hi=>(z1 i (by simp[hi])).1)).append ((jL.one f5 f6).append (e2.mono (uJ _) hblw hszw (λi hi=>(z1 i (by simp[hi])).1)))
  have hwp:yM key v true (l1++(lm++l2))=l1++([(key,v)]++l2):=by
   rw[zE1 _ hlow,zD7 hhigh];congr 1
   congr 1
   rcases hlm with rfl|⟨ov,rfl⟩
   .rfl
   .simp[yM,zBA]
  obtain⟨n',hn'⟩:∃n',n'=zCD n key e:=⟨_,rfl⟩;have hent':n'.entries=n.entries.take (vN key n.entries)++[e]++n.entries.drop (vN key n.entries+if zAp key n.entries=true then 1 else 0):=by rw[hn'];rfl
  have hform:=vA hr;unfold zA0 at hform;rw[if_pos hl] at hform;have hleaf':n'.leaf=true:=by rw[hn'];exact hl
  have hkeys':n'.keys=[]:=by rw[hn'];exact hform.1
  have hkids':n'.kids=[]:=by rw[hn'];exact hform.2
  have hse':yI n'.entries<=yI n.entries+59:=by
   rw[hent',jT,jT];have:=zGd f7;simp only[yI];omega
  have hwt:zH n=2+yI n.entries:=by unfold zH;rw[hl,hform.1];simp[yJ]
  have hwt':zH n'=2+yI n'.entries:=by unfold zH;rw[hleaf',hkeys'];simp[yJ]
  have hsort':yK (l1++([(key,v)]++l2)):=by rw[<- hwp];exact zBP hsort
  have hr':zQ n'=true:=by
   have e:n'=⟨true,n'.entries,[],[]⟩:=by rw[<- hleaf',<- hkeys',<- hkids']
   rw[e];refine zDI (λx hx=>?_) ?_ ?_
   .rw[hent'] at hx;rcases uN.1 hx with hx|hx
    .rcases uN.1 hx with hx|hx
     .exact zBM hr x (pJ hx)
     .rw[tD.1 hx];exact f7
    .exact zBM hr x (pK hx)
   .rw[hent',hE.keys];exact tK.2 hsort'
   .have:=zGF n'.entries;have:=hc.s1024;omega
  have hb':zIR Gw gen (TrD Gw gen 0) 0 lo hi n' (l1++([(key,v)]++l2)) (q1++(ids++q2)):=by
   refine .inl ⟨hleaf',rfl,by simp,by rw[hent'];exact hE,λx hx=>?_⟩;rcases uN.1 hx with hx|hx
   .exact hbd x (by simp[hx])
   .rcases uN.1 hx with hx|hx
    .rw[tD.1 hx];exact hk
    .exact hbd x (by simp[hx])
  have hid:∀i∈ids,i ∉ q1++q2/\(old≠0->i≠old):=λi hi=>by
   refine⟨λhm=>(z1 i hm).2.2 hi,λhz e=>?_⟩;rcases ho with h|⟨_,h⟩
   .exact hz h
   .have h0:l[old]? ≠ some 0:=λe=>by rcases h with h|h <;> rw[e] at h <;> simp at h
    have:=(u4.view (i:=old) (λhm=>hoq hz (by simp[hm])) h0).2.2;exact this (e ▸ hi)
  have hq':(q1++(ids++q2)).Nodup:=by
   refine wG.2 ⟨hnd.1,wG.2 ⟨f3,hnd2.2.1,λa ha b hb e=>?_⟩,λa ha b hb e=>?_⟩
   .subst e;exact (hid a ha).1 (by simp[hb])
   .subst e;rcases uN.1 hb with hb|hb
    .exact (hid a hb).1 (by simp[ha])
    .exact hnd.2.2 a ha a (by simp[hb]) rfl
  have huids:=u4.use hum;have hu':zAb lw (λk=>k∈q1++(ids++q2)):=λk hk=>by
   rcases uN.1 hk with hk|hk
   .exact z2 k (by simp[hk])
   .rcases uN.1 hk with hk|hk
    .exact huids k hk
    .exact z2 k (by simp[hk])
  have hoq':old≠0->old ∉ q1++(ids++q2):=λhz hm=>by
   rcases uN.1 hm with hm|hm
   .exact hoq hz (by simp[hm])
   .rcases uN.1 hm with hm|hm
    .exact (hid old hm).2 hz rfl
    .exact hoq hz (by simp[hm])
  have h2':∀k∈q1++(ids++q2),2<=k:=λk hk=>(hE.lt k hk).1
  have hcs:=zJw hcw how hr' (by rw[hszw,hwt'];omega) hb' hq' hu' hoq' h2';rw[<- hn'];have hlenq:(q1++(ids++q2)).length<=(q1++(qm++q2)).length+ndV G.size v:=by simp only[uC];omega
  rcases hcs with ⟨s1,s2⟩|⟨G2,ll2,o,pgs,s1,s2,s3,s4,s5⟩
  .rw[s1];exact .inl ⟨rfl,by omega⟩
  .rw[s1];simp only;have hB:∀k,((k=old/\old≠0)\/k∈q1++q2)->¬ (k∈qm)/\l[k]? ≠ some 0:=λk hk=>by
    rcases hk with ⟨rfl,hz⟩|hk
    .refine⟨λhm=>hoq hz (by simp[hm]),λe=>?_⟩;rcases ho with h|⟨_,h⟩
     .exact hz h
     .rcases h with h|h <;> rw[e] at h <;> simp at h
    .exact⟨hd1 k hk,hu.ne0 (by rcases uN.1 hk with hk|hk <;> simp[hk])⟩
   have u5:=(u4.frame hB).iff (A':=λk=>(k=old/\old≠0)\/k∈q1++(qm++q2)) (A1':=λk=>(k=old/\old≠0)\/k∈q1++(ids++q2)) (λk=>by simp only[uN];grind) (λk=>by simp only[uN];grind);have huA:zAb l (λk=>(k=old/\old≠0)\/k∈q1++(qm++q2)):=λk hk=>by
    rcases hk with ⟨rfl,hz⟩|hk
    .rcases ho with h|⟨_,h⟩
     .exact absurd h hz
     .exact h
    .exact hu k hk
   have s6:=s3.pre u5 huA;rw[hwp];refine .inr ⟨G2,ll2,{ o with news:=!zAp key n.entries },pgs,rfl,?_,⟨s6.upd,s6.nodup,s6.two,s6.kids,s6.keys,s6.ctx,s6.use⟩,by omega,λhne=>?_⟩
   .simp only[his];cases yV key (l1++(lm++l2)) <;> rfl
   .refine s5 ?_;have h9:yI n.entries=0:=by rw[hne];rfl
    rw[hwt',hszw];have:=hc.s256;omega
theorem zMG(n:zJ)(i:Nat)(o:zBr):zEF n i o = { n with kids:=n.kids.take i++zA6 o++n.kids.drop (i+1),keys:=n.keys.take i++vW o++n.keys.drop (i+0) }:=by
 unfold zEF zA6 vW;by_cases h:o.two=true
 .simp[h]
 .simp[h]
theorem zHV{id:Nat}{n:zJ}(h:PgN G gen id n):G.load (id:Int)=.inl n/\G.node id=some n:=by
 obtain⟨p,h1,_,h3⟩:=h.page;have h4:G.node id=some n:=by
  unfold GA.node;rw[if_pos h.lt,h1];simp only[h3]
 exact⟨(GA.node_load h4).2,h4⟩
theorem zKq{key v:ByteArray}(hkb:qP key=true)(hv:v.size<=4096):∀(d f:Nat) (G:GA) (l:List Nat) (id:Nat) (lo:ByteArray) (hi:Option ByteArray) (ps:List zE) (pgs:List Nat),zCZ G l->TrD G gen d lo hi id ps pgs->pgs.Nodup->zAb l (λk=>k∈pgs)->inB lo hi key->d<=f ->
  (zDQ gen key v f G l id=.inr 3/\zA4 l<=(ndV G.size v:Nat)+d) \/
  ∃G' l' o pgs',zDQ gen key v f G l id=.inl (G',l',o)/\o.news=(yV key ps).isNone/\zPf G l (λk=>k∈pgs) gen d lo hi (yM key v true ps) G' l' o pgs'/\pgs'.length<=pgs.length+ndV G.size v+d
 | 0,_,_,_,_,_,_,_,_,_,h,_,_,_,_=>h.elim
 | d+1,0,_,_,_,_,_,_,_,_,_,_,_,_,h=>by omega
 | d+1,f+1,G,l,id,lo,hi,ps,pgs,hc,hT,hn,hu,hk,hf=>by
  obtain⟨n,q,hp,hr,rfl,hb⟩:=hT;obtain⟨hload,_⟩:=zHV hp;have hid:id ∉ q/\q.Nodup:=wF.1 hn;have hqid:id≠0:=by have:=hp.lo;omega
  have huq:zAb l (λk=>k∈q):=λk hk=>hu k (uI _ hk)
  have hpl:vH l id:=.inr ⟨hp.lo,hu id uH⟩;have hA:∀k,(k∈id :: q) ↔ ((k=id/\id≠0)\/k∈q):=λk=>by
   rw[uP];exact⟨λh=>h.imp (λh=>⟨h,hqid⟩) (λh=>h),λh=>h.imp (λh=>h.1) (λh=>h)⟩
  rw[zDQ,hload];simp only;rcases hb with ⟨hl,hd,hne,he,hbd⟩|⟨hl,hkd⟩
  .subst hd;rw[if_pos hl];rcases zFg (key:=key) (v:=v) hc hpl hl hr hp.fit he hbd hk hkb hv hid.2 huq (λ_=>hid.1) with ⟨a1,a2⟩|⟨G2,l2,o,pgs,a1,a2,a3,a4,a5⟩
   .exact .inl ⟨a1,by omega⟩
   .exact .inr ⟨G2,l2,o,pgs,a1,a2,⟨a3.upd.iff hA (λ_=>pB),a3.nodup,a3.two,a3.kids,a3.keys,a3.ctx,a3.use⟩,by rw[uD];omega⟩
  .rw[if_neg (by rw[hl];simp)];obtain⟨k1,k2,c1,c,c2,l1,lm,l2,q1,qm,q2,lo',hi',e1,e2,e3,e4,rfl,rfl,e7,e8,e9,e10,e11⟩:=hkd.at_ (TrD.bounds d) hk;have hkd0:n.kids.getD (zAh key n.keys) 0=(c:Int):=by
    rw[e4,e2,<- e3];simp[List.getD]
   rw[hkd0,uK];have hnd:=wG.1 hid.2;have hnd2:=wG.1 hnd.2.1;have hum:zAb l (λk=>k∈qm):=λk hk=>huq k (by simp[hk])
   have ih:=zKq hkb hv d f G l c lo' hi' lm qm hc e7 hnd2.1 hum e8 (by omega);rcases ih with ⟨a1,a2⟩|⟨G1,l1',o,qm',a1,a2,a3,a4⟩
   .rw[a1];exact .inl ⟨rfl,by omega⟩
   .rw[a1];simp only;have u4:=a3.upd;have hd1:∀k∈q1++q2,¬ (k∈qm):=λk hk hm=>by
     rcases uN.1 hk with hk|hk
     .exact hnd.2.2 k hk k (by simp[hm]) rfl
     .exact hnd2.2.2 k hm k hk rfl
    obtain⟨z1,z2⟩:=u4.views hd1 (λk hk=>huq k (by rcases uN.1 hk with hk|hk <;> simp[hk]));have how:=zDJ u4 hpl (λ_ hm=>hid.1 (by simp[hm]));obtain⟨n',hn'⟩:∃n',n'=zEF n (zAh key n.keys) o:=⟨_,rfl⟩;have hK:=e11 (TrD G1 gen d) _ _ _ _ a3.kids (λlo hi c l p hp h=>TrD.mono (uJ _) u4.bl u4.sz d lo hi c l p (λi hi=>(z1 i (by rcases hp i hi with h|h <;> simp[h])).1) h);have hj:n' = { n with kids:=c1++(zA6 o++c2),keys:=k1++(vW o++k2) }:=by
     rw[hn',zMG,e1,e2,show zAh key (k1++k2)=k1.length by rw[<- e1];exact e4];have t1:(c1++(c:Int) :: c2).take k1.length=c1:=by rw[<- e3];simp
     have t2:(c1++(c:Int) :: c2).drop (k1.length+1)=c2:=by rw[<- e3];simp
     rw[t1,t2];simp
    have hleaf':n'.leaf=false:=by rw[hj];exact hl
    have hents':n'.entries=n.entries:=by rw[hj]
    have hform:=vA hr;unfold zA0 at hform;rw[if_neg (by rw[hl];simp)] at hform;have hkeys':n'.keys=k1++(vW o++k2):=by rw[hj]
    have hkids':n'.kids=c1++(zA6 o++c2):=by rw[hj]
    have hsk:yJ n'.keys<=yJ n.keys+37:=by
     rw[hkeys',e1,jG,jG,jG];have:yJ (vW o)<=37:=by
      unfold vW;split
      .rename_i h2;have:=a3.keys o.key (by unfold vW;rw[if_pos h2];simp);have:=(jX _).1 this;simp[yJ];omega
      .simp[yJ]
     omega
    have hwt:zH n=6+yJ n.keys:=by unfold zH;rw[hl,hform.1];simp[yI]
    have hwt':zH n'=6+yJ n'.keys:=by unfold zH;rw[hleaf',hents',hform.1];simp[yI]
    have hd2:∀i∈qm',i ∉ q1++q2/\i≠id:=λi hi=>by
     refine⟨λhm=>(z1 i hm).2.2 hi,λe=>?_⟩;subst e;exact (u4.view (i:=i) (λhm=>hid.1 (by simp[hm])) (hu.ne0 uH)).2.2 hi
    have hq':(q1++(qm'++q2)).Nodup:=by
     refine wG.2 ⟨hnd.1,wG.2 ⟨a3.nodup,hnd2.2.1,λa ha b hb e=>?_⟩,λa ha b hb e=>?_⟩
     .subst e;exact (hd2 a ha).1 (by simp[hb])
     .subst e;rcases uN.1 hb with hb|hb
      .exact (hd2 a hb).1 (by simp[ha])
      .exact hnd.2.2 a ha a (by simp[hb]) rfl
    have hr':zQ n'=true:=by
     have e:n'=⟨false,[],n'.keys,n'.kids⟩:=by rw[hj];simp[hl,hform.1]
     rw[e,hkeys',hkids'];refine hK.right hq' (λs hs=>?_) ?_ a3.ctx.b256
     .rcases uN.1 hs with hs|hs
      .exact zBo hr s (by rw[e1];simp[hs])
      .rcases uN.1 hs with hs|hs
       .exact a3.keys s hs
       .exact zBo hr s (by rw[e1];simp[hs])
     .have h2:2<=n.kids.length:=(zGg hr).2.2 hl;rw[e2] at h2;have:1<=(zA6 o).length:=by unfold zA6;split <;> simp
      simp at h2 ⊢;omega
    have hu':zAb l1' (λk=>k∈q1++(qm'++q2)):=λk hk=>by
     rcases uN.1 hk with hk|hk
     .exact z2 k (by simp[hk])
     .rcases uN.1 hk with hk|hk
      .exact a3.use k hk
      .exact z2 k (by simp[hk])
    have hoq':id≠0->id ∉ q1++(qm'++q2):=λhz hm=>by
     rcases uN.1 hm with hm|hm
     .exact hid.1 (by simp[hm])
     .rcases uN.1 hm with hm|hm
      .exact (hd2 id hm).2 rfl
      .exact hid.1 (by simp[hm])
    have h2':∀k∈q1++(qm'++q2),2<=k:=λk hk=>(hK.ltq (TrD.ltq d) k hk).1
    have hcs:=zJw (gen:=gen) a3.ctx how hr' (by rw[u4.sz,hwt'];have:=hp.fit;omega) (.inr ⟨hleaf',by rw[hkeys',hkids'];exact hK⟩) hq' hu' hoq' h2';rw[<- hn'];have hphi:=u4.phi hum hnd2.1 a3.nodup;have hlenq:(q1++(qm'++q2)).length<=(q1++(qm++q2)).length+ndV G.size v+d:=by simp only[uC];omega
    rcases hcs with ⟨s1,s2⟩|⟨G2,ll2,o2,pgs2,s1,s2,s3,s4,s5⟩
    .rw[s1];exact .inl ⟨rfl,by omega⟩
    .rw[s1];simp only;have hB:∀k,(k=id\/k∈q1++q2)->¬ (k∈qm)/\l[k]? ≠ some 0:=λk hk=>by
      rcases hk with rfl|hk
      .exact⟨λhm=>hid.1 (by simp[hm]),hu.ne0 uH⟩
      .exact⟨hd1 k hk,huq.ne0 (by rcases uN.1 hk with hk|hk <;> simp[hk])⟩
     have u5:=(u4.frame hB).iff (A':=λk=>k∈id :: (q1++(qm++q2))) (A1':=λk=>(k=id/\id≠0)\/k∈q1++(qm'++q2)) (λk=>by simp only[uN,uP];grind) (λk=>by simp only[uN];grind);have s6:=s3.pre u5 hu;have hwp:yM key v true (l1++(lm++l2))=l1++(yM key v true lm++l2):=by rw[zE1 _ e9,zD7 e10]
     rw[hwp];refine .inr ⟨G2,ll2,{ o2 with news:=o.news },pgs2,rfl,?_,⟨s6.upd,s6.nodup,s6.two,s6.kids,s6.keys,s6.ctx,s6.use⟩,by rw[uD];omega⟩;show o.news=_;rw[a2,zPc e9 e10]
end
end Go.Proofs.YtgphfebjjedeaaaGreatDoor
