import Derived.Test.YtdnbmdghmmpgcaaGreatDoorQ31
namespace Go.Proofs.YtdnbmdghmmpgcaaGreatDoor
open Go.RowKit
theorem zBM(d:Nat->Nat):∀(m b a x:Nat),(x=b\/(a<=x/\x<a+m))->d (vD d b a m)<=d x
 | 0,b,a,x,h=>by
  rcases h with rfl|h
  .exact uK _
  .omega
 | m+1,b,a,x,h=>by
  rw[vD];by_cases hlt:d a<d b
  .rw[if_pos hlt];rcases h with rfl|⟨h1,h2⟩
   .exact uY (zBM d m a (a+1) a (.inl rfl)) (Nat.le_of_lt hlt)
   .by_cases e:x=a
    .exact zBM d m a (a+1) x (.inl e)
    .exact zBM d m a (a+1) x (.inr ⟨by omega,by omega⟩)
  .rw[if_neg hlt];rcases h with rfl|⟨h1,h2⟩
   .exact zBM d m x (a+1) x (.inl rfl)
   .by_cases e:x=a
    .subst e;exact uY (zBM d m b (x+1) b (.inl rfl)) (by omega)
    .exact zBM d m b (a+1) x (.inr ⟨by omega,by omega⟩)
theorem zIX(g:Nat->Int)(lo:Nat):∀(k:Nat),g lo<=0->0<g (lo+k)->∃a,lo<=a/\a<lo+k/\g a<=0/\0<g (a+1)
 | 0,h1,h2=>by simp only[uP] at h2;omega
 | k+1,h1,h2=>by
  by_cases h3:0<g (lo+k)
  .obtain⟨a,a1,a2,a3,a4⟩:=zIX g lo k h1 h3;exact⟨a,a1,by omega,a3,a4⟩
  .exact⟨lo+k,by omega,by omega,by omega,h2⟩
theorem zJx(g:Nat->Int)(M:Int)(lo k:Nat)(h1:g lo<=M)(h2 : -M<=g (lo+k))(h3:∀a,lo<=a->a<lo+k->g (a+1)-g a<=2 * M):∃a,lo<=a/\a<=lo+k /\ -M<=g a/\g a<=M:=by
 by_cases c1:0<g lo
 .exact⟨lo,uK _,by omega,by omega,h1⟩
 .by_cases c2:g (lo+k)<=0
  .exact⟨lo+k,by omega,uK _,h2,by omega⟩
  .obtain⟨a,a1,a2,a3,a4⟩:=zIX g lo k (by omega) (by omega);have:=h3 a a1 a2;by_cases c3 : -M<=g a
   .exact⟨a,a1,by omega,c3,by omega⟩
   .exact⟨a+1,by omega,by omega,by omega,by omega⟩
theorem zPR{l:List zQ}{k:Nat}{e:zQ}(h:l[k]? = some e):yM (l.take (k+1))=yM (l.take k)+zAc e:=by
 rw[vX l k e h,jV];simp[yM]
theorem zPS{l:List ByteArray}{k:Nat}{e:ByteArray}(h:l[k]? = some e):yO (l.take (k+1))=yO (l.take k)+(5+(e.size:Int)):=by
 rw[vX l k e h,jG];simp[yO]
theorem zNS(l:List zQ)(k:Nat):yM (l.take k)+yM (l.drop k)=yM l:=by
 rw[<- jV,uV]
theorem zNT(l:List ByteArray)(k:Nat):yO (l.take k)+yO (l.drop k)=yO l:=by
 rw[<- jG,uV]
theorem zOD{M:Int}:∀(l:List zQ),(∀e∈l,zAc e<=M)->yM l<=M * l.length
 | [],_=>by simp[yM]
 | e :: l,h=>by
  have h1:=h e uG;have h2:=zOD l (λx hx=>h x (uH _ hx));rw[yM,uD,Int.natCast_add,Int.mul_add];simp only[Int.natCast_one,Int.mul_one];omega
theorem zOE{M:Int}:∀(l:List ByteArray),(∀e∈l,5+(e.size:Int)<=M)->yO l<=M * l.length
 | [],_=>by simp[yO]
 | e :: l,h=>by
  have h1:=h e uG;have h2:=zOE l (λx hx=>h x (uH _ hx));rw[yO,uD,Int.natCast_add,Int.mul_add];simp only[Int.natCast_one,Int.mul_one];omega
theorem zGl{e:zQ}(h:vA e=true):zAc e<=59:=by
 unfold vA at h;simp only[uL] at h;have hk:=(vW e.key).1 h.1;have h2:=h.2;unfold zAc;by_cases hc:e.chain=0
 .rw[if_pos hc] at h2 ⊢;simp only[uL,uQ] at h2;omega
 .rw[if_neg hc];omega
theorem zBN{n:zI}(h:zP n=true):∀e∈n.entries,vA e=true:=by
 unfold zP at h;split at h
 .simp only[uL,wY] at h;exact h.1.1.1.1
 .simp only[uL,wS] at h;intro e he;rw[h.1.1.1.1.1.1.1] at he;simp at he
theorem zBl{n:zI}(h:zP n=true):∀s∈n.keys,qS s=true:=by
 unfold zP at h;split at h
 .simp only[uL,wS] at h;intro e he;rw[h.1.1.1.2] at he;simp at he
 .simp only[uL,wY] at h;exact h.1.2
def zMA(n:zI):Option Nat:=if zP n=true/\0<jJ n then some (vD (zAx n) (vF n) (vF n) (jJ n)) else none
theorem zRm(n:zI):zFd n=(zMA n).map (zW n):=by
 unfold zFd zMA;split <;> rfl
section
variable {n:zI}{a:Nat}
theorem zGm(hl:n.leaf=true)(hf:zA2 n):zH (zW n a).1=2+yM (n.entries.take a)/\zH (zW n a).2.2=2+(yM n.entries-yM (n.entries.take a))/\zH n=2+yM n.entries:=by
 have h:=zNS n.entries a;unfold zA2 at hf;rw[if_pos hl] at hf;rw[zEn hl,zEo hl];unfold zH;simp only[hl,tS,yO,hf.1];omega
theorem zGn(hl:n.leaf=false)(hf:zA2 n):zH (zW n a).1=6+yO (n.keys.take (a-1))/\zH (zW n a).2.2=6+(yO n.keys-yO (n.keys.take a))/\zH n=6+yO n.keys:=by
 have h:=zNT n.keys a;unfold zA2 at hf;rw[if_neg (by rw[hl];simp)] at hf;rw[zD4 hl,zD5 hl];unfold zH;simp only[hl,wF,tN,yM,hf.1];omega
theorem zMB(hr:zP n=true)(hf:zA2 n){x:Nat}(hx:zBZ n x){M:Int}(hM:(zAx n x:Int)<=M) :
  ∃a,zBZ n a/\zMA n=some a/\zH (zW n a).1-zH (zW n a).2.2<=M/\zH (zW n a).2.2-zH (zW n a).1<=M:=by
 have hpos:0<jJ n/\vF n<=x/\x<vF n+jJ n:=by
  unfold jJ vF;cases hl:n.leaf with
  | true=>have:=hx.leaf hl;simp only[tS];omega
  | false=>have:=hx.inner hl;simp only[wF,tN];omega
 obtain⟨p1,p2⟩:=zOh n hpos.1;have hb:=zBM (zAx n) (jJ n) (vF n) (vF n) x (.inr hpos.2);generalize hq:vD (zAx n) (vF n) (vF n) (jJ n)=q at p1 p2 hb
 have hpl:=zL1 p1 p2;have hu:=zFA hf hpl;refine⟨q,hpl,?_,?_⟩
 .unfold zMA;rw[if_pos ⟨hr,hpos.1⟩,hq]
 .split at hu <;> omega
theorem zQ2(hr:zP n=true){W:Int}(hW:232<=W)(h1:W<zH n)(h2:zH n+61<=2 * W) :
  ∃a,zBZ n a/\zMA n=some a/\zH (zW n a).1<=W/\zH (zW n a).2.2<=W:=by
 have hf:=vB hr;cases hl:n.leaf with
 | true =>
  have hM:∀e∈n.entries,zAc e<=59:=λe he=>zGl (zBN hr e he)
  obtain⟨_,_,hw⟩:=zGm (a:=0) hl hf;have hs:=zOD n.entries hM;have hlen:4<=n.entries.length:=by omega
  obtain⟨L,hL⟩:∃L,n.entries.length=L+2:=⟨n.entries.length-2,by omega⟩;have hel:∀k,k<n.entries.length->∃e,n.entries[k]? = some e/\zAc e<=59/\0<=zAc e/\yM (n.entries.take (k+1))=yM (n.entries.take k)+zAc e:=λk hk=>by
   refine⟨n.entries[k],uB hk,hM _ (wJ hk),?_,zPR (uB hk)⟩;have:=zBo n.entries[k];omega
  have h0:yM (n.entries.take 0)=0:=by simp[yM]
  have hall:yM (n.entries.take n.entries.length)=yM n.entries:=by rw[wX]
  obtain⟨a,a1,a2,a3,a4⟩:=zJx (λa=>2 * yM (n.entries.take a)-yM n.entries) 59 1 L (by
   obtain⟨e,_,e2,e3,e4⟩:=hel 0 (by omega);have:=zCg n.entries 1;simp only[uS] at e4;show 2 * yM (n.entries.take 1)-yM n.entries<=59;omega) (by
   obtain⟨e,_,e2,e3,e4⟩:=hel (1+L) (by omega);rw[show 1+L+1=n.entries.length by omega,hall] at e4;have:=zAk (n.entries.take (1+L));show -59<=2 * yM (n.entries.take (1+L))-yM n.entries;omega) (λk k1 k2=>by
   obtain⟨e,_,e2,e3,e4⟩:=hel k (by omega);show 2 * yM (n.entries.take (k+1))-yM n.entries-(2 * yM (n.entries.take k)-yM n.entries)<=2 * 59;omega)
  have hp:zBZ n a:=⟨λ_=>by omega,λhc=>(by rw[hl] at hc;cases hc)⟩;have hu:=zFA hf hp;obtain⟨w1,w2,_⟩:=zGm (a:=a) hl hf;obtain⟨b,b1,b2,b3,b4⟩:=zMB hr hf hp (M:=59) (by split at hu <;> omega);obtain⟨v1,v2,_⟩:=zGm (a:=b) hl hf;exact⟨b,b1,b2,by omega,by omega⟩
 | false =>
  have hM:∀s∈n.keys,5+(s.size:Int)<=37:=λs hs=>by have:=(vW s).1 (zBl hr s hs);omega
  obtain⟨_,_,hw⟩:=zGn (a:=0) hl hf;have hs:=zOE n.keys hM;have hlen:4<=n.keys.length:=by omega
  have hkl:n.kids.length=n.keys.length+1:=(zAw hr hl).2.1;obtain⟨L,hL⟩:∃L,n.keys.length=L+3:=⟨n.keys.length-3,by omega⟩;have hel:∀k,k<n.keys.length->∃e,0<=e/\e<=37/\yO (n.keys.take (k+1))=yO (n.keys.take k)+e:=λk hk=>by
   have:=hM _ (wJ hk);exact⟨5+(n.keys[k].size:Int),by omega,this,zPS (uB hk)⟩
  have h0:yO (n.keys.take 0)=0:=by simp[yO]
  have hall:yO (n.keys.take n.keys.length)=yO n.keys:=by rw[wX]
  obtain⟨a,a1,a2,a3,a4⟩:=zJx (λa=>yO (n.keys.take (a-1))+yO (n.keys.take a)-yO n.keys) 37 2 L (by
   obtain⟨e,e2,e3,e4⟩:=hel 0 (by omega);obtain⟨f,f2,f3,f4⟩:=hel 1 (by omega);have:=zCh n.keys 2;simp only[uS] at e4 f4;show yO (n.keys.take 1)+yO (n.keys.take 2)-yO n.keys<=37;omega) (by
   obtain⟨e,e2,e3,e4⟩:=hel (2+L) (by omega);rw[show 2+L+1=n.keys.length by omega,hall] at e4;have:=zAl (n.keys.take (2+L-1));show -37<=yO (n.keys.take (2+L-1))+yO (n.keys.take (2+L))-yO n.keys;omega) (λk k1 k2=>by
   obtain⟨e,e2,e3,e4⟩:=hel k (by omega);obtain⟨f,f2,f3,f4⟩:=hel (k-1) (by omega);rw[show k-1+1=k by omega] at f4;show yO (n.keys.take (k+1-1))+yO (n.keys.take (k+1))-yO n.keys-(yO (n.keys.take (k-1))+yO (n.keys.take k)-yO n.keys)<=2 * 37;rw[tM];omega)
  have hp:zBZ n a:=⟨λhc=>(by rw[hl] at hc;cases hc),λ_=>by omega⟩;have hu:=zFA hf hp;obtain⟨w1,w2,_⟩:=zGn (a:=a) hl hf;obtain⟨b,b1,b2,b3,b4⟩:=zMB hr hf hp (M:=37) (by split at hu <;> omega);obtain⟨v1,v2,_⟩:=zGn (a:=b) hl hf;have h3:=b1.inner hl;obtain⟨f,f2,f3,f4⟩:=hel (b-1) (by omega);rw[show b-1+1=b by omega] at f4;exact⟨b,b1,b2,by omega,by omega⟩
theorem zOF(hr:zP n=true){W:Int}(hW:232<=W)(h1:W<zH n)(h2:zH n<=W+77) :
  ∃a,zBZ n a/\zFd n=some (zW n a)/\zH (zW n a).1<=W/\zH (zW n a).2.2<=W:=by
 obtain⟨a,a1,a2,a3⟩:=zQ2 hr hW h1 (by omega);exact⟨a,a1,by rw[zRm,a2];rfl,a3⟩
end
theorem zDE{es:List zQ}(h1:∀e∈es,vA e=true)(h2:(es.map (·.key)).Pairwise λa b=>yX a b=true)(h3:es.length<=65535):zP ⟨true,es,[],[]⟩=true:=by
 unfold zP;simp only[tS,uL,uQ,wY];exact⟨⟨⟨⟨h1,rfl⟩,rfl⟩,zGb h2⟩,h3⟩
theorem zKm{keys:List ByteArray}{kids:List Int}(h1:2<=kids.length)(h2:kids.length=keys.length+1)(h3:∀k∈kids,2<=k/\k<256)(h4:kids.Nodup)(h5:∀s∈keys,qS s=true)(h6:keys.Pairwise λa b=>yX a b=true):zP ⟨false,[],keys,kids⟩=true:=by
 unfold zP;simp only[wF,tN,uL,uQ,wY];have h7:=zD1 256 kids h4 (λi hi=>by have:=h3 i hi;omega);exact⟨⟨⟨⟨⟨⟨⟨rfl,h1⟩,h2⟩,h7⟩,λk hk=>by have:=h3 k hk;simp[zCk];omega⟩,h4⟩,h5⟩,zGb h6⟩
theorem zGo{n:zI}(h:zP n=true):n.entries.length<=65535/\n.kids.length<=256/\(n.leaf=false->2<=n.kids.length):=by
 unfold zP at h;split at h
 .rename_i hl;simp only[uL,uQ,wS] at h;refine⟨h.2,by rw[h.1.1.2];simp,λhf=>by rw[hl] at hf;cases hf⟩
 .simp only[uL,uQ,wS] at h;obtain⟨⟨⟨⟨⟨⟨⟨h1,h2⟩,h3⟩,h4⟩,h5⟩,h6⟩,h7⟩,h8⟩:=h;exact⟨by rw[h1];simp,h4,λ_=>h2⟩
section
variable {G G':GA}{gen:Nat}{T:zEq}{lo:ByteArray}{hi:Option ByteArray}{l:List zD}{q:List Nat}{kk:List ByteArray}{cc:List Int}
theorem jL.keys{es:List zQ}(h:jL G gen es l q):es.map (·.key)=l.map (·.1):=by
 induction h with
 | nil=>rfl
 | cons h1 _ _ ih=>simp[h1,ih]
theorem jL.len{es:List zQ}(h:jL G gen es l q):es.length=l.length:=by
 have:=congrArg List.length h.keys;simpa using this
theorem jL.append{es1 es2:List zQ}{l1 l2:List zD}{q1 q2:List Nat}(h1:jL G gen es1 l1 q1)(h2:jL G gen es2 l2 q2):jL G gen (es1++es2) (l1++l2) (q1++q2):=by
 induction h1 with
 | nil=>exact h2
 | cons a b _ ih=>simp only[wW,uJ];exact .cons a b ih
theorem jL.split:∀(es1:List zQ) {es2:List zQ} {l:List zD} {q:List Nat},jL G gen (es1++es2) l q->∃l1 l2 q1 q2,jL G gen es1 l1 q1/\jL G gen es2 l2 q2/\l=l1++l2/\q=q1++q2
 | [],es2,l,q,h=>⟨[],l,[],q,.nil,h,rfl,rfl⟩
 | e :: es1,es2,l,q,h=>by
  generalize hs:e :: es1++es2=es at h
  cases h with
  | nil=>simp at hs
  | cons a b c =>
   simp only[wW,List.cons.injEq] at hs;obtain⟨rfl,rfl⟩:=hs;obtain⟨l1,l2,q1,q2,h1,h2,rfl,rfl⟩:=jL.split es1 c;exact⟨_,_,_,_,.cons a b h1,h2,rfl,(uJ _ _ _).symm⟩
theorem jL.one{e:zQ}{x:zD}{ids:List Nat}(h1:e.key=x.1)(h2:zHW G gen e x.2 ids):jL G gen [e] [x] ids:=by
 have:=jL.cons h1 h2 .nil;simpa using this
theorem jL.lt{es:List zQ}(h:jL G gen es l q):∀i∈q,2<=i/\i<G.blocks:=by
 induction h with
 | nil=>intro i hi;simp at hi
 | cons _ b _ ih =>
  intro i hi;rcases uN.1 hi with hi|hi
  .rcases b with ⟨_,_,b⟩|⟨_,b⟩
   .rw[b] at hi;simp at hi
   .exact b.lt i hi
  .exact ih i hi
theorem jA.ne(hT:∀lo hi c l q,T lo hi c l q->l≠[])(h:jA T lo hi kk cc l q):l≠[]:=by
 cases h with
 | one h=>exact hT _ _ _ _ _ h
 | cons h _ _=>exact λe=>hT _ _ _ _ _ h (List.append_eq_nil_iff.1 e).1
theorem TrD.ne:∀(d:Nat) (lo:ByteArray) (hi:Option ByteArray) (id:Nat) (l:List zD) (q:List Nat),TrD G gen d lo hi id l q->l≠[]
 | 0,_,_,_,_,_,h=>h.elim
 | d+1,lo,hi,id,l,q,h=>by
  obtain⟨n,q,_,_,_,h⟩:=h;rcases h with ⟨_,_,h,_⟩|⟨_,h⟩
  .exact h
  .exact h.ne (TrD.ne d)
theorem jA.ltq(hT:∀lo hi c l q,T lo hi c l q->∀i∈q,2<=i/\i<G.blocks)(h:jA T lo hi kk cc l q):∀i∈q,2<=i/\i<G.blocks:=by
 induction h with
 | one h=>exact hT _ _ _ _ _ h
 | cons h _ _ ih =>
  intro i hi;rcases uN.1 hi with hi|hi
  .exact hT _ _ _ _ _ h i hi
  .exact ih i hi
theorem TrD.ltq:∀(d:Nat) (lo:ByteArray) (hi:Option ByteArray) (id:Nat) (l:List zD) (q:List Nat),TrD G gen d lo hi id l q->∀i∈q,2<=i/\i<G.blocks
 | 0,_,_,_,_,_,h=>h.elim
 | d+1,lo,hi,id,l,q,h=>by
  obtain⟨n,q,hp,_,rfl,h⟩:=h;intro i hi;rcases uO.1 hi with rfl|hi
  .exact⟨hp.lo,hp.lt⟩
  .rcases h with ⟨_,_,_,h,_⟩|⟨_,h⟩
   .exact h.lt i hi
   .exact h.ltq (TrD.ltq d) i hi
theorem jA.heads(hT:∀lo hi c l q,T lo hi c l q->∃r,q=c :: r)(h:jA T lo hi kk cc l q):∃ks:List Nat,cc=ks.map (λ(i:Nat)=>(i:Int))/\ks.Sublist q:=by
 induction h with
 | @one lo hi c l q h =>
  obtain⟨r,rfl⟩:=hT _ _ _ _ _ h;exact⟨[c],rfl,List.Sublist.cons_cons _ (List.nil_sublist _)⟩
 | @cons lo hi s c keys kids l1 l2 q1 q2 h _ _ ih =>
  obtain⟨r,rfl⟩:=hT _ _ _ _ _ h;obtain⟨ks,rfl,hs⟩:=ih;exact⟨c :: ks,rfl,List.Sublist.cons_cons _ (hs.trans (List.sublist_append_right _ _))⟩
theorem TrD.head:∀(d:Nat) (lo:ByteArray) (hi:Option ByteArray) (id:Nat) (l:List zD) (q:List Nat),TrD G gen d lo hi id l q->∃r,q=id :: r
 | 0,_,_,_,_,_,h=>h.elim
 | d+1,lo,hi,id,l,q,h=>by
  obtain⟨n,q,_,_,rfl,_⟩:=h;exact⟨_,rfl⟩
theorem jA.rise(hb:∀lo hi c l q,T lo hi c l q->∀x∈l,inB lo hi x.1)(hT:∀lo hi c l q,T lo hi c l q->l≠[])(h:jA T lo hi kk cc l q):(kk.Pairwise λa b=>yX a b=true)/\∀s∈kk,yX lo s=true:=by
 induction h with
 | one=>exact⟨List.Pairwise.nil,λs hs=>by simp at hs⟩
 | @cons lo hi s c keys kids l1 l2 q1 q2 h _ _ ih =>
  have hls:yX lo s=true:=by
   obtain⟨x,hx⟩:=List.exists_mem_of_ne_nil _ (hT _ _ _ _ _ h);have:=hb _ _ _ _ _ h x hx;exact zKJ this.1 (this.2 s rfl)
  refine⟨wR.2 ⟨λt ht=>ih.2 t ht,ih.1⟩,λt ht=>?_⟩;rcases uO.1 ht with rfl|ht
  .exact hls
  .exact qH hls (ih.2 t ht)
theorem jA.right{d:Nat}(h:jA (TrD G gen d) lo hi kk cc l q)(hn:q.Nodup)(hk:∀s∈kk,qS s=true)(h2:2<=cc.length)(hb:G.blocks<=256):zP ⟨false,[],kk,cc⟩=true:=by
 obtain⟨ks,rfl,hs⟩:=h.heads (TrD.head d);refine zKm h2 h.len (λk hk=>?_) ?_ hk (h.rise (TrD.bounds d) (TrD.ne d)).1
 .obtain⟨i,hi,rfl⟩:=rY.1 hk;have:=h.ltq (TrD.ltq d) i (hs.subset hi);omega
 .exact tP.2 ((hn.sublist hs).imp (λh e=>h (by omega)))
theorem zIW.cut{d:Nat}{n:zI}{a:Nat}(hb:zIW G gen (TrD G gen d) d lo hi n l q)(hr:zP n=true)(hp:zBZ n a)(hq:q.Nodup)(hbl:G.blocks<=256) :
  ∃l1 l2 q1 q2,zIW G gen (TrD G gen d) d lo (some (zW n a).2.1) (zW n a).1 l1 q1/\zIW G gen (TrD G gen d) d (zW n a).2.1 hi (zW n a).2.2 l2 q2/\l=l1++l2/\q=q1++q2 /\
   inB lo hi (zW n a).2.1/\qS (zW n a).2.1=true/\zP (zW n a).1=true/\zP (zW n a).2.2=true:=by
 rcases hb with ⟨hl,hd,hne,he,hbd⟩|⟨hl,hk⟩
 .have hpl:=hp.leaf hl;have hright:=zBN hr;have hpw:=zEV hr hl;have hlen:n.entries.length<=65535:=by
   unfold zP at hr;rw[if_pos hl] at hr;simp only[uL,uQ] at hr;exact hr.2
  obtain⟨e,hea⟩:∃e,n.entries[a]? = some e:=⟨_,uB hpl.2⟩;have hap:zW n a=(⟨true,n.entries.take a,[],[]⟩,e.key,⟨true,n.entries.drop a,[],[]⟩):=by unfold zW;rw[if_pos hl,hea]
  rw[hap];simp only;have he2:jL G gen (n.entries.take a++n.entries.drop a) l q:=by rw[uV];exact he
  obtain⟨l1,l2,q1,q2,s1,s2,rfl,rfl⟩:=jL.split _ he2;have hkeys:=he.keys;have hsort:yK (l1++l2):=by
   rw[hkeys] at hpw;exact tP.1 hpw
  have hdrop:n.entries.drop a=e :: n.entries.drop (a+1):=by
   obtain⟨h1,rfl⟩:=uC.1 hea;exact wM h1
  obtain⟨y,l3,rfl,hy⟩:∃y l3,l2=y :: l3/\e.key=y.1:=by
   have h4:=s2.keys;rw[hdrop] at h4;cases l2 with
   | nil=>simp at h4
   | cons y l3=>simp only[wZ,List.cons.injEq] at h4;exact⟨y,l3,rfl,h4.1⟩
  have hse:=pG.1 hsort;have h1ne:l1≠[]:=λe1=>by
   have:=s1.len;rw[e1,uR,uF] at this;omega
  have hin:inB lo hi e.key:=by rw[hy];exact hbd y (by simp)
  refine⟨l1,y :: l3,q1,q2,.inl ⟨rfl,hd,h1ne,s1,λx hx=>⟨(hbd x (wO _ hx)).1,λk hk=>?_⟩⟩,.inl ⟨rfl,hd,by simp,s2,λx hx=>⟨?_,(hbd x (wN _ hx)).2⟩⟩,rfl,rfl,hin,?_,?_,?_⟩
  .injection hk with hk;rw[<- hk,hy];exact hse.2.2 x hx y uG
  .rw[hy];rcases uO.1 hx with rfl|hx
   .exact zAs _
   .exact zBS ((wR.1 hse.2.1).1 x hx)
  .have:=hright e (wC hea);unfold vA at this;simp only[uL] at this;exact this.1
  .refine zDE (λx hx=>hright x (rR hx)) ?_ (by rw[uR];omega);rw[List.map_take];exact hpw.sublist (List.take_sublist _ _)
  .refine zDE (λx hx=>hright x (pH hx)) ?_ (by rw[wK];omega);rw[List.map_drop];exact hpw.sublist (List.drop_sublist _ _)
 .have hpl:=hp.inner hl;obtain⟨hpw,hkl,_⟩:=zAw hr hl;have hkb:=zBl hr;have hlt:a-1<n.keys.length:=by omega
  obtain⟨s,hs⟩:∃s,n.keys[a-1]? = some s:=⟨_,uB hlt⟩;have hap:zW n a=(⟨false,[],n.keys.take (a-1),n.kids.take a⟩,s,⟨false,[],n.keys.drop a,n.kids.drop a⟩):=by
   unfold zW;rw[if_neg (by rw[hl];simp)];simp[List.getD,hs]
  have hke:n.keys=n.keys.take (a-1)++s :: n.keys.drop a:=by
   have h1:n.keys.drop (a-1)=s :: n.keys.drop (a-1+1):=by
    obtain⟨h1,rfl⟩:=uC.1 hs;exact wM h1
   rw[show a-1+1=a by omega] at h1;rw[<- h1,uV]
  have hks:jA (TrD G gen d) lo hi (n.keys.take (a-1)++s :: n.keys.drop a) (n.kids.take a++n.kids.drop a) l q:=by rw[<- hke,uV];exact hk
  obtain⟨l1,l2,q1,q2,k1,k2,rfl,rfl,k5⟩:=jA.split _ hks (by rw[uR,uR];omega) (by rw[<- hke];exact hpw);rw[hap];simp only;have hnd:=wE.1 hq;refine⟨l1,l2,q1,q2,.inr ⟨rfl,k1⟩,.inr ⟨rfl,k2⟩,rfl,rfl,k5,hkb s (wC hs),?_,?_⟩
  .exact k1.right hnd.1 (λt ht=>hkb t (rR ht)) (by rw[uR];omega) hbl
  .exact k2.right hnd.2.1 (λt ht=>hkb t (pH ht)) (by rw[wK];omega) hbl
end
structure zCR(G:GA)(l:List Nat):Prop where
 low:zGj l
 len:l.length=G.blocks
 b256:G.blocks<=256
 s256:256<=G.size
 s1024:G.size<=1024
section
variable {G G' G1:GA}{l l' l1:List Nat}{gen:Nat}{lo:ByteArray}{hi:Option ByteArray}{ps:List zD}{q:List Nat}
theorem zCR.upd{A A1:Nat->Prop}(hc:zCR G l)(h:Upd G l A G' l' A1)(hA:∀i,A i->2<=i):zCR G' l' :=
 ⟨(h.fr hA).lowL hc.low,by rw[h.len,h.bl];exact hc.len,by rw[h.bl];exact hc.b256,by rw[h.sz];exact hc.s256,by rw[h.sz];exact hc.s1024⟩
theorem zCR.free2(hc:zCR G l){i:Nat}(h:l[i]? = some 0):2<=i:=by
 rcases pZ i 2 with h2|h2
 .obtain rfl|rfl:i=0\/i=1:=by omega
  .rw[hc.low.1] at h;simp at h
  .rw[hc.low.2] at h;simp at h
 .exact h2
theorem zAY.ne0{A:Nat->Prop}(hu:zAY l A){i:Nat}(hi:A i):l[i]? ≠ some 0:=λe=>by
 rcases hu i hi with h|h <;> rw[e] at h <;> simp at h
theorem Upd.views{A A1:Nat->Prop}(h:Upd G l A G1 l1 A1){ids:List Nat}(hd:∀i∈ids,¬ A i)(hu:zAY l (· ∈ ids)):(∀i∈ids,G1.view i=G.view i/\l1[i]? = l[i]? /\ ¬ A1 i)/\zAY l1 (· ∈ ids) :=
 ⟨λi hi=>h.view (hd i hi) (hu.ne0 hi),λi hi=>by rw[(h.view (hd i hi) (hu.ne0 hi)).2.1];exact hu i hi⟩
theorem zMC{old:Nat}(h:zAC l old=none)(ho:vG l old):zA7 l<=0:=by
 unfold zAC at h;by_cases hz:old=0
 .rw[if_neg (by simp[hz])] at h;rcases Int.lt_or_le 0 (zA7 l) with hp|hp
  .obtain⟨i,hi⟩:=zL4 (l:=l) (by omega);rw[hi] at h;cases h
  .exact hp
 .split at h
  .cases h
  .rename_i hn;rcases ho with ho|⟨_,ho⟩
   .exact absurd ho hz
   .rcases ho with ho|ho
    .rcases Int.lt_or_le 0 (zA7 l) with hp|hp
     .obtain⟨i,hi⟩:=zQv (l:=l) (by omega) ho;rw[hi] at h;cases h
     .exact hp
    .exfalso;refine hn ⟨hz,?_⟩;unfold jU;rw[uM,ho];simp
theorem zD9{old:Nat}{n:zI}(h:qQ G l old n=none)(hd:zCW n G.size)(ho:vG l old):zA7 l<=0:=by
 unfold qQ at h;rw[if_pos hd] at h;exact zMC h ho
theorem zRn{n:zI}(hr:zP n=true)(i:Int)(gen:Nat):zAd ⟨zCf n,i,gen,yD n⟩=.inl n:=by
 unfold zAd zCf;cases hl:n.leaf with
 | true =>
  have:=(zF7 true (yD n) n).2 ⟨hr,hl,rfl⟩;simp[this]
 | false =>
  have:=(zF7 false (yD n) n).2 ⟨hr,hl,rfl⟩;simp[this]
theorem zHe{old i d:Nat}{n:zI}(hc:zCR G l)(ho:vG l old)(hdn:qQ G l old n=some i)(hr:zP n=true)(hb:zIW G gen (TrD G gen d) d lo hi n ps q)(hq:q.Nodup)(hu:zAY l (· ∈ q))(hoq:old≠0->old ∉ q)(_h2:∀x∈q,2<=x) :
  Upd G l (λk=>(k=old/\old≠0)\/k∈q) (yJ G l gen old n) (yT G l old n) (λk=>k=i\/k∈q)/\TrD (yJ G l gen old n) gen (d+1) lo hi i ps (i :: q)/\(i :: q).Nodup/\2<=i/\zCR (yJ G l gen old n) (yT G l old n) /\
   zAY (yT G l old n) (λk=>k=i\/k∈q)/\vG (yT G l old n) i:=by
 obtain⟨u1,_,u3,u4,u5,u6⟩:=zIU (gen:=gen) ho hdn (by rw[hc.low.1];simp);have hA2:∀k,(k=old/\old≠0)->2<=k:=λk hk=>by
  obtain⟨rfl,hz⟩:=hk;rcases ho with h|h
  .exact absurd h hz
  .exact h.1
 have huA:zAY l (λk=>k=old/\old≠0):=λk hk=>by
  obtain⟨rfl,hz⟩:=hk;rcases ho with h|h
  .exact absurd h hz
  .exact h.2
 have hdis:∀k∈q,¬ (k=old/\old≠0):=λk hk h=>hoq h.2 (h.1 ▸ hk)
 obtain⟨hv,hu1⟩:=u1.views hdis hu;have hiq:i ∉ q:=λhm=>(hv i hm).2.2 rfl
 have hi2:2<=i:=by
  rcases u1.inn i rfl with ⟨h,_⟩|⟨h,_⟩
  .exact hA2 i h
  .exact hc.free2 h
 have hc1:=hc.upd u1 hA2;have hui:=u1.use huA;refine⟨u1.frame (λk hk=>⟨hdis k hk,hu.ne0 hk⟩),⟨n,q,⟨hi2,?_,⟨_,u5,uK _,zRn hr _ _⟩,by rw[u1.sz];exact u6.2⟩,hr,rfl,hb.mono (uK _) u1.bl u1.sz (λk hk=>(hv k hk).1)⟩,wD.2 ⟨hiq,hq⟩,hi2,hc1,λk hk=>?_,.inr ⟨hi2,hui i rfl⟩⟩
 .rw[u1.bl];have:=hc.len;omega
 .rcases hk with rfl|hk
  .exact hui k rfl
  .exact hu1 k hk
def vV(o:zBn):List ByteArray:=if o.two=true then [o.key] else []
def zBA(o:zBn):List Int:=if o.two=true then [(o.id0:Int),(o.id1:Int)] else [(o.id0:Int)]
structure zPT(G:GA)(l:List Nat)(A:Nat->Prop)(gen d:Nat)(lo:ByteArray)(hi:Option ByteArray)(ps:List zD)(G':GA)(l':List Nat)(o:zBn)(pgs:List Nat):Prop where
 upd:Upd G l A G' l' (λk=>k∈pgs)
 nodup:pgs.Nodup
 two:∀i∈pgs,2<=i
 kids:jA (TrD G' gen d) lo hi (vV o) (zBA o) ps pgs
 keys:∀s∈vV o,qS s=true
 ctx:zCR G' l'
 use:zAY l' (λk=>k∈pgs)
theorem zJy{old d:Nat}{n:zI}(hc:zCR G l)(ho:vG l old)(hr:zP n=true)(hw:zH n<=(G.size:Int)-24+77)(hb:zIW G gen (TrD G gen d) d lo hi n ps q)(hq:q.Nodup)(hu:zAY l (· ∈ q))(hoq:old≠0->old ∉ q)(h2:∀x∈q,2<=x) :
  (qK G l gen old n=.inr 3/\zA7 l<=1) \/
  ∃G' l' o pgs,qK G l gen old n=.inl (G',l',o)/\o.news=false/\zPT G l (λk=>(k=old/\old≠0)\/k∈q) gen (d+1) lo hi ps G' l' o pgs/\pgs.length<=q.length+2/\(zH n<=(G.size:Int)-24->o.two=false):=by
 have hs:=hc.s256;by_cases hfit:zH n<=(G.size:Int)-24
 .unfold qK;rw[if_pos hfit];cases hdn:qQ G l old n with
  | none =>
   refine .inl ⟨?_,by have:=zD9 hdn ⟨hr,hfit⟩ ho;omega⟩;unfold zBK;rw[if_pos ⟨hr,hfit⟩]
  | some i =>
   obtain⟨a1,a2,a3,a4,a5,a6,a7⟩:=zHe hc ho hdn hr hb hq hu hoq h2;refine .inr ⟨_,_,_,i :: q,rfl,rfl,⟨a1.iff (λ_=>rZ) (λk=>by rw[uO]),a3,λk hk=>?_,?_,λs hs=>by simp[vV] at hs,a5,λk hk=>a6 k (uO.1 hk)⟩,by simp,λ_=>rfl⟩
   .rcases uO.1 hk with rfl|hk
    .exact a4
    .exact h2 k hk
   .exact .one a2
 .obtain⟨a,ha,hcut,w1,w2⟩:=zOF hr (W:=(G.size:Int)-24) (by omega) (by omega) (by omega);obtain⟨l1,l2,q1,q2,b1,b2,rfl,rfl,b5,b6,b7,b8⟩:=hb.cut hr ha hq hc.b256;obtain⟨⟨x,k,y⟩,hx⟩:∃x,x=zW n a:=⟨_,rfl⟩;rw[<- hx] at hcut w1 w2 b1 b2 b5 b6 b7 b8;simp only at w1 w2 b1 b2 b5 b6 b7 b8;have hnd:=wE.1 hq;have e:qK G l gen old n=(match qQ G l old x with
    | none=>.inr (zBK G x)
    | some i=>match qQ (yJ G l gen old x) (yT G l old x) 0 y with
     | none=>.inr (zBK (yJ G l gen old x) y)
     | some j=>.inl (yJ (yJ G l gen old x) (yT G l old x) gen 0 y,yT (yJ G l gen old x) (yT G l old x) 0 y,⟨i,j,k,true,false⟩)):=by
   unfold qK;rw[if_neg hfit,hcut];simp only;rw[if_pos ⟨w1,w2⟩];try rfl
  rw[e];cases hdn:qQ G l old x with
  | none =>
   refine .inl ⟨?_,by have:=zD9 hdn ⟨b7,w1⟩ ho;omega⟩;simp only;unfold zBK;rw[if_pos ⟨b7,w1⟩]
  | some i =>
   have hu1:zAY l (· ∈ q1):=λk hk=>hu k (wO _ hk)
   have hu2:zAY l (· ∈ q2):=λk hk=>hu k (wN _ hk)
   obtain⟨a1,a2,a3,a4,a5,a6,a7⟩:=zHe hc ho hdn b7 b1 hnd.1 hu1 (λhz hm=>hoq hz (wO _ hm)) (λk hk=>h2 k (wO _ hk));simp only;generalize hGx:yJ G l gen old x=Gx at a1 a2 a5 ⊢
   generalize hlx:yT G l old x=lx at a1 a5 a6 a7 ⊢
   have hdq:∀k∈q2,¬ ((k=old/\old≠0)\/k∈q1):=λk hk h=>by
    rcases h with ⟨rfl,hz⟩|h
    .exact hoq hz (wN _ hk)
    .exact hnd.2.2 k h k hk rfl
   obtain⟨v1,v2⟩:=a1.views hdq hu2;have huA:zAY l (λk=>(k=old/\old≠0)\/k∈q1):=λk hk=>by
    rcases hk with ⟨rfl,hz⟩|hk
    .rcases ho with h|h
     .exact absurd h hz
     .exact h.2
    .exact hu1 k hk
   cases hdm:qQ Gx lx 0 y with
   | none =>
    refine .inl ⟨?_,?_⟩
    .simp only;unfold zBK;rw[if_pos ⟨b8,by rw[a1.sz];exact w2⟩]
    .have h3:=zD9 hdm ⟨b8,by rw[a1.sz];exact w2⟩ (.inl rfl);have h4:=(zIU (gen:=gen) ho hdn (by rw[hc.low.1];simp)).2.1;rw[hlx] at h4;split at h4 <;> omega
   | some j =>
    have hb2:=b2.mono (uK _) a1.bl a1.sz (λk hk=>(v1 k hk).1);obtain⟨c1,c2,c3,c4,c5,c6,c7⟩:=zHe (gen:=gen) a5 (.inl rfl) hdm b8 hb2 hnd.2.1 v2 (λh=>absurd rfl h) (λk hk=>h2 k (wN _ hk));simp only;generalize hGy:yJ Gx lx gen 0 y=Gy at c1 c2 c5 ⊢
    generalize hly:yT Gx lx 0 y=ly at c1 c5 c6 c7 ⊢
    -- the first half stays
    have hd1:∀k∈i :: q1,¬ ((k=0/\(0:Nat)≠0)\/k∈q2):=λk hk h=>by
     rcases h with ⟨_,h⟩|h
     .exact h rfl
     .rcases uO.1 hk with rfl|hk
      .exact (v1 k h).2.2 (.inl rfl)
      .exact hnd.2.2 k hk k h rfl
    obtain⟨z1,z2⟩:=c1.views hd1 (λk hk=>a6 k (uO.1 hk));have hT1:TrD Gy gen (d+1) lo (some k) i l1 (i :: q1):=TrD.mono (uK _) c1.bl c1.sz _ _ _ _ _ _ (λt ht=>(z1 t ht).1) a2;have f1:=a1.frame (B:=λt=>t∈q2) (λt ht=>⟨hdq t ht,hu2.ne0 ht⟩);have f2:=(c1.frame (B:=λt=>t∈i :: q1) (λt ht=>⟨hd1 t ht,(λe=>by
     rcases a6 t (uO.1 ht) with h|h <;> rw[e] at h <;> simp at h)⟩)).iff (A':=λt=>(t=i\/t∈q1)\/t∈q2) (A1':=λt=>t∈(i :: q1)++(j :: q2)) (λt=>by
      simp only[uO];constructor
      .rintro ((h|h)|h)
       .exact .inr (.inl h)
       .exact .inr (.inr h)
       .exact .inl (.inr h)
      .rintro ((⟨_,h⟩|h)|(h|h))
       .exact absurd rfl h
       .exact .inr h
       .exact .inl (.inl h)
       .exact .inl (.inr h)) (λt=>by
      simp only[uN,uO];exact or_comm)
    have huB:zAY l (λt=>((t=old/\old≠0)\/t∈q1)\/t∈q2):=λt ht=>by
     rcases ht with ht|ht
     .exact huA t ht
     .exact hu2 t ht
    have f3:=(f1.trans f2 huB).iff (A':=λk=>(k=old/\old≠0)\/k∈q1++q2) (A1':=λt=>t∈(i :: q1)++(j :: q2)) (λt=>by
     rw[uN,or_assoc]) (λt=>rZ)
    have huE:=f3.use (λt ht=>by
     rcases ht with ⟨rfl,hz⟩|ht
     .exact huA t (.inl ⟨rfl,hz⟩)
     .exact hu t ht)
    refine .inr ⟨Gy,ly,_,(i :: q1)++(j :: q2),rfl,rfl,⟨f3,?_,λt ht=>?_,?_,λs hs=>?_,c5,huE⟩,by simp;omega,λh=>absurd h hfit⟩
    .refine wE.2 ⟨a3,c3,λt ht u hu e=>?_⟩;subst e;rcases uO.1 hu with rfl|hu
     .exact (z1 t ht).2.2 (.inl rfl)
     .exact hd1 t ht (.inr hu)
    .rcases uN.1 ht with ht|ht
     .rcases uO.1 ht with rfl|ht
      .exact a4
      .exact h2 t (wO _ ht)
     .rcases uO.1 ht with rfl|ht
      .exact c4
      .exact h2 t (wN _ ht)
    .exact .cons hT1 b5 (.one c2)
    .simp[vV] at hs;rw[hs];exact b6
end
def zGP(f:Nat->Int):Nat->Int
 | 0=>0
 | n+1=>zGP f n+f n
theorem zGQ(f g:Nat->Int):∀n,zGP (λi=>f i+g i) n=zGP f n+zGP g n
 | 0=>rfl
 | n+1=>by simp only[zGP,zGQ f g n];omega
theorem zMD(x:Nat):∀n,zGP (λi=>if i=x then 1 else 0) n=if x<n then 1 else 0
 | 0=>by simp[zGP]
 | n+1=>by
  rw[zGP,zMD x n];by_cases h1:n=x
  .subst h1;simp
  .rw[if_neg h1];by_cases h2:x<n
   .rw[if_pos h2,if_pos (by omega)];rfl
   .rw[if_neg h2,if_neg (by omega)];rfl
theorem zJz:∀n,zGP (λ_=>0) n=0
 | 0=>rfl
 | n+1=>by rw[zGP,zJz n];rfl
theorem zKn:∀(a:List Nat) (n:Nat),a.Nodup->(∀i∈a,i<n)->zGP (λi=>if i∈a then 1 else 0) n=a.length
 | [],n,_,_=>by simpa using zJz n
 | x :: a,n,hn,h=>by
  have hn2:=wD.1 hn;have e:(λi=>if i∈x :: a then (1:Int) else 0)=λi=>(if i=x then 1 else 0)+(if i∈a then 1 else 0):=by
   funext i
   by_cases h1:i=x
   .subst h1;simp[hn2.1]
   .simp[h1]
  rw[e,zGQ,zMD,if_pos (h x uG),zKn a n hn2.2 (λi hi=>h i (uH _ hi)),uD];omega
def wtL(x:Option Nat):Int:=if x=some 0 then 1 else if x=some 1 then -1 else 0
theorem zKo(l:List Nat):∀n,n<=l.length->zA7 (l.take n)=zGP (λi=>wtL l[i]?) n
 | 0,_=>by simp[zA7,zGP]
 | n+1,h=>by
  have hx:l[n]? = some l[n]:=uB (by omega);rw[zGP,<- zKo l n (by omega),vX l n _ hx,hx];unfold zA7 wtL;rw[List.countP_append,List.countP_append];simp only[List.countP_cons,List.countP_nil,rI,Option.some.injEq];generalize l[n]=x
  by_cases h0:x=0
  .subst h0;simp;omega
  .by_cases h1:x=1
   .subst h1;simp;omega
   .simp[h0,h1]
section
variable {G G' G1:GA}{l l' l1:List Nat}{gen:Nat}{lo:ByteArray}{hi:Option ByteArray}{ps:List zD}{q:List Nat}
theorem Upd.phi{a b:List Nat}(h:Upd G l (λk=>k∈a) G' l' (λk=>k∈b))(hu:zAY l (λk=>k∈a))(ha:a.Nodup)(hb:b.Nodup):zA7 l'+b.length=zA7 l+a.length:=by
 have hub:=h.use hu;have hla:∀i∈a,i<l.length:=λi hi=>by
  rcases hu i hi with e|e <;> exact (uC.1 e).1
 have hlb:∀i∈b,i<l.length:=λi hi=>by
  rw[<- h.len];rcases hub i hi with e|e <;> exact (uC.1 e).1
 have e1:=zKo l l.length (uK _);have e2:=zKo l' l.length (by rw[h.len];exact uK _);rw[wX] at e1;rw[uZ (by rw[h.len];exact uK _)] at e2;rw[e1,e2,<- zKn a l.length ha hla,<- zKn b l.length hb hlb,<- zGQ,<- zGQ];congr 1
 funext i
 unfold wtL;by_cases hia:i∈a
 .by_cases hib:i∈b
  .rcases h.inn i hib with ⟨_,e⟩|⟨e,_⟩
   .rw[e,if_pos hia,if_pos hib]
   .exact absurd e (hu.ne0 hia)
  .rw[if_pos hia,if_neg hib];rcases h.gone i hia hib with ⟨e,f⟩|⟨e,f⟩ <;> simp[e,f]
 .by_cases hib:i∈b
  .rw[if_neg hia,if_pos hib];rcases h.inn i hib with ⟨e,_⟩|⟨e,f⟩
   .exact absurd e hia
   .simp[e,f]
  .rw[if_neg hia,if_neg hib,(h.rest i hia hib).1]
theorem zPT.pre{A A1:Nat->Prop}{d:Nat}{o:zBn}{pgs:List Nat}(h:zPT G1 l1 A1 gen d lo hi ps G' l' o pgs)(u:Upd G l A G1 l1 A1)(hu:zAY l A):zPT G l A gen d lo hi ps G' l' o pgs :=
 ⟨u.trans h.upd hu,h.nodup,h.two,h.kids,h.keys,h.ctx,h.use⟩
theorem zGR:∀es:List zQ,2 * (es.length:Int)<=yM es
 | []=>by simp[yM]
 | e :: es=>by
  have h1:=zBo e;have h2:=zGR es;rw[yM,uD];omega
theorem zFs{α:Type}{l:List α}{i:Nat}{x:α}(h:l[i]? = some x):l=l.take i++(x :: l.drop (i+1)):=by
 obtain⟨h1,rfl⟩:=uC.1 h;rw[<- wM h1,uV]
theorem jL.at_{es:List zQ}(h:jL G gen es ps q)(hpw:(es.map (·.key)).Pairwise λa b=>yX a b=true)(key:ByteArray)(hs:256<=G.size)(hb:G.blocks<=256) :
  ∃l1 lm l2 q1 qm q2,jL G gen (es.take (vL key es)) l1 q1/\jL G gen (es.drop (vL key es+if zAn key es=true then 1 else 0)) l2 q2/\ps=l1++(lm++l2)/\q=q1++(qm++q2) /\
   (∀x∈l1,yX x.1 key=true)/\(∀x∈l2,yX key x.1=true)/\(zAn key es=(zAf key ps).isSome)/\(lm=[]\/∃old,lm=[(key,old)]) /\
   (∀n:zI,n.entries=es->qX G n key=qm)/\yM (es.take (vL key es))+yM (es.drop (vL key es+if zAn key es=true then 1 else 0))<=yM es:=by
 have hlow:∀(i:Nat) (e:zQ),i<vL key es->es[i]? = some e->yX e.key key=true:=λi e hi he=>by
  have:=zDq (f:=λe:zQ=>!yX e.key key) (show i<es.findIdx _ from hi) he;simpa using this
 have h1low:∀(l1:List zD) (q1:List Nat),jL G gen (es.take (vL key es)) l1 q1->∀x∈l1,yX x.1 key=true:=λl1 q1 h1 x hx=>by
  have hk:=h1.keys;have hm:x.1∈(es.take (vL key es)).map (·.key):=by rw[hk];exact List.mem_map_of_mem hx
  obtain⟨e,he,hex⟩:=rY.1 hm;obtain⟨i,hi,hie⟩:=wG he;rw[uR] at hi;rw[<- hex];refine hlow i e (by omega) ?_;rw[<- hie,rO];exact uB (by omega)
 cases hm:es[vL key es]? with
 | none =>
  have his:zAn key es=false:=by unfold zAn;rw[hm]
  have hlen:es.length<=vL key es:=List.getElem?_eq_none_iff.1 hm;have htk:es.take (vL key es)=es:=uZ hlen;rw[his];simp only[wF,tN,uP];rw[tI hlen,htk];have hl:=h1low ps q (by rw[htk];exact h);refine⟨ps,[],[],q,[],[],h,.nil,by simp,by simp,hl,by simp,by rw[zES hl];rfl,.inl rfl,λn hn=>?_,by simp[yM]⟩;unfold qX;rw[hn,hm]
 | some e =>
  have hes:=zFs hm;have hge:yX e.key key=false:=by
   have:=zDr (f:=λe:zQ=>!yX e.key key) (l:=es) (a:=e) hm;simpa using this
  have h2:jL G gen (es.take (vL key es)++(e :: es.drop (vL key es+1))) ps q:=by rw[<- hes];exact h
  obtain⟨l1,l2,q1,q2,e1,e2,rfl,rfl⟩:=jL.split _ h2;have hl:=h1low l1 q1 e1;generalize hr:es.drop (vL key es+1)=r at *
  obtain⟨x,ids,l3,q3,e3,e4,e5,rfl,rfl⟩:∃x ids l3 q3,e.key=x.1/\zHW G gen e x.2 ids/\jL G gen r l3 q3/\l2=x :: l3/\q2=ids++q3:=by
   cases e2 with
   | cons a b c=>exact⟨_,_,_,_,a,b,c,rfl,rfl⟩
  have hsort:yK (l1++x :: l3):=by
   rw[h.keys] at hpw;exact tP.1 hpw
  have hse:=(pG.1 hsort).2.1;have hx3:=(wR.1 hse).1;have hsum:=congrArg yM hes;rw[jV,yM] at hsum;have hw:=zBo e;by_cases hk:e.key=key
  .have his:zAn key es=true:=by unfold zAn;rw[hm];simp[hk]
   rw[his];simp only[tS];rw[hr];refine⟨l1,[x],l3,q1,ids,q3,e1,e5,rfl,rfl,hl,λy hy=>by rw[<- hk,e3];exact hx3 y hy,?_,.inr ⟨x.2,by rw[<- hk,e3]⟩,λn hn=>?_,by omega⟩
   .rw[zBT,zES hl,zFZ,if_pos (by rw[<- e3,hk])];rfl
   .unfold qX;rw[hn,hm];simp only[his,true_and];rcases e4 with ⟨c1,_,c3⟩|⟨c1,c2⟩
    .rw[if_neg (by rw[c1];simp),c3]
    .rw[if_pos c1];have hw:=(c2.walk hs hb).2.2.1;have:=congrArg (List.map Int.toNat) hw;simp only[List.map_map] at this;rw[show (λx:Int × List UInt8=>x.1.toNat)=Int.toNat ∘ (·.1) from rfl,this];rw[show (Int.toNat ∘ λk:Nat=>(k:Int))=id from funext λk=>uM k,List.map_id]
  .have his:zAn key es=false:=by unfold zAn;rw[hm];simp[hk]
   have hlt:yX key e.key=true:=(zDn hge).resolve_right hk;rw[his];simp only[wF,tN,uP];have hd:es.drop (vL key es)=e :: r:=by
    rw[<- hr];obtain⟨h3,rfl⟩:=uC.1 hm;exact wM h3
   rw[hd];have hgt:∀y∈x :: l3,yX key y.1=true:=λy hy=>by
    rcases uO.1 hy with rfl|hy
    .rw[<- e3];exact hlt
    .refine qH (b:=x.1) (by rw[<- e3];exact hlt) (hx3 y hy)
   refine⟨l1,[],x :: l3,q1,[],ids++q3,e1,.cons e3 e4 e5,rfl,rfl,hl,hgt,?_,.inl rfl,λn hn=>?_,by rw[yM];omega⟩
   .rw[zBT,zES hl,zK7 hgt];rfl
   .unfold qX;rw[hn,hm];simp only[his];simp
def ndV(sz:Nat)(v:ByteArray):Nat:=if v.size<=24 then 0 else ndS sz v.size
theorem zMF{key v:ByteArray}(hc:zCR G l)(hk:qS key=true)(hv:v.size<=4096) :
  (zBx G l gen key v=.inr 3/\zA7 l<ndV G.size v) \/
  ∃G' l' e ids,zBx G l gen key v=.inl (G',l',e)/\Upd G l (λ_=>False) G' l' (λi=>i∈ids)/\ids.Nodup/\ids.length=ndV G.size v/\e.key=key/\zHW G' gen e v ids/\vA e=true/\zA7 l'=zA7 l-ndV G.size v:=by
 unfold zBx ndV;by_cases h24:v.size<=24
 .rw[if_pos h24,if_pos h24];refine .inr ⟨G,l,_,[],rfl,(Upd.refl G l (λ_=>False)).iff (λ_=>rZ) (λi=>by simp),rV,rfl,rfl,.inl ⟨rfl,rfl,rfl⟩,?_,by simp⟩;unfold vA;simp[hk,h24]
 .rw[if_neg h24,if_neg h24];have hnd:=zIR G.size v.size (by omega) hc.s256 hc.s1024;have hnn:(zCt (v.size:Int) (G.size:Int)).toNat=ndS G.size v.size:=by rw[hnd,uM]
  rw[hnn];cases ht:zAz (ndS G.size v.size) l with
  | none =>
   refine .inl ⟨rfl,?_⟩;rcases Int.lt_or_le (zA7 l) (ndS G.size v.size:Int) with h|h
   .exact h
   .obtain⟨ids,l1,h1⟩:=zIS _ _ h;rw[ht] at h1;cases h1
  | some x =>
   obtain⟨ids,l1⟩:=x;obtain⟨t1,t2,t3,t4,t5,t6⟩:=zBk _ _ _ _ ht;have hlen:ids.length=ndS G.size v.size:=t1;have hch:=zRl (G:=G) ht rfl (by omega) hv (by rw[hc.low.1];simp) (by rw[hc.low.2];simp) (Nat.le_of_eq hc.len) gen;have hup:=zPN (G:=G) ht gen v.data.toList (G.size-28);simp only;rw[hlen];refine .inr ⟨_,_,_,ids,rfl,hup,t3,hlen,rfl,.inr ⟨?_,?_⟩,?_,t6⟩
   .have h1:0<ids.length:=by rw[hlen];exact Nat.succ_pos _
    have:=hch.lt _ (zDC h1);show ((ids.getD 0 0:Nat):Int)≠0;omega
   .exact hch
   .have h1:0<ids.length:=by rw[hlen];exact Nat.succ_pos _
    have h2:=hch.lt _ (zDC h1);have h3:=hc.b256;have h4:(zAS gen v.data.toList (G.size-28) ids (ndS G.size v.size) G).blocks=G.blocks:=(vQ _ _ _ _ _ G).1;rw[h4] at h2;unfold vA;have hne:¬ ((ids.getD 0 0:Nat):Int)=0:=by omega
    simp only[hk,nK];rw[if_neg hne];unfold zCk;simp only[uL,uQ];have:(e0:ByteArray).size=0:=rfl;omega
end
section
variable {G G' G1:GA}{l l' l1:List Nat}{gen:Nat}{lo:ByteArray}{hi:Option ByteArray}{ps:List zD}{q:List Nat}
theorem zDF{old:Nat}{A A1:Nat->Prop}(h:Upd G l A G1 l1 A1)(ho:vG l old)(hn:old≠0->¬ A old):vG l1 old:=by
 rcases ho with ho|⟨h1,h2⟩
 .exact .inl ho
 .have h0:l[old]? ≠ some 0:=λe=>by rcases h2 with h2|h2 <;> rw[e] at h2 <;> simp at h2
  exact .inr ⟨h1,by rw[(h.view (hn (by omega)) h0).2.1];exact h2⟩
theorem zFt{old:Nat}{n:zI}{key v:ByteArray}(hc:zCR G l)(ho:vG l old)(hl:n.leaf=true)(hr:zP n=true)(hw:zH n<=(G.size:Int)-24)(he:jL G gen n.entries ps q)(hbd:∀x∈ps,inB lo hi x.1)(hk:inB lo hi key)(hkb:qS key=true)(hv:v.size<=4096)
  (hq:q.Nodup) (hu:zAY l (λk=>k∈q)) (hoq:old≠0->old ∉ q) :
  (zC0 G l gen old n key v=.inr 3/\zA7 l<=1+(ndV G.size v:Nat)) \/
  ∃G' l' o pgs,zC0 G l gen old n key v=.inl (G',l',o)/\o.news=(zAf key ps).isNone/\zPT G l (λk=>(k=old/\old≠0)\/k∈q) gen 1 lo hi (qF key v true ps) G' l' o pgs/\pgs.length<=q.length+ndV G.size v+2/\(n.entries=[]->o.two=false):=by
 have hpw:=zEV hr hl;have h2q:∀i∈q,2<=i:=λi hi=>(he.lt i hi).1
 obtain⟨l1,lm,l2,q1,qm,q2,e1,e2,rfl,rfl,hlow,hhigh,his,hlm,hold,hsum⟩:=he.at_ hpw key hc.s256 hc.b256;have hsort:yK (l1++(lm++l2)):=by
  rw[he.keys] at hpw;exact tP.1 hpw
 have hnd:=wE.1 hq;have hnd2:=wE.1 hnd.2.1;have hum:zAY l (λk=>k∈qm):=λk hk=>hu k (by simp[hk])
 obtain⟨u1,u2,u3⟩:=zFB (G:=G) qm l hnd2.1 (λi hi=>h2q i (by simp[hi])) hum;have hA2:∀k,k∈qm->2<=k:=λk hk=>h2q k (by simp[hk])
 have hcg:=hc.upd u1 hA2;unfold zC0;rw[hold n rfl];have hszg:(zAB G qm).size=G.size:=u1.sz;rcases zMF (gen:=gen) hcg hkb hv with ⟨f1,f2⟩|⟨Gw,lw,e,ids,f1,f2,f3,f4,f5,f6,f7,f8⟩
 .rw[f1];rw[hszg] at f2;exact .inl ⟨rfl,by omega⟩
 .rw[f1];simp only;rw[hszg] at f4 f8;have u4:=u1.trans f2 hum
  -- what stays
  have hd1:∀k∈q1++q2,¬ (k∈qm):=λk hk hm=>by
   rcases uN.1 hk with hk|hk
   .exact hnd.2.2 k hk k (by simp[hm]) rfl
   .exact hnd2.2.2 k hm k hk rfl
  obtain⟨z1,z2⟩:=u4.views hd1 (λk hk=>hu k (by rcases uN.1 hk with hk|hk <;> simp[hk]));have hcw:=hc.upd u4 hA2;have how:=zDF u4 ho (λhz hm=>hoq hz (by simp[hm]));have hszw:Gw.size=G.size:=u4.sz;have hblw:Gw.blocks=G.blocks:=u4.bl
  -- the entries then
  have hE:jL Gw gen (n.entries.take (vL key n.entries)++[e]++n.entries.drop (vL key n.entries+if zAn key n.entries=true then 1 else 0)) (l1++([(key,v)]++l2)) (q1++(ids++q2)):=by
   rw[uJ];exact (e1.mono (uK _) hblw hszw (λi hi=>(z1 i (by simp[hi])).1)).append ((jL.one f5 f6).append (e2.mono (uK _) hblw hszw (λi hi=>(z1 i (by simp[hi])).1)))
  have hwp:qF key v true (l1++(lm++l2))=l1++([(key,v)]++l2):=by
   rw[zFC _ hlow,zD8 hhigh];congr 1
   congr 1
   rcases hlm with rfl|⟨ov,rfl⟩
   .rfl
   .simp[qF,zAs]
  obtain⟨n',hn'⟩:∃n',n'=zB7 n key e:=⟨_,rfl⟩;have hent':n'.entries=n.entries.take (vL key n.entries)++[e]++n.entries.drop (vL key n.entries+if zAn key n.entries=true then 1 else 0):=by rw[hn'];rfl
  have hform:=vB hr;unfold zA2 at hform;rw[if_pos hl] at hform;have hleaf':n'.leaf=true:=by rw[hn'];exact hl
  have hkeys':n'.keys=[]:=by rw[hn'];exact hform.1
  have hkids':n'.kids=[]:=by rw[hn'];exact hform.2
  have hse':yM n'.entries<=yM n.entries+59:=by
   rw[hent',jV,jV];have:=zGl f7;simp only[yM];omega
  have hwt:zH n=2+yM n.entries:=by unfold zH;rw[hl,hform.1];simp[yO]
  have hwt':zH n'=2+yM n'.entries:=by unfold zH;rw[hleaf',hkeys'];simp[yO]
  have hsort':yK (l1++([(key,v)]++l2)):=by rw[<- hwp];exact zCi hsort
  have hr':zP n'=true:=by
   have e:n'=⟨true,n'.entries,[],[]⟩:=by rw[<- hleaf',<- hkeys',<- hkids']
   rw[e];refine zDE (λx hx=>?_) ?_ ?_
   .rw[hent'] at hx;rcases uN.1 hx with hx|hx
    .rcases uN.1 hx with hx|hx
     .exact zBN hr x (rR hx)
     .rw[tB.1 hx];exact f7
    .exact zBN hr x (pH hx)
   .rw[hent',hE.keys];exact tP.2 hsort'
   .have:=zGR n'.entries;have:=hc.s1024;omega
  have hb':zIW Gw gen (TrD Gw gen 0) 0 lo hi n' (l1++([(key,v)]++l2)) (q1++(ids++q2)):=by
   refine .inl ⟨hleaf',rfl,by simp,by rw[hent'];exact hE,λx hx=>?_⟩;rcases uN.1 hx with hx|hx
   .exact hbd x (by simp[hx])
   .rcases uN.1 hx with hx|hx
    .rw[tB.1 hx];exact hk
    .exact hbd x (by simp[hx])
  have hid:∀i∈ids,i ∉ q1++q2/\(old≠0->i≠old):=λi hi=>by
   refine⟨λhm=>(z1 i hm).2.2 hi,λhz e=>?_⟩;rcases ho with h|⟨_,h⟩
   .exact hz h
   .have h0:l[old]? ≠ some 0:=λe=>by rcases h with h|h <;> rw[e] at h <;> simp at h
    have:=(u4.view (i:=old) (λhm=>hoq hz (by simp[hm])) h0).2.2;exact this (e ▸ hi)
  have hq':(q1++(ids++q2)).Nodup:=by
   refine wE.2 ⟨hnd.1,wE.2 ⟨f3,hnd2.2.1,λa ha b hb e=>?_⟩,λa ha b hb e=>?_⟩
   .subst e;exact (hid a ha).1 (by simp[hb])
   .subst e;rcases uN.1 hb with hb|hb
    .exact (hid a hb).1 (by simp[ha])
    .exact hnd.2.2 a ha a (by simp[hb]) rfl
  have huids:=u4.use hum;have hu':zAY lw (λk=>k∈q1++(ids++q2)):=λk hk=>by
   rcases uN.1 hk with hk|hk
   .exact z2 k (by simp[hk])
   .rcases uN.1 hk with hk|hk
    .exact huids k hk
    .exact z2 k (by simp[hk])
  have hoq':old≠0->old ∉ q1++(ids++q2):=λhz hm=>by
   rcases uN.1 hm with hm|hm
   .exact hoq hz (by simp[hm])
   .rcases uN.1 hm with hm|hm
    .exact (hid old hm).2 hz rfl
    .exact hoq hz (by simp[hm])
  have h2':∀k∈q1++(ids++q2),2<=k:=λk hk=>(hE.lt k hk).1
  have hcs:=zJy hcw how hr' (by rw[hszw,hwt'];omega) hb' hq' hu' hoq' h2';rw[<- hn'];have hlenq:(q1++(ids++q2)).length<=(q1++(qm++q2)).length+ndV G.size v:=by simp only[uA];omega
  rcases hcs with ⟨s1,s2⟩|⟨G2,ll2,o,pgs,s1,s2,s3,s4,s5⟩
  .rw[s1];exact .inl ⟨rfl,by omega⟩
  .rw[s1];simp only;have hB:∀k,((k=old/\old≠0)\/k∈q1++q2)->¬ (k∈qm)/\l[k]? ≠ some 0:=λk hk=>by
    rcases hk with ⟨rfl,hz⟩|hk
    .refine⟨λhm=>hoq hz (by simp[hm]),λe=>?_⟩;rcases ho with h|⟨_,h⟩
     .exact hz h
     .rcases h with h|h <;> rw[e] at h <;> simp at h
    .exact⟨hd1 k hk,hu.ne0 (by rcases uN.1 hk with hk|hk <;> simp[hk])⟩
   have u5:=(u4.frame hB).iff (A':=λk=>(k=old/\old≠0)\/k∈q1++(qm++q2)) (A1':=λk=>(k=old/\old≠0)\/k∈q1++(ids++q2)) (λk=>by simp only[uN];grind) (λk=>by simp only[uN];grind);have huA:zAY l (λk=>(k=old/\old≠0)\/k∈q1++(qm++q2)):=λk hk=>by
    rcases hk with ⟨rfl,hz⟩|hk
    .rcases ho with h|⟨_,h⟩
     .exact absurd h hz
     .exact h
    .exact hu k hk
   have s6:=s3.pre u5 huA;rw[hwp];refine .inr ⟨G2,ll2,{ o with news:=!zAn key n.entries },pgs,rfl,?_,⟨s6.upd,s6.nodup,s6.two,s6.kids,s6.keys,s6.ctx,s6.use⟩,by omega,λhne=>?_⟩
   .simp only[his];cases zAf key (l1++(lm++l2)) <;> rfl
   .refine s5 ?_;have h9:yM n.entries=0:=by rw[hne];rfl
    rw[hwt',hszw];have:=hc.s256;omega
theorem zMG(n:zI)(i:Nat)(o:zBn):zEL n i o = { n with kids:=n.kids.take i++zBA o++n.kids.drop (i+1),keys:=n.keys.take i++vV o++n.keys.drop (i+0) }:=by
 unfold zEL zBA vV;by_cases h:o.two=true
 .simp[h]
 .simp[h]
theorem zHf{id:Nat}{n:zI}(h:PgN G gen id n):G.load (id:Int)=.inl n/\G.node id=some n:=by
 obtain⟨p,h1,_,h3⟩:=h.page;have h4:G.node id=some n:=by
  unfold GA.node;rw[if_pos h.lt,h1];simp only[h3]
 exact⟨(GA.node_load h4).2,h4⟩
theorem zKp{key v:ByteArray}(hkb:qS key=true)(hv:v.size<=4096):∀(d f:Nat) (G:GA) (l:List Nat) (id:Nat) (lo:ByteArray) (hi:Option ByteArray) (ps:List zD) (pgs:List Nat),zCR G l->TrD G gen d lo hi id ps pgs->pgs.Nodup->zAY l (λk=>k∈pgs)->inB lo hi key->d<=f ->
  (zDQ gen key v f G l id=.inr 3/\zA7 l<=(ndV G.size v:Nat)+d) \/
  ∃G' l' o pgs',zDQ gen key v f G l id=.inl (G',l',o)/\o.news=(zAf key ps).isNone/\zPT G l (λk=>k∈pgs) gen d lo hi (qF key v true ps) G' l' o pgs'/\pgs'.length<=pgs.length+ndV G.size v+d
 | 0,_,_,_,_,_,_,_,_,_,h,_,_,_,_=>h.elim
 | d+1,0,_,_,_,_,_,_,_,_,_,_,_,_,h=>by omega
 | d+1,f+1,G,l,id,lo,hi,ps,pgs,hc,hT,hn,hu,hk,hf=>by
  obtain⟨n,q,hp,hr,rfl,hb⟩:=hT;obtain⟨hload,_⟩:=zHf hp;have hid:id ∉ q/\q.Nodup:=wD.1 hn;have hqid:id≠0:=by have:=hp.lo;omega
  have huq:zAY l (λk=>k∈q):=λk hk=>hu k (uH _ hk)
  have hpl:vG l id:=.inr ⟨hp.lo,hu id uG⟩;have hA:∀k,(k∈id :: q) ↔ ((k=id/\id≠0)\/k∈q):=λk=>by
   rw[uO];exact⟨λh=>h.imp (λh=>⟨h,hqid⟩) (λh=>h),λh=>h.imp (λh=>h.1) (λh=>h)⟩
  rw[zDQ,hload];simp only;rcases hb with ⟨hl,hd,hne,he,hbd⟩|⟨hl,hkd⟩
  .subst hd;rw[if_pos hl];rcases zFt (key:=key) (v:=v) hc hpl hl hr hp.fit he hbd hk hkb hv hid.2 huq (λ_=>hid.1) with ⟨a1,a2⟩|⟨G2,l2,o,pgs,a1,a2,a3,a4,a5⟩
   .exact .inl ⟨a1,by omega⟩
   .exact .inr ⟨G2,l2,o,pgs,a1,a2,⟨a3.upd.iff hA (λ_=>rZ),a3.nodup,a3.two,a3.kids,a3.keys,a3.ctx,a3.use⟩,by rw[uD];omega⟩
  .rw[if_neg (by rw[hl];simp)];obtain⟨k1,k2,c1,c,c2,l1,lm,l2,q1,qm,q2,lo',hi',e1,e2,e3,e4,rfl,rfl,e7,e8,e9,e10,e11⟩:=hkd.at_ (TrD.bounds d) hk;have hkd0:n.kids.getD (zAh key n.keys) 0=(c:Int):=by
    rw[e4,e2,<- e3];simp[List.getD]
   rw[hkd0,uM];have hnd:=wE.1 hid.2;have hnd2:=wE.1 hnd.2.1;have hum:zAY l (λk=>k∈qm):=λk hk=>huq k (by simp[hk])
   have ih:=zKp hkb hv d f G l c lo' hi' lm qm hc e7 hnd2.1 hum e8 (by omega);rcases ih with ⟨a1,a2⟩|⟨G1,l1',o,qm',a1,a2,a3,a4⟩
   .rw[a1];exact .inl ⟨rfl,by omega⟩
   .rw[a1];simp only;have u4:=a3.upd;have hd1:∀k∈q1++q2,¬ (k∈qm):=λk hk hm=>by
     rcases uN.1 hk with hk|hk
     .exact hnd.2.2 k hk k (by simp[hm]) rfl
     .exact hnd2.2.2 k hm k hk rfl
    obtain⟨z1,z2⟩:=u4.views hd1 (λk hk=>huq k (by rcases uN.1 hk with hk|hk <;> simp[hk]));have how:=zDF u4 hpl (λ_ hm=>hid.1 (by simp[hm]));obtain⟨n',hn'⟩:∃n',n'=zEL n (zAh key n.keys) o:=⟨_,rfl⟩;have hK:=e11 (TrD G1 gen d) _ _ _ _ a3.kids (λlo hi c l p hp h=>TrD.mono (uK _) u4.bl u4.sz d lo hi c l p (λi hi=>(z1 i (by rcases hp i hi with h|h <;> simp[h])).1) h);have hj:n' = { n with kids:=c1++(zBA o++c2),keys:=k1++(vV o++k2) }:=by
     rw[hn',zMG,e1,e2,show zAh key (k1++k2)=k1.length by rw[<- e1];exact e4];have t1:(c1++(c:Int) :: c2).take k1.length=c1:=by rw[<- e3];simp
     have t2:(c1++(c:Int) :: c2).drop (k1.length+1)=c2:=by rw[<- e3];simp
     rw[t1,t2];simp
    have hleaf':n'.leaf=false:=by rw[hj];exact hl
    have hents':n'.entries=n.entries:=by rw[hj]
    have hform:=vB hr;unfold zA2 at hform;rw[if_neg (by rw[hl];simp)] at hform;have hkeys':n'.keys=k1++(vV o++k2):=by rw[hj]
    have hkids':n'.kids=c1++(zBA o++c2):=by rw[hj]
    have hsk:yO n'.keys<=yO n.keys+37:=by
     rw[hkeys',e1,jG,jG,jG];have:yO (vV o)<=37:=by
      unfold vV;split
      .rename_i h2;have:=a3.keys o.key (by unfold vV;rw[if_pos h2];simp);have:=(vW _).1 this;simp[yO];omega
      .simp[yO]
     omega
    have hwt:zH n=6+yO n.keys:=by unfold zH;rw[hl,hform.1];simp[yM]
    have hwt':zH n'=6+yO n'.keys:=by unfold zH;rw[hleaf',hents',hform.1];simp[yM]
    have hd2:∀i∈qm',i ∉ q1++q2/\i≠id:=λi hi=>by
     refine⟨λhm=>(z1 i hm).2.2 hi,λe=>?_⟩;subst e;exact (u4.view (i:=i) (λhm=>hid.1 (by simp[hm])) (hu.ne0 uG)).2.2 hi
    have hq':(q1++(qm'++q2)).Nodup:=by
     refine wE.2 ⟨hnd.1,wE.2 ⟨a3.nodup,hnd2.2.1,λa ha b hb e=>?_⟩,λa ha b hb e=>?_⟩
     .subst e;exact (hd2 a ha).1 (by simp[hb])
     .subst e;rcases uN.1 hb with hb|hb
      .exact (hd2 a hb).1 (by simp[ha])
      .exact hnd.2.2 a ha a (by simp[hb]) rfl
    have hr':zP n'=true:=by
     have e:n'=⟨false,[],n'.keys,n'.kids⟩:=by rw[hj];simp[hl,hform.1]
     rw[e,hkeys',hkids'];refine hK.right hq' (λs hs=>?_) ?_ a3.ctx.b256
     .rcases uN.1 hs with hs|hs
      .exact zBl hr s (by rw[e1];simp[hs])
      .rcases uN.1 hs with hs|hs
       .exact a3.keys s hs
       .exact zBl hr s (by rw[e1];simp[hs])
     .have h2:2<=n.kids.length:=(zGo hr).2.2 hl;rw[e2] at h2;have:1<=(zBA o).length:=by unfold zBA;split <;> simp
      simp at h2 ⊢;omega
    have hu':zAY l1' (λk=>k∈q1++(qm'++q2)):=λk hk=>by
     rcases uN.1 hk with hk|hk
     .exact z2 k (by simp[hk])
     .rcases uN.1 hk with hk|hk
      .exact a3.use k hk
      .exact z2 k (by simp[hk])
    have hoq':id≠0->id ∉ q1++(qm'++q2):=λhz hm=>by
     rcases uN.1 hm with hm|hm
     .exact hid.1 (by simp[hm])
     .rcases uN.1 hm with hm|hm
      .exact (hd2 id hm).2 rfl
      .exact hid.1 (by simp[hm])
    have h2':∀k∈q1++(qm'++q2),2<=k:=λk hk=>(hK.ltq (TrD.ltq d) k hk).1
    have hcs:=zJy (gen:=gen) a3.ctx how hr' (by rw[u4.sz,hwt'];have:=hp.fit;omega) (.inr ⟨hleaf',by rw[hkeys',hkids'];exact hK⟩) hq' hu' hoq' h2';rw[<- hn'];have hphi:=u4.phi hum hnd2.1 a3.nodup;have hlenq:(q1++(qm'++q2)).length<=(q1++(qm++q2)).length+ndV G.size v+d:=by simp only[uA];omega
    rcases hcs with ⟨s1,s2⟩|⟨G2,ll2,o2,pgs2,s1,s2,s3,s4,s5⟩
    .rw[s1];exact .inl ⟨rfl,by omega⟩
    .rw[s1];simp only;have hB:∀k,(k=id\/k∈q1++q2)->¬ (k∈qm)/\l[k]? ≠ some 0:=λk hk=>by
      rcases hk with rfl|hk
      .exact⟨λhm=>hid.1 (by simp[hm]),hu.ne0 uG⟩
      .exact⟨hd1 k hk,huq.ne0 (by rcases uN.1 hk with hk|hk <;> simp[hk])⟩
     have u5:=(u4.frame hB).iff (A':=λk=>k∈id :: (q1++(qm++q2))) (A1':=λk=>(k=id/\id≠0)\/k∈q1++(qm'++q2)) (λk=>by simp only[uN,uO];grind) (λk=>by simp only[uN];grind);have s6:=s3.pre u5 hu;have hwp:qF key v true (l1++(lm++l2))=l1++(qF key v true lm++l2):=by rw[zFC _ e9,zD8 e10]
     rw[hwp];refine .inr ⟨G2,ll2,{ o2 with news:=o.news },pgs2,rfl,?_,⟨s6.upd,s6.nodup,s6.two,s6.kids,s6.keys,s6.ctx,s6.use⟩,by rw[uD];omega⟩;show o.news=_;rw[a2,zPQ e9 e10]
end
end Go.Proofs.YtdnbmdghmmpgcaaGreatDoor
