import Derived.Test.YtdnbmdghmmpgcaaGreatDoorQ03
namespace Go.Proofs.YtdnbmdghmmpgcaaGreatDoor
section
def zB2(key value:ByteArray)(over:Bool)(l:List zD)(i:Nat)(done:Bool)(out:List zD):Prop :=
 out.length+(if done then 0 else 1)<=i+1/\out++(if done then l.drop i else qF key value over (l.drop i))=qF key value over l
section
variable {key value:ByteArray}{over:Bool}{l out:List zD}{i:Nat}{x:zD}
theorem zB2.start:zB2 key value over l 0 false []:=⟨by simp,by simp⟩
theorem zE4{α:Type}{l:List α}{i:Nat}{x:α}(h:l[i]? = some x):l.drop i=x :: l.drop (i+1):=by
 obtain⟨hi,rfl⟩:=uC.1 h;exact wM hi
theorem zB2.pass(h:zB2 key value over l i true out)(hx:l[i]? = some x):zB2 key value over l (i+1) true (out++[x]):=by
 obtain⟨h1,h2⟩:=h;rw[zE4 hx] at h2;exact⟨by simp at h1 ⊢;omega,by simpa using h2⟩
theorem zB2.lt(h:zB2 key value over l i false out)(hx:l[i]? = some x)(hl:yX x.1 key=true):zB2 key value over l (i+1) false (out++[x]):=by
 obtain⟨h1,h2⟩:=h;rw[zE4 hx] at h2;simp only[qF,hl] at h2;exact⟨by simp at h1 ⊢;omega,by simpa using h2⟩
theorem zB2.gt(h:zB2 key value over l i false out)(hx:l[i]? = some x)(hl:yX x.1 key=false)(hk:x.1≠key):zB2 key value over l (i+1) true (out++[(key,value)]++[x]):=by
 obtain⟨h1,h2⟩:=h;rw[zE4 hx] at h2;simp only[qF,hl,hk] at h2;exact⟨by simp at h1 ⊢;omega,by simpa using h2⟩
theorem zB2.eqO(h:zB2 key value true l i false out)(hx:l[i]? = some x)(hk:x.1=key):zB2 key value true l (i+1) true (out++[(key,value)]):=by
 obtain⟨h1,h2⟩:=h;rw[zE4 hx] at h2;simp only[qF,hk,zAs] at h2;exact⟨by simp at h1 ⊢;omega,by simpa using h2⟩
theorem zB2.eqN(h:zB2 key value false l i false out)(hx:l[i]? = some x)(hk:x.1=key):zB2 key value false l (i+1) true (out++[x]):=by
 obtain⟨h1,h2⟩:=h;rw[zE4 hx] at h2;simp only[qF,hk,zAs] at h2;exact⟨by simp at h1 ⊢;omega,by simpa using h2⟩
theorem zB2.done(h:zB2 key value over l i true out)(hi:l.length<=i):out=qF key value over l:=by
 obtain⟨h1,h2⟩:=h;rw[tI hi] at h2;simpa using h2
theorem zB2.last(h:zB2 key value over l i false out)(hi:l.length<=i):out++[(key,value)]=qF key value over l:=by
 obtain⟨h1,h2⟩:=h;rw[tI hi] at h2;simpa[qF] using h2
end
end
section
open Go.RowKit
structure ChV where
 key:ByteArray
 was:Bool
 is:Bool
 old:ByteArray
 new:ByteArray
def zEG(x:ChV):List Value:=[.string x.key,.bool x.was,.bool x.is,.string x.old,.string x.new]
def emS:ByteArray:=⟨#[]⟩
def zMk(x:zD):ChV:=⟨x.1,true,false,x.2,emS⟩
def zOd(y:zD):ChV:=⟨y.1,false,true,emS,y.2⟩
def zP2(x y:zD):ChV:=⟨x.1,true,true,x.2,y.2⟩
def yF:List zD->List zD->List ChV
 | [],ys=>ys.map zOd
 | x :: xs,[]=>zMk x :: yF xs []
 | x :: xs,y :: ys =>
  if yX x.1 y.1=true then zMk x :: yF xs (y :: ys)
  else if yX y.1 x.1=true then zOd y :: yF (x :: xs) ys
  else if x.2=y.2 then yF xs ys else zP2 x y :: yF xs ys
termination_by xs ys=>xs.length+ys.length
theorem yK.cons{x:zD}{l:List zD}(h:yK (x :: l)):(∀y∈l,yX x.1 y.1=true)/\yK l:=wR.1 h
theorem zJH:∀(a:List zD),yF a []=a.map zMk
 | []=>by simp[yF]
 | x :: xs=>by rw[yF,zJH xs];rfl
theorem zHq:∀(a b:List zD),(yF a b).length<=a.length+b.length:=by
 intro a b;induction hn:a.length+b.length using Nat.strongRecOn generalizing a b with
 | _ n ih =>
 subst hn;match a,b with
 | [],ys=>simp[yF]
 | x :: xs,[]=>rw[zJH];simp
 | x :: xs,y :: ys =>
  rw[yF];have i1:=ih _ (by simp) xs (y :: ys) rfl;have i2:=ih _ (by simp) (x :: xs) ys rfl;have i3:=ih _ (by simp;omega) xs ys rfl;simp only[uD] at i1 i2 i3 ⊢;split
  .rw[uD];omega
  .split
   .rw[uD];omega
   .split
    .omega
    .rw[uD];omega
theorem zMl{x y:zD}(h1:¬ yX x.1 y.1=true)(h2:¬ yX y.1 x.1=true):x.1=y.1:=by
 rcases zF2 x.1 y.1 with h|h|h
 .exact absurd h h1
 .exact h
 .exact absurd h h2
theorem zP3:∀(a b:List zD),yF a b=[]->a=b:=by
 intro a b;induction hn:a.length+b.length using Nat.strongRecOn generalizing a b with
 | _ n ih =>
 subst hn;intro h;match a,b with
 | [],[]=>rfl
 | [],y :: ys=>simp[yF] at h
 | x :: xs,[]=>rw[yF] at h;cases h
 | x :: xs,y :: ys =>
  rw[yF] at h;by_cases h1:yX x.1 y.1=true
  .rw[if_pos h1] at h;cases h
  .by_cases h2:yX y.1 x.1=true
   .rw[if_neg h1,if_pos h2] at h;cases h
   .rw[if_neg h1,if_neg h2] at h;by_cases h3:x.2=y.2
    .rw[if_pos h3] at h;rw[ih _ (by simp;omega) xs ys rfl h,Prod.ext (zMl h1 h2) h3]
    .rw[if_neg h3] at h;cases h
theorem zP4:∀(a b:List zD) (c:ChV) (o:List ChV),yK a->yK b->yF a b=c :: o ->
  (∃e y a' b',a=e++a'/\b=e++y :: b'/\(∀z∈a',yX y.1 z.1=true)/\c=zOd y/\yF a' b'=o) \/
  (∃e x a' b',a=e++x :: a'/\b=e++b'/\(∀z∈b',yX x.1 z.1=true)/\c=zMk x/\yF a' b'=o) \/
  (∃e x y a' b',a=e++x :: a'/\b=e++y :: b'/\x.1=y.1/\c=zP2 x y/\yF a' b'=o):=by
 intro a b;induction hn:a.length+b.length using Nat.strongRecOn generalizing a b with
 | _ n ih =>
 subst hn;intro c o ha hb h;match a,b with
 | [],[]=>simp[yF] at h
 | [],y :: ys =>
  rw[yF,wZ] at h;injection h with h3 h4;exact .inl ⟨[],y,[],ys,rfl,rfl,λz hz=>(by cases hz),h3.symm,(by simp only[yF];exact h4)⟩
 | x :: xs,[] =>
  rw[yF] at h;injection h with h3 h4;exact .inr (.inl ⟨[],x,xs,[],rfl,rfl,λz hz=>(by cases hz),h3.symm,h4⟩)
 | x :: xs,y :: ys =>
  have hxs:=ha.cons;have hys:=hb.cons;rw[yF] at h;by_cases h1:yX x.1 y.1=true
  .rw[if_pos h1] at h;injection h with h3 h4;exact .inr (.inl ⟨[],x,xs,y :: ys,rfl,rfl,λz hz=>by
    rcases uO.1 hz with rfl|hz
    .exact h1
    .exact qH h1 (hys.1 z hz),h3.symm,h4⟩)
  .by_cases h2:yX y.1 x.1=true
   .rw[if_neg h1,if_pos h2] at h;injection h with h3 h4;exact .inl ⟨[],y,x :: xs,ys,rfl,rfl,λz hz=>by
     rcases uO.1 hz with rfl|hz
     .exact h2
     .exact qH h2 (hxs.1 z hz),h3.symm,h4⟩
   .rw[if_neg h1,if_neg h2] at h;by_cases h3:x.2=y.2
    .rw[if_pos h3] at h;have hxy:x=y:=Prod.ext (zMl h1 h2) h3;subst hxy;rcases ih _ (by simp;omega) xs ys rfl c o hxs.2 hys.2 h with ⟨e,z,a',b',q1,q2,q3⟩|⟨e,z,a',b',q1,q2,q3⟩|⟨e,z,u,a',b',q1,q2,q3⟩
     .exact .inl ⟨x :: e,z,a',b',by rw[q1];rfl,by rw[q2];rfl,q3⟩
     .exact .inr (.inl ⟨x :: e,z,a',b',by rw[q1];rfl,by rw[q2];rfl,q3⟩)
     .exact .inr (.inr ⟨x :: e,z,u,a',b',by rw[q1];rfl,by rw[q2];rfl,q3⟩)
    .rw[if_neg h3] at h;injection h with h4 h5;exact .inr (.inr ⟨[],x,y,xs,ys,rfl,rfl,zMl h1 h2,h4.symm,h5⟩)
def zFF(l:List zD)(last:ByteArray)(is:List zD)(o:List ChV):Prop :=
 ∃dn ws is',l=dn++ws/\is=dn++is'/\yK l/\yK is/\yF ws is'=o/\(∀z∈ws,yX last z.1=true)/\(∀z∈is',yX last z.1=true)
theorem zFF.done{l is:List zD}{last:ByteArray}(h:zFF l last is []):l=is:=by
 obtain⟨dn,ws,is',rfl,rfl,_,_,h,_,_⟩:=h;rw[zP3 _ _ h]
theorem zBg{a b:List zD}(h:yK (a++b)):yK a/\yK b/\∀x∈a,∀y∈b,yX x.1 y.1=true:=pG.1 h
theorem zJI{a b:List zD}(ha:yK a)(hb:yK b)(h:∀x∈a,∀y∈b,yX x.1 y.1=true):yK (a++b):=pG.2 ⟨ha,hb,h⟩
theorem zFF.next{l is:List zD}{last:ByteArray}{c:ChV}{o:List ChV}(h:zFF l last is (c :: o)):yX last c.key=true/\∃A B,(∀z∈A,yX z.1 c.key=true) /\
    ((c.was = false /\ c.is = true /\ l = A ++ B /\ (∀ z ∈ B, yX c.key z.1 = true) /\ zFF (A ++ (c.key, c.new) :: B) c.key is o) \/
     (c.was=true/\∃x:zD,x.1=c.key/\x.2=c.old/\l=A++x :: B/\zFF (A++(if c.is then (c.key,c.new) :: B else B)) c.key is o)):=by
  obtain⟨dn,ws,is',rfl,rfl,s1,s2,h,g1,g2⟩:=h
  obtain⟨t1,t2,t3⟩:=zBg s1
  obtain⟨u1,u2,u3⟩:=zBg s2
  rcases zP4 ws is' c o t2 u2 h with ⟨e,y,a',b',rfl,rfl,q3,rfl,q5⟩|⟨e,x,a',b',rfl,rfl,q3,rfl,q5⟩|⟨e,x,y,a',b',rfl,rfl,q3,rfl,q5⟩
  . obtain⟨p1,p2,p3⟩:=zBg t2
    obtain⟨r1,r2,r3⟩:=zBg u2
    have r4:=r2.cons
    have hA:∀z∈dn++e,yX z.1 y.1=true:=λz hz=>(uN.1 hz).elim (λhz=>u3 z hz y (by simp)) (λhz=>r3 z hz y (by simp))
    refine⟨g2 y (by simp),dn++e,a',hA,.inl ⟨rfl,rfl,by rw[uJ],q3,dn++e++[y],a',b',?_,?_,?_,s2,q5,q3,r4.1⟩⟩
    . rw[uJ (dn++e)];rfl
    . simp only[uJ,rJ]
    . refine zJI (List.Pairwise.sublist (by rw[<- uJ];exact List.sublist_append_left _ _) s2) (wR.2 ⟨q3,p2⟩) (λz hz v hv=>?_)
      rcases uO.1 hv with rfl|hv
      . exact hA z hz
      . exact qH (hA z hz) (q3 v hv)
  . obtain⟨p1,p2,p3⟩:=zBg t2
    have p4:=p2.cons
    have hA:∀z∈dn++e,yX z.1 x.1=true:=λz hz=>(uN.1 hz).elim (λhz=>t3 z hz x (by simp)) (λhz=>p3 z hz x (by simp))
    refine⟨g1 x (by simp),dn++e,a',hA,.inr ⟨rfl,x,rfl,rfl,by rw[uJ],?_⟩⟩
    show zFF (dn++e++a') x.1 _ o
    refine⟨dn++e,a',b',rfl,by rw[uJ],?_,s2,q5,p4.1,q3⟩
    exact List.Pairwise.sublist (by rw[uJ];exact List.Sublist.append_left (List.Sublist.append_left (List.sublist_cons_self _ _) _) _) s1
  . obtain⟨p1,p2,p3⟩:=zBg t2
    have p4:=p2.cons
    obtain⟨r1,r2,r3⟩:=zBg u2
    have r4:=r2.cons
    have hA:∀z∈dn++e,yX z.1 x.1=true:=λz hz=>(uN.1 hz).elim (λhz=>t3 z hz x (by simp)) (λhz=>p3 z hz x (by simp))
    have hb:∀z∈b',yX x.1 z.1=true:=λz hz=>by rw[q3];exact r4.1 z hz
    refine⟨g1 x (by simp),dn++e,a',hA,.inr ⟨rfl,x,rfl,rfl,by rw[uJ],?_⟩⟩
    have hy:((zP2 x y).key,(zP2 x y).new)=y:=Prod.ext q3 rfl
    rw[hy]
    show zFF (dn++e++y :: a') x.1 _ o
    refine⟨dn++e++[y],a',b',?_,?_,?_,s2,q5,p4.1,hb⟩
    . rw[uJ (dn++e)];rfl
    . simp only[uJ,rJ]
    . have hyk:∀z∈a',yX y.1 z.1=true:=λz hz=>by rw[<- q3];exact p4.1 z hz
      have s3:yK (dn++e):=List.Pairwise.sublist (by rw[<- uJ];exact List.sublist_append_left _ _) s2
      refine zJI s3 (wR.2 ⟨hyk,p4.2⟩) (λz hz v hv=>?_)
      rcases uO.1 hv with rfl|hv
      . rw[<- q3];exact hA z hz
      . exact qH (hA z hz) (p4.1 v hv)
theorem zFF.start{was is:List zD}(h1:yK was)(h2:yK is){last:ByteArray}(g1:∀z∈was,yX last z.1=true)(g2:∀z∈is,yX last z.1=true):zFF was last is (yF was is) :=
 ⟨[],was,is,rfl,rfl,h1,h2,rfl,g1,g2⟩
theorem zDX{Q:ChV->Prop}:∀(a b:List zD),(∀x∈a,Q (zMk x))->(∀y∈b,Q (zOd y))->(∀x∈a,∀y∈b,Q (zP2 x y))->∀c∈yF a b,Q c
 | [],ys,_,h2,_,c,hc=>by
  rw[yF] at hc;obtain⟨y,hy,rfl⟩:=rY.1 hc;exact h2 y hy
 | x :: xs,[],h1,h2,_,c,hc=>by
  rw[yF] at hc;rcases uO.1 hc with rfl|hc
  .exact h1 x uG
  .exact zDX xs [] (λz hz=>h1 z (uH _ hz)) h2 (λ_ _ _ h=>by cases h) c hc
 | x :: xs,y :: ys,h1,h2,h3,c,hc=>by
  have h1':∀z∈xs,Q (zMk z):=λz hz=>h1 z (uH _ hz)
  have h2':∀z∈ys,Q (zOd z):=λz hz=>h2 z (uH _ hz)
  rw[yF] at hc;split at hc
  .rcases uO.1 hc with rfl|hc
   .exact h1 x uG
   .exact zDX xs (y :: ys) h1' h2 (λz hz u hu=>h3 z (uH _ hz) u hu) c hc
  .split at hc
   .rcases uO.1 hc with rfl|hc
    .exact h2 y uG
    .exact zDX (x :: xs) ys h1 h2' (λz hz u hu=>h3 z hz u (uH _ hu)) c hc
   .have ih:=zDX xs ys h1' h2' (λz hz u hu=>h3 z (uH _ hz) u (uH _ hu));split at hc
    .exact ih c hc
    .rcases uO.1 hc with rfl|hc
     .exact h3 x uG y uG
     .exact ih c hc
termination_by xs ys=>xs.length+ys.length
end
end Go.Proofs.YtdnbmdghmmpgcaaGreatDoor
