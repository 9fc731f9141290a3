import Derived.Test.YtalpfcaakpgkmaaGreatDoorR03
namespace Go.Proofs.YtalpfcaakpgkmaaGreatDoor
section
structure qW where
 gen:Nat
 blocks:Nat
 used:List Nat
 deriving DecidableEq
def zA6(m:qW):Bool:=decide (8<=m.blocks) && decide (m.blocks<=256) && decide (6<=m.used.length) && decide (m.used.take 6=[0,1,2,3,4,5]) && decide (m.used.Pairwise (· < ·)) && decide (∀n∈m.used,n<m.blocks)
theorem vV(m:qW):zA6 m=true ↔ 8<=m.blocks/\m.blocks<=256/\6<=m.used.length/\m.used.take 6=[0,1,2,3,4,5]/\m.used.Pairwise (· < ·)/\∀n∈m.used,n<m.blocks:=by
 unfold zA6;simp only[uI,uO];exact⟨λ⟨⟨⟨⟨⟨a,b⟩,c⟩,d⟩,e⟩,f⟩=>⟨a,b,c,d,e,f⟩,λ⟨a,b,c,d,e,f⟩=>⟨⟨⟨⟨⟨a,b⟩,c⟩,d⟩,e⟩,f⟩⟩
def orB(l:List UInt8)(q:Nat):List UInt8:=l.set (q / 8) (UInt8.ofNat ((l.getD (q / 8) 0).toNat ||| 2 ^ (q % 8)))
theorem zFh(l:List UInt8)(q:Nat):(orB l q).length=l.length:=by simp[orB]
theorem zRT(l:List UInt8)(q p:Nat)(hq:q<8 * l.length):zBw (orB l q) p=(zBw l p || decide (p=q)):=by
 unfold zBw orB;by_cases hj:p / 8=q / 8
 .have hl:q / 8<l.length:=by omega
  rw[hj];have e1:(l.set (q / 8) (UInt8.ofNat ((l.getD (q / 8) 0).toNat ||| 2 ^ (q % 8)))).getD (q / 8) 0=UInt8.ofNat ((l.getD (q / 8) 0).toNat ||| 2 ^ (q % 8)):=by
   simp[List.getD,hl]
  have h2:(2:Nat) ^ (q % 8)<2 ^ 8:=Nat.pow_lt_pow_right (by omega) (by omega);rw[e1,UInt8.toNat_ofNat',rI (Nat.or_lt_two_pow (n:=8) (l.getD (q / 8) 0).toNat_lt h2),Nat.testBit_or];congr 1
  rw[Nat.testBit_two_pow];simp;omega
 .have e1:(l.set (q / 8) (UInt8.ofNat ((l.getD (q / 8) 0).toNat ||| 2 ^ (q % 8)))).getD (p / 8) 0=l.getD (p / 8) 0:=by
   simp only[List.getD];rw[uS (λe=>hj e.symm)]
  rw[e1];have:p≠q:=λe=>hj (by rw[e])
  simp[this]
def zCw(blocks:Nat)(used:List Nat):List UInt8:=used.foldl orB (List.replicate ((blocks+7) / 8) 0)
theorem zET:∀(u:List Nat) (l:List UInt8),(u.foldl orB l).length=l.length
 | [],_=>rfl
 | q :: u,l=>by rw[tM,zET u,zFh]
theorem zFz:∀(u:List Nat) (l:List UInt8) (p:Nat),(∀q∈u,q<8 * l.length)->zBw (u.foldl orB l) p=(zBw l p || decide (p∈u))
 | [],l,p,_=>by simp
 | q :: u,l,p,h=>by
  rw[tM,zFz u (orB l q) p (λx hx=>by rw[zFh];exact h x (uJ _ hx)),zRT l q p (h q uK),Bool.or_assoc];congr 1
  by_cases e:p=q <;> simp[e]
theorem zKN(b:Nat)(u:List Nat):(zCw b u).length=(b+7) / 8:=by rw[zCw,zET,pC]
theorem zLC(n p:Nat):zBw (List.replicate n 0) p=false:=by
 unfold zBw;have:(List.replicate n (0:UInt8)).getD (p / 8) 0=0:=by
  rw[tL,tW];split <;> rfl
 rw[this];simp
theorem zOf{b:Nat}{u:List Nat}(h:∀n∈u,n<b)(p:Nat):zBw (zCw b u) p=decide (p∈u):=by
 rw[zCw,zFz u _ p (λq hq=>by rw[pC];have:=h q hq;omega),zLC,Bool.false_or]
def qX(m:qW):List UInt8:=yD 4 m.blocks++yD 4 m.used.length++zCw m.blocks m.used
def zBy(m:qW)(i:Nat):zY:=⟨5,i,m.gen,qX m⟩
def yO(m:qW)(i size:Nat):List UInt8:=jX (zBy m i) size
def place(gen k:Nat):Nat:=2+2 * (gen % 2)+k
def zAw(gen i:Nat):Bool:=decide (i=place gen 0) || decide (i=place gen 1)
theorem zBQ(m:qW):(qX m).length=8+(m.blocks+7) / 8:=by
 simp only[qX,uC,zD,zKN]
theorem zEh{m:qW}(h:zA6 m=true){i size:Nat}(hi:i<6)(h1:256<=size)(h2:size<=1024):qE (zBy m i) size=none:=by
 obtain⟨a,b,c,d,e,f⟩:=(vV m).1 h;have hb:=zBQ m;have h1':zAn size=true:=by unfold zAn;simp;omega
 have h2':zDD (zBy m i).kind=true:=by show zDD 5=true;decide
 unfold qE;rw[h1',h2',if_neg (by simp),if_neg];simp only[zBy];rw[hb];simp;omega
theorem zAL{m:qW}(h:zA6 m=true)(i:Nat){size:Nat}(h1:256<=size):(yO m i size).length=size:=by
 obtain⟨a,b,c,d,e,f⟩:=(vV m).1 h;exact zAE _ _ (by simp only[zBy,zBQ];omega)
def zG1(p:zY):qW :=
 if p.body.length<4\/256<qK p.body 0 4 then ⟨0,0,[]⟩
 else ⟨p.gen,qK p.body 0 4,(List.range (qK p.body 0 4)).filter λi=>decide (8+i / 8<p.body.length) && (p.body.getD (8+i / 8) 0).toNat.testBit (i % 8)⟩
def zKO(b:List UInt8)(n:Nat):List Nat:=(List.range n).filter λi=>decide (8+i / 8<b.length) && (b.getD (8+i / 8) 0).toNat.testBit (i % 8)
theorem zJQ(p:zY)(h1:4<=p.body.length)(h2:qK p.body 0 4<=256):zG1 p=⟨p.gen,qK p.body 0 4,zKO p.body (qK p.body 0 4)⟩:=by
 unfold zG1;rw[if_neg (by omega)];rfl
theorem zHx:∀(u:List Nat) (b:Nat),u.Pairwise (· < ·)->(∀n∈u,n<b)->(List.range b).filter (λi=>decide (i∈u))=u:=by
 intro u b hs hb;have hp:((List.range b).filter (λi=>decide (i∈u))).Pairwise (· < ·):=List.Pairwise.filter _ List.pairwise_lt_range;refine List.Perm.eq_of_pairwise (le:=λa b=>a<b) (λa b _ _ h1 h2=>by omega) hp hs ?_;refine (List.perm_ext_iff_of_nodup (hp.imp (λh e=>by omega)) (hs.imp (λh e=>by omega))).2 (λx=>?_);simp only[List.mem_filter,List.mem_range,uO];exact⟨λh=>h.2,λh=>⟨hb x h,h⟩⟩
theorem zP2{m:qW}(h:zA6 m=true)(i:Nat):zG1 (zBy m i)=m:=by
 obtain⟨a,b,c,d,e,f⟩:=(vV m).1 h;have A0:m.used.length<=256:=by
  have h1:m.used=(List.range m.blocks).filter (λi=>decide (i∈m.used)):=(zHx _ _ e f).symm;have:=rN (λi=>decide (i∈m.used)) (List.range m.blocks);rw[<- h1,List.length_range] at this;omega
 have n0:qK (qX m) 0 4=m.blocks:=by
  have:qX m=[]++(yD 4 m.blocks++(yD 4 m.used.length++zCw m.blocks m.used)):=by simp[qX]
  rw[this,zAo [] _ 4 m.blocks 0 rfl (by have:(256:Nat) ^ 4=4294967296:=(by decide);omega)]
 have hl:=zBQ m;rw[zJQ (zBy m i) (by show 4<=(qX m).length;omega) (by show qK (qX m) 0 4<=256;omega)];show (⟨m.gen,qK (qX m) 0 4,zKO (qX m) (qK (qX m) 0 4)⟩:qW)=m;rw[n0];have hu:zKO (qX m) m.blocks=m.used:=by
  unfold zKO;refine Eq.trans ?_ (zHx _ _ e f);refine List.filter_congr (λx hx=>?_);have A1:=List.mem_range.1 hx;have hb:=zOf f x;unfold zBw at hb;have hg:(qX m).getD (8+x / 8) 0=(zCw m.blocks m.used).getD (x / 8) 0:=by
   rw[tL,tL,qX,wV (by simp[zD])];simp[zD]
  rw[hg,hb,hl,wL (by omega),Bool.true_and]
 rw[hu]
end
section
open Go.RowKit
theorem zJR:∀a:List UInt8,Op.bytesLess a a=false
 | []=>rfl
 | x :: a=>by simp[Op.bytesLess,zJR a]
theorem zLD:∀a b c:List UInt8,Op.bytesLess a b=true->Op.bytesLess b c=true->Op.bytesLess a c=true
 | _,_,[],_,h=>by cases ‹List UInt8› <;> simp[Op.bytesLess] at h
 | _,[],_ :: _,h,_=>by simp[Op.bytesLess] at h
 | [],_ :: _,_ :: _,_,_=>rfl
 | x :: a,y :: b,z :: c,h1,h2=>by
  simp only[Op.bytesLess,pA,uI,uO,rE] at h1 h2 ⊢;rcases h1 with h1|⟨rfl,h1⟩
  .rcases h2 with h2|⟨rfl,h2⟩
   .exact .inl (UInt8.lt_trans h1 h2)
   .exact .inl h1
  .rcases h2 with h2|⟨rfl,h2⟩
   .exact .inl h2
   .exact .inr ⟨rfl,zLD a b c h1 h2⟩
theorem zP3:∀a b:List UInt8,Op.bytesLess a b=true\/a=b\/Op.bytesLess b a=true
 | [],[]=>.inr (.inl rfl)
 | [],_ :: _=>.inl rfl
 | _ :: _,[]=>.inr (.inr rfl)
 | x :: a,y :: b=>by
  simp only[Op.bytesLess,pA,uI,uO,rE];rcases Nat.lt_trichotomy x.toNat y.toNat with h|h|h
  .exact .inl (.inl h)
  .have e:x=y:=UInt8.toNat_inj.1 h;subst e;rcases zP3 a b with h|rfl|h
   .exact .inl (.inr ⟨rfl,h⟩)
   .exact .inr (.inl rfl)
   .exact .inr (.inr (.inr ⟨rfl,h⟩))
  .exact .inr (.inr (.inl h))
theorem jJ(a:ByteArray):ltS a a=false:=zJR _
theorem zAq{a b c:ByteArray}(h:ltS a b=true)(k:ltS b c=true):ltS a c=true:=zLD _ _ _ h k
theorem toList_inj{a b:ByteArray}(h:a.toList=b.toList):a=b:=by
 rw[ByteArray.toList_eq,ByteArray.toList_eq] at h;exact pN (Array.ext' h)
theorem zNz(a b:ByteArray):ltS a b=true\/a=b\/ltS b a=true:=by
 rcases zP3 a.toList b.toList with h|h|h
 .exact .inl h
 .exact .inr (.inl (toList_inj h))
 .exact .inr (.inr h)
theorem zE8{a b:ByteArray}(h:ltS a b=true):ltS b a=false:=by
 cases hb:ltS b a with
 | false=>rfl
 | true=>have:=zAq h hb;rw[jJ] at this;cases this
theorem zFi{a b:ByteArray}(h:ltS a b=true):a≠b:=λe=>by rw[e,jJ] at h;cases h
theorem zN0(a b:ByteArray):leS a b=true ↔ ltS a b=true\/a=b:=by
 unfold leS ltS;rw[pA,rE];exact⟨λh=>h.imp id toList_inj,λh=>h.imp id (λe=>by rw[e])⟩
theorem zDX{a b:ByteArray}(h:ltS a b=false):ltS b a=true\/a=b:=by
 rcases zNz a b with k|k|k
 .rw[h] at k;cases k
 .exact .inr k
 .exact .inl k
abbrev zL:=ByteArray × ByteArray
def zAx(l:List zL):Prop:=l.Pairwise λa b=>ltS a.1 b.1=true
def yV(key value:ByteArray)(over:Bool):List zL->List zL
 | []=>[(key,value)]
 | x :: l=>if ltS x.1 key then x :: yV key value over l
  else if x.1=key then (if over then (key,value) :: l else x :: l) else (key,value) :: x :: l
def qI(key:ByteArray)(l:List zL):Option ByteArray:=(l.find? λx=>decide (x.1=key)).map (·.2)
theorem zGX{key value:ByteArray}{over:Bool}{y:zL}:∀{l:List zL},y∈yV key value over l->y=(key,value)\/y∈l
 | [],h=>by simp[yV] at h;exact .inl h
 | x :: l,h=>by
  unfold yV at h;split at h
  .rcases uQ.1 h with rfl|h
   .exact .inr uK
   .exact (zGX h).imp id (uJ _)
  .split at h
   .split at h
    .rcases uQ.1 h with rfl|h
     .exact .inl rfl
     .exact .inr (uJ _ h)
    .exact .inr h
   .rcases uQ.1 h with rfl|h
    .exact .inl rfl
    .exact .inr h
theorem zD3{key value:ByteArray}{over:Bool}:∀{l:List zL},zAx l->zAx (yV key value over l)
 | [],_=>by unfold yV zAx;exact List.pairwise_singleton _ _
 | x :: l,h=>by
  have h2:=wW.1 h;unfold yV;by_cases h1:ltS x.1 key=true
  .rw[if_pos h1];refine wW.2 ⟨λy hy=>?_,zD3 h2.2⟩;rcases zGX hy with rfl|hy
   .exact h1
   .exact h2.1 y hy
  .rw[if_neg h1];by_cases hk:x.1=key
   .rw[if_pos hk];cases over with
    | true=>exact wW.2 ⟨λy hy=>by have:=h2.1 y hy;rw[hk] at this;exact this,h2.2⟩
    | false=>exact h
   .rw[if_neg hk];have h3:ltS key x.1=true:=(zDX (by simpa using h1)).resolve_right hk;refine wW.2 ⟨λy hy=>?_,h⟩;rcases uQ.1 hy with rfl|hy
    .exact h3
    .exact zAq h3 (h2.1 y hy)
theorem zDH(key:ByteArray)(x:zL)(l:List zL):qI key (x :: l)=if x.1=key then some x.2 else qI key l:=by
 unfold qI;rw[List.find?_cons];by_cases h:x.1=key
 .simp[h]
 .simp[h]
theorem zD4{key:ByteArray}{l:List zL}(h:∀x∈l,x.1≠key):qI key l=none:=by
 unfold qI;rw[rY.2 (λx hx=>by simpa using h x hx)];rfl
theorem zAy(key:ByteArray)(a b:List zL):qI key (a++b)=(qI key a).or (qI key b):=by
 induction a with
 | nil=>simp[qI]
 | cons x a ih =>
  rw[tF,zDH,zDH,ih];by_cases h:x.1=key
  .rw[if_pos h,if_pos h];rfl
  .rw[if_neg h,if_neg h]
theorem zEi{key:ByteArray}{l:List zL}(h:∀x∈l,ltS x.1 key=true):qI key l=none:=zD4 (λx hx=>zFi (h x hx))
theorem zF0{key:ByteArray}{l:List zL}(h:∀x∈l,ltS key x.1=true):qI key l=none:=zD4 (λx hx e=>zFi (h x hx) e.symm)
end
section
def zCA(key value:ByteArray)(over:Bool)(l:List zL)(i:Nat)(done:Bool)(out:List zL):Prop :=
 out.length+(if done then 0 else 1)<=i+1/\out++(if done then l.drop i else yV key value over (l.drop i))=yV key value over l
section
variable {key value:ByteArray}{over:Bool}{l out:List zL}{i:Nat}{x:zL}
theorem zCA.start:zCA key value over l 0 false []:=⟨by simp,by simp⟩
theorem zF1{α:Type}{l:List α}{i:Nat}{x:α}(h:l[i]? = some x):l.drop i=x :: l.drop (i+1):=by
 obtain⟨hi,rfl⟩:=uA.1 h;exact wD hi
theorem zCA.pass(h:zCA key value over l i true out)(hx:l[i]? = some x):zCA key value over l (i+1) true (out++[x]):=by
 obtain⟨h1,h2⟩:=h;rw[zF1 hx] at h2;exact⟨by simp at h1 ⊢;omega,by simpa using h2⟩
theorem zCA.lt(h:zCA key value over l i false out)(hx:l[i]? = some x)(hl:ltS x.1 key=true):zCA key value over l (i+1) false (out++[x]):=by
 obtain⟨h1,h2⟩:=h;rw[zF1 hx] at h2;simp only[yV,hl] at h2;exact⟨by simp at h1 ⊢;omega,by simpa using h2⟩
theorem zCA.gt(h:zCA key value over l i false out)(hx:l[i]? = some x)(hl:ltS x.1 key=false)(hk:x.1≠key):zCA key value over l (i+1) true (out++[(key,value)]++[x]):=by
 obtain⟨h1,h2⟩:=h;rw[zF1 hx] at h2;simp only[yV,hl,hk] at h2;exact⟨by simp at h1 ⊢;omega,by simpa using h2⟩
theorem zCA.eqO(h:zCA key value true l i false out)(hx:l[i]? = some x)(hk:x.1=key):zCA key value true l (i+1) true (out++[(key,value)]):=by
 obtain⟨h1,h2⟩:=h;rw[zF1 hx] at h2;simp only[yV,hk,jJ] at h2;exact⟨by simp at h1 ⊢;omega,by simpa using h2⟩
theorem zCA.eqN(h:zCA key value false l i false out)(hx:l[i]? = some x)(hk:x.1=key):zCA key value false l (i+1) true (out++[x]):=by
 obtain⟨h1,h2⟩:=h;rw[zF1 hx] at h2;simp only[yV,hk,jJ] at h2;exact⟨by simp at h1 ⊢;omega,by simpa using h2⟩
theorem zCA.done(h:zCA key value over l i true out)(hi:l.length<=i):out=yV key value over l:=by
 obtain⟨h1,h2⟩:=h;rw[tG hi] at h2;simpa using h2
theorem zCA.last(h:zCA key value over l i false out)(hi:l.length<=i):out++[(key,value)]=yV key value over l:=by
 obtain⟨h1,h2⟩:=h;rw[tG hi] at h2;simpa[yV] using h2
end
end
end Go.Proofs.YtalpfcaakpgkmaaGreatDoor
