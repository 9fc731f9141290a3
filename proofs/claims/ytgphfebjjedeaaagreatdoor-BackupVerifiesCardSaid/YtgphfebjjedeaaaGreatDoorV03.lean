import Derived.Test.YtgphfebjjedeaaaGreatDoorV02
namespace Go.Proofs.YtgphfebjjedeaaaGreatDoor
section
open Go.RowKit
abbrev zN5:=ByteArray × ByteArray
def zCv(n size:Int):Int:=if n<1\/size<256\/1024<size then 0 else (n-1) / (size-28)+1
def zBO(last:ByteArray):List zN5->Bool
 | []=>true
 | p :: r=>qP p.1 && !leS p.1 last && decide (p.2.size<=4096) && zBO p.1 r
def zDj(l:List zN5):Bool:=zBO ⟨#[]⟩ l
theorem zHg(last:ByteArray)(l:List zN5)(i:Nat)(h:i<l.length) :
  zBO last (l.drop i)=(qP l[i].1 && !leS l[i].1 last && decide (l[i].2.size<=4096) && zBO l[i].1 (l.drop (i+1))):=by
 rw[wK h];rfl
theorem zI7:∀a:List UInt8,Op.bytesLess a a=false
 | []=>rfl
 | x :: a=>by simp[Op.bytesLess,zI7 a]
theorem zKz:∀a b c:List UInt8,Op.bytesLess a b=true->Op.bytesLess b c=true->Op.bytesLess a c=true
 | _,_,[],_,h=>by cases ‹List UInt8› <;> simp[Op.bytesLess] at h
 | _,[],_ :: _,h,_=>by simp[Op.bytesLess] at h
 | [],_ :: _,_ :: _,_,_=>rfl
 | x :: a,y :: b,z :: c,h1,h2=>by
  simp only[Op.bytesLess,pC,uL,uR,rC] at h1 h2 ⊢;rcases h1 with h1|⟨rfl,h1⟩
  .rcases h2 with h2|⟨rfl,h2⟩
   .exact .inl (UInt8.lt_trans h1 h2)
   .exact .inl h1
  .rcases h2 with h2|⟨rfl,h2⟩
   .exact .inl h2
   .exact .inr ⟨rfl,zKz a b c h1 h2⟩
theorem zP7:∀a b:List UInt8,Op.bytesLess a b=true\/a=b\/Op.bytesLess b a=true
 | [],[]=>.inr (.inl rfl)
 | [],_ :: _=>.inl rfl
 | _ :: _,[]=>.inr (.inr rfl)
 | x :: a,y :: b=>by
  simp only[Op.bytesLess,pC,uL,uR,rC];rcases Nat.lt_trichotomy x.toNat y.toNat with h|h|h
  .exact .inl (.inl h)
  .have e:x=y:=UInt8.toNat_inj.1 h;subst e;rcases zP7 a b with h|rfl|h
   .exact .inl (.inr ⟨rfl,h⟩)
   .exact .inr (.inl rfl)
   .exact .inr (.inr (.inr ⟨rfl,h⟩))
  .exact .inr (.inr (.inl h))
theorem zBA(a:ByteArray):qH a a=false:=zI7 _
theorem qQ{a b c:ByteArray}(h:qH a b=true)(k:qH b c=true):qH a c=true:=zKz _ _ _ h k
theorem toList_inj{a b:ByteArray}(h:a.toList=b.toList):a=b:=by
 rw[ByteArray.toList_eq,ByteArray.toList_eq] at h;exact pQ (Array.ext' h)
theorem zEs(a b:ByteArray):qH a b=true\/a=b\/qH b a=true:=by
 rcases zP7 a.toList b.toList with h|h|h
 .exact .inl h
 .exact .inr (.inl (toList_inj h))
 .exact .inr (.inr h)
theorem zBj{a b:ByteArray}(h:qH a b=true):qH b a=false:=by
 cases hb:qH b a with
 | false=>rfl
 | true=>have:=qQ h hb;rw[zBA] at this;cases this
theorem zBt{a b:ByteArray}(h:qH a b=true):a≠b:=λe=>by rw[e,zBA] at h;cases h
theorem zN6(a b:ByteArray):leS a b=true ↔ qH a b=true\/a=b:=by
 unfold leS qH;rw[pC,rC];exact⟨λh=>h.imp id toList_inj,λh=>h.imp id (λe=>by rw[e])⟩
theorem zC8{a b:ByteArray}(h:qH a b=false):qH b a=true\/a=b:=by
 rcases zEs a b with k|k|k
 .rw[h] at k;cases k
 .exact .inr k
 .exact .inl k
abbrev zE:=ByteArray × ByteArray
def yK(l:List zE):Prop:=l.Pairwise λa b=>qH a.1 b.1=true
def yM(key value:ByteArray)(over:Bool):List zE->List zE
 | []=>[(key,value)]
 | x :: l=>if qH x.1 key then x :: yM key value over l
  else if x.1=key then (if over then (key,value) :: l else x :: l) else (key,value) :: x :: l
def yV(key:ByteArray)(l:List zE):Option ByteArray:=(l.find? λx=>decide (x.1=key)).map (·.2)
theorem zEt{key value:ByteArray}{over:Bool}{y:zE}:∀{l:List zE},y∈yM key value over l->y=(key,value)\/y∈l
 | [],h=>by simp[yM] at h;exact .inl h
 | x :: l,h=>by
  unfold yM at h;split at h
  .rcases uP.1 h with rfl|h
   .exact .inr uH
   .exact (zEt h).imp id (uI _)
  .split at h
   .split at h
    .rcases uP.1 h with rfl|h
     .exact .inl rfl
     .exact .inr (uI _ h)
    .exact .inr h
   .rcases uP.1 h with rfl|h
    .exact .inl rfl
    .exact .inr h
theorem zBP{key value:ByteArray}{over:Bool}:∀{l:List zE},yK l->yK (yM key value over l)
 | [],_=>by unfold yM yK;exact List.pairwise_singleton _ _
 | x :: l,h=>by
  have h2:=wT.1 h;unfold yM;by_cases h1:qH x.1 key=true
  .rw[if_pos h1];refine wT.2 ⟨λy hy=>?_,zBP h2.2⟩;rcases zEt hy with rfl|hy
   .exact h1
   .exact h2.1 y hy
  .rw[if_neg h1];by_cases hk:x.1=key
   .rw[if_pos hk];cases over with
    | true=>exact wT.2 ⟨λy hy=>by have:=h2.1 y hy;rw[hk] at this;exact this,h2.2⟩
    | false=>exact h
   .rw[if_neg hk];have h3:qH key x.1=true:=(zC8 (by simpa using h1)).resolve_right hk;refine wT.2 ⟨λy hy=>?_,h⟩;rcases uP.1 hy with rfl|hy
    .exact h3
    .exact qQ h3 (h2.1 y hy)
theorem qE(key:ByteArray)(x:zE)(l:List zE):yV key (x :: l)=if x.1=key then some x.2 else yV key l:=by
 unfold yV;rw[List.find?_cons];by_cases h:x.1=key
 .simp[h]
 .simp[h]
theorem zDk{key:ByteArray}{l:List zE}(h:∀x∈l,x.1≠key):yV key l=none:=by
 unfold yV;rw[List.find?_eq_none.2 (λx hx=>by simpa using h x hx)];rfl
theorem zAQ(key:ByteArray)(a b:List zE):yV key (a++b)=(yV key a).or (yV key b):=by
 induction a with
 | nil=>simp[yV]
 | cons x a ih =>
  rw[wX,qE,qE,ih];by_cases h:x.1=key
  .rw[if_pos h,if_pos h];rfl
  .rw[if_neg h,if_neg h]
theorem zEK{key:ByteArray}{l:List zE}(h:∀x∈l,qH x.1 key=true):yV key l=none:=zDk (λx hx=>zBt (h x hx))
theorem zDW{key:ByteArray}{l:List zE}(h:∀x∈l,qH key x.1=true):yV key l=none:=zDk (λx hx e=>zBt (h x hx) e.symm)
theorem zHh{key value k:ByteArray}{over:Bool}:∀{l:List zE},yK l->yV k (yM key value over l)=if k=key then (match yV key l with|some v=>some (if over then value else v)|none=>some value) else yV k l
 | [],_=>by
  unfold yM;rw[qE];by_cases h:k=key
  .subst h;simp[yV]
  .rw[if_neg (λe=>h e.symm),if_neg h]
 | x :: l,hs=>by
  have h2:=wT.1 hs;unfold yM;by_cases h1:qH x.1 key=true
  .rw[if_pos h1,qE,zHh h2.2,qE,qE];have hne:=zBt h1;by_cases h:k=key
   .subst h;rw[if_neg hne,if_pos rfl,if_pos rfl,if_neg hne]
   .rw[if_neg h,if_neg h]
  .rw[if_neg h1];by_cases hk:x.1=key
   .rw[if_pos hk];have hnl:yV key l=none:=zDW (λy hy=>by have:=h2.1 y hy;rw[hk] at this;exact this);cases over with
    | true =>
     simp only[tY];rw[qE];by_cases h:k=key
     .subst h;rw[if_pos rfl,if_pos rfl,qE,if_pos hk]
     .rw[if_neg (λe=>h e.symm),if_neg h,qE,if_neg (λe=>h (e.symm.trans hk))]
    | false =>
     simp only[wH,tO];by_cases h:k=key
     .subst h;rw[if_pos rfl,qE,if_pos hk]
     .rw[if_neg h]
   .rw[if_neg hk];have h3:qH key x.1=true:=(zC8 (by simpa using h1)).resolve_right hk;have hn:yV key (x :: l)=none:=zDW (λy hy=>by
     rcases uP.1 hy with rfl|hy
     .exact h3
     .exact qQ h3 (h2.1 y hy))
    rw[qE];by_cases h:k=key
    .subst h;rw[if_pos rfl,if_pos rfl,hn]
    .rw[if_neg (λe=>h e.symm),if_neg h]
end
section
structure jM where
 gen:Nat
 blocks:Nat
 size:Nat
 root:Nat
 keys:Nat
 deriving DecidableEq
def zC9(s:jM):Bool:=decide (8<=s.blocks) && decide (s.blocks<=256) && decide (256<=s.size) && decide (s.size<=1024) && decide (s.keys<=2147483647) && decide (s.root=0\/2<=s.root/\s.root<s.blocks) && decide (s.root=0->s.keys=0)
theorem zCF(s:jM):zC9 s=true ↔ 8<=s.blocks/\s.blocks<=256/\256<=s.size/\s.size<=1024/\s.keys<=2147483647/\(s.root=0\/2<=s.root/\s.root<s.blocks)/\(s.root=0->s.keys=0):=by
 unfold zC9;simp only[uL,uR];exact⟨λ⟨⟨⟨⟨⟨⟨a,b⟩,c⟩,d⟩,e⟩,f⟩,g⟩=>⟨a,b,c,d,e,f,g⟩,λ⟨a,b,c,d,e,f,g⟩=>⟨⟨⟨⟨⟨⟨a,b⟩,c⟩,d⟩,e⟩,f⟩,g⟩⟩
def vU(s:jM):List UInt8:=zV 4 s.blocks++zV 4 s.size++zV 4 s.root++zV 4 s.keys++zV 8 s.gen
def zCe(s:jM)(i:Nat):yF:=⟨1,i,s.gen,vU s⟩
def zAT(s:jM)(i:Nat):List UInt8:=zA5 (zCe s i) s.size
theorem zBu(s:jM):(vU s).length=24:=by simp[vU,zC]
theorem zGv{s:jM}(h:zC9 s=true){i:Nat}(hi:i<2):qC (zCe s i) s.size=none:=by
 obtain⟨a,b,c,d,e,f,g⟩:=(zCF s).1 h;have hb:=zBu s;have h1:zAg s.size=true:=by unfold zAg;simp;omega
 have h2:zCu (zCe s i).kind=true:=by show zCu 1=true;decide
 unfold qC;rw[h1,h2,if_neg (by simp),if_neg];simp only[zCe];rw[hb];simp;omega
theorem zBa{s:jM}(h:zC9 s=true)(i:Nat):(zAT s i).length=s.size:=by
 obtain⟨a,b,c,d,e,f,g⟩:=(zCF s).1 h;exact zAO _ _ (by simp only[zCe,zBu];omega)
def zEL(p:yF):jM:=⟨p.gen,zZ p.body 0 4,zZ p.body 4 4,zZ p.body 8 4,zZ p.body 12 4⟩
def zGO(p:yF):Bool:=decide (p.body.length=24) && decide (zZ p.body 16 8=p.gen) && decide (p.kind=1) && zC9 (zEL p)
def zBB(l:List UInt8)(i:Nat):Option jM:=match yT l i with
 | .inl p=>if zGO p=true/\(zEL p).size=l.length then some (zEL p) else none
 | .inr _=>none
theorem zSZ(s:jM)(h:s.blocks<4294967296):zZ (vU s) 0 4=s.blocks:=by
 have e:vU s=[]++(zV 4 s.blocks++(zV 4 s.size++zV 4 s.root++zV 4 s.keys++zV 8 s.gen)):=by simp only[vU,uM,wN]
 rw[e];exact vC [] _ 4 s.blocks 0 rfl h
theorem zSa(s:jM)(h:s.size<4294967296):zZ (vU s) 4 4=s.size:=by
 have e:vU s=zV 4 s.blocks++(zV 4 s.size++(zV 4 s.root++zV 4 s.keys++zV 8 s.gen)):=by simp only[vU,uM]
 rw[e];exact vC _ _ 4 s.size 4 (zC _ _) h
theorem zSb(s:jM)(h:s.root<4294967296):zZ (vU s) 8 4=s.root:=by
 have e:vU s=(zV 4 s.blocks++zV 4 s.size)++(zV 4 s.root++(zV 4 s.keys++zV 8 s.gen)):=by simp only[vU,uM]
 rw[e];exact vC _ _ 4 s.root 8 (by rw[uC,zC,zC]) h
theorem zRh(s:jM)(h:s.keys<4294967296):zZ (vU s) 12 4=s.keys:=by
 have e:vU s=(zV 4 s.blocks++zV 4 s.size++zV 4 s.root)++(zV 4 s.keys++zV 8 s.gen):=by simp only[vU,uM]
 rw[e];exact vC _ _ 4 s.keys 12 (by rw[uC,uC,zC,zC,zC]) h
theorem zRi(s:jM)(h:s.gen<18446744073709551616):zZ (vU s) 16 8=s.gen:=by
 have e:vU s=(zV 4 s.blocks++zV 4 s.size++zV 4 s.root++zV 4 s.keys)++(zV 8 s.gen++[]):=by simp only[vU,uM,wJ]
 rw[e];exact vC _ _ 8 s.gen 16 (by rw[uC,uC,uC,zC,zC,zC,zC]) h
theorem zP8{s:jM}(h:zC9 s=true)(hg:s.gen<18446744073709551616)(i:Nat):zEL (zCe s i)=s/\zGO (zCe s i)=true:=by
 obtain⟨a,b,c,d,e,f, -⟩:=(zCF s).1 h;have hb:(zCe s i).body=vU s:=rfl;have hs:zEL (zCe s i)=s:=by
  unfold zEL;rw[hb,zSZ s (by omega),zSa s (by omega),zSb s (by omega),zRh s (by omega)];rfl
 refine⟨hs,?_⟩;unfold zGO;rw[hs,h,hb,zRi s hg,zBu];show (decide (24=24) && decide (s.gen=s.gen) && decide ((1:Int)=1) && true)=true;rw[uU rfl,uU rfl,uU rfl];rfl
theorem zI8{s:jM}(h:zC9 s=true)(hg:s.gen<18446744073709551616){i:Nat}(hi:i<2):zBB (zAT s i) i=some s:=by
 obtain⟨h1,h2⟩:=zP8 h hg i;unfold zBB;have:=zEH (p:=zCe s i) (size:=s.size) (zGv h hi) hg;rw[show yT (zAT s i) (i:Int)=.inl (zCe s i) from this];simp only;rw[h1,zBa h,if_pos ⟨h2,rfl⟩]
theorem zP9{l:List UInt8}{i:Nat}{s:jM}(h:zBB l i=some s):zC9 s=true/\s.gen<18446744073709551616/\s.size=l.length:=by
 unfold zBB at h;split at h
 .rename_i p hp;split at h
  .rename_i hc;injection h with h;subst h;have hk:=hc.1;unfold zGO at hk;simp only[uL] at hk;refine⟨hk.2,?_,hc.2⟩;unfold yT at hp;split at hp
   .cases hp
   .split at hp
    .cases hp
    .injection hp with hp;subst hp;exact zEr l
  .cases h
 .cases h
structure zBQ where
 gen:Nat
 blocks:Nat
 used:List Nat
 deriving DecidableEq
def zCA(m:zBQ):Bool:=decide (8<=m.blocks) && decide (m.blocks<=256) && decide (6<=m.used.length) && decide (m.used.take 6=[0,1,2,3,4,5]) && decide (m.used.Pairwise (· < ·)) && decide (∀n∈m.used,n<m.blocks)
theorem zAN(m:zBQ):zCA m=true ↔ 8<=m.blocks/\m.blocks<=256/\6<=m.used.length/\m.used.take 6=[0,1,2,3,4,5]/\m.used.Pairwise (· < ·)/\∀n∈m.used,n<m.blocks:=by
 unfold zCA;simp only[uL,uR];exact⟨λ⟨⟨⟨⟨⟨a,b⟩,c⟩,d⟩,e⟩,f⟩=>⟨a,b,c,d,e,f⟩,λ⟨a,b,c,d,e,f⟩=>⟨⟨⟨⟨⟨a,b⟩,c⟩,d⟩,e⟩,f⟩⟩
def orB(l:List UInt8)(q:Nat):List UInt8:=l.set (q / 8) (UInt8.ofNat ((l.getD (q / 8) 0).toNat ||| 2 ^ (q % 8)))
theorem zFN(l:List UInt8)(q:Nat):(orB l q).length=l.length:=by simp[orB]
theorem zRj(l:List UInt8)(q p:Nat)(hq:q<8 * l.length):zFm (orB l q) p=(zFm l p || decide (p=q)):=by
 unfold zFm orB;by_cases hj:p / 8=q / 8
 .have hl:q / 8<l.length:=by omega
  rw[hj];have e1:(l.set (q / 8) (UInt8.ofNat ((l.getD (q / 8) 0).toNat ||| 2 ^ (q % 8)))).getD (q / 8) 0=UInt8.ofNat ((l.getD (q / 8) 0).toNat ||| 2 ^ (q % 8)):=by
   simp[List.getD,hl]
  have h2:(2:Nat) ^ (q % 8)<2 ^ 8:=Nat.pow_lt_pow_right (by omega) (by omega);rw[e1,UInt8.toNat_ofNat',rL (Nat.or_lt_two_pow (n:=8) (l.getD (q / 8) 0).toNat_lt h2),Nat.testBit_or];congr 1
  rw[Nat.testBit_two_pow];simp;omega
 .have e1:(l.set (q / 8) (UInt8.ofNat ((l.getD (q / 8) 0).toNat ||| 2 ^ (q % 8)))).getD (p / 8) 0=l.getD (p / 8) 0:=by
   simp only[List.getD];rw[wE (λe=>hj e.symm)]
  rw[e1];have:p≠q:=λe=>hj (by rw[e])
  simp[this]
def zCf(blocks:Nat)(used:List Nat):List UInt8:=used.foldl orB (List.replicate ((blocks+7) / 8) 0)
theorem zEA:∀(u:List Nat) (l:List UInt8),(u.foldl orB l).length=l.length
 | [],_=>rfl
 | q :: u,l=>by rw[nQ,zEA u,zFN]
theorem zFn:∀(u:List Nat) (l:List UInt8) (p:Nat),(∀q∈u,q<8 * l.length)->zFm (u.foldl orB l) p=(zFm l p || decide (p∈u))
 | [],l,p,_=>by simp
 | q :: u,l,p,h=>by
  rw[nQ,zFn u (orB l q) p (λx hx=>by rw[zFN];exact h x (uI _ hx)),zRj l q p (h q uH),Bool.or_assoc];congr 1
  by_cases e:p=q <;> simp[e]
theorem zKE(b:Nat)(u:List Nat):(zCf b u).length=(b+7) / 8:=by rw[zCf,zEA,pE]
theorem zK0(n p:Nat):zFm (List.replicate n 0) p=false:=by
 unfold zFm;have:(List.replicate n (0:UInt8)).getD (p / 8) 0=0:=by
  rw[tM,tW];split <;> rfl
 rw[this];simp
theorem zOl{b:Nat}{u:List Nat}(h:∀n∈u,n<b)(p:Nat):zFm (zCf b u) p=decide (p∈u):=by
 rw[zCf,zFn u _ p (λq hq=>by rw[pE];have:=h q hq;omega),zK0,Bool.false_or]
def qW(m:zBQ):List UInt8:=zV 4 m.blocks++zV 4 m.used.length++zCf m.blocks m.used
def zCB(m:zBQ)(i:Nat):yF:=⟨5,i,m.gen,qW m⟩
def qM(m:zBQ)(i size:Nat):List UInt8:=zA5 (zCB m i) size
def place(gen k:Nat):Nat:=2+2 * (gen % 2)+k
def zBR(gen i:Nat):Bool:=decide (i=place gen 0) || decide (i=place gen 1)
theorem zBC(m:zBQ):(qW m).length=8+(m.blocks+7) / 8:=by
 simp only[qW,uC,zC,zKE]
theorem zGw{m:zBQ}(h:zCA m=true){i size:Nat}(hi:i<6)(h1:256<=size)(h2:size<=1024):qC (zCB m i) size=none:=by
 obtain⟨a,b,c,d,e,f⟩:=(zAN m).1 h;have hb:=zBC m;have h1':zAg size=true:=by unfold zAg;simp;omega
 have h2':zCu (zCB m i).kind=true:=by show zCu 5=true;decide
 unfold qC;rw[h1',h2',if_neg (by simp),if_neg];simp only[zCB];rw[hb];simp;omega
theorem zAU{m:zBQ}(h:zCA m=true)(i:Nat){size:Nat}(h1:256<=size):(qM m i size).length=size:=by
 obtain⟨a,b,c,d,e,f⟩:=(zAN m).1 h;exact zAO _ _ (by simp only[zCB,zBC];omega)
def zGx(p:yF):zBQ :=
 if p.body.length<4\/256<zZ p.body 0 4 then ⟨0,0,[]⟩
 else ⟨p.gen,zZ p.body 0 4,(List.range (zZ p.body 0 4)).filter λi=>decide (8+i / 8<p.body.length) && (p.body.getD (8+i / 8) 0).toNat.testBit (i % 8)⟩
def zKF(b:List UInt8)(n:Nat):List Nat:=(List.range n).filter λi=>decide (8+i / 8<b.length) && (b.getD (8+i / 8) 0).toNat.testBit (i % 8)
theorem zI9(p:yF)(h1:4<=p.body.length)(h2:zZ p.body 0 4<=256):zGx p=⟨p.gen,zZ p.body 0 4,zKF p.body (zZ p.body 0 4)⟩:=by
 unfold zGx;rw[if_neg (by omega)];rfl
theorem zHi:∀(u:List Nat) (b:Nat),u.Pairwise (· < ·)->(∀n∈u,n<b)->(List.range b).filter (λi=>decide (i∈u))=u:=by
 intro u b hs hb;have hp:((List.range b).filter (λi=>decide (i∈u))).Pairwise (· < ·):=List.Pairwise.filter _ List.pairwise_lt_range;refine List.Perm.eq_of_pairwise (le:=λa b=>a<b) (λa b _ _ h1 h2=>by omega) hp hs ?_;refine (List.perm_ext_iff_of_nodup (hp.imp (λh e=>by omega)) (hs.imp (λh e=>by omega))).2 (λx=>?_);simp only[List.mem_filter,List.mem_range,uR];exact⟨λh=>h.2,λh=>⟨hb x h,h⟩⟩
theorem zQA{m:zBQ}(h:zCA m=true)(i:Nat):zGx (zCB m i)=m:=by
 obtain⟨a,b,c,d,e,f⟩:=(zAN m).1 h;have hlen:m.used.length<=256:=by
  have h1:m.used=(List.range m.blocks).filter (λi=>decide (i∈m.used)):=(zHi _ _ e f).symm;have:=List.length_filter_le (λi=>decide (i∈m.used)) (List.range m.blocks);rw[<- h1,List.length_range] at this;omega
 have n0:zZ (qW m) 0 4=m.blocks:=by
  have:qW m=[]++(zV 4 m.blocks++(zV 4 m.used.length++zCf m.blocks m.used)):=by simp[qW]
  rw[this,vC [] _ 4 m.blocks 0 rfl (by have:(256:Nat) ^ 4=4294967296:=(by decide);omega)]
 have hl:=zBC m;rw[zI9 (zCB m i) (by show 4<=(qW m).length;omega) (by show zZ (qW m) 0 4<=256;omega)];show (⟨m.gen,zZ (qW m) 0 4,zKF (qW m) (zZ (qW m) 0 4)⟩:zBQ)=m;rw[n0];have hu:zKF (qW m) m.blocks=m.used:=by
  unfold zKF;refine Eq.trans ?_ (zHi _ _ e f);refine List.filter_congr (λx hx=>?_);have hxb:=List.mem_range.1 hx;have hb:=zOl f x;unfold zFm at hb;have hg:(qW m).getD (8+x / 8) 0=(zCf m.blocks m.used).getD (x / 8) 0:=by
   rw[tM,tM,qW,wS (by simp[zC])];simp[zC]
  rw[hg,hb,hl,uU (by omega),nN]
 rw[hu]
def zB8(key value:ByteArray)(over:Bool)(l:List zE)(i:Nat)(done:Bool)(out:List zE):Prop :=
 out.length+(if done then 0 else 1)<=i+1/\out++(if done then l.drop i else yM key value over (l.drop i))=yM key value over l
section
variable {key value:ByteArray}{over:Bool}{l out:List zE}{i:Nat}{x:zE}
theorem zB8.start:zB8 key value over l 0 false []:=⟨by simp,by simp⟩
theorem zDl{α:Type}{l:List α}{i:Nat}{x:α}(h:l[i]? = some x):l.drop i=x :: l.drop (i+1):=by
 obtain⟨hi,rfl⟩:=uB.1 h;exact wK hi
theorem zB8.pass(h:zB8 key value over l i true out)(hx:l[i]? = some x):zB8 key value over l (i+1) true (out++[x]):=by
 obtain⟨h1,h2⟩:=h;rw[zDl hx] at h2;exact⟨by simp at h1 ⊢;omega,by simpa using h2⟩
theorem zB8.lt(h:zB8 key value over l i false out)(hx:l[i]? = some x)(hl:qH x.1 key=true):zB8 key value over l (i+1) false (out++[x]):=by
 obtain⟨h1,h2⟩:=h;rw[zDl hx] at h2;simp only[yM,hl] at h2;exact⟨by simp at h1 ⊢;omega,by simpa using h2⟩
theorem zB8.gt(h:zB8 key value over l i false out)(hx:l[i]? = some x)(hl:qH x.1 key=false)(hk:x.1≠key):zB8 key value over l (i+1) true (out++[(key,value)]++[x]):=by
 obtain⟨h1,h2⟩:=h;rw[zDl hx] at h2;simp only[yM,hl,hk] at h2;exact⟨by simp at h1 ⊢;omega,by simpa using h2⟩
theorem zB8.eqO(h:zB8 key value true l i false out)(hx:l[i]? = some x)(hk:x.1=key):zB8 key value true l (i+1) true (out++[(key,value)]):=by
 obtain⟨h1,h2⟩:=h;rw[zDl hx] at h2;simp only[yM,hk,zBA] at h2;exact⟨by simp at h1 ⊢;omega,by simpa using h2⟩
theorem zB8.eqN(h:zB8 key value false l i false out)(hx:l[i]? = some x)(hk:x.1=key):zB8 key value false l (i+1) true (out++[x]):=by
 obtain⟨h1,h2⟩:=h;rw[zDl hx] at h2;simp only[yM,hk,zBA] at h2;exact⟨by simp at h1 ⊢;omega,by simpa using h2⟩
theorem zB8.done(h:zB8 key value over l i true out)(hi:l.length<=i):out=yM key value over l:=by
 obtain⟨h1,h2⟩:=h;rw[tH hi] at h2;simpa using h2
theorem zB8.last(h:zB8 key value over l i false out)(hi:l.length<=i):out++[(key,value)]=yM key value over l:=by
 obtain⟨h1,h2⟩:=h;rw[tH hi] at h2;simpa[yM] using h2
end
end
section
open Go.RowKit
structure ChV where
 key:ByteArray
 was:Bool
 is:Bool
 old:ByteArray
 new:ByteArray
def zDA(x:ChV):List Value:=[.string x.key,.bool x.was,.bool x.is,.string x.old,.string x.new]
def emS:ByteArray:=⟨#[]⟩
def zK1(x:zE):ChV:=⟨x.1,true,false,x.2,emS⟩
def zMn(y:zE):ChV:=⟨y.1,false,true,emS,y.2⟩
def zSc(x y:zE):ChV:=⟨x.1,true,true,x.2,y.2⟩
def vD:List zE->List zE->List ChV
 | [],ys=>ys.map zMn
 | x :: xs,[]=>zK1 x :: vD xs []
 | x :: xs,y :: ys =>
  if qH x.1 y.1=true then zK1 x :: vD xs (y :: ys)
  else if qH y.1 x.1=true then zMn y :: vD (x :: xs) ys
  else if x.2=y.2 then vD xs ys else zSc x y :: vD xs ys
termination_by xs ys=>xs.length+ys.length
def zMo(k:ByteArray)(o n:Option ByteArray):List ChV :=
 if o.isSome=n.isSome/\o.getD emS=n.getD emS then [] else [⟨k,o.isSome,n.isSome,o.getD emS,n.getD emS⟩]
def zA2(a b:List zE)(k:ByteArray):List ChV:=zMo k (yV k a) (yV k b)
def zBk(a b:List zE):List zE:=b.foldl (λk y=>yM y.1 emS true k) a
def zKG(a b:List zE):List ChV:=(zBk a b).flatMap λx=>zA2 a b x.1
theorem zFo:∀(b:List zE) {a:List zE},yK a->yK (zBk a b)
 | [],_,h=>h
 | _ :: b,_,h=>zFo b (zBP h)
theorem zKH{key value:ByteArray}{over:Bool}{l:List zE}(hs:yK l)(k:ByteArray):k∈(yM key value over l).map (·.1) ↔ k=key\/k∈l.map (·.1):=by
 have hf:∀(q:List zE),k∈q.map (·.1) ↔ yV k q≠none:=by
  intro q;induction q with
  | nil=>simp[yV]
  | cons x q ih =>
   rw[wO,uP,qE,ih];by_cases h:x.1=k
   .rw[if_pos h];exact⟨λ_ h=>by simp at h,λ_=>.inl h.symm⟩
   .rw[if_neg h];exact⟨λh1=>h1.resolve_left (λe=>h e.symm),.inr⟩
 rw[hf,hf,zHh hs];by_cases h:k=key
 .rw[if_pos h];refine⟨λ_=>.inl h,λ_=>?_⟩;cases yV key l <;> simp
 .rw[if_neg h];exact⟨.inr,λh1=>h1.resolve_left h⟩
theorem zJA:∀(b:List zE) {a:List zE},yK a->∀k,k∈(zBk a b).map (·.1) ↔ k∈a.map (·.1)\/k∈b.map (·.1)
 | [],a,_,k=>by simp[zBk]
 | y :: b,a,h,k=>by
  have:=zJA b (zBP (key:=y.1) (value:=emS) (over:=true) h) k;rw[show zBk a (y :: b)=zBk (yM y.1 emS true a) b from rfl,this,zKH h,wO,uP];constructor
  .rintro ((h|h)|h)
   .exact .inr (.inl h)
   .exact .inl h
   .exact .inr (.inr h)
  .rintro (h|h|h)
   .exact .inl (.inr h)
   .exact .inl (.inl h)
   .exact .inr h
def zFp(l:List ByteArray):Prop:=l.Pairwise λa b=>qH a b=true
theorem zFp.head{l:List ByteArray}(h:zFp l){m:ByteArray}(hm:m∈l)(hl:∀k∈l,k=m\/qH m k=true):∃r,l=m :: r/\zFp r/\∀k∈r,qH m k=true:=by
 cases l with
 | nil=>simp at hm
 | cons x r =>
  obtain⟨h1,h2⟩:=wT.1 h;rcases hl x uH with e|e
  .subst e;exact⟨r,rfl,h2,h1⟩
  .rcases uP.1 hm with e2|e2
   .subst e2;exact⟨r,rfl,h2,h1⟩
   .have:=h1 m e2;rw[zBj e] at this;cases this
theorem yK.cons{x:zE}{l:List zE}(h:yK (x :: l)):(∀y∈l,qH x.1 y.1=true)/\yK l:=wT.1 h
theorem zCG{α β:Type}{f g:α->List β}:∀{l:List α},(∀x∈l,f x=g x)->l.flatMap f=l.flatMap g
 | [],_=>rfl
 | x :: l,h=>by rw[uZ,uZ,h x uH,zCG (λy hy=>h y (uI _ hy))]
theorem zCH{x:zE}{l:List zE}{k:ByteArray}(h:qH x.1 k=true):yV k (x :: l)=yV k l:=by
 rw[qE,if_neg (zBt h)]
theorem zCI(x:zE)(l:List zE):yV x.1 (x :: l)=some x.2:=by rw[qE,if_pos rfl]
theorem zQB:∀(a b:List zE) (K:List ByteArray),yK a->yK b->zFp K->(∀k,k∈K ↔ k∈a.map (·.1)\/k∈b.map (·.1))->K.flatMap (zA2 a b)=vD a b:=by
 intro a b;induction hn:a.length+b.length using Nat.strongRecOn generalizing a b with
 | _ n ih =>
 subst hn;intro K ha hb hK hm;have gt1:∀{x:zE} {l:List zE},yK (x :: l)->∀k∈(x :: l).map (·.1),k=x.1\/qH x.1 k=true:=by
  intro x l h k hk;rw[wO,uP] at hk;rcases hk with e|hk
  .exact .inl e
  .obtain⟨y,hy,rfl⟩:=rK.1 hk;exact .inr (h.cons.1 y hy)
 have nin:∀{m:ByteArray} {l:List zE},(∀y∈l,qH m y.1=true)->m ∉ l.map (·.1):=by
  intro m l h hk;obtain⟨y,hy,e⟩:=rK.1 hk;exact zBt (h y hy) e.symm
 match a,b with
 | [],[] =>
  have:K=[]:=by
   cases K with
   | nil=>rfl
   | cons k r=>have:=(hm k).1 uH;simp at this
  subst this;simp[vD]
 | [],y :: ys =>
  obtain⟨r,rfl,hr,hg⟩:=hK.head (m:=y.1) ((hm y.1).2 (.inr (by simp))) (λk hk=>by
   rcases (hm k).1 hk with h|h
   .simp at h
   .exact gt1 hb k h)
  have hys:=hb.cons;rw[uZ];have h1:zA2 [] (y :: ys) y.1=[zMn y]:=by
   unfold zA2 zMo;rw[zCI];simp[yV,zMn]
  have h2:r.flatMap (zA2 [] (y :: ys))=r.flatMap (zA2 [] ys):=zCG (λk hk=>by unfold zA2;rw[zCH (hg k hk)]);rw[h1,h2,ih _ (by simp) [] ys rfl r List.Pairwise.nil hys.2 hr (λk=>?_)]
  .simp[vD]
  .have hmk:=hm k;simp only[rZ,rV,false_or,wO,uP] at hmk ⊢;constructor
   .intro h;exact (hmk.1 (.inr h)).resolve_left (λe=>zBt (hg k h) e.symm)
   .intro h;refine (hmk.2 (.inr h)).resolve_left (λe=>nin hys.1 (e ▸ h))
 | x :: xs,[] =>
  obtain⟨r,rfl,hr,hg⟩:=hK.head (m:=x.1) ((hm x.1).2 (.inl (by simp))) (λk hk=>by
   rcases (hm k).1 hk with h|h
   .exact gt1 ha k h
   .simp at h)
  have hxs:=ha.cons;rw[uZ];have h1:zA2 (x :: xs) [] x.1=[zK1 x]:=by
   unfold zA2 zMo;rw[zCI];simp[yV,zK1]
  have h2:r.flatMap (zA2 (x :: xs) [])=r.flatMap (zA2 xs []):=zCG (λk hk=>by unfold zA2;rw[zCH (hg k hk)]);rw[h1,h2,ih _ (by simp) xs [] rfl r hxs.2 List.Pairwise.nil hr (λk=>?_)]
  .simp[vD]
  .have hmk:=hm k;simp only[rZ,rV,or_false,wO,uP] at hmk ⊢;constructor
   .intro h;exact (hmk.1 (.inr h)).resolve_left (λe=>zBt (hg k h) e.symm)
   .intro h;refine (hmk.2 (.inr h)).resolve_left (λe=>nin hxs.1 (e ▸ h))
 | x :: xs,y :: ys =>
  have hxs:=ha.cons;have hys:=hb.cons;by_cases h1:qH x.1 y.1=true
  .have hyx:∀z∈y :: ys,qH x.1 z.1=true:=by
    intro z hz;rcases uP.1 hz with rfl|hz
    .exact h1
    .exact qQ h1 (hys.1 z hz)
   obtain⟨r,rfl,hr,hg⟩:=hK.head (m:=x.1) ((hm x.1).2 (.inl (by simp))) (λk hk=>by
    rcases (hm k).1 hk with h|h
    .exact gt1 ha k h
    .obtain⟨z,hz,rfl⟩:=rK.1 h;exact .inr (hyx z hz))
   rw[uZ];have e1:zA2 (x :: xs) (y :: ys) x.1=[zK1 x]:=by
    unfold zA2 zMo;rw[zCI,zDW hyx];simp[zK1]
   have e2:r.flatMap (zA2 (x :: xs) (y :: ys))=r.flatMap (zA2 xs (y :: ys)):=zCG (λk hk=>by unfold zA2;rw[zCH (hg k hk)]);rw[e1,e2,ih _ (by simp) xs (y :: ys) rfl r hxs.2 hb hr (λk=>?_),vD,if_pos h1]
   .rfl
   .have hmk:=hm k;rw[wO (l:=xs),uP,uP] at hmk;constructor
    .intro h;rcases hmk.1 (.inr h) with (e|h2)|h2
     .exact absurd e.symm (zBt (hg k h))
     .exact .inl h2
     .exact .inr h2
    .intro h;refine (hmk.2 (h.imp .inr id)).resolve_left (λe=>?_);rcases h with h|h
     .exact nin hxs.1 (e ▸ h)
     .exact nin hyx (e ▸ h)
  .by_cases h2:qH y.1 x.1=true
   .have hxy:∀z∈x :: xs,qH y.1 z.1=true:=by
     intro z hz;rcases uP.1 hz with rfl|hz
     .exact h2
     .exact qQ h2 (hxs.1 z hz)
    obtain⟨r,rfl,hr,hg⟩:=hK.head (m:=y.1) ((hm y.1).2 (.inr (by simp))) (λk hk=>by
     rcases (hm k).1 hk with h|h
     .obtain⟨z,hz,rfl⟩:=rK.1 h;exact .inr (hxy z hz)
     .exact gt1 hb k h)
    rw[uZ];have e1:zA2 (x :: xs) (y :: ys) y.1=[zMn y]:=by
     unfold zA2 zMo;rw[zCI,zDW hxy];simp[zMn]
    have e2:r.flatMap (zA2 (x :: xs) (y :: ys))=r.flatMap (zA2 (x :: xs) ys):=zCG (λk hk=>by unfold zA2;rw[zCH (x:=y) (hg k hk)]);rw[e1,e2,ih _ (by simp) (x :: xs) ys rfl r ha hys.2 hr (λk=>?_),vD,if_neg h1,if_pos h2]
    .rfl
    .have hmk:=hm k;rw[wO (l:=ys),uP,uP] at hmk;constructor
     .intro h;rcases hmk.1 (.inr h) with h2|e|h2
      .exact .inl h2
      .exact absurd e.symm (zBt (hg k h))
      .exact .inr h2
     .intro h;refine (hmk.2 (h.imp id .inr)).resolve_left (λe=>?_);rcases h with h|h
      .exact nin hxy (e ▸ h)
      .exact nin hys.1 (e ▸ h)
   .have hxy:x.1=y.1:=by
     rcases zEs x.1 y.1 with h|h|h
     .exact absurd h h1
     .exact h
     .exact absurd h h2
    obtain⟨r,rfl,hr,hg⟩:=hK.head (m:=x.1) ((hm x.1).2 (.inl (by simp))) (λk hk=>by
     rcases (hm k).1 hk with h|h
     .exact gt1 ha k h
     .have:=gt1 hb k h;rw[<- hxy] at this;exact this)
    rw[uZ];have e1:zA2 (x :: xs) (y :: ys) x.1=if x.2=y.2 then [] else [zSc x y]:=by
     unfold zA2 zMo;rw[zCI,hxy,zCI];by_cases e:x.2=y.2
     .rw[if_pos ⟨rfl,e⟩,if_pos e]
     .rw[if_neg (λh=>e h.2),if_neg e];simp[zSc,hxy]
    have e2:r.flatMap (zA2 (x :: xs) (y :: ys))=r.flatMap (zA2 xs ys):=zCG (λk hk=>by unfold zA2;rw[zCH (hg k hk),zCH (x:=y) (hxy ▸ hg k hk)]);rw[e1,e2,ih _ (by simp;omega) xs ys rfl r hxs.2 hys.2 hr (λk=>?_),vD,if_neg h1,if_neg h2]
    .split <;> rfl
    .have hmk:=hm k;rw[wO,wO,uP,uP,uP,<- hxy] at hmk;constructor
     .intro h;have hne:¬ k=x.1:=λe=>zBt (hg k h) e.symm
      rcases hmk.1 (.inr h) with (e|h2)|e|h2
      .exact absurd e hne
      .exact .inl h2
      .exact absurd e hne
      .exact .inr h2
     .intro h;refine (hmk.2 (h.imp .inr .inr)).resolve_left (λe=>?_);rcases h with h|h
      .exact nin hxs.1 (e ▸ h)
      .exact nin (m:=x.1) (l:=ys) (λz hz=>hxy ▸ hys.1 z hz) (e ▸ h)
theorem zMp{a b:List zE}(ha:yK a)(hb:yK b):zKG a b=vD a b:=by
 have hs:=zFo b ha;have hk:zFp ((zBk a b).map (·.1)):=tK.2 hs;rw[<- zQB a b _ ha hb hk (zJA b ha),List.flatMap_map];rfl
theorem zJB:∀(a:List zE),vD a []=a.map zK1
 | []=>by simp[vD]
 | x :: xs=>by rw[vD,zJB xs];rfl
theorem zK2:∀(a b:List zE),(vD a b).length<=a.length+b.length:=by
 intro a b;induction hn:a.length+b.length using Nat.strongRecOn generalizing a b with
 | _ n ih =>
 subst hn;match a,b with
 | [],ys=>simp[vD]
 | x :: xs,[]=>rw[zJB];simp
 | x :: xs,y :: ys =>
  rw[vD];have i1:=ih _ (by simp) xs (y :: ys) rfl;have i2:=ih _ (by simp) (x :: xs) ys rfl;have i3:=ih _ (by simp;omega) xs ys rfl;simp only[uD] at i1 i2 i3 ⊢;split
  .rw[uD];omega
  .split
   .rw[uD];omega
   .split
    .omega
    .rw[uD];omega
end
section
def zBv(r bit:Nat):Nat:=if r % 2≠bit then (r / 2) ^^^ 3988292384 else r / 2
def zDB:Nat->Nat->Nat->Nat
 | 0,r,_=>r
 | k+1,r,x=>zDB k (zBv r (x % 2)) (x / 2)
theorem zMq{r bit:Nat}(h:r<4294967296):zBv r bit<4294967296:=by
 unfold zBv;split
 .exact wY (n:=32) (by omega) (by decide)
 .omega
theorem zMr(r x:Nat):zBv r (x % 2)=jD (r ^^^ (x % 2)):=by
 unfold zBv jD;have hm:(r ^^^ (x % 2)) % 2=(r % 2) ^^^ (x % 2):=by
  have:=Nat.xor_mod_two_pow (a:=r) (b:=x % 2) (n:=1);simpa using this
 have hd:(r ^^^ (x % 2)) / 2=r / 2:=by
  have h:=Nat.xor_div_two_pow (a:=r) (b:=x % 2) (n:=1);rw[Nat.pow_one,show x % 2 / 2=0 by omega,Nat.xor_zero] at h;exact h
 rw[hm,hd];rcases tJ r with h1|h1 <;> rcases tJ x with h2|h2 <;> rw[h1,h2] <;> simp
theorem zRk(b m:Nat)(hb:b<2):b ^^^ (2 * m)=b+2 * m:=by
 rw[pY];have:=Nat.two_pow_add_eq_or_of_lt (i:=1) (b:=b) (by omega) m;have h2:(2 * m) &&& b=0:=by
  apply rG
  intro i;rw[Nat.testBit_and,nK];cases i with
  | zero=>simp
  | succ i =>
   have:b.testBit (i+1)=false:=Nat.testBit_lt_two_pow (uG hb (by rw[tS];have:=Nat.one_le_two_pow (n:=i);omega));simp[this]
 have h3:(2 * m) ^^^ b=(2 * m) ||| b:=by
  apply rG
  intro i;have hi:=congrArg (λn=>n.testBit i) h2;simp only[Nat.testBit_and,nK] at hi;rw[pR,Nat.testBit_or];cases h4:(2 * m).testBit i <;> cases h5:b.testBit i <;> simp_all
 rw[h3];rw[Nat.pow_one] at this;omega
theorem zHk:∀(k r x:Nat),zDB k r x=zAE k (r ^^^ (x % 2 ^ k))
 | 0,r,x=>by rw[Nat.pow_zero,Nat.mod_one,Nat.xor_zero];rfl
 | k+1,r,x=>by
  rw[zDB,zHk k,zMr,zAE];have e:x % 2 ^ (k+1)=(x % 2) ^^^ (2 * (x / 2 % 2 ^ k)):=by
   rw[zRk _ _ (by omega),tS,pL (2 ^ k) 2,Nat.mod_mul]
  rw[e,<- tR,zEI (r ^^^ (x % 2)),zEJ]
theorem zMs(r x:Nat)(hx:x<256):zDB 8 r x=zC7 r x:=by
 rw[zHk,show (2:Nat) ^ 8=256 from rfl,rL hx];unfold zC7 zCT;have e:r=(256 * (r / 256)) ^^^ (r % 256):=by
  have h1:(256 * (r / 256)) ^^^ (r % 256)=256 * (r / 256)+r % 256:=by
   have h:=Nat.two_pow_add_eq_or_of_lt (i:=8) (b:=r % 256) (by omega) (r / 256);have h2:(256 * (r / 256)) &&& (r % 256)=0:=by
    apply rG
    intro i;rw[Nat.testBit_and,nK];by_cases hi:i<8
    .rw[show (256:Nat)=2 ^ 8 from rfl,Nat.testBit_two_pow_mul];simp;omega
    .rw[show r % 256=r % 2 ^ 8 from rfl,Nat.testBit_mod_two_pow];simp[hi]
   have h3:(256 * (r / 256)) ^^^ (r % 256)=(256 * (r / 256)) ||| (r % 256):=by
    apply rG
    intro i;have hi:=congrArg (λn=>n.testBit i) h2;simp only[Nat.testBit_and,nK] at hi;rw[pR,Nat.testBit_or];cases h4:(256 * (r / 256)).testBit i <;> cases h5:(r % 256).testBit i <;> simp_all
   rw[h3];rw[show (2:Nat) ^ 8=256 from rfl] at h;exact h.symm
  rw[h1];omega
 have h8:=zGs 8 (r / 256);rw[show (2:Nat) ^ 8=256 from rfl] at h8;conv=>lhs;rw[e]
 rw[tR,zGr,h8]
theorem zQC(s:Nat)(h:s<4294967296):4294967295-s=4294967295 ^^^ s:=by
 have h1:(BitVec.ofNat 32 s ^^^ BitVec.allOnes 32).toNat=(~~~ (BitVec.ofNat 32 s)).toNat:=by rw[BitVec.xor_allOnes]
 rw[BitVec.toNat_xor,BitVec.toNat_not,BitVec.toNat_ofNat,BitVec.toNat_allOnes,rL h] at h1;rw[pY];exact h1.symm
end
end Go.Proofs.YtgphfebjjedeaaaGreatDoor
