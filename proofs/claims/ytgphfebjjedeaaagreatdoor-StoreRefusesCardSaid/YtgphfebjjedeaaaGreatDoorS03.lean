import Derived.Test.YtgphfebjjedeaaaGreatDoorS02
namespace Go.Proofs.YtgphfebjjedeaaaGreatDoor
section
structure qD where
 gen:Nat
 blocks:Nat
 size:Nat
 root:Nat
 keys:Nat
 deriving DecidableEq
def zBD(s:qD):Bool:=decide (8<=s.blocks) && decide (s.blocks<=256) && decide (256<=s.size) && decide (s.size<=1024) && decide (s.keys<=2147483647) && decide (s.root=0\/2<=s.root/\s.root<s.blocks) && decide (s.root=0->s.keys=0)
theorem zAP(s:qD):zBD s=true ↔ 8<=s.blocks/\s.blocks<=256/\256<=s.size/\s.size<=1024/\s.keys<=2147483647/\(s.root=0\/2<=s.root/\s.root<s.blocks)/\(s.root=0->s.keys=0):=by
 unfold zBD;simp only[uF,uM];exact⟨λ⟨⟨⟨⟨⟨⟨a,b⟩,c⟩,d⟩,e⟩,f⟩,g⟩=>⟨a,b,c,d,e,f,g⟩,λ⟨a,b,c,d,e,f,g⟩=>⟨⟨⟨⟨⟨⟨a,b⟩,c⟩,d⟩,e⟩,f⟩,g⟩⟩
def yY(s:qD):List UInt8:=zP 4 s.blocks++zP 4 s.size++zP 4 s.root++zP 4 s.keys++zP 8 s.gen
def zAo(s:qD)(i:Nat):zX:=⟨1,i,s.gen,yY s⟩
def vH(s:qD)(i:Nat):List UInt8:=jB (zAo s i) s.size
theorem zAD(s:qD):(yY s).length=24:=by simp[yY,zC]
theorem zDe{s:qD}(h:zBD s=true){i:Nat}(hi:i<2):yN (zAo s i) s.size=none:=by
 obtain⟨a,b,c,d,e,f,g⟩:=(zAP s).1 h;have hb:=zAD s;have h1:vS s.size=true:=by unfold vS;simp;omega
 have h2:zBB (zAo s i).kind=true:=by show zBB 1=true;decide
 unfold yN;rw[h1,h2,if_neg (by simp),if_neg];simp only[zAo];rw[hb];simp;omega
theorem jS{s:qD}(h:zBD s=true)(i:Nat):(vH s i).length=s.size:=by
 obtain⟨a,b,c,d,e,f,g⟩:=(zAP s).1 h;exact vC _ _ (by simp only[zAo,zAD];omega)
def zB2(p:zX):qD:=⟨p.gen,yE p.body 0 4,yE p.body 4 4,yE p.body 8 4,yE p.body 12 4⟩
def zDP(p:zX):Bool:=decide (p.body.length=24) && decide (yE p.body 16 8=p.gen) && decide (p.kind=1) && zBD (zB2 p)
def qA(l:List UInt8)(i:Nat):Option qD:=match zW l i with
 | .inl p=>if zDP p=true/\(zB2 p).size=l.length then some (zB2 p) else none
 | .inr _=>none
theorem zLJ(s:qD)(h:s.blocks<4294967296):yE (yY s) 0 4=s.blocks:=by
 have e:yY s=[]++(zP 4 s.blocks++(zP 4 s.size++zP 4 s.root++zP 4 s.keys++zP 8 s.gen)):=by simp only[yY,uN,wF]
 rw[e];exact vL [] _ 4 s.blocks 0 rfl h
theorem zLK(s:qD)(h:s.size<4294967296):yE (yY s) 4 4=s.size:=by
 have e:yY s=zP 4 s.blocks++(zP 4 s.size++(zP 4 s.root++zP 4 s.keys++zP 8 s.gen)):=by simp only[yY,uN]
 rw[e];exact vL _ _ 4 s.size 4 (zC _ _) h
theorem zLL(s:qD)(h:s.root<4294967296):yE (yY s) 8 4=s.root:=by
 have e:yY s=(zP 4 s.blocks++zP 4 s.size)++(zP 4 s.root++(zP 4 s.keys++zP 8 s.gen)):=by simp only[yY,uN]
 rw[e];exact vL _ _ 4 s.root 8 (by rw[uC,zC,zC]) h
theorem zKe(s:qD)(h:s.keys<4294967296):yE (yY s) 12 4=s.keys:=by
 have e:yY s=(zP 4 s.blocks++zP 4 s.size++zP 4 s.root)++(zP 4 s.keys++zP 8 s.gen):=by simp only[yY,uN]
 rw[e];exact vL _ _ 4 s.keys 12 (by rw[uC,uC,zC,zC,zC]) h
theorem zKf(s:qD)(h:s.gen<18446744073709551616):yE (yY s) 16 8=s.gen:=by
 have e:yY s=(zP 4 s.blocks++zP 4 s.size++zP 4 s.root++zP 4 s.keys)++(zP 8 s.gen++[]):=by simp only[yY,uN,wB]
 rw[e];exact vL _ _ 8 s.gen 16 (by rw[uC,uC,uC,zC,zC,zC,zC]) h
theorem zJU{s:qD}(h:zBD s=true)(hg:s.gen<18446744073709551616)(i:Nat):zB2 (zAo s i)=s/\zDP (zAo s i)=true:=by
 obtain⟨a,b,c,d,e,f, -⟩:=(zAP s).1 h;have hb:(zAo s i).body=yY s:=rfl;have hs:zB2 (zAo s i)=s:=by
  unfold zB2;rw[hb,zLJ s (by omega),zLK s (by omega),zLL s (by omega),zKe s (by omega)];rfl
 refine⟨hs,?_⟩;unfold zDP;rw[hs,h,hb,zKf s hg,zAD];show (decide (24=24) && decide (s.gen=s.gen) && decide ((1:Int)=1) && true)=true;rw[uU rfl,uU rfl,uU rfl];rfl
theorem zE8{s:qD}(h:zBD s=true)(hg:s.gen<18446744073709551616){i:Nat}(hi:i<2):qA (vH s i) i=some s:=by
 obtain⟨h1,h2⟩:=zJU h hg i;unfold qA;have:=zB1 (p:=zAo s i) (size:=s.size) (zDe h hi) hg;rw[show zW (vH s i) (i:Int)=.inl (zAo s i) from this];simp only;rw[h1,jS h,if_pos ⟨h2,rfl⟩]
theorem zJV{l:List UInt8}{i:Nat}{s:qD}(h:qA l i=some s):zBD s=true/\s.gen<18446744073709551616/\s.size=l.length:=by
 unfold qA at h;split at h
 .rename_i p hp;split at h
  .rename_i hc;injection h with h;subst h;have hk:=hc.1;unfold zDP at hk;simp only[uF] at hk;refine⟨hk.2,?_,hc.2⟩;unfold zW at hp;split at hp
   .cases hp
   .split at hp
    .cases hp
    .injection hp with hp;subst hp;exact zCO l
  .cases h
 .cases h
structure vU where
 gen:Nat
 blocks:Nat
 used:List Nat
 deriving DecidableEq
def jF(m:vU):Bool:=decide (8<=m.blocks) && decide (m.blocks<=256) && decide (6<=m.used.length) && decide (m.used.take 6=[0,1,2,3,4,5]) && decide (m.used.Pairwise (· < ·)) && decide (∀n∈m.used,n<m.blocks)
theorem qS(m:vU):jF m=true ↔ 8<=m.blocks/\m.blocks<=256/\6<=m.used.length/\m.used.take 6=[0,1,2,3,4,5]/\m.used.Pairwise (· < ·)/\∀n∈m.used,n<m.blocks:=by
 unfold jF;simp only[uF,uM];exact⟨λ⟨⟨⟨⟨⟨a,b⟩,c⟩,d⟩,e⟩,f⟩=>⟨a,b,c,d,e,f⟩,λ⟨a,b,c,d,e,f⟩=>⟨⟨⟨⟨⟨a,b⟩,c⟩,d⟩,e⟩,f⟩⟩
def orB(l:List UInt8)(q:Nat):List UInt8:=l.set (q / 8) (UInt8.ofNat ((l.getD (q / 8) 0).toNat ||| 2 ^ (q % 8)))
theorem zCg(l:List UInt8)(q:Nat):(orB l q).length=l.length:=by simp[orB]
theorem zKg(l:List UInt8)(q p:Nat)(hq:q<8 * l.length):zC4 (orB l q) p=(zC4 l p || decide (p=q)):=by
 unfold zC4 orB;by_cases hj:p / 8=q / 8
 .have hl:q / 8<l.length:=by omega
  rw[hj];have e1:(l.set (q / 8) (UInt8.ofNat ((l.getD (q / 8) 0).toNat ||| 2 ^ (q % 8)))).getD (q / 8) 0=UInt8.ofNat ((l.getD (q / 8) 0).toNat ||| 2 ^ (q % 8)):=by
   simp[List.getD,hl]
  have h2:(2:Nat) ^ (q % 8)<2 ^ 8:=Nat.pow_lt_pow_right (by omega) (by omega);rw[e1,UInt8.toNat_ofNat',rM (Nat.or_lt_two_pow (n:=8) (l.getD (q / 8) 0).toNat_lt h2),Nat.testBit_or];congr 1
  rw[Nat.testBit_two_pow];simp;omega
 .have e1:(l.set (q / 8) (UInt8.ofNat ((l.getD (q / 8) 0).toNat ||| 2 ^ (q % 8)))).getD (p / 8) 0=l.getD (p / 8) 0:=by
   simp only[List.getD];rw[wE (λe=>hj e.symm)]
  rw[e1];have:p≠q:=λe=>hj (by rw[e])
  simp[this]
def zAp(blocks:Nat)(used:List Nat):List UInt8:=used.foldl orB (List.replicate ((blocks+7) / 8) 0)
theorem zBu:∀(u:List Nat) (l:List UInt8),(u.foldl orB l).length=l.length
 | [],_=>rfl
 | q :: u,l=>by rw[List.foldl_cons,zBu u,zCg]
theorem zC5:∀(u:List Nat) (l:List UInt8) (p:Nat),(∀q∈u,q<8 * l.length)->zC4 (u.foldl orB l) p=(zC4 l p || decide (p∈u))
 | [],l,p,_=>by simp
 | q :: u,l,p,h=>by
  rw[List.foldl_cons,zC5 u (orB l q) p (λx hx=>by rw[zCg];exact h x (uJ _ hx)),zKg l q p (h q uH),Bool.or_assoc];congr 1
  by_cases e:p=q <;> simp[e]
theorem zFg(b:Nat)(u:List Nat):(zAp b u).length=(b+7) / 8:=by rw[zAp,zBu,tN]
theorem zGI(n p:Nat):zC4 (List.replicate n 0) p=false:=by
 unfold zC4;have:(List.replicate n (0:UInt8)).getD (p / 8) 0=0:=by
  rw[tC,wL];split <;> rfl
 rw[this];simp
theorem zIT{b:Nat}{u:List Nat}(h:∀n∈u,n<b)(p:Nat):zC4 (zAp b u) p=decide (p∈u):=by
 rw[zAp,zC5 u _ p (λq hq=>by rw[tN];have:=h q hq;omega),zGI,Bool.false_or]
def yP(m:vU):List UInt8:=zP 4 m.blocks++zP 4 m.used.length++zAp m.blocks m.used
def zAN(m:vU)(i:Nat):zX:=⟨5,i,m.gen,yP m⟩
def yF(m:vU)(i size:Nat):List UInt8:=jB (zAN m i) size
def place(gen k:Nat):Nat:=2+2 * (gen % 2)+k
def vV(gen i:Nat):Bool:=decide (i=place gen 0) || decide (i=place gen 1)
theorem jG(m:vU):(yP m).length=8+(m.blocks+7) / 8:=by
 simp only[yP,uC,zC,zFg]
theorem zDf{m:vU}(h:jF m=true){i size:Nat}(hi:i<6)(h1:256<=size)(h2:size<=1024):yN (zAN m i) size=none:=by
 obtain⟨a,b,c,d,e,f⟩:=(qS m).1 h;have hb:=jG m;have h1':vS size=true:=by unfold vS;simp;omega
 have h2':zBB (zAN m i).kind=true:=by show zBB 5=true;decide
 unfold yN;rw[h1',h2',if_neg (by simp),if_neg];simp only[zAN];rw[hb];simp;omega
theorem qP{m:vU}(h:jF m=true)(i:Nat){size:Nat}(h1:256<=size):(yF m i size).length=size:=by
 obtain⟨a,b,c,d,e,f⟩:=(qS m).1 h;exact vC _ _ (by simp only[zAN,jG];omega)
def zDg(p:zX):vU :=
 if p.body.length<4\/256<yE p.body 0 4 then ⟨0,0,[]⟩
 else ⟨p.gen,yE p.body 0 4,(List.range (yE p.body 0 4)).filter λi=>decide (8+i / 8<p.body.length) && (p.body.getD (8+i / 8) 0).toNat.testBit (i % 8)⟩
def zFh(b:List UInt8)(n:Nat):List Nat:=(List.range n).filter λi=>decide (8+i / 8<b.length) && (b.getD (8+i / 8) 0).toNat.testBit (i % 8)
theorem zE9(p:zX)(h1:4<=p.body.length)(h2:yE p.body 0 4<=256):zDg p=⟨p.gen,yE p.body 0 4,zFh p.body (yE p.body 0 4)⟩:=by
 unfold zDg;rw[if_neg (by omega)];rfl
theorem zEF:∀(u:List Nat) (b:Nat),u.Pairwise (· < ·)->(∀n∈u,n<b)->(List.range b).filter (λi=>decide (i∈u))=u:=by
 intro u b hs hb;have hp:((List.range b).filter (λi=>decide (i∈u))).Pairwise (· < ·):=List.Pairwise.filter _ List.pairwise_lt_range;refine List.Perm.eq_of_pairwise (le:=λa b=>a<b) (λa b _ _ h1 h2=>by omega) hp hs ?_;refine (List.perm_ext_iff_of_nodup (hp.imp (λh e=>by omega)) (hs.imp (λh e=>by omega))).2 (λx=>?_);simp only[List.mem_filter,List.mem_range,uM];exact⟨λh=>h.2,λh=>⟨hb x h,h⟩⟩
theorem zJW{m:vU}(h:jF m=true)(i:Nat):zDg (zAN m i)=m:=by
 obtain⟨a,b,c,d,e,f⟩:=(qS m).1 h;have hlen:m.used.length<=256:=by
  have h1:m.used=(List.range m.blocks).filter (λi=>decide (i∈m.used)):=(zEF _ _ e f).symm;have:=List.length_filter_le (λi=>decide (i∈m.used)) (List.range m.blocks);rw[<- h1,List.length_range] at this;omega
 have n0:yE (yP m) 0 4=m.blocks:=by
  have:yP m=[]++(zP 4 m.blocks++(zP 4 m.used.length++zAp m.blocks m.used)):=by simp[yP]
  rw[this,vL [] _ 4 m.blocks 0 rfl (by have:(256:Nat) ^ 4=4294967296:=(by decide);omega)]
 have hl:=jG m;rw[zE9 (zAN m i) (by show 4<=(yP m).length;omega) (by show yE (yP m) 0 4<=256;omega)];show (⟨m.gen,yE (yP m) 0 4,zFh (yP m) (yE (yP m) 0 4)⟩:vU)=m;rw[n0];have hu:zFh (yP m) m.blocks=m.used:=by
  unfold zFh;refine Eq.trans ?_ (zEF _ _ e f);refine List.filter_congr (λx hx=>?_);have hxb:=List.mem_range.1 hx;have hb:=zIT f x;unfold zC4 at hb;have hg:(yP m).getD (8+x / 8) 0=(zAp m.blocks m.used).getD (x / 8) 0:=by
   rw[tC,tC,yP,wC (by simp[zC])];simp[zC]
  rw[hg,hb,hl,uU (by omega),Bool.true_and]
 rw[hu]
end
section
open Go.RowKit
theorem zFA:∀a:List UInt8,Op.bytesLess a a=false
 | []=>rfl
 | x :: a=>by simp[Op.bytesLess,zFA a]
theorem zGJ:∀a b c:List UInt8,Op.bytesLess a b=true->Op.bytesLess b c=true->Op.bytesLess a c=true
 | _,_,[],_,h=>by cases ‹List UInt8› <;> simp[Op.bytesLess] at h
 | _,[],_ :: _,h,_=>by simp[Op.bytesLess] at h
 | [],_ :: _,_ :: _,_,_=>rfl
 | x :: a,y :: b,z :: c,h1,h2=>by
  simp only[Op.bytesLess,tS,uF,uM,tL] at h1 h2 ⊢;rcases h1 with h1|⟨rfl,h1⟩
  .rcases h2 with h2|⟨rfl,h2⟩
   .exact .inl (UInt8.lt_trans h1 h2)
   .exact .inl h1
  .rcases h2 with h2|⟨rfl,h2⟩
   .exact .inl h2
   .exact .inr ⟨rfl,zGJ a b c h1 h2⟩
theorem zJX:∀a b:List UInt8,Op.bytesLess a b=true\/a=b\/Op.bytesLess b a=true
 | [],[]=>.inr (.inl rfl)
 | [],_ :: _=>.inl rfl
 | _ :: _,[]=>.inr (.inr rfl)
 | x :: a,y :: b=>by
  simp only[Op.bytesLess,tS,uF,uM,tL];rcases Nat.lt_trichotomy x.toNat y.toNat with h|h|h
  .exact .inl (.inl h)
  .have e:x=y:=UInt8.toNat_inj.1 h;subst e;rcases zJX a b with h|rfl|h
   .exact .inl (.inr ⟨rfl,h⟩)
   .exact .inr (.inl rfl)
   .exact .inr (.inr (.inr ⟨rfl,h⟩))
  .exact .inr (.inr (.inl h))
theorem zCh(a:ByteArray):ltS a a=false:=zFA _
theorem zAx{a b c:ByteArray}(h:ltS a b=true)(k:ltS b c=true):ltS a c=true:=zGJ _ _ _ h k
theorem toList_inj{a b:ByteArray}(h:a.toList=b.toList):a=b:=by
 rw[ByteArray.toList_eq,ByteArray.toList_eq] at h;exact rO (Array.ext' h)
theorem zKh(a b:ByteArray):ltS a b=true\/a=b\/ltS b a=true:=by
 rcases zJX a.toList b.toList with h|h|h
 .exact .inl h
 .exact .inr (.inl (toList_inj h))
 .exact .inr (.inr h)
theorem zIU{a b:ByteArray}(h:ltS a b=true):ltS b a=false:=by
 cases hb:ltS b a with
 | false=>rfl
 | true=>have:=zAx h hb;rw[zCh] at this;cases this
theorem zJY{a b:ByteArray}(h:ltS a b=true):a≠b:=λe=>by rw[e,zCh] at h;cases h
theorem zHz(a b:ByteArray):leS a b=true ↔ ltS a b=true\/a=b:=by
 unfold leS ltS;rw[tS,tL];exact⟨λh=>h.imp id toList_inj,λh=>h.imp id (λe=>by rw[e])⟩
theorem zFi{a b:ByteArray}(h:ltS a b=false):ltS b a=true\/a=b:=by
 rcases zKh a b with k|k|k
 .rw[h] at k;cases k
 .exact .inr k
 .exact .inl k
abbrev qM:=ByteArray × ByteArray
def vM(key:ByteArray)(l:List qM):Option ByteArray:=(l.find? λx=>decide (x.1=key)).map (·.2)
theorem zCi(key:ByteArray)(x:qM)(l:List qM):vM key (x :: l)=if x.1=key then some x.2 else vM key l:=by
 unfold vM;rw[List.find?_cons];by_cases h:x.1=key
 .simp[h]
 .simp[h]
theorem zA4{key:ByteArray}{l:List qM}(h:∀x∈l,x.1≠key):vM key l=none:=by
 unfold vM;rw[List.find?_eq_none.2 (λx hx=>by simpa using h x hx)];rfl
theorem zBf(key:ByteArray)(a b:List qM):vM key (a++b)=(vM key a).or (vM key b):=by
 induction a with
 | nil=>simp[vM]
 | cons x a ih =>
  rw[tW,zCi,zCi,ih];by_cases h:x.1=key
  .rw[if_pos h,if_pos h];rfl
  .rw[if_neg h,if_neg h]
theorem zJZ{key:ByteArray}{l:List qM}(h:∀x∈l,ltS key x.1=true):vM key l=none:=zA4 (λx hx e=>zJY (h x hx) e.symm)
end
end Go.Proofs.YtgphfebjjedeaaaGreatDoor
