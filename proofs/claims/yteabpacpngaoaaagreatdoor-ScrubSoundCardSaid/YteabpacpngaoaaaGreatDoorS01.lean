import Derived.Test.YteabpacpngaoaaaGreatDoorS00
import Derived.Test.YteabpacpngaoaaaGreatDoorB02
namespace Go.Proofs.YteabpacpngaoaaaGreatDoor
theorem qL:∀k a b,crcIter k (a ^^^ b)=crcIter k a ^^^ crcIter k b
 | 0,_,_=>rfl
 | k+1,a,b=>by rw[crcIter,crcStep_xor,qL k];rfl
theorem qM:∀k v,crcIter k (2 ^ k * v)=v
 | 0,v=>by simp[crcIter]
 | k+1,v=>by rw[crcIter,Nat.pow_succ,Nat.mul_comm (2 ^ k) 2,Nat.mul_assoc,crcStep_two,qM k]
def yQ(n:Nat):List Bool:=[n.testBit 0,n.testBit 1,n.testBit 2,n.testBit 3,n.testBit 4,n.testBit 5,n.testBit 6,n.testBit 7]
def zE(l:List UInt8):List Bool:=l.flatMap λx=>yQ x.toNat
theorem yH:∀n,n<256->val (yQ n)=n:=by decide +kernel
theorem zA9(r x:Nat):r ^^^ x=(256 * (r / 256)) ^^^ ((r % 256) ^^^ x):=by
 rw[<- Nat.xor_assoc];congr 1;apply Nat.eq_of_testBit_eq;intro i
 rw[Nat.testBit_xor];have e1:(256 * (r / 256)).testBit i=(decide (8<=i) && (r / 256).testBit (i-8)):=Nat.testBit_two_pow_mul (i:=8) (a:=r / 256) (j:=i);have e2:(r % 256).testBit i=(decide (i<8) && r.testBit i):=Nat.testBit_mod_two_pow r 8 i;have e3:(r / 256).testBit (i-8)=r.testBit (8+(i-8)):=by
  have:=Nat.testBit_shiftRight r (i:=8) (j:=i-8);rwa [Nat.shiftRight_eq_div_pow] at this
 rw[e1,e2,e3];by_cases hi:i<8
 .have:¬ 8<=i:=by omega
  simp[hi,this]
 .have h8:8<=i:=by omega
  simp[hi,h8]
theorem yY(r:Nat)(x:UInt8):crcByte r x.toNat=(yQ x.toNat).foldl stepBit r:=by
 have hx:=yH _ x.toNat_lt;have h1:(yQ x.toNat).foldl stepBit r=crcIter 8 (r ^^^ val (yQ x.toNat)):=fold_val _ _;rw[h1,hx,zA9,qL];have h2:crcIter 8 (256 * (r / 256))=r / 256:=qM 8 (r / 256);rw[h2,crcByte,crcEntry]
theorem qN(x:UInt8)(l:List UInt8):zE (x :: l)=yQ x.toNat++zE l:=rfl
theorem vU(l m:List UInt8):zE (l++m)=zE l++zE m:=by simp[zE]
theorem yZ:∀(l:List UInt8) (r:Nat),crcMore r l=(zE l).foldl stepBit r
 | [],_=>rfl
 | x :: l,r=>by rw[crcMore,yZ l,yY,qN,List.foldl_append]
theorem zL(l:List UInt8):(zE l).length=8 * l.length:=by
 induction l with
 | nil=>rfl
 | cons x l ih=>rw[zE,wD,uC,uB];show 8+(zE l).length=_;rw[ih];omega
theorem zAt(x y:UInt8)(h:yQ x.toNat=yQ y.toNat):x=y:=by
 have:=congrArg val h;rw[yH _ x.toNat_lt,yH _ y.toNat_lt] at this;exact UInt8.toNat_inj.1 this
theorem vB:∀(l m:List UInt8),zE l=zE m->l=m
 | [],[],_=>rfl
 | [],y :: m,h=>by have:=congrArg List.length h;rw[zL,zL] at this;simp at this
 | x :: l,[],h=>by have:=congrArg List.length h;rw[zL,zL] at this;simp at this
 | x :: l,y :: m,h=>by
  rw[zE,zE,wD,wD] at h;obtain⟨h1,h2⟩:=List.append_inj h rfl;rw[zAt x y h1,vB l m h2]
theorem zBs(n:Nat)(h:n<4294967296):val (zE (leB 4 n))=n:=by
 have e:∀x:UInt8,val (yQ x.toNat)=x.toNat:=λx=>yH _ x.toNat_lt
 have ap:∀(a b:List Bool),val (a++b)=val a+2 ^ a.length * val b:=by
  intro a b;induction a with
  | nil=>simp[val]
  | cons x a ih=>rw[List.cons_append,val,ih,val,uB,Nat.pow_succ];rw[Nat.mul_add,<- Nat.mul_assoc,Nat.mul_comm 2 (2 ^ a.length)];omega
 simp only[leB,zE,wD,List.flatMap_nil,ap,e];simp only[yQ,uB,uD,val,UInt8.toNat_ofNat'];omega
theorem zAh(raw:List UInt8)(h:crcMore 4294967295 raw<4294967296):(zE (raw++leB 4 (crcSum raw))).foldl stepBit 4294967295=crcIter 32 4294967295:=by
 rw[vU,List.foldl_append,<- yZ raw];unfold crcSum;generalize crcMore 4294967295 raw=r at *
 rw[fold_val,zBs _ (Nat.xor_lt_two_pow (n:=32) (by decide) h)];rw[Nat.xor_comm 4294967295,<- Nat.xor_assoc,Nat.xor_self,Nat.zero_xor];rfl
theorem zAu(n i:Nat)(h:i<8):(yQ n)[i]? = some (n.testBit i):=by
 obtain rfl|rfl|rfl|rfl|rfl|rfl|rfl|rfl:i=0\/i=1\/i=2\/i=3\/i=4\/i=5\/i=6\/i=7:=by omega
 all_goals rfl
theorem yV:∀(l:List UInt8) (p:Nat),p<8 * l.length->(zE l)[p]? = some (bitAt l p)
 | [],p,h=>by simp at h
 | x :: l,p,h=>by
  rw[qN];by_cases hp:p<8
  .rw[List.getElem?_append_left (by exact hp),zAu _ _ hp];unfold bitAt;rw[show p / 8=0 by omega,show p % 8=p by omega];rfl
  .rw[List.getElem?_append_right (by show 8<=p;omega)];show (zE l)[p-8]? = _;rw[yV l (p-8) (by rw[uB] at h;omega)];unfold bitAt;rw[show p / 8=(p-8) / 8+1 by omega,show p % 8=(p-8) % 8 by omega];rfl
def yR(l:List UInt8)(q b:Nat):List UInt8:=l.set (q / 8) (UInt8.ofNat ((l.getD (q / 8) 0).toNat ^^^ (b * 2 ^ (q % 8))))
theorem jJ(b i:Nat)(hb:b<2)(hi:i<8):b * 2 ^ i<256:=by
 have h:(2:Nat) ^ i<=2 ^ 7:=uQ (by omega) (by omega);obtain rfl|rfl:b=0\/b=1:=by omega
 .omega
 .omega
theorem zBA(l:List UInt8)(q b p:Nat)(hb:b<2)(hq:q<8 * l.length):bitAt (yR l q b) p=(bitAt l p ^^ (decide (p=q) && decide (b=1))):=by
 unfold bitAt yR;by_cases hj:p / 8=q / 8
 .have hl:q / 8<l.length:=by omega
  rw[hj];have e1:(l.set (q / 8) (UInt8.ofNat ((l.getD (q / 8) 0).toNat ^^^ (b * 2 ^ (q % 8))))).getD (q / 8) 0=UInt8.ofNat ((l.getD (q / 8) 0).toNat ^^^ (b * 2 ^ (q % 8))):=by
   simp[List.getD,hl]
  rw[e1,UInt8.toNat_ofNat',Nat.mod_eq_of_lt (Nat.xor_lt_two_pow (n:=8) (l.getD (q / 8) 0).toNat_lt (jJ b _ hb (by omega))),Nat.testBit_xor];congr 1
  obtain rfl|rfl:b=0\/b=1:=by omega
  .simp
  .rw[Nat.one_mul,Nat.testBit_two_pow];simp;omega
 .have e1:(l.set (q / 8) (UInt8.ofNat ((l.getD (q / 8) 0).toNat ^^^ (b * 2 ^ (q % 8))))).getD (p / 8) 0=l.getD (p / 8) 0:=by
   simp only[List.getD];rw[uY (λe=>hj e.symm)]
  rw[e1];have:p≠q:=λe=>hj (by rw[e])
  simp[this]
def zF(mask bit:Nat):Nat->Nat->List UInt8->List UInt8
 | 0,_,l=>l
 | n+1,k,l=>zF mask bit n (k+1) (if bit+k<8 * l.length then yR l (bit+k) (mask / 2 ^ k % 2) else l)
def zI(l:List UInt8)(bit mask:Nat):List UInt8:=zF mask bit 32 0 l
theorem yM(l:List UInt8)(q b:Nat):(yR l q b).length=l.length:=by simp[yR]
theorem yC(mask bit:Nat):∀n k l,(zF mask bit n k l).length=l.length
 | 0,_,_=>rfl
 | n+1,k,l=>by rw[zF,yC mask bit n];split <;> simp[yM]
theorem zX(mask bit:Nat):∀n k l p,p<8 * l.length->bitAt (zF mask bit n k l) p=(bitAt l p ^^ (decide (bit+k<=p) && decide (p<bit+k+n) && decide (mask / 2 ^ (p-bit) % 2=1)))
 | 0,k,l,p,_=>by
  rw[zF];have:¬ (bit+k<=p/\p<bit+k):=by omega
  by_cases h1:bit+k<=p <;> by_cases h2:p<bit+k <;> simp[h1,h2] <;> omega
 | n+1,k,l,p,hp=>by
  rw[zF];have h2:mask / 2 ^ k % 2<2:=Nat.mod_lt _ (by omega);by_cases hq:bit+k<8 * l.length
  .rw[if_pos hq,zX mask bit n (k+1) _ p (by rw[yM];exact hp),zBA l _ _ p h2 hq];by_cases e:p=bit+k
   .subst e;rw[show bit+k-bit=k by omega];have h5:¬ k+1<=k:=by omega
    simp[h5]
   .by_cases h3:bit+k<=p
    .have h4:bit+(k+1)<=p:=by omega
     have h5:(p<bit+(k+1)+n)=(p<bit+k+(n+1)):=by rw[show bit+(k+1)+n=bit+k+(n+1) by omega]
     simp[e,h3,h4,h5]
    .have h4:¬ bit+(k+1)<=p:=by omega
     simp[e,h3,h4]
  .rw[if_neg hq,zX mask bit n (k+1) l p hp];have h3:¬ bit+k<=p:=by omega
   have h4:¬ bit+(k+1)<=p:=by omega
   simp[h3,h4]
theorem zY(l:List UInt8)(bit mask:Nat):(zI l bit mask).length=l.length:=yC _ _ _ _ _
theorem yN(l:List UInt8)(bit mask p:Nat)(hp:p<8 * l.length):bitAt (zI l bit mask) p=(bitAt l p ^^ (decide (bit<=p) && decide (p<bit+32) && decide (mask / 2 ^ (p-bit) % 2=1))):=by
 unfold zI;rw[zX _ _ _ _ _ _ hp];rfl
theorem qO{α:Type}(l:List α)(a n:Nat):l=l.take a++(l.drop a).take n++l.drop (a+n):=by
 rw[uS,<- List.drop_drop,List.take_append_drop,List.take_append_drop]
theorem zAT(l:List UInt8)(bit mask:Nat)(hb:bit<8 * l.length)(hm:mask % 2=1):zI l bit mask≠l:=by
 intro e;have h:=yN l bit mask bit hb;rw[e] at h;simp[hm] at h
theorem jX(l l' raw raw':List UInt8)(bit mask:Nat)(hl:l=raw++leB 4 (crcSum raw))(hl':l'=raw'++leB 4 (crcSum raw'))(he:l'=zI l bit mask):l'=l:=by
 have A0:l'.length=l.length:=by rw[he,zY]
 have r1:=zAh raw (crcMore_lt raw _ (by decide));have r2:=zAh raw' (crcMore_lt raw' _ (by decide));rw[<- hl] at r1;rw[<- hl'] at r2;have b1:=zL l;have b2:=zL l';have A1:∀p,p<8 * l.length->¬ (bit<=p/\p<bit+32)->(zE l')[p]? = (zE l)[p]?:=λp hp hn=>by
  rw[yV l p hp,yV l' p (by omega),he,yN l bit mask p hp];congr 1
  by_cases h1:bit<=p <;> by_cases h2:p<bit+32 <;> simp[h1,h2] <;> omega
 have ht:(zE l').take bit=(zE l).take bit:=by
  apply List.ext_getElem?;intro i
  rw[List.getElem?_take,List.getElem?_take];by_cases hi:i<bit
  .rw[if_pos hi,if_pos hi];by_cases h8:i<8 * l.length
   .exact A1 i h8 (by omega)
   .rw[uV (by omega),uV (by omega)]
  .rw[if_neg hi,if_neg hi]
 have hd:(zE l').drop (bit+32)=(zE l).drop (bit+32):=by
  apply List.ext_getElem?;intro i
  rw[List.getElem?_drop,List.getElem?_drop];by_cases h8:bit+32+i<8 * l.length
  .exact A1 _ h8 (by omega)
  .rw[uV (by omega),uV (by omega)]
 have p1:=qO (zE l) bit 32;have p2:=qO (zE l') bit 32;rw[ht,hd] at p2;have:=burst ((zE l).take bit) (((zE l').drop bit).take 32) (((zE l).drop bit).take 32) ((zE l).drop (bit+32)) 4294967295 (by decide)
  (by simp[b1,b2,A0]) (by simp;omega) (by rw[<- p1,<- p2,r1,r2])
 rw[this,<- p1] at p2;exact vB _ _ p2
theorem jK{p:PageA}{size:Nat}(bit mask:Nat)(hc:pgCheck p size=none)(hb:bit<8 * size)(hm:mask % 2=1):openB (zI (sealP p size) bit mask)=false:=by
 have A0:=sealP_length p size (by have:=pgCheck_none hc;omega);cases ho:openB (zI (sealP p size) bit mask) with
 | false=>rfl
 | true =>
  unfold openB at ho;simp only[uM,wE] at ho;exact absurd (jX (sealP p size) _ _ _ bit mask rfl ho.2.symm rfl) (zAT _ _ _ (by rw[A0];exact hb) hm)
end Go.Proofs.YteabpacpngaoaaaGreatDoor
