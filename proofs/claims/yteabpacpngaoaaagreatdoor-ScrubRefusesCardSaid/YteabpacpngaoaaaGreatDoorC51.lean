import Derived.Test.YteabpacpngaoaaaGreatDoorC02
namespace Go.Proofs.YteabpacpngaoaaaGreatDoor
theorem zGp:∀k a b,qS k (a ^^^ b)=qS k a ^^^ qS k b
 | 0,_,_=>rfl
 | k+1,a,b=>by rw[qS,zGQ,zGp k];rfl
theorem zGq:∀k v,qS k (2 ^ k * v)=v
 | 0,v=>by simp[qS]
 | k+1,v=>by rw[qS,Nat.pow_succ,Nat.mul_comm (2 ^ k) 2,Nat.mul_assoc,zGR,zGq k]
def zEG(n:Nat):List Bool:=[n.testBit 0,n.testBit 1,n.testBit 2,n.testBit 3,n.testBit 4,n.testBit 5,n.testBit 6,n.testBit 7]
def qV(l:List UInt8):List Bool:=l.flatMap λx=>zEG x.toNat
theorem zDf:∀n,n<256->val (zEG n)=n:=by decide +kernel
theorem zQC(r x:Nat):r ^^^ x=(256 * (r / 256)) ^^^ ((r % 256) ^^^ x):=by
 rw[<- Nat.xor_assoc];congr 1;apply Nat.eq_of_testBit_eq;intro i
 rw[Nat.testBit_xor];have e1:(256 * (r / 256)).testBit i=(decide (8<=i) && (r / 256).testBit (i-8)):=Nat.testBit_two_pow_mul (i:=8) (a:=r / 256) (j:=i);have e2:(r % 256).testBit i=(decide (i<8) && r.testBit i):=Nat.testBit_mod_two_pow r 8 i;have e3:(r / 256).testBit (i-8)=r.testBit (8+(i-8)):=by
  have:=Nat.testBit_shiftRight r (i:=8) (j:=i-8);rwa [Nat.shiftRight_eq_div_pow] at this
 rw[e1,e2,e3];by_cases hi:i<8
 .have:¬ 8<=i:=by omega
  simp[hi,this]
 .have h8:8<=i:=by omega
  simp[hi,h8]
theorem zFu(r:Nat)(x:UInt8):zCl r x.toNat=(zEG x.toNat).foldl zA3 r:=by
 have hx:=zDf _ x.toNat_lt;have h1:(zEG x.toNat).foldl zA3 r=qS 8 (r ^^^ val (zEG x.toNat)):=zDb _ _;rw[h1,hx,zQC,zGp];have h2:qS 8 (256 * (r / 256))=r / 256:=zGq 8 (r / 256);rw[h2,zCl,zCK]
theorem zGr(x:UInt8)(l:List UInt8):qV (x :: l)=zEG x.toNat++qV l:=rfl
theorem zIp(l m:List UInt8):qV (l++m)=qV l++qV m:=by simp[qV]
theorem zFv:∀(l:List UInt8) (r:Nat),jJ r l=(qV l).foldl zA3 r
 | [],_=>rfl
 | x :: l,r=>by rw[jJ,zFv l,zFu,zGr,List.foldl_append]
theorem zAx(l:List UInt8):(qV l).length=8 * l.length:=by
 induction l with
 | nil=>rfl
 | cons x l ih=>rw[qV,List.flatMap_cons,List.length_append,List.length_cons];show 8+(qV l).length=_;rw[ih];omega
theorem zOt(x y:UInt8)(h:zEG x.toNat=zEG y.toNat):x=y:=by
 have:=congrArg val h;rw[zDf _ x.toNat_lt,zDf _ y.toNat_lt] at this;exact UInt8.toNat_inj.1 this
theorem zIF:∀(l m:List UInt8),qV l=qV m->l=m
 | [],[],_=>rfl
 | [],y :: m,h=>by have:=congrArg List.length h;rw[zAx,zAx] at this;simp at this
 | x :: l,[],h=>by have:=congrArg List.length h;rw[zAx,zAx] at this;simp at this
 | x :: l,y :: m,h=>by
  rw[qV,qV,List.flatMap_cons,List.flatMap_cons] at h;obtain⟨h1,h2⟩:=List.append_inj h rfl;rw[zOt x y h1,zIF l m h2]
theorem zSB(n:Nat)(h:n<4294967296):val (qV (yD 4 n))=n:=by
 have e:∀x:UInt8,val (zEG x.toNat)=x.toNat:=λx=>zDf _ x.toNat_lt
 have ap:∀(a b:List Bool),val (a++b)=val a+2 ^ a.length * val b:=by
  intro a b;induction a with
  | nil=>simp[val]
  | cons x a ih=>rw[List.cons_append,val,ih,val,List.length_cons,Nat.pow_succ];rw[Nat.mul_add,<- Nat.mul_assoc,Nat.mul_comm 2 (2 ^ a.length)];omega
 simp only[yD,qV,List.flatMap_cons,List.flatMap_nil,ap,e];simp only[zEG,List.length_cons,List.length_nil,val,UInt8.toNat_ofNat'];omega
theorem zNd(raw:List UInt8)(h:jJ 4294967295 raw<4294967296):(qV (raw++yD 4 (zBQ raw))).foldl zA3 4294967295=qS 32 4294967295:=by
 rw[zIp,List.foldl_append,<- zFv raw];unfold zBQ;generalize jJ 4294967295 raw=r at *
 rw[zDb,zSB _ (Nat.xor_lt_two_pow (n:=32) (by decide) h)];rw[Nat.xor_comm 4294967295,<- Nat.xor_assoc,Nat.xor_self,Nat.zero_xor];rfl
theorem zOu(n i:Nat)(h:i<8):(zEG n)[i]? = some (n.testBit i):=by
 obtain rfl|rfl|rfl|rfl|rfl|rfl|rfl|rfl:i=0\/i=1\/i=2\/i=3\/i=4\/i=5\/i=6\/i=7:=by omega
 all_goals rfl
theorem zFR:∀(l:List UInt8) (p:Nat),p<8 * l.length->(qV l)[p]? = some (zA4 l p)
 | [],p,h=>by simp at h
 | x :: l,p,h=>by
  rw[zGr];by_cases hp:p<8
  .rw[List.getElem?_append_left (by exact hp),zOu _ _ hp];unfold zA4;rw[show p / 8=0 by omega,show p % 8=p by omega];rfl
  .rw[List.getElem?_append_right (by show 8<=p;omega)];show (qV l)[p-8]? = _;rw[zFR l (p-8) (by rw[List.length_cons] at h;omega)];unfold zA4;rw[show p / 8=(p-8) / 8+1 by omega,show p % 8=(p-8) % 8 by omega];rfl
def zEh(l:List UInt8)(q b:Nat):List UInt8:=l.set (q / 8) (UInt8.ofNat ((l.getD (q / 8) 0).toNat ^^^ (b * 2 ^ (q % 8))))
theorem zKI(b i:Nat)(hb:b<2)(hi:i<8):b * 2 ^ i<256:=by
 have h:(2:Nat) ^ i<=2 ^ 7:=Nat.pow_le_pow_right (by omega) (by omega);obtain rfl|rfl:b=0\/b=1:=by omega
 .omega
 .omega
theorem zQD(l:List UInt8)(q b p:Nat)(hb:b<2)(hq:q<8 * l.length):zA4 (zEh l q b) p=(zA4 l p ^^ (decide (p=q) && decide (b=1))):=by
 unfold zA4 zEh;by_cases hj:p / 8=q / 8
 .have hl:q / 8<l.length:=by omega
  rw[hj];have e1:(l.set (q / 8) (UInt8.ofNat ((l.getD (q / 8) 0).toNat ^^^ (b * 2 ^ (q % 8))))).getD (q / 8) 0=UInt8.ofNat ((l.getD (q / 8) 0).toNat ^^^ (b * 2 ^ (q % 8))):=by
   simp[List.getD,hl]
  rw[e1,UInt8.toNat_ofNat',Nat.mod_eq_of_lt (Nat.xor_lt_two_pow (n:=8) (l.getD (q / 8) 0).toNat_lt (zKI b _ hb (by omega))),Nat.testBit_xor];congr 1
  obtain rfl|rfl:b=0\/b=1:=by omega
  .simp
  .rw[Nat.one_mul,Nat.testBit_two_pow];simp;omega
 .have e1:(l.set (q / 8) (UInt8.ofNat ((l.getD (q / 8) 0).toNat ^^^ (b * 2 ^ (q % 8))))).getD (p / 8) 0=l.getD (p / 8) 0:=by
   simp only[List.getD];rw[List.getElem?_set_ne (λe=>hj e.symm)]
  rw[e1];have:p≠q:=λe=>hj (by rw[e])
  simp[this]
def vP(mask bit:Nat):Nat->Nat->List UInt8->List UInt8
 | 0,_,l=>l
 | n+1,k,l=>vP mask bit n (k+1) (if bit+k<8 * l.length then zEh l (bit+k) (mask / 2 ^ k % 2) else l)
def jS(l:List UInt8)(bit mask:Nat):List UInt8:=vP mask bit 32 0 l
theorem zD8(l:List UInt8)(q b:Nat):(zEh l q b).length=l.length:=by simp[zEh]
theorem zDB(mask bit:Nat):∀n k l,(vP mask bit n k l).length=l.length
 | 0,_,_=>rfl
 | n+1,k,l=>by rw[vP,zDB mask bit n];split <;> simp[zD8]
theorem zCd(mask bit:Nat):∀n k l p,p<8 * l.length->zA4 (vP mask bit n k l) p=(zA4 l p ^^ (decide (bit+k<=p) && decide (p<bit+k+n) && decide (mask / 2 ^ (p-bit) % 2=1)))
 | 0,k,l,p,_=>by
  rw[vP];have:¬ (bit+k<=p/\p<bit+k):=by omega
  by_cases h1:bit+k<=p <;> by_cases h2:p<bit+k <;> simp[h1,h2] <;> omega
 | n+1,k,l,p,hp=>by
  rw[vP];have h2:mask / 2 ^ k % 2<2:=Nat.mod_lt _ (by omega);by_cases hq:bit+k<8 * l.length
  .rw[if_pos hq,zCd mask bit n (k+1) _ p (by rw[zD8];exact hp),zQD l _ _ p h2 hq];by_cases e:p=bit+k
   .subst e;rw[show bit+k-bit=k by omega];have h5:¬ k+1<=k:=by omega
    simp[h5]
   .by_cases h3:bit+k<=p
    .have h4:bit+(k+1)<=p:=by omega
     have h5:(p<bit+(k+1)+n)=(p<bit+k+(n+1)):=by rw[show bit+(k+1)+n=bit+k+(n+1) by omega]
     simp[e,h3,h4,h5]
    .have h4:¬ bit+(k+1)<=p:=by omega
     simp[e,h3,h4]
  .rw[if_neg hq,zCd mask bit n (k+1) l p hp];have h3:¬ bit+k<=p:=by omega
   have h4:¬ bit+(k+1)<=p:=by omega
   simp[h3,h4]
theorem zCe(l:List UInt8)(bit mask:Nat):(jS l bit mask).length=l.length:=zDB _ _ _ _ _
theorem zD9(l:List UInt8)(bit mask p:Nat)(hp:p<8 * l.length):zA4 (jS l bit mask) p=(zA4 l p ^^ (decide (bit<=p) && decide (p<bit+32) && decide (mask / 2 ^ (p-bit) % 2=1))):=by
 unfold jS;rw[zCd _ _ _ _ _ _ hp];rfl
theorem zGs{α:Type}(l:List α)(a n:Nat):l=l.take a++(l.drop a).take n++l.drop (a+n):=by
 rw[List.append_assoc,<- List.drop_drop,List.take_append_drop,List.take_append_drop]
theorem zM2(l:List UInt8)(bit mask:Nat)(hb:bit<8 * l.length)(hm:mask % 2=1):jS l bit mask≠l:=by
 intro e;have h:=zD9 l bit mask bit hb;rw[e] at h;simp[hm] at h
theorem zLh(l l' raw raw':List UInt8)(bit mask:Nat)(hl:l=raw++yD 4 (zBQ raw))(hl':l'=raw'++yD 4 (zBQ raw'))(he:l'=jS l bit mask):l'=l:=by
 have hlen:l'.length=l.length:=by rw[he,zCe]
 have r1:=zNd raw (zC0 raw _ (by decide));have r2:=zNd raw' (zC0 raw' _ (by decide));rw[<- hl] at r1;rw[<- hl'] at r2;have b1:=zAx l;have b2:=zAx l';have hget:∀p,p<8 * l.length->¬ (bit<=p/\p<bit+32)->(qV l')[p]? = (qV l)[p]?:=λp hp hn=>by
  rw[zFR l p hp,zFR l' p (by omega),he,zD9 l bit mask p hp];congr 1
  by_cases h1:bit<=p <;> by_cases h2:p<bit+32 <;> simp[h1,h2] <;> omega
 have ht:(qV l').take bit=(qV l).take bit:=by
  apply List.ext_getElem?;intro i
  rw[List.getElem?_take,List.getElem?_take];by_cases hi:i<bit
  .rw[if_pos hi,if_pos hi];by_cases h8:i<8 * l.length
   .exact hget i h8 (by omega)
   .rw[List.getElem?_eq_none (by omega),List.getElem?_eq_none (by omega)]
  .rw[if_neg hi,if_neg hi]
 have hd:(qV l').drop (bit+32)=(qV l).drop (bit+32):=by
  apply List.ext_getElem?;intro i
  rw[List.getElem?_drop,List.getElem?_drop];by_cases h8:bit+32+i<8 * l.length
  .exact hget _ h8 (by omega)
  .rw[List.getElem?_eq_none (by omega),List.getElem?_eq_none (by omega)]
 have p1:=zGs (qV l) bit 32;have p2:=zGs (qV l') bit 32;rw[ht,hd] at p2;have:=zRv ((qV l).take bit) (((qV l').drop bit).take 32) (((qV l).drop bit).take 32) ((qV l).drop (bit+32)) 4294967295 (by decide)
  (by simp[b1,b2,hlen]) (by simp;omega) (by rw[<- p1,<- p2,r1,r2])
 rw[this,<- p1] at p2;exact zIF _ _ p2
theorem zKJ{p:zX}{size:Nat}(bit mask:Nat)(hc:yY p size=none)(hb:bit<8 * size)(hm:mask % 2=1):zBO (jS (vH p size) bit mask)=false:=by
 have hlen:=jW p size (by have:=yZ hc;omega);cases ho:zBO (jS (vH p size) bit mask) with
 | false=>rfl
 | true =>
  unfold zBO at ho;simp only[Bool.and_eq_true,decide_eq_true_eq] at ho;exact absurd (zLh (vH p size) _ _ _ bit mask rfl ho.2.symm rfl) (zM2 _ _ _ (by rw[hlen];exact hb) hm)
end Go.Proofs.YteabpacpngaoaaaGreatDoor
