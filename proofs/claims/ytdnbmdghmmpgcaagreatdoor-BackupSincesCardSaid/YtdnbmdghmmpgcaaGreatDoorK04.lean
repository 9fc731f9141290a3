import Derived.Test.YtdnbmdghmmpgcaaGreatDoorK03
namespace Go.Proofs.YtdnbmdghmmpgcaaGreatDoor
section
structure MapA where
 gen:Nat
 blocks:Nat
 used:List Nat
 deriving DecidableEq
def mapOk(m:MapA):Bool:=decide (8≤m.blocks) && decide (m.blocks≤256) && decide (6≤m.used.length) && decide (m.used.take 6=[0,1,2,3,4,5]) && decide (m.used.Pairwise (· < ·)) && decide (∀n∈m.used,n<m.blocks)
theorem mapOk_iff(m:MapA):mapOk m=true ↔ 8≤m.blocks∧m.blocks≤256∧6≤m.used.length∧m.used.take 6=[0,1,2,3,4,5]∧m.used.Pairwise (· < ·)∧∀n∈m.used,n<m.blocks:=by
 unfold mapOk;simp only[Bool.and_eq_true,decide_eq_true_eq];exact⟨λ⟨⟨⟨⟨⟨a,b⟩,c⟩,d⟩,e⟩,f⟩=>⟨a,b,c,d,e,f⟩,λ⟨a,b,c,d,e,f⟩=>⟨⟨⟨⟨⟨a,b⟩,c⟩,d⟩,e⟩,f⟩⟩
def orB(l:List UInt8)(q:Nat):List UInt8:=l.set (q / 8) (UInt8.ofNat ((l.getD (q / 8) 0).toNat ||| 2 ^ (q % 8)))
theorem orB_length(l:List UInt8)(q:Nat):(orB l q).length=l.length:=by simp[orB]
theorem orB_bit(l:List UInt8)(q p:Nat)(hq:q<8 * l.length):bitAt (orB l q) p=(bitAt l p || decide (p=q)):=by
 unfold bitAt orB;by_cases hj:p / 8=q / 8
 ·have hl:q / 8<l.length:=by omega
  rw[hj];have e1:(l.set (q / 8) (UInt8.ofNat ((l.getD (q / 8) 0).toNat ||| 2 ^ (q % 8)))).getD (q / 8) 0=UInt8.ofNat ((l.getD (q / 8) 0).toNat ||| 2 ^ (q % 8)):=by
   simp[List.getD,hl]
  have h2:(2:Nat) ^ (q % 8)<2 ^ 8:=Nat.pow_lt_pow_right (by omega) (by omega);rw[e1,UInt8.toNat_ofNat',Nat.mod_eq_of_lt (Nat.or_lt_two_pow (n:=8) (l.getD (q / 8) 0).toNat_lt h2),Nat.testBit_or];congr 1
  rw[Nat.testBit_two_pow];simp;omega
 ·have e1:(l.set (q / 8) (UInt8.ofNat ((l.getD (q / 8) 0).toNat ||| 2 ^ (q % 8)))).getD (p / 8) 0=l.getD (p / 8) 0:=by
   simp only[List.getD];rw[List.getElem?_set_ne (λe=>hj e.symm)]
  rw[e1];have:p≠q:=λe=>hj (by rw[e])
  simp[this]
def bitsM(blocks:Nat)(used:List Nat):List UInt8:=used.foldl orB (List.replicate ((blocks+7) / 8) 0)
theorem fold_orB_length:∀(u:List Nat) (l:List UInt8),(u.foldl orB l).length=l.length
 | [],_=>rfl
 | q :: u,l=>by rw[List.foldl_cons,fold_orB_length u,orB_length]
theorem fold_orB_bit:∀(u:List Nat) (l:List UInt8) (p:Nat),(∀q∈u,q<8 * l.length)→bitAt (u.foldl orB l) p=(bitAt l p || decide (p∈u))
 | [],l,p,_=>by simp
 | q :: u,l,p,h=>by
  rw[List.foldl_cons,fold_orB_bit u (orB l q) p (λx hx=>by rw[orB_length];exact h x (List.mem_cons_of_mem _ hx)),orB_bit l q p (h q List.mem_cons_self),Bool.or_assoc];congr 1
  by_cases e:p=q <;> simp[e]
theorem bitsM_length(b:Nat)(u:List Nat):(bitsM b u).length=(b+7) / 8:=by rw[bitsM,fold_orB_length,List.length_replicate]
theorem bitAt_zeros(n p:Nat):bitAt (List.replicate n 0) p=false:=by
 unfold bitAt;have:(List.replicate n (0:UInt8)).getD (p / 8) 0=0:=by
  rw[List.getD_eq_getElem?_getD,List.getElem?_replicate];split <;> rfl
 rw[this];simp
theorem bitsM_bit{b:Nat}{u:List Nat}(h:∀n∈u,n<b)(p:Nat):bitAt (bitsM b u) p=decide (p∈u):=by
 rw[bitsM,fold_orB_bit u _ p (λq hq=>by rw[List.length_replicate];have:=h q hq;omega),bitAt_zeros,Bool.false_or]
def mapBody(m:MapA):List UInt8:=leB 4 m.blocks++leB 4 m.used.length++bitsM m.blocks m.used
def mapPg(m:MapA)(i:Nat):PageA:=⟨5,i,m.gen,mapBody m⟩
def mapBlk(m:MapA)(i size:Nat):List UInt8:=sealP (mapPg m i) size
def place(gen k:Nat):Nat:=2+2 * (gen % 2)+k
def isPlace(gen i:Nat):Bool:=decide (i=place gen 0) || decide (i=place gen 1)
theorem mapBody_length(m:MapA):(mapBody m).length=8+(m.blocks+7) / 8:=by
 simp only[mapBody,List.length_append,leB_length,bitsM_length]
theorem mapPg_right{m:MapA}(h:mapOk m=true){i size:Nat}(hi:i<6)(h1:256≤size)(h2:size≤1024):pgCheck (mapPg m i) size=none:=by
 obtain⟨a,b,c,d,e,f⟩:=(mapOk_iff m).1 h;have hb:=mapBody_length m;have h1':sizedB size=true:=by unfold sizedB;simp;omega
 have h2':kindB (mapPg m i).kind=true:=by show kindB 5=true;decide
 unfold pgCheck;rw[h1',h2',if_neg (by simp),if_neg];simp only[mapPg];rw[hb];simp;omega
theorem mapBlk_length{m:MapA}(h:mapOk m=true)(i:Nat){size:Nat}(h1:256≤size):(mapBlk m i size).length=size:=by
 obtain⟨a,b,c,d,e,f⟩:=(mapOk_iff m).1 h;exact sealP_length _ _ (by simp only[mapPg,mapBody_length];omega)
def saidM(p:PageA):MapA :=
 if p.body.length<4∨256<numAt p.body 0 4 then ⟨0,0,[]⟩
 else ⟨p.gen,numAt p.body 0 4,(List.range (numAt p.body 0 4)).filter λi=>decide (8+i / 8<p.body.length) && (p.body.getD (8+i / 8) 0).toNat.testBit (i % 8)⟩
def usedIn(b:List UInt8)(n:Nat):List Nat:=(List.range n).filter λi=>decide (8+i / 8<b.length) && (b.getD (8+i / 8) 0).toNat.testBit (i % 8)
theorem saidM_pos(p:PageA)(h1:4≤p.body.length)(h2:numAt p.body 0 4≤256):saidM p=⟨p.gen,numAt p.body 0 4,usedIn p.body (numAt p.body 0 4)⟩:=by
 unfold saidM;rw[if_neg (by omega)];rfl
theorem filter_mem:∀(u:List Nat) (b:Nat),u.Pairwise (· < ·)→(∀n∈u,n<b)→(List.range b).filter (λi=>decide (i∈u))=u:=by
 intro u b hs hb;have hp:((List.range b).filter (λi=>decide (i∈u))).Pairwise (· < ·):=List.Pairwise.filter _ List.pairwise_lt_range;refine List.Perm.eq_of_pairwise (le:=λa b=>a<b) (λa b _ _ h1 h2=>by omega) hp hs ?_;refine (List.perm_ext_iff_of_nodup (hp.imp (λh e=>by omega)) (hs.imp (λh e=>by omega))).2 (λx=>?_);simp only[List.mem_filter,List.mem_range,decide_eq_true_eq];exact⟨λh=>h.2,λh=>⟨hb x h,h⟩⟩
theorem said_map{m:MapA}(h:mapOk m=true)(i:Nat):saidM (mapPg m i)=m:=by
  obtain⟨a,b,c,d,e,f⟩:=(mapOk_iff m).1 h
  have hlen:m.used.length≤256:=by
    have h1:m.used=(List.range m.blocks).filter (λi=>decide (i∈m.used)):=(filter_mem _ _ e f).symm
    have:=List.length_filter_le (λi=>decide (i∈m.used)) (List.range m.blocks)
    rw[← h1,List.length_range] at this
    omega
  have n0:numAt (mapBody m) 0 4=m.blocks:=by
    have:mapBody m=[]++(leB 4 m.blocks++(leB 4 m.used.length++bitsM m.blocks m.used)):=by simp[mapBody]
    rw [this, numAt_mid [] _ 4 m.blocks 0 rfl (by have : (256 : Nat) ^ 4 = 4294967296 := by decide
                                                  omega)]
  have hl:=mapBody_length m
  rw[saidM_pos (mapPg m i) (by show 4≤(mapBody m).length;omega) (by show numAt (mapBody m) 0 4≤256;omega)]
  show (⟨m.gen,numAt (mapBody m) 0 4,usedIn (mapBody m) (numAt (mapBody m) 0 4)⟩:MapA)=m
  rw[n0]
  have hu:usedIn (mapBody m) m.blocks=m.used:=by
    unfold usedIn
    refine Eq.trans ?_ (filter_mem _ _ e f)
    refine List.filter_congr (λx hx=>?_)
    have hxb:=List.mem_range.1 hx
    have hb:=bitsM_bit f x
    unfold bitAt at hb
    have hg:(mapBody m).getD (8+x / 8) 0=(bitsM m.blocks m.used).getD (x / 8) 0:=by
      rw[List.getD_eq_getElem?_getD,List.getD_eq_getElem?_getD,mapBody,List.getElem?_append_right (by simp[leB_length])]
      simp[leB_length]
    rw[hg,hb,hl,decide_eq_true (by omega),Bool.true_and]
  rw[hu]
end
section
open Go.RowKit
theorem bl_irrefl:∀a:List UInt8,Op.bytesLess a a=false
 | []=>rfl
 | x :: a=>by simp[Op.bytesLess,bl_irrefl a]
theorem bl_trans:∀a b c:List UInt8,Op.bytesLess a b=true→Op.bytesLess b c=true→Op.bytesLess a c=true
 | _,_,[],_,h=>by cases ‹List UInt8› <;> simp[Op.bytesLess] at h
 | _,[],_ :: _,h,_=>by simp[Op.bytesLess] at h
 | [],_ :: _,_ :: _,_,_=>rfl
 | x :: a,y :: b,z :: c,h1,h2=>by
  simp only[Op.bytesLess,Bool.or_eq_true,Bool.and_eq_true,decide_eq_true_eq,beq_iff_eq] at h1 h2 ⊢;rcases h1 with h1|⟨rfl,h1⟩
  ·rcases h2 with h2|⟨rfl,h2⟩
   ·exact .inl (UInt8.lt_trans h1 h2)
   ·exact .inl h1
  ·rcases h2 with h2|⟨rfl,h2⟩
   ·exact .inl h2
   ·exact .inr ⟨rfl,bl_trans a b c h1 h2⟩
theorem bl_tri:∀a b:List UInt8,Op.bytesLess a b=true∨a=b∨Op.bytesLess b a=true
 | [],[]=>.inr (.inl rfl)
 | [],_ :: _=>.inl rfl
 | _ :: _,[]=>.inr (.inr rfl)
 | x :: a,y :: b=>by
  simp only[Op.bytesLess,Bool.or_eq_true,Bool.and_eq_true,decide_eq_true_eq,beq_iff_eq];rcases Nat.lt_trichotomy x.toNat y.toNat with h|h|h
  ·exact .inl (.inl h)
  ·have e:x=y:=UInt8.toNat_inj.1 h;subst e;rcases bl_tri a b with h|rfl|h
   ·exact .inl (.inr ⟨rfl,h⟩)
   ·exact .inr (.inl rfl)
   ·exact .inr (.inr (.inr ⟨rfl,h⟩))
  ·exact .inr (.inr (.inl h))
theorem ltS_irrefl(a:ByteArray):ltS a a=false:=bl_irrefl _
theorem ltS_trans{a b c:ByteArray}(h:ltS a b=true)(k:ltS b c=true):ltS a c=true:=bl_trans _ _ _ h k
theorem toList_inj{a b:ByteArray}(h:a.toList=b.toList):a=b:=by
 rw[ByteArray.toList_eq,ByteArray.toList_eq] at h;exact ByteArray.ext (Array.ext' h)
theorem ltS_tri(a b:ByteArray):ltS a b=true∨a=b∨ltS b a=true:=by
 rcases bl_tri a.toList b.toList with h|h|h
 ·exact .inl h
 ·exact .inr (.inl (toList_inj h))
 ·exact .inr (.inr h)
theorem ltS_asymm{a b:ByteArray}(h:ltS a b=true):ltS b a=false:=by
 cases hb:ltS b a with
 | false=>rfl
 | true=>have:=ltS_trans h hb;rw[ltS_irrefl] at this;cases this
theorem ltS_ne{a b:ByteArray}(h:ltS a b=true):a≠b:=λe=>by rw[e,ltS_irrefl] at h;cases h
theorem leS_iff(a b:ByteArray):leS a b=true ↔ ltS a b=true∨a=b:=by
 unfold leS ltS;rw[Bool.or_eq_true,beq_iff_eq];exact⟨λh=>h.imp id toList_inj,λh=>h.imp id (λe=>by rw[e])⟩
theorem not_ltS{a b:ByteArray}(h:ltS a b=false):ltS b a=true∨a=b:=by
 rcases ltS_tri a b with k|k|k
 ·rw[h] at k;cases k
 ·exact .inr k
 ·exact .inl k
abbrev PairS:=ByteArray × ByteArray
def SortedP(l:List PairS):Prop:=l.Pairwise λa b=>ltS a.1 b.1=true
def withP(key value:ByteArray)(over:Bool):List PairS→List PairS
 | []=>[(key,value)]
 | x :: l=>if ltS x.1 key then x :: withP key value over l
  else if x.1=key then (if over then (key,value) :: l else x :: l) else (key,value) :: x :: l
def findP(key:ByteArray)(l:List PairS):Option ByteArray:=(l.find? λx=>decide (x.1=key)).map (·.2)
theorem mem_withP{key value:ByteArray}{over:Bool}{y:PairS}:∀{l:List PairS},y∈withP key value over l→y=(key,value)∨y∈l
 | [],h=>by simp[withP] at h;exact .inl h
 | x :: l,h=>by
  unfold withP at h;split at h
  ·rcases List.mem_cons.1 h with rfl|h
   ·exact .inr List.mem_cons_self
   ·exact (mem_withP h).imp id (List.mem_cons_of_mem _)
  ·split at h
   ·split at h
    ·rcases List.mem_cons.1 h with rfl|h
     ·exact .inl rfl
     ·exact .inr (List.mem_cons_of_mem _ h)
    ·exact .inr h
   ·rcases List.mem_cons.1 h with rfl|h
    ·exact .inl rfl
    ·exact .inr h
theorem sorted_withP{key value:ByteArray}{over:Bool}:∀{l:List PairS},SortedP l→SortedP (withP key value over l)
 | [],_=>by unfold withP SortedP;exact List.pairwise_singleton _ _
 | x :: l,h=>by
  have h2:=List.pairwise_cons.1 h;unfold withP;by_cases h1:ltS x.1 key=true
  ·rw[if_pos h1];refine List.pairwise_cons.2 ⟨λy hy=>?_,sorted_withP h2.2⟩;rcases mem_withP hy with rfl|hy
   ·exact h1
   ·exact h2.1 y hy
  ·rw[if_neg h1];by_cases hk:x.1=key
   ·rw[if_pos hk];cases over with
    | true=>exact List.pairwise_cons.2 ⟨λy hy=>by have:=h2.1 y hy;rw[hk] at this;exact this,h2.2⟩
    | false=>exact h
   ·rw[if_neg hk];have h3:ltS key x.1=true:=(not_ltS (by simpa using h1)).resolve_right hk;refine List.pairwise_cons.2 ⟨λy hy=>?_,h⟩;rcases List.mem_cons.1 hy with rfl|hy
    ·exact h3
    ·exact ltS_trans h3 (h2.1 y hy)
theorem findP_cons(key:ByteArray)(x:PairS)(l:List PairS):findP key (x :: l)=if x.1=key then some x.2 else findP key l:=by
 unfold findP;rw[List.find?_cons];by_cases h:x.1=key
 ·simp[h]
 ·simp[h]
theorem findP_none{key:ByteArray}{l:List PairS}(h:∀x∈l,x.1≠key):findP key l=none:=by
 unfold findP;rw[List.find?_eq_none.2 (λx hx=>by simpa using h x hx)];rfl
theorem findP_append(key:ByteArray)(a b:List PairS):findP key (a++b)=(findP key a).or (findP key b):=by
 induction a with
 | nil=>simp[findP]
 | cons x a ih =>
  rw[List.cons_append,findP_cons,findP_cons,ih];by_cases h:x.1=key
  ·rw[if_pos h,if_pos h];rfl
  ·rw[if_neg h,if_neg h]
theorem findP_gt{key:ByteArray}{l:List PairS}(h:∀x∈l,ltS key x.1=true):findP key l=none:=findP_none (λx hx e=>ltS_ne (h x hx) e.symm)
theorem findP_with{key value k:ByteArray}{over:Bool}:∀{l:List PairS},SortedP l→findP k (withP key value over l)=if k=key then (match findP key l with|some v=>some (if over then value else v)|none=>some value) else findP k l
 | [],_=>by
  unfold withP;rw[findP_cons];by_cases h:k=key
  ·subst h;simp[findP]
  ·rw[if_neg (λe=>h e.symm),if_neg h]
 | x :: l,hs=>by
  have h2:=List.pairwise_cons.1 hs;unfold withP;by_cases h1:ltS x.1 key=true
  ·rw[if_pos h1,findP_cons,findP_with h2.2,findP_cons,findP_cons];have hne:=ltS_ne h1;by_cases h:k=key
   ·subst h;rw[if_neg hne,if_pos rfl,if_pos rfl,if_neg hne]
   ·rw[if_neg h,if_neg h]
  ·rw[if_neg h1];by_cases hk:x.1=key
   ·rw[if_pos hk];have hnl:findP key l=none:=findP_gt (λy hy=>by have:=h2.1 y hy;rw[hk] at this;exact this);cases over with
    | true =>
     simp only[if_true];rw[findP_cons];by_cases h:k=key
     ·subst h;rw[if_pos rfl,if_pos rfl,findP_cons,if_pos hk]
     ·rw[if_neg (λe=>h e.symm),if_neg h,findP_cons,if_neg (λe=>h (e.symm.trans hk))]
    | false =>
     simp only[Bool.false_eq_true,if_false];by_cases h:k=key
     ·subst h;rw[if_pos rfl,findP_cons,if_pos hk]
     ·rw[if_neg h]
   ·rw[if_neg hk];have h3:ltS key x.1=true:=(not_ltS (by simpa using h1)).resolve_right hk;have hn:findP key (x :: l)=none:=findP_gt (λy hy=>by
     rcases List.mem_cons.1 hy with rfl|hy
     ·exact h3
     ·exact ltS_trans h3 (h2.1 y hy))
    rw[findP_cons];by_cases h:k=key
    ·subst h;rw[if_pos rfl,if_pos rfl,hn]
    ·rw[if_neg (λe=>h e.symm),if_neg h]
end
section
def WthI(key value:ByteArray)(over:Bool)(l:List PairS)(i:Nat)(done:Bool)(out:List PairS):Prop :=
 out.length+(if done then 0 else 1)≤i+1∧out++(if done then l.drop i else withP key value over (l.drop i))=withP key value over l
section
variable {key value:ByteArray}{over:Bool}{l out:List PairS}{i:Nat}{x:PairS}
theorem WthI.start:WthI key value over l 0 false []:=⟨by simp,by simp⟩
theorem drop_of{α:Type}{l:List α}{i:Nat}{x:α}(h:l[i]? = some x):l.drop i=x :: l.drop (i+1):=by
 obtain⟨hi,rfl⟩:=List.getElem?_eq_some_iff.1 h;exact List.drop_eq_getElem_cons hi
theorem WthI.pass(h:WthI key value over l i true out)(hx:l[i]? = some x):WthI key value over l (i+1) true (out++[x]):=by
 obtain⟨h1,h2⟩:=h;rw[drop_of hx] at h2;exact⟨by simp at h1 ⊢;omega,by simpa using h2⟩
theorem WthI.lt(h:WthI key value over l i false out)(hx:l[i]? = some x)(hl:ltS x.1 key=true):WthI key value over l (i+1) false (out++[x]):=by
 obtain⟨h1,h2⟩:=h;rw[drop_of hx] at h2;simp only[withP,hl] at h2;exact⟨by simp at h1 ⊢;omega,by simpa using h2⟩
theorem WthI.gt(h:WthI key value over l i false out)(hx:l[i]? = some x)(hl:ltS x.1 key=false)(hk:x.1≠key):WthI key value over l (i+1) true (out++[(key,value)]++[x]):=by
 obtain⟨h1,h2⟩:=h;rw[drop_of hx] at h2;simp only[withP,hl,hk] at h2;exact⟨by simp at h1 ⊢;omega,by simpa using h2⟩
theorem WthI.eqO(h:WthI key value true l i false out)(hx:l[i]? = some x)(hk:x.1=key):WthI key value true l (i+1) true (out++[(key,value)]):=by
 obtain⟨h1,h2⟩:=h;rw[drop_of hx] at h2;simp only[withP,hk,ltS_irrefl] at h2;exact⟨by simp at h1 ⊢;omega,by simpa using h2⟩
theorem WthI.eqN(h:WthI key value false l i false out)(hx:l[i]? = some x)(hk:x.1=key):WthI key value false l (i+1) true (out++[x]):=by
 obtain⟨h1,h2⟩:=h;rw[drop_of hx] at h2;simp only[withP,hk,ltS_irrefl] at h2;exact⟨by simp at h1 ⊢;omega,by simpa using h2⟩
theorem WthI.done(h:WthI key value over l i true out)(hi:l.length≤i):out=withP key value over l:=by
 obtain⟨h1,h2⟩:=h;rw[List.drop_eq_nil_of_le hi] at h2;simpa using h2
theorem WthI.last(h:WthI key value over l i false out)(hi:l.length≤i):out++[(key,value)]=withP key value over l:=by
 obtain⟨h1,h2⟩:=h;rw[List.drop_eq_nil_of_le hi] at h2;simpa[withP] using h2
end
end
section
open Go.RowKit
structure ChV where
 key:ByteArray
 was:Bool
 is:Bool
 old:ByteArray
 new:ByteArray
def encCh(x:ChV):List Value:=[.string x.key,.bool x.was,.bool x.is,.string x.old,.string x.new]
def emS:ByteArray:=⟨#[]⟩
def delC(x:PairS):ChV:=⟨x.1,true,false,x.2,emS⟩
def insC(y:PairS):ChV:=⟨y.1,false,true,emS,y.2⟩
def chgC(x y:PairS):ChV:=⟨x.1,true,true,x.2,y.2⟩
def diffP:List PairS→List PairS→List ChV
 | [],ys=>ys.map insC
 | x :: xs,[]=>delC x :: diffP xs []
 | x :: xs,y :: ys =>
  if ltS x.1 y.1=true then delC x :: diffP xs (y :: ys)
  else if ltS y.1 x.1=true then insC y :: diffP (x :: xs) ys
  else if x.2=y.2 then diffP xs ys else chgC x y :: diffP xs ys
termination_by xs ys=>xs.length+ys.length
def docO(k:ByteArray)(o n:Option ByteArray):List ChV :=
 if o.isSome=n.isSome∧o.getD emS=n.getD emS then [] else [⟨k,o.isSome,n.isSome,o.getD emS,n.getD emS⟩]
def docC(a b:List PairS)(k:ByteArray):List ChV:=docO k (findP k a) (findP k b)
def keysD(a b:List PairS):List PairS:=b.foldl (λk y=>withP y.1 emS true k) a
def docDiff(a b:List PairS):List ChV:=(keysD a b).flatMap λx=>docC a b x.1
theorem keysD_sorted:∀(b:List PairS) {a:List PairS},SortedP a→SortedP (keysD a b)
 | [],_,h=>h
 | _ :: b,_,h=>keysD_sorted b (sorted_withP h)
theorem mem_fst_with{key value:ByteArray}{over:Bool}{l:List PairS}(hs:SortedP l)(k:ByteArray):k∈(withP key value over l).map (·.1) ↔ k=key∨k∈l.map (·.1):=by
 have hf:∀(q:List PairS),k∈q.map (·.1) ↔ findP k q≠none:=by
  intro q;induction q with
  | nil=>simp[findP]
  | cons x q ih =>
   rw[List.map_cons,List.mem_cons,findP_cons,ih];by_cases h:x.1=k
   ·rw[if_pos h];exact⟨λ_ h=>by simp at h,λ_=>.inl h.symm⟩
   ·rw[if_neg h];exact⟨λh1=>h1.resolve_left (λe=>h e.symm),.inr⟩
 rw[hf,hf,findP_with hs];by_cases h:k=key
 ·rw[if_pos h];refine⟨λ_=>.inl h,λ_=>?_⟩;cases findP key l <;> simp
 ·rw[if_neg h];exact⟨.inr,λh1=>h1.resolve_left h⟩
theorem mem_keysD:∀(b:List PairS) {a:List PairS},SortedP a→∀k,k∈(keysD a b).map (·.1) ↔ k∈a.map (·.1)∨k∈b.map (·.1)
 | [],a,_,k=>by simp[keysD]
 | y :: b,a,h,k=>by
  have:=mem_keysD b (sorted_withP (key:=y.1) (value:=emS) (over:=true) h) k;rw[show keysD a (y :: b)=keysD (withP y.1 emS true a) b from rfl,this,mem_fst_with h,List.map_cons,List.mem_cons];constructor
  ·rintro ((h|h)|h)
   ·exact .inr (.inl h)
   ·exact .inl h
   ·exact .inr (.inr h)
  ·rintro (h|h|h)
   ·exact .inl (.inr h)
   ·exact .inl (.inl h)
   ·exact .inr h
def SortedK(l:List ByteArray):Prop:=l.Pairwise λa b=>ltS a b=true
theorem SortedK.head{l:List ByteArray}(h:SortedK l){m:ByteArray}(hm:m∈l)(hl:∀k∈l,k=m∨ltS m k=true):∃r,l=m :: r∧SortedK r∧∀k∈r,ltS m k=true:=by
 cases l with
 | nil=>simp at hm
 | cons x r =>
  obtain⟨h1,h2⟩:=List.pairwise_cons.1 h;rcases hl x List.mem_cons_self with e|e
  ·subst e;exact⟨r,rfl,h2,h1⟩
  ·rcases List.mem_cons.1 hm with e2|e2
   ·subst e2;exact⟨r,rfl,h2,h1⟩
   ·have:=h1 m e2;rw[ltS_asymm e] at this;cases this
theorem SortedP.cons{x:PairS}{l:List PairS}(h:SortedP (x :: l)):(∀y∈l,ltS x.1 y.1=true)∧SortedP l:=List.pairwise_cons.1 h
theorem flat_congr{α β:Type}{f g:α→List β}:∀{l:List α},(∀x∈l,f x=g x)→l.flatMap f=l.flatMap g
 | [],_=>rfl
 | x :: l,h=>by rw[List.flatMap_cons,List.flatMap_cons,h x List.mem_cons_self,flat_congr (λy hy=>h y (List.mem_cons_of_mem _ hy))]
theorem findP_tail{x:PairS}{l:List PairS}{k:ByteArray}(h:ltS x.1 k=true):findP k (x :: l)=findP k l:=by
 rw[findP_cons,if_neg (ltS_ne h)]
theorem findP_head(x:PairS)(l:List PairS):findP x.1 (x :: l)=some x.2:=by rw[findP_cons,if_pos rfl]
theorem doc_diff:∀(a b:List PairS) (K:List ByteArray),SortedP a→SortedP b→SortedK K→(∀k,k∈K ↔ k∈a.map (·.1)∨k∈b.map (·.1))→K.flatMap (docC a b)=diffP a b:=by
 intro a b;induction hn:a.length+b.length using Nat.strongRecOn generalizing a b with
 | _ n ih =>
 subst hn;intro K ha hb hK hm;have gt1:∀{x:PairS} {l:List PairS},SortedP (x :: l)→∀k∈(x :: l).map (·.1),k=x.1∨ltS x.1 k=true:=by
  intro x l h k hk;rw[List.map_cons,List.mem_cons] at hk;rcases hk with e|hk
  ·exact .inl e
  ·obtain⟨y,hy,rfl⟩:=List.mem_map.1 hk;exact .inr (h.cons.1 y hy)
 have nin:∀{m:ByteArray} {l:List PairS},(∀y∈l,ltS m y.1=true)→m ∉ l.map (·.1):=by
  intro m l h hk;obtain⟨y,hy,e⟩:=List.mem_map.1 hk;exact ltS_ne (h y hy) e.symm
 match a,b with
 | [],[] =>
  have:K=[]:=by
   cases K with
   | nil=>rfl
   | cons k r=>have:=(hm k).1 List.mem_cons_self;simp at this
  subst this;simp[diffP]
 | [],y :: ys =>
  obtain⟨r,rfl,hr,hg⟩:=hK.head (m:=y.1) ((hm y.1).2 (.inr (by simp))) (λk hk=>by
   rcases (hm k).1 hk with h|h
   ·simp at h
   ·exact gt1 hb k h)
  have hys:=hb.cons;rw[List.flatMap_cons];have h1:docC [] (y :: ys) y.1=[insC y]:=by
   unfold docC docO;rw[findP_head];simp[findP,insC]
  have h2:r.flatMap (docC [] (y :: ys))=r.flatMap (docC [] ys):=flat_congr (λk hk=>by unfold docC;rw[findP_tail (hg k hk)]);rw[h1,h2,ih _ (by simp) [] ys rfl r List.Pairwise.nil hys.2 hr (λk=>?_)]
  ·simp[diffP]
  ·have hmk:=hm k;simp only[List.map_nil,List.not_mem_nil,false_or,List.map_cons,List.mem_cons] at hmk ⊢;constructor
   ·intro h;exact (hmk.1 (.inr h)).resolve_left (λe=>ltS_ne (hg k h) e.symm)
   ·intro h;refine (hmk.2 (.inr h)).resolve_left (λe=>nin hys.1 (e ▸ h))
 | x :: xs,[] =>
  obtain⟨r,rfl,hr,hg⟩:=hK.head (m:=x.1) ((hm x.1).2 (.inl (by simp))) (λk hk=>by
   rcases (hm k).1 hk with h|h
   ·exact gt1 ha k h
   ·simp at h)
  have hxs:=ha.cons;rw[List.flatMap_cons];have h1:docC (x :: xs) [] x.1=[delC x]:=by
   unfold docC docO;rw[findP_head];simp[findP,delC]
  have h2:r.flatMap (docC (x :: xs) [])=r.flatMap (docC xs []):=flat_congr (λk hk=>by unfold docC;rw[findP_tail (hg k hk)]);rw[h1,h2,ih _ (by simp) xs [] rfl r hxs.2 List.Pairwise.nil hr (λk=>?_)]
  ·simp[diffP]
  ·have hmk:=hm k;simp only[List.map_nil,List.not_mem_nil,or_false,List.map_cons,List.mem_cons] at hmk ⊢;constructor
   ·intro h;exact (hmk.1 (.inr h)).resolve_left (λe=>ltS_ne (hg k h) e.symm)
   ·intro h;refine (hmk.2 (.inr h)).resolve_left (λe=>nin hxs.1 (e ▸ h))
 | x :: xs,y :: ys =>
  have hxs:=ha.cons;have hys:=hb.cons;by_cases h1:ltS x.1 y.1=true
  ·have hyx:∀z∈y :: ys,ltS x.1 z.1=true:=by
    intro z hz;rcases List.mem_cons.1 hz with rfl|hz
    ·exact h1
    ·exact ltS_trans h1 (hys.1 z hz)
   obtain⟨r,rfl,hr,hg⟩:=hK.head (m:=x.1) ((hm x.1).2 (.inl (by simp))) (λk hk=>by
    rcases (hm k).1 hk with h|h
    ·exact gt1 ha k h
    ·obtain⟨z,hz,rfl⟩:=List.mem_map.1 h;exact .inr (hyx z hz))
   rw[List.flatMap_cons];have e1:docC (x :: xs) (y :: ys) x.1=[delC x]:=by
    unfold docC docO;rw[findP_head,findP_gt hyx];simp[delC]
   have e2:r.flatMap (docC (x :: xs) (y :: ys))=r.flatMap (docC xs (y :: ys)):=flat_congr (λk hk=>by unfold docC;rw[findP_tail (hg k hk)]);rw[e1,e2,ih _ (by simp) xs (y :: ys) rfl r hxs.2 hb hr (λk=>?_),diffP,if_pos h1]
   ·rfl
   ·have hmk:=hm k;rw[List.map_cons (l:=xs),List.mem_cons,List.mem_cons] at hmk;constructor
    ·intro h;rcases hmk.1 (.inr h) with (e|h2)|h2
     ·exact absurd e.symm (ltS_ne (hg k h))
     ·exact .inl h2
     ·exact .inr h2
    ·intro h;refine (hmk.2 (h.imp .inr id)).resolve_left (λe=>?_);rcases h with h|h
     ·exact nin hxs.1 (e ▸ h)
     ·exact nin hyx (e ▸ h)
  ·by_cases h2:ltS y.1 x.1=true
   ·have hxy:∀z∈x :: xs,ltS y.1 z.1=true:=by
     intro z hz;rcases List.mem_cons.1 hz with rfl|hz
     ·exact h2
     ·exact ltS_trans h2 (hxs.1 z hz)
    obtain⟨r,rfl,hr,hg⟩:=hK.head (m:=y.1) ((hm y.1).2 (.inr (by simp))) (λk hk=>by
     rcases (hm k).1 hk with h|h
     ·obtain⟨z,hz,rfl⟩:=List.mem_map.1 h;exact .inr (hxy z hz)
     ·exact gt1 hb k h)
    rw[List.flatMap_cons];have e1:docC (x :: xs) (y :: ys) y.1=[insC y]:=by
     unfold docC docO;rw[findP_head,findP_gt hxy];simp[insC]
    have e2:r.flatMap (docC (x :: xs) (y :: ys))=r.flatMap (docC (x :: xs) ys):=flat_congr (λk hk=>by unfold docC;rw[findP_tail (x:=y) (hg k hk)]);rw[e1,e2,ih _ (by simp) (x :: xs) ys rfl r ha hys.2 hr (λk=>?_),diffP,if_neg h1,if_pos h2]
    ·rfl
    ·have hmk:=hm k;rw[List.map_cons (l:=ys),List.mem_cons,List.mem_cons] at hmk;constructor
     ·intro h;rcases hmk.1 (.inr h) with h2|e|h2
      ·exact .inl h2
      ·exact absurd e.symm (ltS_ne (hg k h))
      ·exact .inr h2
     ·intro h;refine (hmk.2 (h.imp id .inr)).resolve_left (λe=>?_);rcases h with h|h
      ·exact nin hxy (e ▸ h)
      ·exact nin hys.1 (e ▸ h)
   ·have hxy:x.1=y.1:=by
     rcases ltS_tri x.1 y.1 with h|h|h
     ·exact absurd h h1
     ·exact h
     ·exact absurd h h2
    obtain⟨r,rfl,hr,hg⟩:=hK.head (m:=x.1) ((hm x.1).2 (.inl (by simp))) (λk hk=>by
     rcases (hm k).1 hk with h|h
     ·exact gt1 ha k h
     ·have:=gt1 hb k h;rw[← hxy] at this;exact this)
    rw[List.flatMap_cons];have e1:docC (x :: xs) (y :: ys) x.1=if x.2=y.2 then [] else [chgC x y]:=by
     unfold docC docO;rw[findP_head,hxy,findP_head];by_cases e:x.2=y.2
     ·rw[if_pos ⟨rfl,e⟩,if_pos e]
     ·rw[if_neg (λh=>e h.2),if_neg e];simp[chgC,hxy]
    have e2:r.flatMap (docC (x :: xs) (y :: ys))=r.flatMap (docC xs ys):=flat_congr (λk hk=>by unfold docC;rw[findP_tail (hg k hk),findP_tail (x:=y) (hxy ▸ hg k hk)]);rw[e1,e2,ih _ (by simp;omega) xs ys rfl r hxs.2 hys.2 hr (λk=>?_),diffP,if_neg h1,if_neg h2]
    ·split <;> rfl
    ·have hmk:=hm k;rw[List.map_cons,List.map_cons,List.mem_cons,List.mem_cons,List.mem_cons,← hxy] at hmk;constructor
     ·intro h;have hne:¬ k=x.1:=λe=>ltS_ne (hg k h) e.symm
      rcases hmk.1 (.inr h) with (e|h2)|e|h2
      ·exact absurd e hne
      ·exact .inl h2
      ·exact absurd e hne
      ·exact .inr h2
     ·intro h;refine (hmk.2 (h.imp .inr .inr)).resolve_left (λe=>?_);rcases h with h|h
      ·exact nin hxs.1 (e ▸ h)
      ·exact nin (m:=x.1) (l:=ys) (λz hz=>hxy ▸ hys.1 z hz) (e ▸ h)
theorem docDiff_eq{a b:List PairS}(ha:SortedP a)(hb:SortedP b):docDiff a b=diffP a b:=by
 have hs:=keysD_sorted b ha;have hk:SortedK ((keysD a b).map (·.1)):=List.pairwise_map.2 hs;rw[← doc_diff a b _ ha hb hk (mem_keysD b ha),List.flatMap_map];rfl
theorem diffP_nil:∀(a:List PairS),diffP a []=a.map delC
 | []=>by simp[diffP]
 | x :: xs=>by rw[diffP,diffP_nil xs];rfl
theorem diff_len:∀(a b:List PairS),(diffP a b).length≤a.length+b.length:=by
 intro a b;induction hn:a.length+b.length using Nat.strongRecOn generalizing a b with
 | _ n ih =>
 subst hn;match a,b with
 | [],ys=>simp[diffP]
 | x :: xs,[]=>rw[diffP_nil];simp
 | x :: xs,y :: ys =>
  rw[diffP];have i1:=ih _ (by simp) xs (y :: ys) rfl;have i2:=ih _ (by simp) (x :: xs) ys rfl;have i3:=ih _ (by simp;omega) xs ys rfl;simp only[List.length_cons] at i1 i2 i3 ⊢;split
  ·rw[List.length_cons];omega
  ·split
   ·rw[List.length_cons];omega
   ·split
    ·omega
    ·rw[List.length_cons];omega
end
section
def docStep(r bit:Nat):Nat:=if r % 2≠bit then (r / 2) ^^^ 3988292384 else r / 2
def docBits:Nat→Nat→Nat→Nat
 | 0,r,_=>r
 | k+1,r,x=>docBits k (docStep r (x % 2)) (x / 2)
theorem docStep_lt{r bit:Nat}(h:r<4294967296):docStep r bit<4294967296:=by
 unfold docStep;split
 ·exact Nat.xor_lt_two_pow (n:=32) (by omega) (by decide)
 ·omega
theorem docStep_eq(r x:Nat):docStep r (x % 2)=crcStep (r ^^^ (x % 2)):=by
 unfold docStep crcStep;have hm:(r ^^^ (x % 2)) % 2=(r % 2) ^^^ (x % 2):=by
  have:=Nat.xor_mod_two_pow (a:=r) (b:=x % 2) (n:=1);simpa using this
 have hd:(r ^^^ (x % 2)) / 2=r / 2:=by
  have h:=Nat.xor_div_two_pow (a:=r) (b:=x % 2) (n:=1);rw[Nat.pow_one,show x % 2 / 2=0 by omega,Nat.xor_zero] at h;exact h
 rw[hm,hd];rcases Nat.mod_two_eq_zero_or_one r with h1|h1 <;> rcases Nat.mod_two_eq_zero_or_one x with h2|h2 <;> rw[h1,h2] <;> simp
theorem xor_two(b m:Nat)(hb:b<2):b ^^^ (2 * m)=b+2 * m:=by
 rw[Nat.xor_comm];have:=Nat.two_pow_add_eq_or_of_lt (i:=1) (b:=b) (by omega) m;have h2:(2 * m) &&& b=0:=by
  apply Nat.eq_of_testBit_eq
  intro i;rw[Nat.testBit_and,Nat.zero_testBit];cases i with
  | zero=>simp
  | succ i =>
   have:b.testBit (i+1)=false:=Nat.testBit_lt_two_pow (Nat.lt_of_lt_of_le hb (by rw[Nat.pow_succ];have:=Nat.one_le_two_pow (n:=i);omega));simp[this]
 have h3:(2 * m) ^^^ b=(2 * m) ||| b:=by
  apply Nat.eq_of_testBit_eq
  intro i;have hi:=congrArg (λn=>n.testBit i) h2;simp only[Nat.testBit_and,Nat.zero_testBit] at hi;rw[Nat.testBit_xor,Nat.testBit_or];cases h4:(2 * m).testBit i <;> cases h5:b.testBit i <;> simp_all
 rw[h3];rw[Nat.pow_one] at this;omega
theorem docBits_eq:∀(k r x:Nat),docBits k r x=crcIter k (r ^^^ (x % 2 ^ k))
 | 0,r,x=>by rw[Nat.pow_zero,Nat.mod_one,Nat.xor_zero];rfl
 | k+1,r,x=>by
  rw[docBits,docBits_eq k,docStep_eq,crcIter];have e:x % 2 ^ (k+1)=(x % 2) ^^^ (2 * (x / 2 % 2 ^ k)):=by
   rw[xor_two _ _ (by omega),Nat.pow_succ,Nat.mul_comm (2 ^ k) 2,Nat.mod_mul]
  rw[e,← Nat.xor_assoc,crcStep_xor (r ^^^ (x % 2)),crcStep_two]
theorem docByte_eq(r x:Nat)(hx:x<256):docBits 8 r x=crcByte r x:=by
 rw[docBits_eq,show (2:Nat) ^ 8=256 from rfl,Nat.mod_eq_of_lt hx];unfold crcByte crcEntry;have e:r=(256 * (r / 256)) ^^^ (r % 256):=by
  have h1:(256 * (r / 256)) ^^^ (r % 256)=256 * (r / 256)+r % 256:=by
   have h:=Nat.two_pow_add_eq_or_of_lt (i:=8) (b:=r % 256) (by omega) (r / 256);have h2:(256 * (r / 256)) &&& (r % 256)=0:=by
    apply Nat.eq_of_testBit_eq
    intro i;rw[Nat.testBit_and,Nat.zero_testBit];by_cases hi:i<8
    ·rw[show (256:Nat)=2 ^ 8 from rfl,Nat.testBit_two_pow_mul];simp;omega
    ·rw[show r % 256=r % 2 ^ 8 from rfl,Nat.testBit_mod_two_pow];simp[hi]
   have h3:(256 * (r / 256)) ^^^ (r % 256)=(256 * (r / 256)) ||| (r % 256):=by
    apply Nat.eq_of_testBit_eq
    intro i;have hi:=congrArg (λn=>n.testBit i) h2;simp only[Nat.testBit_and,Nat.zero_testBit] at hi;rw[Nat.testBit_xor,Nat.testBit_or];cases h4:(256 * (r / 256)).testBit i <;> cases h5:(r % 256).testBit i <;> simp_all
   rw[h3];rw[show (2:Nat) ^ 8=256 from rfl] at h;exact h.symm
  rw[h1];omega
 have h8:=crcIter_pow 8 (r / 256);rw[show (2:Nat) ^ 8=256 from rfl] at h8;conv=>lhs;rw[e]
 rw[Nat.xor_assoc,crcIter_xor,h8]
theorem comp32(s:Nat)(h:s<4294967296):4294967295-s=4294967295 ^^^ s:=by
 have h1:(BitVec.ofNat 32 s ^^^ BitVec.allOnes 32).toNat=(~~~ (BitVec.ofNat 32 s)).toNat:=by rw[BitVec.xor_allOnes]
 rw[BitVec.toNat_xor,BitVec.toNat_not,BitVec.toNat_ofNat,BitVec.toNat_allOnes,Nat.mod_eq_of_lt h] at h1;rw[Nat.xor_comm];exact h1.symm
end
end Go.Proofs.YtdnbmdghmmpgcaaGreatDoor
