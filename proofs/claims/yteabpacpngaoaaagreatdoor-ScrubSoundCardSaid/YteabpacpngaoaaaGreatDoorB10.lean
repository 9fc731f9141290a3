import Derived.Test.YteabpacpngaoaaaGreatDoorB09
import Derived.Test.YteabpacpngaoaaaGreatDoorB04
namespace Go.Proofs.YteabpacpngaoaaaGreatDoor
section
open Go.RowKit
def tellsE(R:Int→Int→Option ByteArray)(e:EntryA):Option ByteArray:=if e.chain=0 then some e.value else R e.chain e.size
def inB(lo:ByteArray)(hi:Option ByteArray)(k:ByteArray):Prop:=ltS k lo=false∧∀h,hi=some h→ltS k h=true
def loAt(lo:ByteArray)(keys:List ByteArray)(i:Nat):ByteArray:=if i=0 then lo else keys.getD (i-1) lo
def hiAt(hi:Option ByteArray)(keys:List ByteArray)(i:Nat):Option ByteArray:=match keys[i]? with
 | some s=>some s
 | none=>hi
inductive Tr (V:Nat→Option NodeA) (R:Int→Int→Option ByteArray):ByteArray→Option ByteArray→Nat→Nat→List PairS→Prop
 | leaf {lo hi id n} {l:List PairS}:V id=some n→n.leaf=true→rightN n=true→n.entries.length=l.length→(∀(i:Nat) (e:EntryA) (x:PairS),n.entries[i]? = some e→l[i]? = some x→e.key=x.1∧tellsE R e=some x.2)→(∀x∈l,inB lo hi x.1)→Tr V R lo hi id 1 l
 | inner {lo hi id n d} {parts:List (List PairS)}:V id=some n→n.leaf=false→rightN n=true→parts.length=n.kids.length→(∀(i:Nat) (k:Int) (p:List PairS),n.kids[i]? = some k→parts[i]? = some p→Tr V R (loAt lo n.keys i) (hiAt hi n.keys i) k.toNat d p)→(∀s∈n.keys,inB lo hi s)→Tr V R lo hi id (d+1) parts.flatten
theorem not_lt_trans{a b c:ByteArray}(h1:ltS b a=false)(h2:ltS c b=false):ltS c a=false:=by
 cases h:ltS c a with
 | false=>rfl
 | true =>
  rcases not_ltS h2 with k|rfl
  ·have:=ltS_trans k h;rw[h1] at this;cases this
  ·rw[h1] at h;cases h
theorem lt_of_lt_not{a b c:ByteArray}(h1:ltS a b=true)(h2:ltS c b=false):ltS a c=true:=by
 rcases not_ltS h2 with k|rfl
 ·exact ltS_trans h1 k
 ·exact h1
theorem lt_of_not_lt{a b c:ByteArray}(h1:ltS b a=false)(h2:ltS b c=true):ltS a c=true:=by
 rcases not_ltS h1 with k|rfl
 ·exact ltS_trans k h2
 ·exact h2
theorem rising_pw:∀{l:List ByteArray},risingS l=true→l.Pairwise λa b=>ltS a b=true
 | [],_=>List.Pairwise.nil
 | [_],_=>List.pairwise_singleton _ _
 | a :: b :: l,h=>by
  simp only[risingS,Bool.and_eq_true] at h;have h2:=rising_pw h.2;refine List.pairwise_cons.2 ⟨λy hy=>?_,h2⟩;rcases List.mem_cons.1 hy with rfl|hy
  ·exact h.1
  ·exact ltS_trans h.1 ((List.pairwise_cons.1 h2).1 y hy)
def kidAt(key:ByteArray)(keys:List ByteArray):Nat:=keys.findIdx λs=>ltS key s
def entAt(key:ByteArray)(es:List EntryA):Nat:=es.findIdx λe=>!ltS e.key key
def entIs(key:ByteArray)(es:List EntryA):Bool:=match es[entAt key es]? with
 | some e=>decide (e.key=key)
 | none=>false
theorem findIdx_lt{α:Type}{f:α→Bool}{l:List α}{i:Nat}{a:α}(hi:i<l.findIdx f)(ha:l[i]? = some a):f a=false:=by
 obtain⟨h,rfl⟩:=List.getElem?_eq_some_iff.1 ha;simpa using List.not_of_lt_findIdx hi
theorem findIdx_at{α:Type}{f:α→Bool}{l:List α}{a:α}(ha:l[l.findIdx f]? = some a):f a=true:=by
 obtain⟨h,rfl⟩:=List.getElem?_eq_some_iff.1 ha;exact List.findIdx_getElem
theorem rightN_leaf{n:NodeA}(h:rightN n=true)(hl:n.leaf=true):(n.entries.map (·.key)).Pairwise λa b=>ltS a b=true:=by
 unfold rightN at h;rw[if_pos hl] at h;simp only[Bool.and_eq_true] at h;exact rising_pw h.1.2
theorem rightN_inner{n:NodeA}(h:rightN n=true)(hl:n.leaf=false):(n.keys.Pairwise λa b=>ltS a b=true)∧n.kids.length=n.keys.length+1∧∀k∈n.kids,2≤k∧k<256:=by
 unfold rightN at h;rw[if_neg (by rw[hl];simp)] at h;simp only[Bool.and_eq_true,decide_eq_true_eq,List.all_eq_true] at h;obtain⟨⟨⟨⟨⟨⟨⟨h1,h2⟩,h3⟩,h4⟩,h5⟩,h6⟩,h7⟩,h8⟩:=h;exact⟨rising_pw h8,h3,λk hk=>by simpa[kidB] using h5 k hk⟩
def apartA(n:NodeA)(a:Nat):NodeA × ByteArray × NodeA :=
 if n.leaf=true then (⟨true,n.entries.take a,[],[]⟩,(match n.entries[a]? with|some e=>e.key|none=>⟨#[]⟩),⟨true,n.entries.drop a,[],[]⟩)
 else (⟨false,[],n.keys.take (a-1),n.kids.take a⟩,n.keys.getD (a-1) ⟨#[]⟩,⟨false,[],n.keys.drop a,n.kids.drop a⟩)
def weightA(n:NodeA):Nat:=(bytesN n).length
def unlikeA(n:NodeA)(a:Nat):Nat:=((weightA (apartA n a).1:Int)-(weightA (apartA n a).2.2:Int)).natAbs
def firstMin(d:Nat→Nat):Nat→Nat→Nat→Nat
 | b,_,0=>b
 | b,a,m+1=>firstMin d (if d a<d b then a else b) (a+1) m
def cutFrom(n:NodeA):Nat:=if n.leaf=true then 1 else 2
def cutMany(n:NodeA):Nat:=if n.leaf=true then n.entries.length-1 else n.kids.length-3
def cutA(n:NodeA):Option (NodeA × ByteArray × NodeA) :=
 if rightN n=true∧0<cutMany n then some (apartA n (firstMin (unlikeA n) (cutFrom n) (cutFrom n) (cutMany n))) else none
theorem firstMin_same(d:Nat→Nat)(b m:Nat):firstMin d b b (m+1)=firstMin d b (b+1) m:=by
 rw[firstMin,if_neg (Nat.lt_irrefl _)]
theorem firstMin_in(d:Nat→Nat):∀(m b a lo hi:Nat),lo≤b→b<hi→lo≤a→a+m≤hi→lo≤firstMin d b a m∧firstMin d b a m<hi
 | 0,_,_,_,_,h1,h2,_,_=>⟨h1,h2⟩
 | m+1,b,a,lo,hi,h1,h2,h3,h4=>by
  rw[firstMin];split
  ·exact firstMin_in d m a (a+1) lo hi h3 (by omega) (by omega) (by omega)
  ·exact firstMin_in d m b (a+1) lo hi h1 h2 (by omega) (by omega)
theorem cut_place(n:NodeA)(h:0<cutMany n):cutFrom n≤firstMin (unlikeA n) (cutFrom n) (cutFrom n) (cutMany n)∧firstMin (unlikeA n) (cutFrom n) (cutFrom n) (cutMany n)<cutFrom n+cutMany n :=
 firstMin_in _ _ _ _ _ _ (Nat.le_refl _) (by omega) (Nat.le_refl _) (Nat.le_refl _)
end
end Go.Proofs.YteabpacpngaoaaaGreatDoor
