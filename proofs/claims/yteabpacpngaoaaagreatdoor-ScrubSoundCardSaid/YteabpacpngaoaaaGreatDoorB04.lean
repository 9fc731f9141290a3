import Derived.Test.YteabpacpngaoaaaGreatDoorB02
namespace Go.Proofs.YteabpacpngaoaaaGreatDoor
section
open Go.RowKit
theorem bl_irrefl:∀a:List UInt8,Op.bytesLess a a=false
 | []=>rfl
 | x :: a=>by simp[Op.bytesLess,bl_irrefl a]
theorem bl_trans:∀a b c:List UInt8,Op.bytesLess a b=true→Op.bytesLess b c=true→Op.bytesLess a c=true
 | _,_,[],_,h=>by cases ‹List UInt8› <;> simp[Op.bytesLess] at h
 | _,[],_ :: _,h,_=>by simp[Op.bytesLess] at h
 | [],_ :: _,_ :: _,_,_=>rfl
 | x :: a,y :: b,z :: c,h1,h2=>by
  simp only[Op.bytesLess,Bool.or_eq_true,Bool.and_eq_true,decide_eq_true_eq,beq_iff_eq] at h1 h2 ⊢;rcases h1 with h1|⟨rfl,h1⟩
  ·rcases h2 with h2|⟨rfl,h2⟩
   ·exact .inl (UInt8.lt_trans h1 h2)
   ·exact .inl h1
  ·rcases h2 with h2|⟨rfl,h2⟩
   ·exact .inl h2
   ·exact .inr ⟨rfl,bl_trans a b c h1 h2⟩
theorem bl_tri:∀a b:List UInt8,Op.bytesLess a b=true∨a=b∨Op.bytesLess b a=true
 | [],[]=>.inr (.inl rfl)
 | [],_ :: _=>.inl rfl
 | _ :: _,[]=>.inr (.inr rfl)
 | x :: a,y :: b=>by
  simp only[Op.bytesLess,Bool.or_eq_true,Bool.and_eq_true,decide_eq_true_eq,beq_iff_eq];rcases Nat.lt_trichotomy x.toNat y.toNat with h|h|h
  ·exact .inl (.inl h)
  ·have e:x=y:=UInt8.toNat_inj.1 h;subst e;rcases bl_tri a b with h|rfl|h
   ·exact .inl (.inr ⟨rfl,h⟩)
   ·exact .inr (.inl rfl)
   ·exact .inr (.inr (.inr ⟨rfl,h⟩))
  ·exact .inr (.inr (.inl h))
theorem ltS_irrefl(a:ByteArray):ltS a a=false:=bl_irrefl _
theorem ltS_trans{a b c:ByteArray}(h:ltS a b=true)(k:ltS b c=true):ltS a c=true:=bl_trans _ _ _ h k
theorem toList_inj{a b:ByteArray}(h:a.toList=b.toList):a=b:=by
 rw[ByteArray.toList_eq,ByteArray.toList_eq] at h;exact ByteArray.ext (Array.ext' h)
theorem ltS_tri(a b:ByteArray):ltS a b=true∨a=b∨ltS b a=true:=by
 rcases bl_tri a.toList b.toList with h|h|h
 ·exact .inl h
 ·exact .inr (.inl (toList_inj h))
 ·exact .inr (.inr h)
theorem ltS_asymm{a b:ByteArray}(h:ltS a b=true):ltS b a=false:=by
 cases hb:ltS b a with
 | false=>rfl
 | true=>have:=ltS_trans h hb;rw[ltS_irrefl] at this;cases this
theorem ltS_ne{a b:ByteArray}(h:ltS a b=true):a≠b:=λe=>by rw[e,ltS_irrefl] at h;cases h
theorem leS_iff(a b:ByteArray):leS a b=true ↔ ltS a b=true∨a=b:=by
 unfold leS ltS;rw[Bool.or_eq_true,beq_iff_eq];exact⟨λh=>h.imp id toList_inj,λh=>h.imp id (λe=>by rw[e])⟩
theorem not_ltS{a b:ByteArray}(h:ltS a b=false):ltS b a=true∨a=b:=by
 rcases ltS_tri a b with k|k|k
 ·rw[h] at k;cases k
 ·exact .inr k
 ·exact .inl k
abbrev PairS:=ByteArray × ByteArray
def SortedP(l:List PairS):Prop:=l.Pairwise λa b=>ltS a.1 b.1=true
def withP(key value:ByteArray)(over:Bool):List PairS→List PairS
 | []=>[(key,value)]
 | x :: l=>if ltS x.1 key then x :: withP key value over l
  else if x.1=key then (if over then (key,value) :: l else x :: l) else (key,value) :: x :: l
def findP(key:ByteArray)(l:List PairS):Option ByteArray:=(l.find? λx=>decide (x.1=key)).map (·.2)
theorem mem_withP{key value:ByteArray}{over:Bool}{y:PairS}:∀{l:List PairS},y∈withP key value over l→y=(key,value)∨y∈l
 | [],h=>by simp[withP] at h;exact .inl h
 | x :: l,h=>by
  unfold withP at h;split at h
  ·rcases List.mem_cons.1 h with rfl|h
   ·exact .inr List.mem_cons_self
   ·exact (mem_withP h).imp id (List.mem_cons_of_mem _)
  ·split at h
   ·split at h
    ·rcases List.mem_cons.1 h with rfl|h
     ·exact .inl rfl
     ·exact .inr (List.mem_cons_of_mem _ h)
    ·exact .inr h
   ·rcases List.mem_cons.1 h with rfl|h
    ·exact .inl rfl
    ·exact .inr h
theorem sorted_withP{key value:ByteArray}{over:Bool}:∀{l:List PairS},SortedP l→SortedP (withP key value over l)
 | [],_=>by unfold withP SortedP;exact List.pairwise_singleton _ _
 | x :: l,h=>by
  have h2:=List.pairwise_cons.1 h;unfold withP;by_cases h1:ltS x.1 key=true
  ·rw[if_pos h1];refine List.pairwise_cons.2 ⟨λy hy=>?_,sorted_withP h2.2⟩;rcases mem_withP hy with rfl|hy
   ·exact h1
   ·exact h2.1 y hy
  ·rw[if_neg h1];by_cases hk:x.1=key
   ·rw[if_pos hk];cases over with
    | true=>exact List.pairwise_cons.2 ⟨λy hy=>by have:=h2.1 y hy;rw[hk] at this;exact this,h2.2⟩
    | false=>exact h
   ·rw[if_neg hk];have h3:ltS key x.1=true:=(not_ltS (by simpa using h1)).resolve_right hk;refine List.pairwise_cons.2 ⟨λy hy=>?_,h⟩;rcases List.mem_cons.1 hy with rfl|hy
    ·exact h3
    ·exact ltS_trans h3 (h2.1 y hy)
theorem findP_cons(key:ByteArray)(x:PairS)(l:List PairS):findP key (x :: l)=if x.1=key then some x.2 else findP key l:=by
 unfold findP;rw[List.find?_cons];by_cases h:x.1=key
 ·simp[h]
 ·simp[h]
theorem findP_none{key:ByteArray}{l:List PairS}(h:∀x∈l,x.1≠key):findP key l=none:=by
 unfold findP;rw[List.find?_eq_none.2 (λx hx=>by simpa using h x hx)];rfl
theorem findP_append(key:ByteArray)(a b:List PairS):findP key (a++b)=(findP key a).or (findP key b):=by
 induction a with
 | nil=>simp[findP]
 | cons x a ih =>
  rw[List.cons_append,findP_cons,findP_cons,ih];by_cases h:x.1=key
  ·rw[if_pos h,if_pos h];rfl
  ·rw[if_neg h,if_neg h]
theorem findP_lt{key:ByteArray}{l:List PairS}(h:∀x∈l,ltS x.1 key=true):findP key l=none:=findP_none (λx hx=>ltS_ne (h x hx))
theorem findP_gt{key:ByteArray}{l:List PairS}(h:∀x∈l,ltS key x.1=true):findP key l=none:=findP_none (λx hx e=>ltS_ne (h x hx) e.symm)
end
section
def WthI(key value:ByteArray)(over:Bool)(l:List PairS)(i:Nat)(done:Bool)(out:List PairS):Prop :=
 out.length+(if done then 0 else 1)≤i+1∧out++(if done then l.drop i else withP key value over (l.drop i))=withP key value over l
section
variable {key value:ByteArray}{over:Bool}{l out:List PairS}{i:Nat}{x:PairS}
theorem WthI.start:WthI key value over l 0 false []:=⟨by simp,by simp⟩
theorem drop_of{α:Type}{l:List α}{i:Nat}{x:α}(h:l[i]? = some x):l.drop i=x :: l.drop (i+1):=by
 obtain⟨hi,rfl⟩:=List.getElem?_eq_some_iff.1 h;exact List.drop_eq_getElem_cons hi
theorem WthI.pass(h:WthI key value over l i true out)(hx:l[i]? = some x):WthI key value over l (i+1) true (out++[x]):=by
 obtain⟨h1,h2⟩:=h;rw[drop_of hx] at h2;exact⟨by simp at h1 ⊢;omega,by simpa using h2⟩
theorem WthI.lt(h:WthI key value over l i false out)(hx:l[i]? = some x)(hl:ltS x.1 key=true):WthI key value over l (i+1) false (out++[x]):=by
 obtain⟨h1,h2⟩:=h;rw[drop_of hx] at h2;simp only[withP,hl] at h2;exact⟨by simp at h1 ⊢;omega,by simpa using h2⟩
theorem WthI.gt(h:WthI key value over l i false out)(hx:l[i]? = some x)(hl:ltS x.1 key=false)(hk:x.1≠key):WthI key value over l (i+1) true (out++[(key,value)]++[x]):=by
 obtain⟨h1,h2⟩:=h;rw[drop_of hx] at h2;simp only[withP,hl,hk] at h2;exact⟨by simp at h1 ⊢;omega,by simpa using h2⟩
theorem WthI.eqO(h:WthI key value true l i false out)(hx:l[i]? = some x)(hk:x.1=key):WthI key value true l (i+1) true (out++[(key,value)]):=by
 obtain⟨h1,h2⟩:=h;rw[drop_of hx] at h2;simp only[withP,hk,ltS_irrefl] at h2;exact⟨by simp at h1 ⊢;omega,by simpa using h2⟩
theorem WthI.eqN(h:WthI key value false l i false out)(hx:l[i]? = some x)(hk:x.1=key):WthI key value false l (i+1) true (out++[x]):=by
 obtain⟨h1,h2⟩:=h;rw[drop_of hx] at h2;simp only[withP,hk,ltS_irrefl] at h2;exact⟨by simp at h1 ⊢;omega,by simpa using h2⟩
theorem WthI.done(h:WthI key value over l i true out)(hi:l.length≤i):out=withP key value over l:=by
 obtain⟨h1,h2⟩:=h;rw[List.drop_eq_nil_of_le hi] at h2;simpa using h2
theorem WthI.last(h:WthI key value over l i false out)(hi:l.length≤i):out++[(key,value)]=withP key value over l:=by
 obtain⟨h1,h2⟩:=h;rw[List.drop_eq_nil_of_le hi] at h2;simpa[withP] using h2
end
end
end Go.Proofs.YteabpacpngaoaaaGreatDoor
