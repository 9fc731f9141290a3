import Derived.Test.YteabpacpngaoaaaGreatDoorC02
namespace Go.Proofs.YteabpacpngaoaaaGreatDoor
section
open Go.RowKit
theorem zIx:∀a:List UInt8,Op.bytesLess a a=false
 | []=>rfl
 | x :: a=>by simp[Op.bytesLess,zIx a]
theorem zKb:∀a b c:List UInt8,Op.bytesLess a b=true->Op.bytesLess b c=true->Op.bytesLess a c=true
 | _,_,[],_,h=>by cases ‹List UInt8› <;> simp[Op.bytesLess] at h
 | _,[],_ :: _,h,_=>by simp[Op.bytesLess] at h
 | [],_ :: _,_ :: _,_,_=>rfl
 | x :: a,y :: b,z :: c,h1,h2=>by
  simp only[Op.bytesLess,Bool.or_eq_true,Bool.and_eq_true,decide_eq_true_eq,beq_iff_eq] at h1 h2 ⊢;rcases h1 with h1|⟨rfl,h1⟩
  .rcases h2 with h2|⟨rfl,h2⟩
   .exact .inl (UInt8.lt_trans h1 h2)
   .exact .inl h1
  .rcases h2 with h2|⟨rfl,h2⟩
   .exact .inl h2
   .exact .inr ⟨rfl,zKb a b c h1 h2⟩
theorem zPL:∀a b:List UInt8,Op.bytesLess a b=true\/a=b\/Op.bytesLess b a=true
 | [],[]=>.inr (.inl rfl)
 | [],_ :: _=>.inl rfl
 | _ :: _,[]=>.inr (.inr rfl)
 | x :: a,y :: b=>by
  simp only[Op.bytesLess,Bool.or_eq_true,Bool.and_eq_true,decide_eq_true_eq,beq_iff_eq];rcases Nat.lt_trichotomy x.toNat y.toNat with h|h|h
  .exact .inl (.inl h)
  .have e:x=y:=UInt8.toNat_inj.1 h;subst e;rcases zPL a b with h|rfl|h
   .exact .inl (.inr ⟨rfl,h⟩)
   .exact .inr (.inl rfl)
   .exact .inr (.inr (.inr ⟨rfl,h⟩))
  .exact .inr (.inr (.inl h))
theorem zBA(a:ByteArray):ltS a a=false:=zIx _
theorem zAw{a b c:ByteArray}(h:ltS a b=true)(k:ltS b c=true):ltS a c=true:=zKb _ _ _ h k
theorem toList_inj{a b:ByteArray}(h:a.toList=b.toList):a=b:=by
 rw[ByteArray.toList_eq,ByteArray.toList_eq] at h;exact ByteArray.ext (Array.ext' h)
theorem zNJ(a b:ByteArray):ltS a b=true\/a=b\/ltS b a=true:=by
 rcases zPL a.toList b.toList with h|h|h
 .exact .inl h
 .exact .inr (.inl (toList_inj h))
 .exact .inr (.inr h)
theorem zEm{a b:ByteArray}(h:ltS a b=true):ltS b a=false:=by
 cases hb:ltS b a with
 | false=>rfl
 | true=>have:=zAw h hb;rw[zBA] at this;cases this
theorem zF5{a b:ByteArray}(h:ltS a b=true):a≠b:=λe=>by rw[e,zBA] at h;cases h
theorem zNK(a b:ByteArray):leS a b=true ↔ ltS a b=true\/a=b:=by
 unfold leS ltS;rw[Bool.or_eq_true,beq_iff_eq];exact⟨λh=>h.imp id toList_inj,λh=>h.imp id (λe=>by rw[e])⟩
theorem zDo{a b:ByteArray}(h:ltS a b=false):ltS b a=true\/a=b:=by
 rcases zNJ a b with k|k|k
 .rw[h] at k;cases k
 .exact .inr k
 .exact .inl k
abbrev zT:=ByteArray × ByteArray
def zA5(l:List zT):Prop:=l.Pairwise λa b=>ltS a.1 b.1=true
def yS(key value:ByteArray)(over:Bool):List zT->List zT
 | []=>[(key,value)]
 | x :: l=>if ltS x.1 key then x :: yS key value over l
  else if x.1=key then (if over then (key,value) :: l else x :: l) else (key,value) :: x :: l
def jP(key:ByteArray)(l:List zT):Option ByteArray:=(l.find? λx=>decide (x.1=key)).map (·.2)
theorem zF6{key value:ByteArray}{over:Bool}{y:zT}:∀{l:List zT},y∈yS key value over l->y=(key,value)\/y∈l
 | [],h=>by simp[yS] at h;exact .inl h
 | x :: l,h=>by
  unfold yS at h;split at h
  .rcases List.mem_cons.1 h with rfl|h
   .exact .inr List.mem_cons_self
   .exact (zF6 h).imp id (List.mem_cons_of_mem _)
  .split at h
   .split at h
    .rcases List.mem_cons.1 h with rfl|h
     .exact .inl rfl
     .exact .inr (List.mem_cons_of_mem _ h)
    .exact .inr h
   .rcases List.mem_cons.1 h with rfl|h
    .exact .inl rfl
    .exact .inr h
theorem zDp{key value:ByteArray}{over:Bool}:∀{l:List zT},zA5 l->zA5 (yS key value over l)
 | [],_=>by unfold yS zA5;exact List.pairwise_singleton _ _
 | x :: l,h=>by
  have h2:=List.pairwise_cons.1 h;unfold yS;by_cases h1:ltS x.1 key=true
  .rw[if_pos h1];refine List.pairwise_cons.2 ⟨λy hy=>?_,zDp h2.2⟩;rcases zF6 hy with rfl|hy
   .exact h1
   .exact h2.1 y hy
  .rw[if_neg h1];by_cases hk:x.1=key
   .rw[if_pos hk];cases over with
    | true=>exact List.pairwise_cons.2 ⟨λy hy=>by have:=h2.1 y hy;rw[hk] at this;exact this,h2.2⟩
    | false=>exact h
   .rw[if_neg hk];have h3:ltS key x.1=true:=(zDo (by simpa using h1)).resolve_right hk;refine List.pairwise_cons.2 ⟨λy hy=>?_,h⟩;rcases List.mem_cons.1 hy with rfl|hy
    .exact h3
    .exact zAw h3 (h2.1 y hy)
theorem zFG(key:ByteArray)(x:zT)(l:List zT):jP key (x :: l)=if x.1=key then some x.2 else jP key l:=by
 unfold jP;rw[List.find?_cons];by_cases h:x.1=key
 .simp[h]
 .simp[h]
theorem zHR{key:ByteArray}{l:List zT}(h:∀x∈l,x.1≠key):jP key l=none:=by
 unfold jP;rw[List.find?_eq_none.2 (λx hx=>by simpa using h x hx)];rfl
theorem zCn(key:ByteArray)(a b:List zT):jP key (a++b)=(jP key a).or (jP key b):=by
 induction a with
 | nil=>simp[jP]
 | cons x a ih =>
  rw[List.cons_append,zFG,zFG,ih];by_cases h:x.1=key
  .rw[if_pos h,if_pos h];rfl
  .rw[if_neg h,if_neg h]
theorem zFX{key:ByteArray}{l:List zT}(h:∀x∈l,ltS x.1 key=true):jP key l=none:=zHR (λx hx=>zF5 (h x hx))
theorem zKc{key:ByteArray}{l:List zT}(h:∀x∈l,ltS key x.1=true):jP key l=none:=zHR (λx hx e=>zF5 (h x hx) e.symm)
end
section
def zBv(key value:ByteArray)(over:Bool)(l:List zT)(i:Nat)(done:Bool)(out:List zT):Prop :=
 out.length+(if done then 0 else 1)<=i+1/\out++(if done then l.drop i else yS key value over (l.drop i))=yS key value over l
section
variable {key value:ByteArray}{over:Bool}{l out:List zT}{i:Nat}{x:zT}
theorem zBv.start:zBv key value over l 0 false []:=⟨by simp,by simp⟩
theorem zFY{α:Type}{l:List α}{i:Nat}{x:α}(h:l[i]? = some x):l.drop i=x :: l.drop (i+1):=by
 obtain⟨hi,rfl⟩:=List.getElem?_eq_some_iff.1 h;exact List.drop_eq_getElem_cons hi
theorem zBv.pass(h:zBv key value over l i true out)(hx:l[i]? = some x):zBv key value over l (i+1) true (out++[x]):=by
 obtain⟨h1,h2⟩:=h;rw[zFY hx] at h2;exact⟨by simp at h1 ⊢;omega,by simpa using h2⟩
theorem zBv.lt(h:zBv key value over l i false out)(hx:l[i]? = some x)(hl:ltS x.1 key=true):zBv key value over l (i+1) false (out++[x]):=by
 obtain⟨h1,h2⟩:=h;rw[zFY hx] at h2;simp only[yS,hl] at h2;exact⟨by simp at h1 ⊢;omega,by simpa using h2⟩
theorem zBv.gt(h:zBv key value over l i false out)(hx:l[i]? = some x)(hl:ltS x.1 key=false)(hk:x.1≠key):zBv key value over l (i+1) true (out++[(key,value)]++[x]):=by
 obtain⟨h1,h2⟩:=h;rw[zFY hx] at h2;simp only[yS,hl,hk] at h2;exact⟨by simp at h1 ⊢;omega,by simpa using h2⟩
theorem zBv.eqO(h:zBv key value true l i false out)(hx:l[i]? = some x)(hk:x.1=key):zBv key value true l (i+1) true (out++[(key,value)]):=by
 obtain⟨h1,h2⟩:=h;rw[zFY hx] at h2;simp only[yS,hk,zBA] at h2;exact⟨by simp at h1 ⊢;omega,by simpa using h2⟩
theorem zBv.eqN(h:zBv key value false l i false out)(hx:l[i]? = some x)(hk:x.1=key):zBv key value false l (i+1) true (out++[x]):=by
 obtain⟨h1,h2⟩:=h;rw[zFY hx] at h2;simp only[yS,hk,zBA] at h2;exact⟨by simp at h1 ⊢;omega,by simpa using h2⟩
theorem zBv.done(h:zBv key value over l i true out)(hi:l.length<=i):out=yS key value over l:=by
 obtain⟨h1,h2⟩:=h;rw[List.drop_eq_nil_of_le hi] at h2;simpa using h2
theorem zBv.last(h:zBv key value over l i false out)(hi:l.length<=i):out++[(key,value)]=yS key value over l:=by
 obtain⟨h1,h2⟩:=h;rw[List.drop_eq_nil_of_le hi] at h2;simpa[yS] using h2
end
end
end Go.Proofs.YteabpacpngaoaaaGreatDoor
