import Derived.Test.YteabpacpngaoaaaGreatDoorC09
import Derived.Test.YteabpacpngaoaaaGreatDoorC04
namespace Go.Proofs.YteabpacpngaoaaaGreatDoor
section
open Go.RowKit
def inB(lo:ByteArray)(hi:Option ByteArray)(k:ByteArray):Prop:=ltS k lo=false/\∀h,hi=some h->ltS k h=true
theorem zJq{a b c:ByteArray}(h1:ltS b a=false)(h2:ltS c b=false):ltS c a=false:=by
 cases h:ltS c a with
 | false=>rfl
 | true =>
  rcases zDo h2 with k|rfl
  .have:=zAw k h;rw[h1] at this;cases this
  .rw[h1] at h;cases h
theorem zDr{a b c:ByteArray}(h1:ltS a b=true)(h2:ltS c b=false):ltS a c=true:=by
 rcases zDo h2 with k|rfl
 .exact zAw h1 k
 .exact h1
theorem zJr{a b c:ByteArray}(h1:ltS b a=false)(h2:ltS b c=true):ltS a c=true:=by
 rcases zDo h1 with k|rfl
 .exact zAw k h2
 .exact h2
theorem zF9:∀{l:List ByteArray},jY l=true->l.Pairwise λa b=>ltS a b=true
 | [],_=>List.Pairwise.nil
 | [_],_=>List.pairwise_singleton _ _
 | a :: b :: l,h=>by
  simp only[jY,Bool.and_eq_true] at h;have h2:=zF9 h.2;refine List.pairwise_cons.2 ⟨λy hy=>?_,h2⟩;rcases List.mem_cons.1 hy with rfl|hy
  .exact h.1
  .exact zAw h.1 ((List.pairwise_cons.1 h2).1 y hy)
def zBS(key:ByteArray)(keys:List ByteArray):Nat:=keys.findIdx λs=>ltS key s
def zAI(key:ByteArray)(es:List zV):Nat:=es.findIdx λe=>!ltS e.key key
def zAf(key:ByteArray)(es:List zV):Bool:=match es[zAI key es]? with
 | some e=>decide (e.key=key)
 | none=>false
theorem zL9{α:Type}{f:α->Bool}{l:List α}{i:Nat}{a:α}(hi:i<l.findIdx f)(ha:l[i]? = some a):f a=false:=by
 obtain⟨h,rfl⟩:=List.getElem?_eq_some_iff.1 ha;simpa using List.not_of_lt_findIdx hi
theorem zMA{α:Type}{f:α->Bool}{l:List α}{a:α}(ha:l[l.findIdx f]? = some a):f a=true:=by
 obtain⟨h,rfl⟩:=List.getElem?_eq_some_iff.1 ha;exact List.findIdx_getElem
theorem zDH{n:zJ}(h:zO n=true)(hl:n.leaf=true):(n.entries.map (·.key)).Pairwise λa b=>ltS a b=true:=by
 unfold zO at h;rw[if_pos hl] at h;simp only[Bool.and_eq_true] at h;exact zF9 h.1.2
theorem zCp{n:zJ}(h:zO n=true)(hl:n.leaf=false):(n.keys.Pairwise λa b=>ltS a b=true)/\n.kids.length=n.keys.length+1/\∀k∈n.kids,2<=k/\k<256:=by
 unfold zO at h;rw[if_neg (by rw[hl];simp)] at h;simp only[Bool.and_eq_true,decide_eq_true_eq,List.all_eq_true] at h;obtain⟨⟨⟨⟨⟨⟨⟨h1,h2⟩,h3⟩,h4⟩,h5⟩,h6⟩,h7⟩,h8⟩:=h;exact⟨zF9 h8,h3,λk hk=>by simpa[zCo] using h5 k hk⟩
def zU(n:zJ)(a:Nat):zJ × ByteArray × zJ :=
 if n.leaf=true then (⟨true,n.entries.take a,[],[]⟩,(match n.entries[a]? with|some e=>e.key|none=>⟨#[]⟩),⟨true,n.entries.drop a,[],[]⟩)
 else (⟨false,[],n.keys.take (a-1),n.kids.take a⟩,n.keys.getD (a-1) ⟨#[]⟩,⟨false,[],n.keys.drop a,n.kids.drop a⟩)
def zHA(n:zJ):Nat:=(yE n).length
def zAj(n:zJ)(a:Nat):Nat:=((zHA (zU n a).1:Int)-(zHA (zU n a).2.2:Int)).natAbs
def qX(d:Nat->Nat):Nat->Nat->Nat->Nat
 | b,_,0=>b
 | b,a,m+1=>qX d (if d a<d b then a else b) (a+1) m
def qZ(n:zJ):Nat:=if n.leaf=true then 1 else 2
def jL(n:zJ):Nat:=if n.leaf=true then n.entries.length-1 else n.kids.length-3
def zEI(n:zJ):Option (zJ × ByteArray × zJ) :=
 if zO n=true/\0<jL n then some (zU n (qX (zAj n) (qZ n) (qZ n) (jL n))) else none
theorem zIa(d:Nat->Nat)(b m:Nat):qX d b b (m+1)=qX d b (b+1) m:=by
 rw[qX,if_neg (Nat.lt_irrefl _)]
theorem zEU(d:Nat->Nat):∀(m b a lo hi:Nat),lo<=b->b<hi->lo<=a->a+m<=hi->lo<=qX d b a m/\qX d b a m<hi
 | 0,_,_,_,_,h1,h2,_,_=>⟨h1,h2⟩
 | m+1,b,a,lo,hi,h1,h2,h3,h4=>by
  rw[qX];split
  .exact zEU d m a (a+1) lo hi h3 (by omega) (by omega) (by omega)
  .exact zEU d m b (a+1) lo hi h1 h2 (by omega) (by omega)
theorem zN0(n:zJ)(h:0<jL n):qZ n<=qX (zAj n) (qZ n) (qZ n) (jL n)/\qX (zAj n) (qZ n) (qZ n) (jL n)<qZ n+jL n :=
 zEU _ _ _ _ _ _ (Nat.le_refl _) (by omega) (Nat.le_refl _) (Nat.le_refl _)
end
end Go.Proofs.YteabpacpngaoaaaGreatDoor
