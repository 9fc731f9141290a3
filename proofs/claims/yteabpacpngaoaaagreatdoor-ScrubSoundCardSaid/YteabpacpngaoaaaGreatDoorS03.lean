import Derived.Test.YteabpacpngaoaaaGreatDoorB28
import Derived.Test.YteabpacpngaoaaaGreatDoorS02
namespace Go.Proofs.YteabpacpngaoaaaGreatDoor
open Go.RowKit
theorem vW{p:PageA}{n:NodeA}(h:decodeA p=.inl n):rightN n=true/\n.leaf=decide (p.kind=3):=by
 unfold decodeA at h;split at h
 .split at h
  .rename_i h1;injection h with h;subst h;unfold getN at h1;simp only at h1;split at h1
   .rename_i h2;injection h1 with h1;subst h1;refine⟨h2.2.1,?_⟩;unfold rdNode;simp only;split
    .rename_i h3;simpa using h3.symm
    .rename_i h3;simpa using h3
   .cases h1
  .cases h
 .cases h
def iL(l:List Nat):List Int:=l.map (λ(i:Nat)=>(i:Int))
theorem jN(a b:List Nat):iL (a++b)=iL a++iL b:=List.map_append
end Go.Proofs.YteabpacpngaoaaaGreatDoor
