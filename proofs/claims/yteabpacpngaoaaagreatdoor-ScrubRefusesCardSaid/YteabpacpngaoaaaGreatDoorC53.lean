import Derived.Test.YteabpacpngaoaaaGreatDoorC28
import Derived.Test.YteabpacpngaoaaaGreatDoorC52
namespace Go.Proofs.YteabpacpngaoaaaGreatDoor
open Go.RowKit
theorem zIr{p:zX}{n:zJ}(h:qH p=.inl n):zO n=true/\n.leaf=decide (p.kind=3):=by
 unfold qH at h;split at h
 .split at h
  .rename_i h1;injection h with h;subst h;unfold zET at h1;simp only at h1;split at h1
   .rename_i h2;injection h1 with h1;subst h1;refine⟨h2.2.1,?_⟩;unfold zAH;simp only;split
    .rename_i h3;simpa using h3.symm
    .rename_i h3;simpa using h3
   .cases h1
  .cases h
 .cases h
def iL(l:List Nat):List Int:=l.map (λ(i:Nat)=>(i:Int))
theorem zKM(a b:List Nat):iL (a++b)=iL a++iL b:=List.map_append
end Go.Proofs.YteabpacpngaoaaaGreatDoor
