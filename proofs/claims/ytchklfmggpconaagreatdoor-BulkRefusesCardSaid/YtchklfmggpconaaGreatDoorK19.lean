import Derived.Test.YtchklfmggpconaaGreatDoorK18
namespace Go.Proofs.YtchklfmggpconaaGreatDoor
open Go.RowKit
def cutK(n k:Nat)(l:List PairS):List PairS:=cutP n (l.take k)++l.drop k
theorem cutK_zero(n:Nat)(l:List PairS):cutK n 0 l=l:=by simp[cutK,cutP]
theorem cutK_all(n:Nat)(l:List PairS):cutK n l.length l=cutP n l:=by simp[cutK]
theorem cutK_len(n k:Nat)(l:List PairS):(cutK n k l).length=l.length:=by
 unfold cutK cutP;rw[List.length_append,List.length_map,List.length_take,List.length_drop];omega
theorem cutK_at{n k:Nat}{l:List PairS}{x:PairS}(hx:l[k]? = some x):(cutK n k l)[k]? = some x:=by
 have hk:=(List.getElem?_eq_some_iff.1 hx).1;unfold cutK cutP;rw[List.getElem?_append_right (by rw[List.length_map,List.length_take];omega),List.length_map,List.length_take,List.getElem?_drop];rw[show k+(k-min k l.length)=k by omega];exact hx
theorem cutK_set{n k:Nat}{l:List PairS}{x:PairS}(hx:l[k]? = some x):(cutK n k l).set k (x.1,cutS n x.2)=cutK n (k+1) l:=by
 have hk:=(List.getElem?_eq_some_iff.1 hx).1;unfold cutK;have hl:(cutP n (l.take k)).length=k:=by unfold cutP;rw[List.length_map,List.length_take];omega
 rw[List.set_append_right _ _ (by rw[hl];exact Nat.le_refl _),hl,Nat.sub_self,drop_of hx,List.set_cons_zero,take_one l k x hx];unfold cutP;rw[List.map_append];simp
end Go.Proofs.YtchklfmggpconaaGreatDoor
