import Derived.Test.YteabpacpngaoaaaGreatDoorC03
import Derived.Test.YteabpacpngaoaaaGreatDoorC51
namespace Go.Proofs.YteabpacpngaoaaaGreatDoor
theorem zIS(l m:List UInt8):∀r,jJ r (l++m)=jJ (jJ r l) m:=by
 induction l with
 | nil=>intro r;rfl
 | cons x l ih=>intro r;exact ih _
theorem zLw{n:Nat}(h:256<=n):zBO (List.replicate n 0)=false:=by
 have hk:(zA2 (List.replicate n 0)).kind=0:=by
  unfold zA2 qG;simp only[List.drop_zero];rw[List.take_replicate,show min 1 n=1 by omega];rfl
 unfold zBO;have hne:yY (zA2 (List.replicate n 0)) ((List.replicate n (0:UInt8)).length:Int)≠none:=by
  intro e;have:=(yZ e).2.2.1;rw[hk] at this;exact absurd this (by decide)
 rw[decide_eq_false hne];rfl
end Go.Proofs.YteabpacpngaoaaaGreatDoor
