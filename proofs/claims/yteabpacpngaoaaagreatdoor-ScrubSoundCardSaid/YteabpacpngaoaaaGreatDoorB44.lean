import Derived.Test.YteabpacpngaoaaaGreatDoorB43
import Derived.Deep.SlicePairs
import Derived.Lib.SmallJoins
namespace Go.Proofs.YteabpacpngaoaaaGreatDoor
set_option maxRecDepth 100000
open Go.ChangeShapes Go.WideShapes Go.ChangeAt Go.RowKit
theorem Tryz.pairCells:Tryz.prog.cellsOf 38 = 2:=by kernel_rfl
theorem plain_of_cell{w:World}{a:Addr}{v:Value}(h:w.cell? a=some v):∃b off,a=⟨b,off,none⟩:=by
 have hspot:a.spot=none:=by
  unfold World.cell? at h;split at h
  ·split at h
   ·simp at h
   ·rename_i hs;simpa using hs
  ·simp at h
 obtain⟨b,off,spot⟩:=a;simp only at hspot;subst hspot;exact⟨b,off,rfl⟩
theorem plain_add(b off i:Nat):(⟨b,off,none⟩:Addr).add i=⟨b,off+i,none⟩:=by unfold Addr.add;split <;> simp_all
theorem read_pairs{H:Type}{enc:TypeId × Value→H}{W:World}{v:Value}{fuel:Nat}{x:DataW H × List MemPlace}
  (h:DataW.trod enc Tryz.prog W 0 (λ_=>true) true fuel 22 [v]=some x)
  (hsz:∀(elems spare:List (DataW H)),x.1=.slice elems spare→elems.length≤140737488355328):∃l:List (ByteArray × ByteArray),Sl NoB W 2 encP v l:=by
 rcases Go.Deep.open_slice_pairs Tryz.underlying22 Tryz.underlying38 Tryz.pairCells rfl rfl strCells strCells h with ⟨hcs,_⟩|⟨a,len,cap,m,n,V0,V1,D0,D1,P0,P1,hcs,_,hl,hm,hmm,hx,hc⟩
 ·have:v=.slice none 0 0:=by simpa using hcs
  rw[this];exact⟨[],Sl.nil _ _ _ _⟩
 ·have hv:v=.slice (some a) len cap:=by simpa using hcs
  rw[hv];have hlm:len≤m:=by rw[hmm];split <;> omega
  have hlen:len≤140737488355328:=by
   have:=hsz _ _ (congrArg Prod.fst hx);simpa using this
  have each:∀i,∃p:(ByteArray × ByteArray),i<len→W.cell? (a.add (i * 2))=some (.string p.1)∧W.cell? (a.add (i * 2+1))=some (.string p.2):=by
   intro i;by_cases hi:i<len
   ·obtain⟨h1,h2,h3,h4⟩:=hc i (by omega);obtain⟨s0,e0,_⟩:=DataW.trod_string Tryz.underlying9 h3;obtain⟨s1,e1,_⟩:=DataW.trod_string Tryz.underlying9 h4;simp only[List.cons.injEq,and_true] at e0 e1;exact⟨(s0,s1),λ_=>⟨by rw[h1,e0],by rw[h2,e1]⟩⟩
   ·exact⟨(⟨#[]⟩,⟨#[]⟩),λh=>absurd h hi⟩
  obtain⟨q,hq⟩:=Classical.axiomOfChoice each;have hll:((List.range len).map q).length=len:=by simp
  refine⟨(List.range len).map q,some a,cap,by rw[hll],by rw[hll];exact hl,hm,by rw[hll];exact hlen,?_⟩;by_cases h0:len=0
  ·left;rw[h0];rfl
  ·right
   have hc0:=(hq 0 (by omega)).1;have hadd:a.add (0 * 2)=a:=by simp[Addr.add]
   rw[hadd] at hc0;obtain⟨b,off,rfl⟩:=plain_of_cell hc0;refine⟨b,off,rfl,cell_lt hc0,λf=>f,λi x hi j u hu=>?_⟩;have hil:i<len:=by have:=(List.getElem?_eq_some_iff.1 hi).1;simpa using this
   obtain⟨k0,k1⟩:=hq i hil;rw[plain_add] at k0 k1;rw[List.getElem?_map,List.getElem?_range hil,Option.map_some] at hi;injection hi with hi;subst hi;match j,hu with
   | 0,hu =>
    simp only[encP,List.getElem?_cons_zero,Option.some.injEq] at hu;subst hu;exact k0
   | 1,hu =>
    simp only[encP,List.getElem?_cons_succ,List.getElem?_cons_zero,Option.some.injEq] at hu;subst hu;rw[Nat.add_assoc];exact k1
   | j+2,hu=>simp[encP] at hu
theorem Tryz.pairBytes:Tryz.prog.bytesOf 38 = 32:=by kernel_rfl
theorem read_pairsP{H:Type}{enc:TypeId × Value→H}{W:World}{v:Value}{d:DataW H}{p:List MemPlace}{base:Nat}{ts:List TypeId}{ds:List (DataW H)}{j:Nat}
  (hok:Value.okWide Tryz.prog W .any base 22 v) (h:DataW.Trod enc Tryz.prog W 0 (λ_=>true) true 22 v d p)
  (hsz:(DataW.weightsEach Tryz.prog ts ds).all (· ≤ reachBytes)=true) (ht:ts[j]? = some 22) (hd:ds[j]? = some d):∃l:List (ByteArray × ByteArray),Sl NoB W 2 encP v l:=by
 obtain⟨a0,len0,cap0,rfl⟩:=okWide_slice Tryz.underlying22 hok;obtain⟨fuel,hf⟩:=h;refine read_pairs (fuel:=fuel) (by simpa[Value.cells] using hf) (λelems spare he=>?_);have h1:=sized_slice hsz ht (show ds[j]? = some (.slice elems spare) from by rw[hd,← he]) Tryz.underlying22;rw[Tryz.pairBytes] at h1;have:=reachBytes_lt;omega
end Go.Proofs.YteabpacpngaoaaaGreatDoor
