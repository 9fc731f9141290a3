import Derived.Test.YtalpfcaakpgkmaaGreatDoorR49
import Derived.Deep.SlicePairs
import Derived.Lib.SmallJoins
namespace Go.Proofs.YtalpfcaakpgkmaaGreatDoor
set_option maxRecDepth 100000
open Go.ChangeShapes Go.WideShapes Go.ChangeAt Go.RowKit
theorem Tryz.pairCells:Tryz.prog.cellsOf 48 = 2:=by kernel_rfl
theorem zJN{w:World}{a:Addr}{v:Value}(h:w.cell? a=some v):∃b off,a=⟨b,off,none⟩:=by
 have A0:a.spot=none:=by
  unfold World.cell? at h;split at h
  .split at h
   .simp at h
   .rename_i hs;simpa using hs
  .simp at h
 obtain⟨b,off,spot⟩:=a;simp only at A0;subst A0;exact⟨b,off,rfl⟩
theorem zPo(b off i:Nat):(⟨b,off,none⟩:Addr).add i=⟨b,off+i,none⟩:=by unfold Addr.add;split <;> simp_all
theorem zNu{H:Type}{enc:TypeId × Value->H}{W:World}{v:Value}{fuel:Nat}{x:DataW H × List MemPlace}
  (h:DataW.trod enc Tryz.prog W 0 (λ_=>true) true fuel 22 [v]=some x)
  (A1:∀(elems spare:List (DataW H)),x.1=.slice elems spare->elems.length<=140737488355328):∃l:List (ByteArray × ByteArray),Sl NoB W 2 zCE v l:=by
 rcases Go.Deep.open_slice_pairs Tryz.underlying22 Tryz.underlying48 Tryz.pairCells rfl rfl strCells strCells h with ⟨A2,_⟩|⟨a,len,cap,m,n,V0,V1,D0,D1,P0,P1,A2,_,hl,hm,A8,hx,hc⟩
 .have:v=.slice none 0 0:=by simpa using A2
  rw[this];exact⟨[],Sl.nil _ _ _ _⟩
 .have hv:v=.slice (some a) len cap:=by simpa using A2
  rw[hv];have Aa:len<=m:=by rw[A8];split <;> omega
  have A3:len<=140737488355328:=by
   have:=A1 _ _ (congrArg Prod.fst hx);simpa using this
  have each:∀i,∃p:(ByteArray × ByteArray),i<len->W.cell? (a.add (i * 2))=some (.string p.1)/\W.cell? (a.add (i * 2+1))=some (.string p.2):=by
   intro i;by_cases hi:i<len
   .obtain⟨h1,h2,h3,h4⟩:=hc i (by omega);obtain⟨s0,e0,_⟩:=DataW.trod_string Tryz.underlying9 h3;obtain⟨s1,e1,_⟩:=DataW.trod_string Tryz.underlying9 h4;simp only[List.cons.injEq,and_true] at e0 e1;exact⟨(s0,s1),λ_=>⟨by rw[h1,e0],by rw[h2,e1]⟩⟩
   .exact⟨(⟨#[]⟩,⟨#[]⟩),λh=>absurd h hi⟩
  obtain⟨q,hq⟩:=Classical.axiomOfChoice each;have A4:((List.range len).map q).length=len:=by simp
  refine⟨(List.range len).map q,some a,cap,by rw[A4],by rw[A4];exact hl,hm,by rw[A4];exact A3,?_⟩;by_cases h0:len=0
  .left;rw[h0];rfl
  .right
   have A5:=(hq 0 (by omega)).1;have A6:a.add (0 * 2)=a:=by simp[Addr.add]
   rw[A6] at A5;obtain⟨b,off,rfl⟩:=zJN A5;refine⟨b,off,rfl,yN A5,λf=>f,λi x hi j u hu=>?_⟩;have A7:i<len:=by have:=(uA.1 hi).1;simpa using this
   obtain⟨k0,k1⟩:=hq i A7;rw[zPo] at k0 k1;rw[tQ,List.getElem?_range A7,Option.map_some] at hi;injection hi with hi;subst hi;match j,hu with
   | 0,hu =>
    simp only[zCE,rW,Option.some.injEq] at hu;subst hu;exact k0
   | 1,hu =>
    simp only[zCE,List.getElem?_cons_succ,rW,Option.some.injEq] at hu;subst hu;rw[p4];exact k1
   | j+2,hu=>simp[zCE] at hu
theorem Tryz.pairBytes:Tryz.prog.bytesOf 48 = 32:=by kernel_rfl
theorem zMd{H:Type}{enc:TypeId × Value->H}{W:World}{v:Value}{d:DataW H}{p:List MemPlace}{base:Nat}{ts:List TypeId}{ds:List (DataW H)}{j:Nat}
  (A9:Value.okWide Tryz.prog W .any base 22 v) (h:DataW.Trod enc Tryz.prog W 0 (λ_=>true) true 22 v d p)
  (A1:(DataW.weightsEach Tryz.prog ts ds).all (· <= reachBytes)=true) (ht:ts[j]? = some 22) (hd:ds[j]? = some d):∃l:List (ByteArray × ByteArray),Sl NoB W 2 zCE v l:=by
 obtain⟨a0,len0,cap0,rfl⟩:=okWide_slice Tryz.underlying22 A9;obtain⟨fuel,hf⟩:=h;refine zNu (fuel:=fuel) (by simpa[Value.cells] using hf) (λelems spare he=>?_);have h1:=sized_slice A1 ht (show ds[j]? = some (.slice elems spare) from by rw[hd,<- he]) Tryz.underlying22;rw[Tryz.pairBytes] at h1;have:=reachBytes_lt;omega
end Go.Proofs.YtalpfcaakpgkmaaGreatDoor
