import Derived.Test.YtgphfebjjedeaaaGreatDoorV44
import Derived.Test.YtgphfebjjedeaaaGreatDoorV29
import Derived.ChangeSlices
namespace Go.Proofs.YtgphfebjjedeaaaGreatDoor
set_option maxRecDepth 100000
open Go.ChangeShapes Go.WideShapes Go.ChangeAt Go.RowKit
theorem zPx:Tryz.prog.cellsOf 5 = 1:=by kernel_rfl
theorem zN1{H:Type}{enc:TypeId × Value->H}{W:World}{v:Value}{fuel:Nat}{x:DataW H × List MemPlace}
  (h:DataW.trod enc Tryz.prog W 0 (λ_=>true) true fuel 27 [v]=some x)
  (A0:∀(elems spare:List (DataW H)),x.1=.slice elems spare->elems.length<=140737488355328):∃l:List UInt8,Sl NoB W 1 zO v l:=by
 rcases open_ints Tryz.underlying27 Tryz.underlying5 zPx h with ⟨A1,_⟩|⟨a,len,cap,zs,A1,_,hl,hm,hz,hx,hc,A8⟩
 .have:v=.slice none 0 0:=by simpa using A1
  rw[this];exact⟨[],Sl.nil _ _ _ _⟩
 .have hv:v=.slice (some a) len cap:=by simpa using A1
  rw[hv];have Ab:len<=zs.length:=by rw[hz];split <;> omega
  have A2:len<=140737488355328:=by
   have:=A0 _ _ (congrArg Prod.fst hx);simp[lits] at this;omega
  have hb:∀i,i<len->∃u:UInt8,zs.getD i 0=(u.toNat:Int):=λi hi=>zTT (zRd (A8 _ (by
   have:zs.getD i 0=zs[i]'(by omega):=by simp[List.getD,show i<zs.length by omega]
   rw[this];exact wL _)))
  have A9:∀i,∃u:UInt8,i<len->zs.getD i 0=(u.toNat:Int):=λi=>by
   by_cases hi:i<len
   .obtain⟨u,hu⟩:=hb i hi;exact⟨u,λ_=>hu⟩
   .exact⟨0,λh=>absurd h hi⟩
  obtain⟨q,hq⟩:=Classical.axiomOfChoice A9;have A3:((List.range len).map q).length=len:=by simp
  refine⟨(List.range len).map q,some a,cap,by rw[A3],by rw[A3];exact hl,hm,by rw[A3];exact A2,?_⟩;by_cases h0:len=0
  .left;rw[h0];rfl
  .right
   have A4:=hc 0 (by omega);have A5:a.add 0=a:=by simp[Addr.add]
   rw[A5] at A4;obtain⟨b,off,rfl⟩:=zFI A4;refine⟨b,off,rfl,yH A4,λf=>f,λi x hi j u hu=>?_⟩;have A6:i<len:=by have:=(uB.1 hi).1;simpa using this
   have A7:=hc i (by omega);rw[zJ8] at A7;rw[pF,List.getElem?_range A6,Option.map_some] at hi;injection hi with hi;subst hi;match j,hu with
   | 0,hu =>
    simp only[zO,rI,Option.some.injEq] at hu;subst hu;simp only[uY,uO];rw[A7,hq i A6]
   | j+1,hu=>simp[zO] at hu
theorem Tryz.byteSize1:Tryz.prog.bytesOf 5 = 1:=by kernel_rfl
theorem zMi{H:Type}{enc:TypeId × Value->H}{W:World}{v:Value}{d:DataW H}{p:List MemPlace}{base:Nat}{ts:List TypeId}{ds:List (DataW H)}{j:Nat}
  (Aa:Value.okWide Tryz.prog W .any base 27 v) (h:DataW.Trod enc Tryz.prog W 0 (λ_=>true) true 27 v d p)
  (A0:(DataW.weightsEach Tryz.prog ts ds).all (· <= reachBytes)=true) (ht:ts[j]? = some 27) (hd:ds[j]? = some d):∃l:List UInt8,Sl NoB W 1 zO v l:=by
 obtain⟨a0,len0,cap0,rfl⟩:=okWide_slice Tryz.underlying27 Aa;obtain⟨fuel,hf⟩:=h;refine zN1 (fuel:=fuel) (by simpa[Value.cells] using hf) (λelems spare he=>?_);have h1:=sized_slice A0 ht (show ds[j]? = some (.slice elems spare) from by rw[hd,<- he]) Tryz.underlying27;rw[Tryz.byteSize1] at h1;have:=reachBytes_lt;omega
end Go.Proofs.YtgphfebjjedeaaaGreatDoor
