import Derived.Test.YtgphfebjjedeaaaGreatDoorS33
import Derived.Lib.SmallJoins
namespace Go.Proofs.YtgphfebjjedeaaaGreatDoor
set_option maxRecDepth 100000
open Go.ChangeShapes Go.WideShapes Go.ChangeAt Go.RowKit
theorem Tryz.int2Cells:Tryz.prog.cellsOf 65 = 2:=by kernel_rfl
theorem Tryz.int1Cells:Tryz.prog.cellsOf 3 = 1:=by kernel_rfl
theorem Tryz.actCells:Tryz.prog.cellsOf 64 = 3:=by kernel_rfl
theorem zJK{H:Type}{enc:TypeId × Value->H}{W:World}{v:Value}{d:DataW H}{p:List MemPlace}{base:Nat}
  (hok:Value.okWide Tryz.prog W .any base 65 v) (h:DataW.Trod enc Tryz.prog W 0 (λ_=>true) true 65 v d p) :
  ∃(a b:Int),v=.agg #[.int .i64 a,.int .i64 b]:=by
 obtain⟨cs,rfl,hsz,_⟩:∃cs,v=.agg cs/\cs.size=Tryz.prog.cellsOf 65 /\ Row.okWide Tryz.prog W .any base 65 cs:=by
  simp only[Value.okWide,Tryz.underlying65] at hok;exact hok
 rw[Tryz.int2Cells] at hsz;obtain⟨l⟩:=cs;obtain⟨c0,c1,rfl⟩:∃c0 c1,l=[c0,c1]:=by
  match l,hsz with
  | [c0,c1],_=>exact⟨c0,c1,rfl⟩
 obtain⟨fuel,hf⟩:=h;obtain⟨y0,y1,m,hx,hy0,hy1⟩:=zG1 Tryz.underlying65 Tryz.int1Cells hf;obtain⟨x0,e0,g0,w0⟩:=DataW.trod_int Tryz.underlying3 hy0;obtain⟨x1,e1,g1,w1⟩:=DataW.trod_int Tryz.underlying3 hy1;simp only[List.cons.injEq,and_true] at e0 e1;subst e0 e1;exact⟨x0,x1,rfl⟩
theorem zKa{H:Type}{enc:TypeId × Value->H}{W:World}{v:Value}{d:DataW H}{p:List MemPlace}{base:Nat}
  (hok:Value.okWide Tryz.prog W .any base 64 v) (h:DataW.Trod enc Tryz.prog W 0 (λ_=>true) true 64 v d p) :
  ∃(k:Int) (a b:ByteArray),v=.agg #[.int .i64 k,.string a,.string b]:=by
 obtain⟨c0,c1,c2,y0,y1,y2,k,rfl,rfl,rfl,hy0,hy1,hy2⟩:=Go.Joins.open_agg3 Tryz.underlying64 (by kernel_rfl) Tryz.actCells hok h;obtain⟨z0,e0,g0,wz0⟩:=DataW.trod_int Tryz.underlying3 hy0;obtain⟨s1,e1,_⟩:=DataW.trod_string Tryz.underlying9 hy1;obtain⟨s2,e2,_⟩:=DataW.trod_string Tryz.underlying9 hy2;simp only[List.cons.injEq,and_true] at e0 e1 e2;subst e0 e1 e2;exact⟨z0,s1,s2,rfl⟩
end Go.Proofs.YtgphfebjjedeaaaGreatDoor
