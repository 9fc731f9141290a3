import Derived.Test.YtchklfmggpconaaGreatDoorK49
import Derived.ChangeSlices
import Derived.Deep.Slices
import Derived.Lib.SmallJoins
import Derived.RowKit
namespace Go.Proofs.YtchklfmggpconaaGreatDoor
open Go.ChangeShapes Go.WideShapes Go.ChangeAt Go.RowKit
theorem array5{α:Type}{cs:Array α}(h:cs.size=5):∃c0 c1 c2 c3 c4,cs=#[c0,c1,c2,c3,c4]:=by
 obtain⟨l⟩:=cs;match l,h with
 | [c0,c1,c2,c3,c4],_=>exact⟨c0,c1,c2,c3,c4,rfl⟩
theorem Tryz.chCellsN:Tryz.prog.cellsOf 67 = 5:=by kernel_rfl
section
variable {H:Type}{enc:TypeId × Value→H}{P:Program}{w:World}{base:Nat}{spare:Nat→Bool}{held:Bool}
theorem trod_five{t:TypeId}{f0 f1 f2 f3 f4:Field}{fuel:Nat}{cs:List Value}{x:DataW H × List MemPlace}(ht:P.underlying t=some (.struct #[f0,f1,f2,f3,f4]))(h:DataW.trod enc P w base spare held fuel t cs=some x) :
  ∃y0 y1 y2 y3 y4 n,DataW.trod enc P w base spare held n f0.type ((cs.drop f0.offset).take (P.cellsOf f0.type))=some y0 ∧
   DataW.trod enc P w base spare held n f1.type ((cs.drop f1.offset).take (P.cellsOf f1.type))=some y1∧DataW.trod enc P w base spare held n f2.type ((cs.drop f2.offset).take (P.cellsOf f2.type))=some y2 ∧
   DataW.trod enc P w base spare held n f3.type ((cs.drop f3.offset).take (P.cellsOf f3.type))=some y3∧DataW.trod enc P w base spare held n f4.type ((cs.drop f4.offset).take (P.cellsOf f4.type))=some y4:=by
 obtain⟨xs,n,_,rfl,hl,hlen,hf⟩:=DataW.trod_struct ht h;match xs,hlen with
 | [y0,y1,y2,y3,y4],_=>exact⟨y0,y1,y2,y3,y4,n,by simpa using hf 0 f0 rfl,by simpa using hf 1 f1 rfl,by simpa using hf 2 f2 rfl,by simpa using hf 3 f3 rfl,by simpa using hf 4 f4 rfl⟩
end
set_option maxRecDepth 100000 in
theorem read_change{H:Type}{enc:TypeId × Value→H}{W:World}{v:Value}{d:DataW H}{p:List MemPlace}{base:Nat}(hok:Value.okWide Tryz.prog W .any base 67 v)(h:DataW.Trod enc Tryz.prog W 0 (λ_=>true) true 67 v d p) :
  ∃x:ChV,v=.agg #[.string x.key,.bool x.was,.bool x.is,.string x.old,.string x.new]:=by
 obtain⟨cs,rfl,hsz⟩:=okWide_struct Tryz.underlying67 hok;obtain⟨c0,c1,c2,c3,c4,rfl⟩:=array5 (hsz.trans Tryz.chCellsN);obtain⟨fuel,hf⟩:=h;obtain⟨y0,y1,y2,y3,y4,n,h0,h1,h2,h3,h4⟩:=trod_five Tryz.underlying67 hf;have k1:Tryz.prog.cellsOf 9 = 1:=by kernel_rfl
 have k2:Tryz.prog.cellsOf 4 = 1:=by kernel_rfl
 simp only[Value.cells,k1,k2,List.drop_zero,List.drop_succ_cons,List.take_succ_cons,List.take_zero] at h0 h1 h2 h3 h4;obtain⟨z0,e0,_⟩:=DataW.trod_string Tryz.underlying9 h0;obtain⟨z1,e1,_⟩:=DataW.trod_bool Tryz.underlying4 h1;obtain⟨z2,e2,_⟩:=DataW.trod_bool Tryz.underlying4 h2;obtain⟨z3,e3,_⟩:=DataW.trod_string Tryz.underlying9 h3;obtain⟨z4,e4,_⟩:=DataW.trod_string Tryz.underlying9 h4;simp only[List.cons.injEq,and_true] at e0 e1 e2 e3 e4;subst e0 e1 e2 e3 e4;exact⟨⟨z0,z1,z2,z3,z4⟩,rfl⟩
end Go.Proofs.YtchklfmggpconaaGreatDoor
