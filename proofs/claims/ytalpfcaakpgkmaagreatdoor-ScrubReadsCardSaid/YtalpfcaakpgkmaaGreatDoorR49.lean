import Derived.Test.YtalpfcaakpgkmaaGreatDoorTie
import Derived.Test.YtalpfcaakpgkmaaGreatDoorCards
import Derived.Test.YtalpfcaakpgkmaaGreatDoorR22
import Derived.ProofKit
import Derived.Stop.LaidErr
import Derived.Lay
import Derived.SizedLaws
import Derived.SevenTiedAt
import Derived.DataShut
namespace Go.Proofs.YtalpfcaakpgkmaaGreatDoor
open Go.ChangeShapes Go.WideShapes Go.ChangeAt Go.RowKit
theorem Tryz.own:ownKnob Tryz.prog.godebug=none:=by kernel_rfl
theorem Tryz.laidOut:laidOutB Tryz.prog=true:=by kernel_rfl
theorem zFa{H:Type}{enc:TypeId × Value->H}{P:Program}(hl:laidOutB P=true){W W':World}(hb:Below W.heap.size W W') :
  ∀(ts:List TypeId) (vs:List Value) (ds:List (DataW H)) (ps:List MemPlace),(ts.all λt=>P.readableRec t && decide (t<P.types.size))=true ->
   DataW.TrodAll enc P W 0 (λ_=>true) true ts vs ds ps->(∀x∈ps,x.block<W.heap.size) ->
   DataW.TrodAll enc P W' 0 (λb=>decide (b<W.heap.size)) true ts vs ds ps
 | [],[],[],ps,_,h,_=>h
 | t :: ts,v :: vs,d :: ds,ps,A1,h,A4=>by
  obtain⟨p,q,h1,h2,rfl⟩:=h;simp only[List.all_cons,uI,uO] at A1;exact⟨p,q,Below.trod hl A1.1.1 A1.1.2 h1 hb (λx hx=>A4 x (by simp[hx])),zFa hl hb ts vs ds q A1.2 h2 (λx hx=>A4 x (by simp[hx])),rfl⟩
 | [],_ :: _,_,_,_,h,_=>h.elim
 | [],[],_ :: _,_,_,h,_=>h.elim
 | _ :: _,[],_,_,_,h,_=>h.elim
 | _ :: _,_ :: _,[],_,_,h,_=>h.elim
theorem zB8{P:Program}{n nm:String}{text:List UInt8}{r:List (String × DataW Unit)}{W:World}{g:Nat}{ti tp te ts:TypeId}{ms:Array (String × TypeId)}{f:Field}
  (h:laidMet P ((n,.iface nm (.ptr (.agg [.lit (.string text)]))) :: r) W)
  (hg:P.globalNamed n=some g) (ht:(P.globals[g]?).map (·.type)=some ti) (hi:P.underlying ti=some (.interface ms)) (A2:∀u,P.typeName? 3 u=some nm->u=tp)
  (hp:P.underlying tp=some (.pointer te)) (he:P.underlying te=some (.struct #[f])) (A6:f.type=ts) (A7:f.offset=0) (hs:P.underlying ts=some .string) (hc:P.cellsOf te=1) (A8:P.cellsOf ts=1) :
  ∃(a:Addr) (s:ByteArray),W.cell? ⟨g,0,none⟩=some (.iface tp (.pointer (some a)))/\W.cell? a=some (.string s)/\s.data.toList=text/\∃c t,W.heap[a.block]? = some (.cells c t (0,0)):=by
 obtain⟨ps,⟨g0,t0,cs0,f0,p0,q0,A3,A9,A5,Aa,_,e0⟩,_,A0⟩:=h;obtain rfl:=Option.some.inj (hg.symm.trans A3);obtain rfl:=Option.some.inj (ht.symm.trans A9);subst e0;obtain⟨l0⟩:=cs0;have ok0:∀u v,l0=[.iface u v]->Value.okWide P W .any 0 u v:=λu v e=>by
  subst e;exact (A0 g 0 (by simp[MemPlace.row])).2 u v (by simpa using World.var?_cell A3 A5 0)
 obtain⟨a0,s0,rfl,Ab,Ac,Ad,rfl⟩:=errorString_of_trod hi A2 hp he A6 A7 hs hc A8 Aa ok0;exact⟨a0,s0,by simpa using World.var?_cell A3 A5 0,Ab,Ac,(A0 a0.block a0.off (by simp[MemPlace.row])).1⟩
theorem zHU{p:NP}(h1:p 1)(h2:p 2)(h3:p 3)(h4:p 4)(h5:p 5)(h6:p 6)(h7:p 7)(h8:p 8)(h9:p 9):∀k,1<=k->k<=9->p k:=by
 intro k a b;obtain rfl|rfl|rfl|rfl|rfl|rfl|rfl|rfl|rfl:k=1\/k=2\/k=3\/k=4\/k=5\/k=6\/k=7\/k=8\/k=9:=by omega
 all_goals assumption
def zK5:Nat->List UInt8
 | 1=>[102,111,114,109]
 | 2=>[114,97,110,103,101]
 | 3=>[102,117,108,108]
 | 4=>[110,111,110,101]
 | 5=>[99,111,114,114,117,112,116]
 | 6=>[102,117,101,108]
 | 7=>[115,116,97,116,101]
 | 8=>[108,111,110,103]
 | _=>[116,119,105,99,101]
theorem zNt:∀i,i<10->∀j,j<10->1<=i->1<=j->zK5 i=zK5 j->i=j:=by decide
theorem zOU : "*" ++ "errors.errorString" = "*errors.errorString":=by decide
theorem zER(u:TypeId)(h:Tryz.prog.typeName? 3 u=some "*errors.errorString"):u = 448 :=
 typeName_ptr_named (nm := "errors.errorString") (by rw[zOU];kernel_rfl) (by kernel_rfl) (by decide) u (by rw[zOU];exact h)
theorem zB9:Tryz.prog.cellsOf 471 = 1:=by kernel_rfl
theorem strCells:Tryz.prog.cellsOf 9 = 1:=by kernel_rfl
def zHV:List (String × DataW Unit):=[("scrinium/api.ErrForm",Rows.laid_scrinium_api_ErrForm),("scrinium/api.ErrRange",Rows.laid_scrinium_api_ErrRange),("scrinium/api.ErrFull",Rows.laid_scrinium_api_ErrFull),("scrinium/api.ErrNone",Rows.laid_scrinium_api_ErrNone),("scrinium/api.ErrCorrupt",Rows.laid_scrinium_api_ErrCorrupt),("scrinium/api.ErrFuel",Rows.laid_scrinium_api_ErrFuel),("scrinium/api.ErrState",Rows.laid_scrinium_api_ErrState),("scrinium/api.ErrLong",Rows.laid_scrinium_api_ErrLong),("scrinium/api.ErrTwice",Rows.laid_scrinium_api_ErrTwice)]
def zR7(off:Nat)(l:List Addr)(a:Addr):Nat->Addr:=λk=>if k=0 then ⟨0,off,none⟩ else l.getD (k-1) a
theorem zTT{W:World}(h:laidMet Tryz.prog zHV W):∃ad,yH NoB ad W/\zEZ ad:=by
 unfold zHV at h;obtain⟨a1,s1,c1,d1,t1,r1⟩:=zB8 h (by kernel_rfl) (by kernel_rfl) Tryz.underlying39 zER Tryz.underlying448 Tryz.underlying471 rfl rfl Tryz.underlying9 zB9 strCells;replace h:=h.tail
 obtain⟨a2,s2,c2,d2,t2,r2⟩:=zB8 h (by kernel_rfl) (by kernel_rfl) Tryz.underlying39 zER Tryz.underlying448 Tryz.underlying471 rfl rfl Tryz.underlying9 zB9 strCells;replace h:=h.tail
 obtain⟨a3,s3,c3,d3,t3,r3⟩:=zB8 h (by kernel_rfl) (by kernel_rfl) Tryz.underlying39 zER Tryz.underlying448 Tryz.underlying471 rfl rfl Tryz.underlying9 zB9 strCells;replace h:=h.tail
 obtain⟨a4,s4,c4,d4,t4,r4⟩:=zB8 h (by kernel_rfl) (by kernel_rfl) Tryz.underlying39 zER Tryz.underlying448 Tryz.underlying471 rfl rfl Tryz.underlying9 zB9 strCells;replace h:=h.tail
 obtain⟨a5,s5,c5,d5,t5,r5⟩:=zB8 h (by kernel_rfl) (by kernel_rfl) Tryz.underlying39 zER Tryz.underlying448 Tryz.underlying471 rfl rfl Tryz.underlying9 zB9 strCells;replace h:=h.tail
 obtain⟨a6,s6,c6,d6,t6,r6⟩:=zB8 h (by kernel_rfl) (by kernel_rfl) Tryz.underlying39 zER Tryz.underlying448 Tryz.underlying471 rfl rfl Tryz.underlying9 zB9 strCells;replace h:=h.tail
 obtain⟨a7,s7,c7,d7,t7,r7⟩:=zB8 h (by kernel_rfl) (by kernel_rfl) Tryz.underlying39 zER Tryz.underlying448 Tryz.underlying471 rfl rfl Tryz.underlying9 zB9 strCells;replace h:=h.tail
 obtain⟨a8,s8,c8,d8,t8,r8⟩:=zB8 h (by kernel_rfl) (by kernel_rfl) Tryz.underlying39 zER Tryz.underlying448 Tryz.underlying471 rfl rfl Tryz.underlying9 zB9 strCells;replace h:=h.tail
 obtain⟨a9,s9,c9,d9,t9,r9⟩:=zB8 h (by kernel_rfl) (by kernel_rfl) Tryz.underlying39 zER Tryz.underlying448 Tryz.underlying471 rfl rfl Tryz.underlying9 zB9 strCells;have hk0:∀k,1<=k->zR7 0 [a1,a2,a3,a4,a5,a6,a7,a8,a9] a1 k=[a1,a2,a3,a4,a5,a6,a7,a8,a9].getD (k-1) a1:=λk hk=>by unfold zR7;rw[if_neg (by omega)]
 refine⟨zR7 0 [a1,a2,a3,a4,a5,a6,a7,a8,a9] a1,⟨c1,c2,c3,c5,c7,λ_=>c4,λ_=>c6,λ_=>c8,λ_=>c9,λ_=>?_,λ_=>?_,?_,λ_ _ f=>f,λ_=>?_,λ_ _ _ f=>f,λ_ _ _ _ f=>f,λ_ f=>f.elim⟩,rfl⟩
 .have key:∀k,1<=k->k<=9->∃s,W.cell? (zR7 0 [a1,a2,a3,a4,a5,a6,a7,a8,a9] a1 k)=some (.string s)/\s.data.toList=zK5 k :=
   zHU ⟨s1,d1,t1⟩ ⟨s2,d2,t2⟩ ⟨s3,d3,t3⟩ ⟨s4,d4,t4⟩ ⟨s5,d5,t5⟩ ⟨s6,d6,t6⟩ ⟨s7,d7,t7⟩ ⟨s8,d8,t8⟩ ⟨s9,d9,t9⟩
  intro i j hi hi9 hj hj9 he;obtain⟨si,hsi,hti⟩:=key i hi hi9;obtain⟨sj,hsj,htj⟩:=key j hj hj9;rw[he,hsj] at hsi;injection hsi with hsi;injection hsi with hsi;subst hsi;exact zNt i (by omega) j (by omega) hi hj (hti.symm.trans htj)
 .exact zHU r1 r2 r3 r4 r5 r6 r7 r8 r9
 all_goals
  have z1:=yN c1;have z2:=yN c2;have z3:=yN c3;have z4:=yN c4;have z5:=yN c5;have z6:=yN c6;have z7:=yN c7;have z8:=yN c8;have z9:=yN c9;omega
end Go.Proofs.YtalpfcaakpgkmaaGreatDoor
