import Derived.Test.YtchklfmggpconaaGreatDoorTie
import Derived.Test.YtchklfmggpconaaGreatDoorCards
import Derived.Test.YtchklfmggpconaaGreatDoorK17
import Derived.ProofKit
import Derived.Stop.LaidErr
import Derived.Lay
import Derived.SizedLaws
import Derived.SevenTiedAt
import Derived.DataShut
namespace Go.Proofs.YtchklfmggpconaaGreatDoor
open Go.ChangeShapes Go.WideShapes Go.ChangeAt Go.RowKit
theorem Tryz.own:ownKnob Tryz.prog.godebug=none:=by kernel_rfl
theorem Tryz.laidOut:laidOutB Tryz.prog=true:=by kernel_rfl
theorem zEv{H:Type}{enc:TypeId × Value->H}{P:Program}(hl:laidOutB P=true){W W':World}(hb:Below W.heap.size W W') :
  ∀(ts:List TypeId) (vs:List Value) (ds:List (DataW H)) (ps:List MemPlace),(ts.all λt=>P.readableRec t && decide (t<P.types.size))=true ->
   DataW.TrodAll enc P W 0 (λ_=>true) true ts vs ds ps->(∀x∈ps,x.block<W.heap.size) ->
   DataW.TrodAll enc P W' 0 (λb=>decide (b<W.heap.size)) true ts vs ds ps
 | [],[],[],ps,_,h,_=>h
 | t :: ts,v :: vs,d :: ds,ps,hok,h,hlt=>by
  obtain⟨p,q,h1,h2,rfl⟩:=h;simp only[List.all_cons,uK,uQ] at hok;exact⟨p,q,Below.trod hl hok.1.1 hok.1.2 h1 hb (λx hx=>hlt x (by simp[hx])),zEv hl hb ts vs ds q hok.2 h2 (λx hx=>hlt x (by simp[hx])),rfl⟩
 | [],_ :: _,_,_,_,h,_=>h.elim
 | [],[],_ :: _,_,_,h,_=>h.elim
 | _ :: _,[],_,_,_,h,_=>h.elim
 | _ :: _,_ :: _,[],_,_,h,_=>h.elim
theorem zES{P:Program}{n nm:String}{text:List UInt8}{r:List (String × DataW Unit)}{W:World}{g:Nat}{ti tp te ts:TypeId}{ms:Array (String × TypeId)}{f:Field}
  (h:laidMet P ((n,.iface nm (.ptr (.agg [.lit (.string text)]))) :: r) W)
  (hg:P.globalNamed n=some g) (ht:(P.globals[g]?).map (·.type)=some ti) (hi:P.underlying ti=some (.interface ms)) (hrow:∀u,P.typeName? 3 u=some nm->u=tp)
  (hp:P.underlying tp=some (.pointer te)) (he:P.underlying te=some (.struct #[f])) (hft:f.type=ts) (hfo:f.offset=0) (hs:P.underlying ts=some .string) (hc:P.cellsOf te=1) (hcs:P.cellsOf ts=1) :
  ∃(a:Addr) (s:ByteArray),W.cell? ⟨g,0,none⟩=some (.iface tp (.pointer (some a)))/\W.cell? a=some (.string s)/\s.data.toList=text/\∃c t,W.heap[a.block]? = some (.cells c t (0,0)):=by
 obtain⟨ps,⟨g0,t0,cs0,f0,p0,q0,hg0,ht0,hv0,hd0,_,e0⟩,_,hrows⟩:=h;obtain rfl:=Option.some.inj (hg.symm.trans hg0);obtain rfl:=Option.some.inj (ht.symm.trans ht0);subst e0;obtain⟨l0⟩:=cs0;have ok0:∀u v,l0=[.iface u v]->Value.okWide P W .any 0 u v:=λu v e=>by
  subst e;exact (hrows g 0 (by simp[MemPlace.row])).2 u v (by simpa using World.var?_cell hg0 hv0 0)
 obtain⟨a0,s0,rfl,hc0,hs0,hz0,rfl⟩:=errorString_of_trod hi hrow hp he hft hfo hs hc hcs hd0 ok0;exact⟨a0,s0,by simpa using World.var?_cell hg0 hv0 0,hc0,hs0,(hrows a0.block a0.off (by simp[MemPlace.row])).1⟩
theorem zN8 : "*" ++ "errors.errorString" = "*errors.errorString":=by decide
theorem zIF(u:TypeId)(h:Tryz.prog.typeName? 3 u=some "*errors.errorString"):u = 315 :=
 typeName_ptr_named (nm := "errors.errorString") (by rw[zN8];kernel_rfl) (by kernel_rfl) (by decide) u (by rw[zN8];exact h)
theorem zET:Tryz.prog.cellsOf 338 = 1:=by kernel_rfl
theorem strCells:Tryz.prog.cellsOf 9 = 1:=by kernel_rfl
def zSB(off:Nat)(l:List Addr)(a:Addr):Nat->Addr:=λk=>if k=0 then ⟨0,off,none⟩ else l.getD (k-1) a
def zGw:List (String × DataW Unit):=[("scrinium/api.ErrForm",Rows.laid_scrinium_api_ErrForm),("scrinium/api.ErrRange",Rows.laid_scrinium_api_ErrRange),("scrinium/api.ErrFull",Rows.laid_scrinium_api_ErrFull),("scrinium/api.ErrCorrupt",Rows.laid_scrinium_api_ErrCorrupt),("scrinium/api.ErrState",Rows.laid_scrinium_api_ErrState),("scrinium/api.ErrLong",Rows.laid_scrinium_api_ErrLong)]
theorem zSP{W:World}(h:laidMet Tryz.prog zGw W):∃ad,yW NoB ad W:=by
 unfold zGw at h;obtain⟨a1,s1,c1,d1,t1,r1⟩:=zES h (by kernel_rfl) (by kernel_rfl) Tryz.underlying35 zIF Tryz.underlying315 Tryz.underlying338 rfl rfl Tryz.underlying9 zET strCells;replace h:=h.tail
 obtain⟨a2,s2,c2,d2,t2,r2⟩:=zES h (by kernel_rfl) (by kernel_rfl) Tryz.underlying35 zIF Tryz.underlying315 Tryz.underlying338 rfl rfl Tryz.underlying9 zET strCells;replace h:=h.tail
 obtain⟨a3,s3,c3,d3,t3,r3⟩:=zES h (by kernel_rfl) (by kernel_rfl) Tryz.underlying35 zIF Tryz.underlying315 Tryz.underlying338 rfl rfl Tryz.underlying9 zET strCells;replace h:=h.tail
 obtain⟨a5,s5,c5,d5,t5,r5⟩:=zES h (by kernel_rfl) (by kernel_rfl) Tryz.underlying35 zIF Tryz.underlying315 Tryz.underlying338 rfl rfl Tryz.underlying9 zET strCells;replace h:=h.tail
 obtain⟨a7,s7,c7,d7,t7,r7⟩:=zES h (by kernel_rfl) (by kernel_rfl) Tryz.underlying35 zIF Tryz.underlying315 Tryz.underlying338 rfl rfl Tryz.underlying9 zET strCells;have hn:¬ zFa (zSB 1 [a1,a2,a3,a1,a5,a1,a7,a1,a1] a1):=λh=>by cases h
 refine⟨zSB 1 [a1,a2,a3,a1,a5,a1,a7,a1,a1] a1,⟨c1,c2,c3,c5,c7,λf=>(hn f).elim,λf=>(hn f).elim,λf=>(hn f).elim,λf=>(hn f).elim,λf=>(hn f).elim,λf=>(hn f).elim,?_,λ_ _ f=>f,λf=>(hn f).elim,λf=>(hn f).elim,λf=>(hn f).elim,λ_ f=>f.elim⟩⟩;have z1:=qY c1;have z2:=qY c2;have z3:=qY c3;have z5:=qY c5;have z7:=qY c7;omega
end Go.Proofs.YtchklfmggpconaaGreatDoor
