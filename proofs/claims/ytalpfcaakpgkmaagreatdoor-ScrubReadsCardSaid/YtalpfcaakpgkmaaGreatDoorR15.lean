import Derived.Test.YtalpfcaakpgkmaaGreatDoorR10
import Derived.Laws.IdiomCopy
import Derived.Lib.SlBuf
namespace Go.Proofs.YtalpfcaakpgkmaaGreatDoor
open Go.RowKit
theorem zEo{P:Program}{F:NP}{w:World}{t e:TypeId}(T:ElT P t e (.int .u8 0) 1 1)(ty:TypeId)(g:Nat)(c:Array Value)(te:TypeId)(l:List UInt8)(a:Addr)(cap:Nat)(hg:zG w g c te)(hc:c.size=l.length)
  (hs:Sl F w 1 zZ (.slice (some a) l.length cap) l) :
  (Builtin.copy_ #[t,t] ty #[.slice (some ⟨g,0,none⟩) l.length l.length,.slice (some a) l.length cap]).run P w=.ok (goInt l.length) (w.setCells g 0 (l.flatMap zZ)) /\
   zG (w.setCells g 0 (l.flatMap zZ)) g (l.flatMap zZ).toArray te:=by
 have A0:(l.flatMap zZ).length=l.length:=by rw[zCb jN.len,wC]
 obtain⟨i,hi,hz,A2,A3⟩:=zFO T.info;constructor
 .obtain⟨a',cap',he,h1,h2,h3,h4⟩:=hs;simp only[Value.slice.injEq,true_and] at he;obtain⟨rfl,rfl⟩:=he;have:=run_copy_cells (P:=P) w t t ty e g 0 l.length l.length a l.length cap (l.flatMap zZ) T.under (by rw[hi];simp[A2]) (by rw[A0];simp)
   (λj v hj=>by
    have A1:j<l.length:=by rw[<- A0];exact (uA.1 hj).1
    rcases h4 with h|⟨b,off,h,hb,hF,A4⟩
    .rw[h] at A1;simp at A1
    .injection h with h;subst h;have h5:=zDI jN.len l j l[j] 0 (.int .u8 (l[j].toNat:Int)) (by simp[A1]) rfl;simp only[wC,uT] at h5;rw[h5] at hj;injection hj with hj;subst hj;have h6:=A4 j l[j] (by simp[A1]) 0 (.int .u8 (l[j].toNat:Int)) rfl;simp only[wC,uT] at h6;rw[Addr.add_mid];exact h6)
   (λj hj=>by rw[A0] at hj;rw[qS hg];simp;omega) (λj _=>hg.frozen _)
   (λv hv=>by obtain⟨x,_,hx⟩:=List.mem_flatMap.1 hv;exact jN.one x v hx)
  rw[A0] at this;exact this
 .have:=zG.setMany (l.flatMap zZ) 0 w c hg (by rw[A0,hc];omega);rw[A0] at this;rw[tY (by rw[rB,hc];omega)] at this;simpa using this
theorem zJB{P:Program}{w:World}{t e:TypeId}(T:ElT P t e (.int .u8 0) 1 1)(ty:TypeId)(g:Nat)(a:Option Addr)(cap:Nat) :
  (Builtin.copy_ #[t,t] ty #[.slice (some ⟨g,0,none⟩) 0 0,.slice a 0 cap]).run P w=.ok (goInt 0) w:=by
 obtain⟨i,hi,hz,A2,A3⟩:=zFO T.info;cases a <;> simp[Builtin.copy_,run_underlying T.under,sizeOf,typeInfo,hi,Builtin.lenOf,Builtin.firstCells,storeCells,loadCells,loadCellsFrom]
theorem zHW{P:Program}{F:NP}{w:World}{t e:TypeId}(T:ElT P t e (.int .u8 0) 1 1)(ty:TypeId)(g:Nat)(c:Array Value)(te:TypeId)(l:List UInt8)(a:Option Addr)(cap:Nat)(hg:zG w g c te)(hc:c.size=l.length)
  (hs:Sl F w 1 zZ (.slice a l.length cap) l) :
  ∃w',(Builtin.copy_ #[t,t] ty #[.slice (some ⟨g,0,none⟩) l.length l.length,.slice a l.length cap]).run P w=.ok (goInt l.length) w'/\zG w' g (l.flatMap zZ).toArray te/\zA (λk=>k=g) w w':=by
 by_cases h0:l=[]
 .subst h0;refine⟨w,zJB T ty g a cap,?_,zA.refl _ _⟩;have:c=#[]:=rV (by simpa using hc);subst this;exact hg
 .obtain⟨a',cap',he,_,_,_,h4⟩:=hs;rcases h4 with h4|⟨b,off,h5,h6⟩
  .exact absurd h4 h0
  .simp only[Value.slice.injEq,true_and] at he;have hs':Sl F w 1 zZ (.slice a l.length cap) l:=⟨a',cap',by rw[he.1,he.2],‹_›,‹_›,‹_›,.inr ⟨b,off,h5,h6⟩⟩;rw[he.1,h5] at hs' ⊢;obtain⟨h1,h2⟩:=zEo T ty g c te l ⟨b,off,none⟩ cap hg hc hs';exact⟨_,h1,h2,zA.setMany (F:=λk=>k=g) (.inr rfl) _ _ _ (zss w)⟩
end Go.Proofs.YtalpfcaakpgkmaaGreatDoor
