import Derived.Test.YtchklfmggpconaaGreatDoorK00
import Derived.Deep.RegionHeld3
import Derived.Maps.RangeWalk
namespace Go.Proofs.YtchklfmggpconaaGreatDoor
section
variable {P:Program}{ops:Array Oper}{Q:Exit->Act->World->Prop}{md:Region.Mode}{S:World->Prop}
def zEn(l:Array Bool):Nat:=l.toList.count false
theorem zIb{l:Array Bool}{i:Nat}(h:l.getD i true=false):zEn (l.setIfInBounds i true)+1=zEn l:=by
 have hi:i<l.size:=by
  rcases pI i l.size with h1|h1
  .exact h1
  .rw[Array.getD_eq_getD_getElem?,Array.getElem?_eq_none h1] at h;cases h
 have hv:l.toList[i]'(by simpa using hi)=false:=by
  rw[Array.getD_eq_getD_getElem?,Array.getElem?_eq_getElem hi] at h;simpa using h
 unfold zEn;have h3:=List.count_set (l:=l.toList) (i:=i) (a:=true) (b:=false) (by simpa using hi);rw[hv] at h3;have h4:0<l.toList.count false:=List.count_pos_iff.2 (by rw[<- hv];exact wH _);rw[Array.toList_setIfInBounds,h3];simp only[beq_self_eq_true,t8];have h5:(true == false)=false:=rfl;rw[h5];simp only[wG,tP];omega
theorem zL6{l:Array Bool}(h:zEn l=0):Region.ready md ops l=[]:=by
 refine List.eq_nil_iff_forall_not_mem.2 (λj hj=>?_);have h1:=(mem_ready.1 hj).1;have h2:=zIb h1;omega
theorem tkH(i:Nat)(oi:Oper){v:Value}{fuel:Nat}{listed:Array Bool}{a:Act}{w:World}(h:wpAnyH P md ops Q S fuel (listed.setIfInBounds i true) (a.put oi.dst v) w)(hi:ops[i]? = some oi:=by rfl)
  (hs:Region.noSelect ops=true:=by kernel_rfl) (hf:Region.free md ops listed i=true:=by kernel_rfl) (hr:(Region.ready md ops listed).contains i=true:=by kernel_rfl)
  (hQ:∀c a w,Q (.panic c) (a.put oi.dst v) w->Q (.panic c) a w:=by exact λ_ _ _ h=>h) (hw:Region.wanted oi (yielded ops a.tmps)=true:=by rfl)
  (hv:∀w,S w->(execOp a.eval oi).run P w=.ok (.value v) w:=by (intro w hSw;(try dsimp only at hSw);go_simp;(try (with_reducible rfl)))) (hS:S w:=by assumption):wpAnyH P md ops Q S (fuel+1) listed a w :=
 wpAnyH_take hi hs hf hr hQ (Or.inl ⟨hw,hv⟩) hS h
theorem zEw(I:Array Bool->Act->World->Prop)(stop:Array Bool->Prop)
  (hi:∀(i:Nat) (l:Array Bool) (a:Act) (w:World),i∈Region.ready md ops l->I l a w->¬ stop l->wpOp P ops Q i (λa' w'=>S w'/\I (l.setIfInBounds i true) a' w') a w)
  (he:∀(l:Array Bool) (a:Act) (w:World),I l a w->Region.ready md ops l=[]->¬ stop l->Q .normal a w)
  (hd:∀(n:Nat) (l:Array Bool) (a:Act) (w:World),I l a w->stop l->zEn l<=n->wpAnyH P md ops Q S n l a w) :
  ∀(n:Nat) (l:Array Bool) (a:Act) (w:World),I l a w->zEn l<=n->wpAnyH P md ops Q S n l a w:=by
 intro n;induction n with
 | zero =>
  intro l a w hI hl;by_cases hs:stop l
  .exact hd 0 l a w hI hs hl
  .have hr:=zL6 (md:=md) (ops:=ops) (show zEn l=0 by omega);exact⟨hr,he l a w hI hr hs⟩
 | succ n ih =>
  intro l a w hI hl;by_cases hs:stop l
  .exact hd _ l a w hI hs hl
  .refine⟨λhr=>he l a w hI hr hs,λi hr=>wpOp_mono (λa' w' h=>⟨h.1,ih _ _ _ h.2 ?_⟩) (hi i l a w hr hI hs)⟩;have:=zIb (mem_ready.1 hr).1;omega
end
end Go.Proofs.YtchklfmggpconaaGreatDoor
