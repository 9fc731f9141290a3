import Derived.Test.YtalpfcaakpgkmaaGreatDoorR06
import Derived.Lib.AppendZerosOnto
import Derived.Lib.AppendZeros
import Derived.Deep.MidRow
namespace Go.Proofs.YtalpfcaakpgkmaaGreatDoor
open Go.RowKit
theorem zG.setMany{b:Nat}{t:TypeId}:∀(vs:List Value) (o:Nat) (w:World) (c:Array Value),zG w b c t->o+vs.length<=c.size ->
  zG (w.setCells b o vs) b (c.toList.take o++vs++c.toList.drop (o+vs.length)).toArray t
 | [],o,w,c,h,_=>by simpa[World.setCells] using h
 | v :: r,o,w,c,h,hl=>by
  rw[uG] at hl;have h1:=zG.setMany r (o+1) _ _ (h.set o v) (by simp;omega);rw[World.setCells];have e:(c.setIfInBounds o v).toList=c.toList.take o++v :: c.toList.drop (o+1):=by
   rw[Array.toList_setIfInBounds,List.set_eq_take_append_cons_drop,if_pos (by simp;omega)]
  rw[e] at h1;have Ae:(c.toList.take o).length=o:=by simp;omega
  rw[List.take_append,Ae,uY (by omega),show o+1-o=0+1 by omega,nG,List.take_zero,
   List.drop_append,Ae,tY (by omega),show o+1+r.length-o=r.length+1 by omega,List.drop_succ_cons,List.drop_drop] at h1
  rw[uG];simpa[p4,Nat.add_comm,Nat.add_left_comm] using h1
theorem zA.setMany{F:NP}{w:World}{b:Nat}(hb:w.heap.size<=b\/F b):∀(vs:List Value) (o:Nat) (w':World),zA F w w'->zA F w (w'.setCells b o vs)
 | [],_,_,h=>h
 | v :: r,o,w',h=>by rw[World.setCells];exact zA.setMany hb r (o+1) _ (h.setCell (p:=⟨b,o,none⟩) hb v)
theorem zLH{α:Type}{enc:α->List Value}(_:zCx enc 1)(x0:α){z:Value}(A4:enc x0=[z])(n:Nat):(List.replicate n x0).flatMap enc=List.replicate n z:=by
 induction n with
 | zero=>rfl
 | succ n ih=>rw[List.replicate_succ,wQ,ih,A4];rfl
theorem zDn(z:Value)(n:Nat):Builtin.zeroCells #[z] n=(List.replicate n z).toArray:=by
 apply Array.ext
 .simp[Builtin.zeroCells]
 .intro i h1 h2;simp[Builtin.zeroCells,Nat.mod_one]
theorem zI7{P:Program}{F:NP}{w:World}{t tn e:TypeId}{z:Value}{bytes:Nat}{α:Type}{enc:α->List Value}(T:ElT P t e z 1 bytes)(E:zCx enc 1)(x0:α)(A4:enc x0=[z])(A6:z.cells=#[z])(kn:IntKind)(Aa:P.underlying tn=some (.int kn))
  (ty:TypeId) (base g n:Nat) (c:Nat) (l:List α) (A1:yC F w base e 1 enc (.slice (some ⟨g,0,none⟩) l.length c) l) (hb:(l.length+n) * bytes<=140737488355328) (A2:base<=w.heap.size) (hn:Bd F w) :
  ∃a' c' w',(Builtin.append_ #[t,tn] ty #[.slice (some ⟨g,0,none⟩) l.length c,.int .i64 (n:Int)]).run P w=.ok (.slice a' (l.length+n) c') w' /\
   yC F w' base e 1 enc (.slice a' (l.length+n) c') (l++List.replicate n x0)/\zA (λk=>base<=k) w w':=by
 obtain⟨i,hi,hz,Af,Ab⟩:=zFO T.info;rcases A1.1.2 with ⟨h,_⟩|⟨g',cap,cur,A7,Ag,hg,Ai,hm,Aj,A8⟩
 .cases h
 .simp only[Value.slice.injEq,Option.some.injEq,Addr.mk.injEq,true_and,and_true] at A7;obtain⟨rfl,rfl⟩:=A7;have A0:(l.flatMap enc).length=l.length:=by rw[zCb E.len,wC]
  have Ak:l.length+n<=140737488355328:=uP (Nat.le_mul_of_pos_right _ T.by0) hb;have hw:IntKind.i64.wrap (n:Int)=n:=by rw[IntKind.wrap_i64];omega
  have Ac:¬ ((n:Int)<0):=by omega
  have A9:=zLH E x0 A4 n;have Al:¬ (281474976710656<(n:Int) * (i.bytes:Int)):=by
   have:=rO bytes (Nat.le_add_left n l.length);rw[Ab,<- Int.natCast_mul];omega
  have A5:(l++List.replicate n x0).length=l.length+n:=by simp
  by_cases A3:l.length+n<=c
  .have Ad:l.length+n<=cur.size:=by rw[Aj];omega
   have Ah:=run_storeCells_cells (P:=P) g l.length (List.replicate n z) 0 w
    (λj hj=>by
     have hj':j<n:=by simpa using hj
     rw[qS hg];simp;omega)
    (λj _=>zG.frozen (c:=cur) (t:=e) hg _)
    (λu hu=>by rw[List.eq_of_mem_replicate hu];exact E.one x0 z (by rw[A4];simp))
   simp only[uT] at Ah;have hB:=zG.setMany (List.replicate n z) l.length w cur hg (by simpa using Ad);refine⟨some ⟨g,0,none⟩,c,w.setCells g l.length (List.replicate n z),?_,?_,zA.setMany (.inr Ag) _ _ _ (zss w)⟩
   .simp[Builtin.append_,run_underlying T.under,run_underlying Aa,sizeOf,typeInfo,zeroValue,hi,hz,Af,asInt,asIntOf,hw,Ac,A3];rw[if_neg Al];by_cases h0:n=0
    .subst h0;simp[storeCells,World.setCells]
    .rw[if_neg h0,A6,zDn];simp only[Addr.add_mid,wG];simp[Ah]
   .have:=yC.made (F:=F) (base:=base) (enc:=enc) (l:=l++List.replicate n x0) (sz:=1) (cap:=c) hB Ag (A1.2 g rfl) (by rw[A5];exact A3) hm (by simp;omega) (by
     rw[A5,wC,tP,A9];have h1:cur.toList.take l.length=l.flatMap enc:=by simpa using A8
     simp only[h1];rw[rF (by simp[A0]),uY (by simp[A0])]) E.len
    rw[A5] at this;exact this
  .have Am:0<n:=by omega
   have An:=run_firstCells_some (P:=P) w.drew i.size l.length ⟨g,0,none⟩ l.length c (l.flatMap enc) (by rw[Af,wC];exact A0) (λj u hu=>by
    have h1:=A1.1.cells (g:=g) rfl j u hu;exact h1)
   have hr:=Lib.run_append_grow_zeros (P:=P) w t tn ty e i z .i64 kn T.under Aa hi hz (some ⟨g,0,none⟩) l.length c (l.flatMap enc) An n Am (by omega) (by omega) (by omega)
    (by have:=rO i.bytes (Nat.le_add_left n l.length);rw[Ab] at this ⊢;omega) (growslice_fits (by omega) (by rw[Ab];exact hb))
   have Ao:=grownCap_ge w (l.length+n) c e;have Ap:grownCap w (l.length+n) c e<=maxLen:=grownCap_le_maxLen w (l.length+n) c e (by simp only[maxLen];omega);refine⟨_,_,_,hr,?_,((zss w).drew.alloc _)⟩;have:=yC.made (F:=F) (base:=base) (e:=e) (enc:=enc) (l:=l++List.replicate n x0) (sz:=1) (cap:=grownCap w (l.length+n) c e) (cur:=(l.flatMap enc).toArray++Builtin.zeroCells z.cells n++Builtin.zeroCells z.cells (grownCap w (l.length+n) c e-(l.length+n))) (heap_alloc_new w.drew _) A2 hn.new (by rw[A5];exact Ao) Ap (by
    rw[A6];simp[zDn,A0];omega) (by
     rw[A5,wC,tP,A9,A6];simp only[zDn,Array.toList_append];rw[rF (by simp[A0]),uY (by simp[A0])]) E.len
   rw[A5] at this;exact this
theorem zI8{P:Program}{F:NP}{w:World}{t tn e:TypeId}{z:Value}{bytes:Nat}{α:Type}{enc:α->List Value}(T:ElT P t e z 1 bytes)(E:zCx enc 1)(x0:α)(A4:enc x0=[z])(A6:z.cells=#[z])(kn:IntKind)(Aa:P.underlying tn=some (.int kn))
  {ops:Array Oper} {rest:List Oper} {o:Oper} {a:Act} {Q:Exit->Act->World->Prop} (Aq:o.guard=none) (sx x:Operand)
  (ho:o.op=.call { callee:=.builtin .append,args:=#[sx,x],argTypes:=#[t,tn] })
  (base:Nat) (ga:Option Addr) (k c n:Nat) (zi:Int) (l:List α) (hv:a.eval sx=.slice ga k c) (hx:a.eval x=.int .i64 zi) (hk:k=l.length) (Ar:zi=(n:Int)) (h0:0<k)
  (A1:yC F w base e 1 enc (.slice ga k c) l) (hb:(k+n) * bytes<=140737488355328) (A2:base<=w.heap.size) (hn:Bd F w)
  (h:∀a' c' w',yC F w' base e 1 enc (.slice a' (k+n) c') (l++List.replicate n x0)->zA (λk=>base<=k) w w'->wpList P ops Q rest (a.put o.dst (.slice a' (k+n) c')) w') :
  wpList P ops Q (o :: rest) a w:=by
 subst hk Ar;obtain⟨g,rfl⟩:∃g,ga=some ⟨g,0,none⟩:=by
  rcases A1.1.2 with ⟨h1,h2⟩|⟨g,cap,cur,A7,_⟩
  .omega
  .simp only[Value.slice.injEq] at A7;exact⟨g,A7.1⟩
 obtain⟨a',c',w',hr,h1,h2⟩:=zI7 T E x0 A4 A6 kn Aa o.type base g n c l A1 hb A2 hn;exact Lib.wpList_append_run w Aq sx x t tn ho _ _ hv hx _ _ hr (h a' c' w' h1 h2)
end Go.Proofs.YtalpfcaakpgkmaaGreatDoor
