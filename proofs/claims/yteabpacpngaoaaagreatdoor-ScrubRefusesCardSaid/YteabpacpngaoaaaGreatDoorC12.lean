import Derived.Test.YteabpacpngaoaaaGreatDoorC06
import Derived.Lib.AppendZerosOnto
import Derived.Deep.MidRow
namespace Go.Proofs.YteabpacpngaoaaaGreatDoor
open Go.RowKit
theorem zH.setMany{b:Nat}{t:TypeId}:∀(vs:List Value) (o:Nat) (w:World) (c:Array Value),zH w b c t->o+vs.length<=c.size ->
  zH (w.setCells b o vs) b (c.toList.take o++vs++c.toList.drop (o+vs.length)).toArray t
 | [],o,w,c,h,_=>by simpa[World.setCells] using h
 | v :: r,o,w,c,h,hl=>by
  rw[List.length_cons] at hl;have h1:=zH.setMany r (o+1) _ _ (h.set o v) (by simp;omega);rw[World.setCells];have e:(c.setIfInBounds o v).toList=c.toList.take o++v :: c.toList.drop (o+1):=by
   rw[Array.toList_setIfInBounds,List.set_eq_take_append_cons_drop,if_pos (by simp;omega)]
  rw[e] at h1;have hto:(c.toList.take o).length=o:=by simp;omega
  rw[List.take_append,hto,List.take_of_length_le (by omega),show o+1-o=0+1 by omega,List.take_succ_cons,List.take_zero,
   List.drop_append,hto,List.drop_of_length_le (by omega),show o+1+r.length-o=r.length+1 by omega,List.drop_succ_cons,List.drop_drop] at h1
  rw[List.length_cons];simpa[List.append_assoc,Nat.add_assoc,Nat.add_comm,Nat.add_left_comm] using h1
theorem zA.setMany{F:Nat->Prop}{w:World}{b:Nat}(hb:w.heap.size<=b\/F b):∀(vs:List Value) (o:Nat) (w':World),zA F w w'->zA F w (w'.setCells b o vs)
 | [],_,_,h=>h
 | v :: r,o,w',h=>by rw[World.setCells];exact zA.setMany hb r (o+1) _ (h.setCell (p:=⟨b,o,none⟩) hb v)
theorem zKg{α:Type}{enc:α->List Value}(_:zCh enc 1)(x0:α){z:Value}(hx0:enc x0=[z])(n:Nat):(List.replicate n x0).flatMap enc=List.replicate n z:=by
 induction n with
 | zero=>rfl
 | succ n ih=>rw[List.replicate_succ,List.flatMap_cons,ih,hx0];rfl
theorem zDU(z:Value)(n:Nat):Builtin.zeroCells #[z] n=(List.replicate n z).toArray:=by
 apply Array.ext
 .simp[Builtin.zeroCells]
 .intro i h1 h2;simp[Builtin.zeroCells,Nat.mod_one]
theorem zIb{P:Program}{F:Nat->Prop}{w:World}{t tn e:TypeId}{z:Value}{bytes:Nat}{α:Type}{enc:α->List Value}(T:ElT P t e z 1 bytes)(E:zCh enc 1)(x0:α)(hx0:enc x0=[z])(hzc:z.cells=#[z])(kn:IntKind)(htn:P.underlying tn=some (.int kn))
  (ty:TypeId) (base g n:Nat) (c:Nat) (l:List α) (hown:yC F w base e 1 enc (.slice (some ⟨g,0,none⟩) l.length c) l) (hb:(l.length+n) * bytes<=140737488355328) (hbase:base<=w.heap.size) (hn:Bd F w) :
  ∃a' c' w',(Builtin.append_ #[t,tn] ty #[.slice (some ⟨g,0,none⟩) l.length c,.int .i64 (n:Int)]).run P w=.ok (.slice a' (l.length+n) c') w' /\
   yC F w' base e 1 enc (.slice a' (l.length+n) c') (l++List.replicate n x0)/\zA (λk=>base<=k) w w':=by
 obtain⟨i,hi,hz,hs1,hb1⟩:=zEz T.info;rcases hown.1.2 with ⟨h,_⟩|⟨g',cap,cur,heq,hbg,hg,hcap,hm,hsz,htake⟩
 .cases h
 .simp only[Value.slice.injEq,Option.some.injEq,Addr.mk.injEq,true_and,and_true] at heq;obtain⟨rfl,rfl⟩:=heq;have hlen2:(l.flatMap enc).length=l.length:=by rw[zCP E.len,Nat.mul_one]
  have hbig:l.length+n<=140737488355328:=Nat.le_trans (Nat.le_mul_of_pos_right _ T.by0) hb;have hw:IntKind.i64.wrap (n:Int)=n:=by rw[IntKind.wrap_i64];omega
  have hneg:¬ ((n:Int)<0):=by omega
  have hrep:=zKg E x0 hx0 n;have h48:¬ (281474976710656<(n:Int) * (i.bytes:Int)):=by
   have:=Nat.mul_le_mul_right bytes (Nat.le_add_left n l.length);rw[hb1,<- Int.natCast_mul];omega
  have hlx:(l++List.replicate n x0).length=l.length+n:=by simp
  by_cases hroom:l.length+n<=c
  .have hsz2:l.length+n<=cur.size:=by rw[hsz];omega
   have hst:=run_storeCells_cells (P:=P) g l.length (List.replicate n z) 0 w
    (λj hj=>by
     have hj':j<n:=by simpa using hj
     rw[qO hg];simp;omega)
    (λj _=>zH.frozen (c:=cur) (t:=e) hg _)
    (λu hu=>by rw[List.eq_of_mem_replicate hu];exact E.one x0 z (by rw[hx0];simp))
   simp only[Nat.add_zero] at hst;have hB:=zH.setMany (List.replicate n z) l.length w cur hg (by simpa using hsz2);refine⟨some ⟨g,0,none⟩,c,w.setCells g l.length (List.replicate n z),?_,?_,zA.setMany (.inr hbg) _ _ _ (zA.refl _ w)⟩
   .simp[Builtin.append_,run_underlying T.under,run_underlying htn,sizeOf,typeInfo,zeroValue,hi,hz,hs1,asInt,asIntOf,hw,hneg,hroom];rw[if_neg h48];by_cases h0:n=0
    .subst h0;simp[storeCells,World.setCells]
    .rw[if_neg h0,hzc,zDU];simp only[Addr.add_mid,Nat.zero_add];simp[hst]
   .have:=yC.made (F:=F) (base:=base) (enc:=enc) (l:=l++List.replicate n x0) (sz:=1) (cap:=c) hB hbg (hown.2 g rfl) (by rw[hlx];exact hroom) hm (by simp;omega) (by
     rw[hlx,Nat.mul_one,List.flatMap_append,hrep];have h1:cur.toList.take l.length=l.flatMap enc:=by simpa using htake
     simp only[h1];rw[List.take_append_of_le_length (by simp[hlen2]),List.take_of_length_le (by simp[hlen2])]) E.len
    rw[hlx] at this;exact this
  .have hn0:0<n:=by omega
   have hfc:=run_firstCells_some (P:=P) w.drew i.size l.length ⟨g,0,none⟩ l.length c (l.flatMap enc) (by rw[hs1,Nat.mul_one];exact hlen2) (λj u hu=>by
    have h1:=hown.1.cells (g:=g) rfl j u hu;exact h1)
   have hr:=Lib.run_append_grow_zeros (P:=P) w t tn ty e i z .i64 kn T.under htn hi hz (some ⟨g,0,none⟩) l.length c (l.flatMap enc) hfc n hn0 (by omega) (by omega) (by omega)
    (by have:=Nat.mul_le_mul_right i.bytes (Nat.le_add_left n l.length);rw[hb1] at this ⊢;omega) (growslice_fits (by omega) (by rw[hb1];exact hb))
   have hge:=grownCap_ge w (l.length+n) c e;have hcm:grownCap w (l.length+n) c e<=maxLen:=grownCap_le_maxLen w (l.length+n) c e (by simp only[maxLen];omega);refine⟨_,_,_,hr,?_,((zA.refl _ w).drew.alloc _)⟩;have:=yC.made (F:=F) (base:=base) (e:=e) (enc:=enc) (l:=l++List.replicate n x0) (sz:=1) (cap:=grownCap w (l.length+n) c e) (cur:=(l.flatMap enc).toArray++Builtin.zeroCells z.cells n++Builtin.zeroCells z.cells (grownCap w (l.length+n) c e-(l.length+n))) (heap_alloc_new w.drew _) hbase hn.new (by rw[hlx];exact hge) hcm (by
    rw[hzc];simp[zDU,hlen2];omega) (by
     rw[hlx,Nat.mul_one,List.flatMap_append,hrep,hzc];simp only[zDU,Array.toList_append];rw[List.take_append_of_le_length (by simp[hlen2]),List.take_of_length_le (by simp[hlen2])]) E.len
   rw[hlx] at this;exact this
theorem zIc{P:Program}{F:Nat->Prop}{w:World}{t tn e:TypeId}{z:Value}{bytes:Nat}{α:Type}{enc:α->List Value}(T:ElT P t e z 1 bytes)(E:zCh enc 1)(x0:α)(hx0:enc x0=[z])(hzc:z.cells=#[z])(kn:IntKind)(htn:P.underlying tn=some (.int kn))
  {ops:Array Oper} {rest:List Oper} {o:Oper} {a:Act} {Q:Exit->Act->World->Prop} (hgd:o.guard=none) (sx x:Operand)
  (ho:o.op=.call { callee:=.builtin .append,args:=#[sx,x],argTypes:=#[t,tn] })
  (base:Nat) (ga:Option Addr) (k c n:Nat) (zi:Int) (l:List α) (hv:a.eval sx=.slice ga k c) (hx:a.eval x=.int .i64 zi) (hk:k=l.length) (hzi:zi=(n:Int)) (h0:0<k)
  (hown:yC F w base e 1 enc (.slice ga k c) l) (hb:(k+n) * bytes<=140737488355328) (hbase:base<=w.heap.size) (hn:Bd F w)
  (h:∀a' c' w',yC F w' base e 1 enc (.slice a' (k+n) c') (l++List.replicate n x0)->zA (λk=>base<=k) w w'->wpList P ops Q rest (a.put o.dst (.slice a' (k+n) c')) w') :
  wpList P ops Q (o :: rest) a w:=by
 subst hk hzi;obtain⟨g,rfl⟩:∃g,ga=some ⟨g,0,none⟩:=by
  rcases hown.1.2 with ⟨h1,h2⟩|⟨g,cap,cur,heq,_⟩
  .omega
  .simp only[Value.slice.injEq] at heq;exact⟨g,heq.1⟩
 obtain⟨a',c',w',hr,h1,h2⟩:=zIb T E x0 hx0 hzc kn htn o.type base g n c l hown hb hbase hn;exact Lib.wpList_append_run w hgd sx x t tn ho _ _ hv hx _ _ hr (h a' c' w' h1 h2)
end Go.Proofs.YteabpacpngaoaaaGreatDoor
