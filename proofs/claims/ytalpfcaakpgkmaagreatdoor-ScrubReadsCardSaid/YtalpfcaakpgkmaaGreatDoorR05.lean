import Derived.Test.YtalpfcaakpgkmaaGreatDoorR02
import Derived.Maps.AppendAt
import Derived.Lib.AppendStr
import Derived.Lib.ConvBytes
import Derived.Laws.BytesArg
import Derived.Lib.Hide
namespace Go.Proofs.YtalpfcaakpgkmaaGreatDoor
open Go.RowKit
def yC{α:Type}(F:NP)(w:World)(base:Nat)(e:TypeId)(sz:Nat)(enc:α->List Value)(v:Value)(l:List α):Prop :=
 w.ownsRow base e sz v l.length (l.flatMap enc)/\∀g,v.ownBlock=some g->¬ F g
theorem zDI{α:Type}{sz:Nat}{enc:α->List Value}(A0:∀x,(enc x).length=sz):∀(l:List α) (i:Nat) (x:α) (j:Nat) (u:Value),l[i]? = some x->(enc x)[j]? = some u->(l.flatMap enc)[i * sz+j]? = some u
 | [],i,x,j,u,h,_=>by simp at h
 | y :: l,0,x,j,u,h,hu=>by
  simp at h;subst h;rw[wQ,pU,wG,tJ (uA.1 hu).1];exact hu
 | y :: l,i+1,x,j,u,h,hu=>by
  rw[wQ,wV (by rw[A0,pF];omega),A0];rw[show (i+1) * sz+j-sz=i * sz+j by rw[pF];omega];exact zDI A0 l i x j u (by simpa using h) hu
theorem zCb{α:Type}{sz:Nat}{enc:α->List Value}(A0:∀x,(enc x).length=sz)(l:List α):(l.flatMap enc).length=l.length * sz:=by
 induction l with
 | nil=>simp
 | cons x l ih=>rw[wQ,uC,A0,ih,uG,pF];omega
section
variable {α:Type}{F G:NP}{w w':World}{base:Nat}{e:TypeId}{sz:Nat}{enc:α->List Value}{v:Value}{l m:List α}
theorem yC.nil(F:NP)(w:World)(base:Nat)(e:TypeId)(sz:Nat)(enc:α->List Value):yC F w base e sz enc (.slice none 0 0) ([]:List α) :=
 ⟨World.ownsRow_nil _ _ _ _,λg h=>by simp[Value.ownBlock] at h⟩
theorem yC.form(h:yC F w base e sz enc v l):∃a c,v=.slice a l.length c/\l.length<=c/\c<=maxLen:=by
 rcases h.1.2 with ⟨rfl,h0⟩|⟨g,cap,cur,rfl,_,_,h1,h2,_⟩
 .exact⟨none,0,by rw[h0],by omega,by simp[maxLen]⟩
 .exact⟨_,cap,rfl,h1,h2⟩
theorem yC.sl(h:yC F w base e sz enc v l)(A0:∀x,(enc x).length=sz)(hl:l.length<=140737488355328):Sl F w sz enc v l:=by
 rcases h.1.2 with ⟨rfl,h0⟩|⟨g,cap,cur,rfl,hb,hg,A7,hm,hs,Ab⟩
 .have:l=[]:=tE h0;subst this;exact Sl.nil _ _ _ _
 .refine⟨_,cap,rfl,A7,hm,hl,.inr ⟨g,0,rfl,(tC.1 hg).1,h.2 g rfl,λi x hi j u hu=>?_⟩⟩;have:=h.1.cells (g:=g) rfl (i * sz+j) u (zDI A0 l i x j u hi hu);rw[wG];unfold Addr.add at this;split at this
  .rename_i hz;rw[hz];exact this
  .simpa using this
theorem yC.mods(h:yC F w base e sz enc v l)(m:zA G w w')(hG:∀g,v.ownBlock=some g->¬ G g):yC F w' base e sz enc v l:=by
 refine⟨⟨h.1.1,?_⟩,h.2⟩;rcases h.1.2 with h0|⟨g,cap,cur,rfl,hb,hg,r⟩
 .exact .inl h0
 .exact .inr ⟨g,cap,cur,rfl,hb,(m.block g (tC.1 hg).1 (hG g rfl)).trans hg,r⟩
theorem yC.ext(h:yC F w base e sz enc v l)(m:zF w w'):yC F w' base e sz enc v l:=h.mods m (λ_ _ f=>f)
theorem yC.lt(h:yC F w base e sz enc v l):∀g,v.ownBlock=some g->base<=g/\g<w.heap.size:=h.1.lt
theorem yC.blocks(h:yC F w base e sz enc v l)(hG:∀g,v.ownBlock=some g->¬ G g):yC G w base e sz enc v l:=⟨h.1,hG⟩
theorem zA.of_grown{row:Option Nat}(h:w.grownBy w' row):zA (λk=>row=some k) w w':=⟨h.os,h.tape,h.output,h.size,λk hk hn=>h.block k hk (λe=>hn e.symm)⟩
theorem yC.made{cur:Array Value}{b cap:Nat}(hg:w.heap[b]? = some (.cells cur e (0,0)))(hb:base<=b)(hF:¬ F b)(hl:l.length<=cap)(hm:cap<=maxLen)(hs:cur.size=cap * sz)(ht:cur.toList.take (l.length * sz)=l.flatMap enc)
  (A0:∀x,(enc x).length=sz):yC F w base e sz enc (.slice (some ⟨b,0,none⟩) l.length cap) l :=
 ⟨⟨zCb A0 l,.inr ⟨b,cap,cur,rfl,hb,hg,hl,hm,hs,ht⟩⟩,λg h=>by simp[Value.ownBlock] at h;subst h;exact hF⟩
end
section
variable {P:Program}{α:Type}{F G:NP}{w:World}
theorem zF2(base:Nat)(t ty e:TypeId)(i:TypeInfo)(size:Nat)(ht:P.underlying t=some (.slice e))(hi:P.info? e=some i)
  (v:Value) (n:Nat) (xs:List Value) (A1:w.ownsRow base e size v n xs) (c:Nat):(Builtin.append_ #[t,t] ty #[v,.slice none 0 c]).run P w=.ok v w:=by
 rcases A1.2 with ⟨rfl,rfl⟩|⟨g,cap,cur,rfl,_,_,Ae,_⟩
 .simp[Builtin.append_,run_underlying ht,sizeOf,typeInfo,hi,Builtin.lenOf,Builtin.firstCells]
 .simp[Builtin.append_,run_underlying ht,sizeOf,typeInfo,hi,Builtin.lenOf,Builtin.firstCells,Ae,storeCells]
theorem zDl(base:Nat)(t ty e:TypeId)(i:TypeInfo)(z:Value)(size bytes:Nat)(ht:P.underlying t=some (.slice e))(hi:P.info? e=some i)(hz:i.zero=some z)
  (A2:i.size=size) (A8:i.bytes=bytes) (A9:z.cells.size=size) (A6:0<size) (enc:α->List Value) (A0:∀x,(enc x).length=size) (h1:∀x,∀u∈enc x,u.oneCell'=true)
  (v s:Value) (l m:List α) (A1:yC F w base e size enc v l) (hs:Sl G w size enc s m) (hb:(l.length+m.length) * bytes<=140737488355328) (Aa:0<bytes) (A3:base<=w.heap.size) (hn:¬ F w.heap.size) :
  ∃a' c' w',(Builtin.append_ #[t,t] ty #[v,s]).run P w=.ok (.slice a' (l.length+m.length) c') w'/\yC F w' base e size enc (.slice a' (l.length+m.length) c') (l++m)/\w.grownBy w' v.ownBlock /\
   ((Value.slice a' (l.length+m.length) c').ownBlock=v.ownBlock\/(Value.slice a' (l.length+m.length) c').ownBlock=some w.heap.size):=by
 have Af:l.length+m.length<=maxLen:=by
  have:=Nat.le_mul_of_pos_right (l.length+m.length) Aa;simp only[maxLen];omega
 obtain⟨a,cap,rfl,s1,s2,s3,s4⟩:=hs;have fin:∀(v':Value) (w':World),(Builtin.append_ #[t,t] ty #[v,.slice a m.length cap]).run P w=.ok v' w'->w'.ownsRow base e size v' (l.length+m.length) (l.flatMap enc++m.flatMap enc)->w.grownBy w' v.ownBlock ->
   (v'.ownBlock=v.ownBlock\/v'.ownBlock=some w.heap.size) ->
   ∃a' c' w',(Builtin.append_ #[t,t] ty #[v,.slice a m.length cap]).run P w=.ok (.slice a' (l.length+m.length) c') w'/\yC F w' base e size enc (.slice a' (l.length+m.length) c') (l++m)/\w.grownBy w' v.ownBlock /\
    ((Value.slice a' (l.length+m.length) c').ownBlock=v.ownBlock\/(Value.slice a' (l.length+m.length) c').ownBlock=some w.heap.size):=by
  intro v' w' hr ho hg Ac;have hO:yC F w' base e size enc v' (l++m):=by
   refine⟨by simpa using ho,λg hg'=>?_⟩;rcases Ac with h|h
   .exact A1.2 g (h.symm.trans hg')
   .rw[h] at hg';injection hg' with hg';rw[<- hg'];exact hn
  obtain⟨a',c',hv,_⟩:=hO.form;rw[uC] at hv;subst hv;exact⟨a',c',w',hr,hO,hg,Ac⟩
 cases a with
 | none =>
  have hm:m=[]:=by
   rcases s4 with h|⟨b,off,h,_⟩
   .exact h
   .cases h
  subst hm;exact fin v w (zF2 base t ty e i size ht hi v l.length _ A1.1 cap) (by simpa using A1.1) (World.grownBy.refl w _) (.inl rfl)
 | some ad =>
  have A4:∀j u,(m.flatMap enc)[j]? = some u->w.cell? (ad.add j)=some u:=by
   intro j u hu;rcases s4 with h|⟨b,off,h,Ah,hF,hc⟩
   .subst h;simp at hu
   .injection h with h;subst h;have hj:j<m.length * size:=by rw[<- zCb A0 m];exact (uA.1 hu).1
    have hq:j / size<m.length:=by rw[Nat.div_lt_iff_lt_mul A6];exact hj
    have hr:j % size<(enc m[j / size]).length:=by rw[A0];exact pE _ A6
    have Ad:j / size * size+j % size=j:=by rw[nK];exact Nat.div_add_mod j size
    have h1:=zDI A0 m (j / size) m[j / size] (j % size) (enc m[j / size])[j % size] (by simp[hq]) (by simp[hr]);rw[Ad,hu] at h1;injection h1 with h1;have h2:=hc (j / size) m[j / size] (by simp[hq]) (j % size) (enc m[j / size])[j % size] (by simp[hr]);rw[<- h1,p4,Ad] at h2;have A5:(⟨b,off,none⟩:Addr).add j=⟨b,off+j,none⟩:=by unfold Addr.add;split <;> simp_all
    rw[A5];exact h2
  obtain⟨v',w',hr,h2,h3,_,h5⟩:=run_append_own_at (P:=P) w base t ty e i z size bytes ht hi hz A2 A8 A9 A6 v l.length _ A1.1 ad m.length cap (m.flatMap enc) (zCb A0 m) A4
   (λu hu=>by obtain⟨x,_,hx⟩:=List.mem_flatMap.1 hu;exact h1 x u hx) Af hb A3
  exact fin v' w' hr h2 h3 h5
theorem zFN{ops:Array Oper}{rest:List Oper}{o:Oper}{a:Act}{Q:Exit->Act->World->Prop}(Ag:o.guard=none)(sx x:Operand)(t:TypeId)
  (ho:o.op=.call { callee:=.builtin .append,args:=#[sx,x],argTypes:=#[t,t] })
  (base:Nat) (e:TypeId) (i:TypeInfo) (z:Value) (size bytes:Nat) (ht:P.underlying t=some (.slice e)) (hi:P.info? e=some i) (hz:i.zero=some z)
  (A2:i.size=size) (A8:i.bytes=bytes) (A9:z.cells.size=size) (A6:0<size) (enc:α->List Value) (A0:∀x,(enc x).length=size) (h1:∀x,∀u∈enc x,u.oneCell'=true)
  (v s:Value) (l m:List α) (hv:a.eval sx=v) (hx:a.eval x=s) (A1:yC F w base e size enc v l) (hs:Sl G w size enc s m) (hb:(l.length+m.length) * bytes<=140737488355328) (Aa:0<bytes) (A3:base<=w.heap.size) (hn:¬ F w.heap.size)
  (h:∀a' c' w',yC F w' base e size enc (.slice a' (l.length+m.length) c') (l++m)->w.grownBy w' v.ownBlock ->
   ((Value.slice a' (l.length+m.length) c').ownBlock=v.ownBlock\/(Value.slice a' (l.length+m.length) c').ownBlock=some w.heap.size)->wpList P ops Q rest (a.put o.dst (.slice a' (l.length+m.length) c')) w') :
  wpList P ops Q (o :: rest) a w:=by
 refine wpList_plain Ag λK hK=>?_
 obtain⟨a',c',w',hr,h2,h3,h4⟩:=zDl (P:=P) base t o.type e i z size bytes ht hi hz A2 A8 A9 A6 enc A0 h1 v s l m A1 hs hb Aa A3 hn;unfold Oper.wp execOp;simp only[ho,resolve,invoke,builtin,Sem.run_bind,Sem.run_pure,Result.andThen_ok,pI,tS,nN,hv,hx,hr];exact hK _ _ (h a' c' w' h2 h3 h4)
end
end Go.Proofs.YtalpfcaakpgkmaaGreatDoor
