import Derived.Test.YteabpacpngaoaaaGreatDoorC02
import Derived.Lib.ConvBytes
import Derived.Lib.Hide
namespace Go.Proofs.YteabpacpngaoaaaGreatDoor
open Go.RowKit
def yC{α:Type}(F:Nat->Prop)(w:World)(base:Nat)(e:TypeId)(sz:Nat)(enc:α->List Value)(v:Value)(l:List α):Prop :=
 w.ownsRow base e sz v l.length (l.flatMap enc)/\∀g,v.ownBlock=some g->¬ F g
theorem zC4{α:Type}{sz:Nat}{enc:α->List Value}(henc:∀x,(enc x).length=sz):∀(l:List α) (i:Nat) (x:α) (j:Nat) (u:Value),l[i]? = some x->(enc x)[j]? = some u->(l.flatMap enc)[i * sz+j]? = some u
 | [],i,x,j,u,h,_=>by simp at h
 | y :: l,0,x,j,u,h,hu=>by
  simp at h;subst h;rw[List.flatMap_cons,Nat.zero_mul,Nat.zero_add,List.getElem?_append_left (List.getElem?_eq_some_iff.1 hu).1];exact hu
 | y :: l,i+1,x,j,u,h,hu=>by
  rw[List.flatMap_cons,List.getElem?_append_right (by rw[henc,Nat.add_mul];omega),henc];rw[show (i+1) * sz+j-sz=i * sz+j by rw[Nat.add_mul];omega];exact zC4 henc l i x j u (by simpa using h) hu
theorem zCP{α:Type}{sz:Nat}{enc:α->List Value}(henc:∀x,(enc x).length=sz)(l:List α):(l.flatMap enc).length=l.length * sz:=by
 induction l with
 | nil=>simp
 | cons x l ih=>rw[List.flatMap_cons,List.length_append,henc,ih,List.length_cons,Nat.add_mul];omega
section
variable {α:Type}{F G:Nat->Prop}{w w':World}{base:Nat}{e:TypeId}{sz:Nat}{enc:α->List Value}{v:Value}{l m:List α}
theorem yC.nil(F:Nat->Prop)(w:World)(base:Nat)(e:TypeId)(sz:Nat)(enc:α->List Value):yC F w base e sz enc (.slice none 0 0) ([]:List α) :=
 ⟨World.ownsRow_nil _ _ _ _,λg h=>by simp[Value.ownBlock] at h⟩
theorem yC.form(h:yC F w base e sz enc v l):∃a c,v=.slice a l.length c/\l.length<=c/\c<=maxLen:=by
 rcases h.1.2 with ⟨rfl,h0⟩|⟨g,cap,cur,rfl,_,_,h1,h2,_⟩
 .exact⟨none,0,by rw[h0],by omega,by simp[maxLen]⟩
 .exact⟨_,cap,rfl,h1,h2⟩
theorem yC.sl(h:yC F w base e sz enc v l)(henc:∀x,(enc x).length=sz)(hl:l.length<=140737488355328):Sl F w sz enc v l:=by
 rcases h.1.2 with ⟨rfl,h0⟩|⟨g,cap,cur,rfl,hb,hg,hcap,hm,hs,htake⟩
 .have:l=[]:=List.eq_nil_of_length_eq_zero h0;subst this;exact Sl.nil _ _ _ _
 .refine⟨_,cap,rfl,hcap,hm,hl,.inr ⟨g,0,rfl,(Array.getElem?_eq_some_iff.1 hg).1,h.2 g rfl,λi x hi j u hu=>?_⟩⟩;have:=h.1.cells (g:=g) rfl (i * sz+j) u (zC4 henc l i x j u hi hu);rw[Nat.zero_add];unfold Addr.add at this;split at this
  .rename_i hz;rw[hz];exact this
  .simpa using this
theorem yC.mods(h:yC F w base e sz enc v l)(m:zA G w w')(hG:∀g,v.ownBlock=some g->¬ G g):yC F w' base e sz enc v l:=by
 refine⟨⟨h.1.1,?_⟩,h.2⟩;rcases h.1.2 with h0|⟨g,cap,cur,rfl,hb,hg,r⟩
 .exact .inl h0
 .exact .inr ⟨g,cap,cur,rfl,hb,(m.block g (Array.getElem?_eq_some_iff.1 hg).1 (hG g rfl)).trans hg,r⟩
theorem yC.ext(h:yC F w base e sz enc v l)(m:zF w w'):yC F w' base e sz enc v l:=h.mods m (λ_ _ f=>f)
theorem yC.lt(h:yC F w base e sz enc v l):∀g,v.ownBlock=some g->base<=g/\g<w.heap.size:=h.1.lt
theorem yC.blocks(h:yC F w base e sz enc v l)(hG:∀g,v.ownBlock=some g->¬ G g):yC G w base e sz enc v l:=⟨h.1,hG⟩
theorem zA.of_grown{row:Option Nat}(h:w.grownBy w' row):zA (λk=>row=some k) w w':=⟨h.os,h.tape,h.output,h.size,λk hk hn=>h.block k hk (λe=>hn e.symm)⟩
theorem yC.made{cur:Array Value}{b cap:Nat}(hg:w.heap[b]? = some (.cells cur e (0,0)))(hb:base<=b)(hF:¬ F b)(hl:l.length<=cap)(hm:cap<=maxLen)(hs:cur.size=cap * sz)(ht:cur.toList.take (l.length * sz)=l.flatMap enc)
  (henc:∀x,(enc x).length=sz):yC F w base e sz enc (.slice (some ⟨b,0,none⟩) l.length cap) l :=
 ⟨⟨zCP henc l,.inr ⟨b,cap,cur,rfl,hb,hg,hl,hm,hs,ht⟩⟩,λg h=>by simp[Value.ownBlock] at h;subst h;exact hF⟩
end
section
variable {P:Program}{α:Type}{F G:Nat->Prop}{w:World}
theorem zFZ(base:Nat)(t ty e:TypeId)(i:TypeInfo)(size:Nat)(ht:P.underlying t=some (.slice e))(hi:P.info? e=some i)
  (v:Value) (n:Nat) (xs:List Value) (hown:w.ownsRow base e size v n xs) (c:Nat):(Builtin.append_ #[t,t] ty #[v,.slice none 0 c]).run P w=.ok v w:=by
 rcases hown.2 with ⟨rfl,rfl⟩|⟨g,cap,cur,rfl,_,_,hnc,_⟩
 .simp[Builtin.append_,run_underlying ht,sizeOf,typeInfo,hi,Builtin.lenOf,Builtin.firstCells]
 .simp[Builtin.append_,run_underlying ht,sizeOf,typeInfo,hi,Builtin.lenOf,Builtin.firstCells,hnc,storeCells]
theorem zDT(base:Nat)(t ty e:TypeId)(i:TypeInfo)(z:Value)(size bytes:Nat)(ht:P.underlying t=some (.slice e))(hi:P.info? e=some i)(hz:i.zero=some z)
  (hsize:i.size=size) (hby:i.bytes=bytes) (hzs:z.cells.size=size) (hsz:0<size) (enc:α->List Value) (henc:∀x,(enc x).length=size) (h1:∀x,∀u∈enc x,u.oneCell'=true)
  (v s:Value) (l m:List α) (hown:yC F w base e size enc v l) (hs:Sl G w size enc s m) (hb:(l.length+m.length) * bytes<=140737488355328) (hbp:0<bytes) (hbase:base<=w.heap.size) (hn:¬ F w.heap.size) :
  ∃a' c' w',(Builtin.append_ #[t,t] ty #[v,s]).run P w=.ok (.slice a' (l.length+m.length) c') w'/\yC F w' base e size enc (.slice a' (l.length+m.length) c') (l++m)/\w.grownBy w' v.ownBlock /\
   ((Value.slice a' (l.length+m.length) c').ownBlock=v.ownBlock\/(Value.slice a' (l.length+m.length) c').ownBlock=some w.heap.size):=by
 have h63:l.length+m.length<=maxLen:=by
  have:=Nat.le_mul_of_pos_right (l.length+m.length) hbp;simp only[maxLen];omega
 obtain⟨a,cap,rfl,s1,s2,s3,s4⟩:=hs;have fin:∀(v':Value) (w':World),(Builtin.append_ #[t,t] ty #[v,.slice a m.length cap]).run P w=.ok v' w'->w'.ownsRow base e size v' (l.length+m.length) (l.flatMap enc++m.flatMap enc)->w.grownBy w' v.ownBlock ->
   (v'.ownBlock=v.ownBlock\/v'.ownBlock=some w.heap.size) ->
   ∃a' c' w',(Builtin.append_ #[t,t] ty #[v,.slice a m.length cap]).run P w=.ok (.slice a' (l.length+m.length) c') w'/\yC F w' base e size enc (.slice a' (l.length+m.length) c') (l++m)/\w.grownBy w' v.ownBlock /\
    ((Value.slice a' (l.length+m.length) c').ownBlock=v.ownBlock\/(Value.slice a' (l.length+m.length) c').ownBlock=some w.heap.size):=by
  intro v' w' hr ho hg hat;have hO:yC F w' base e size enc v' (l++m):=by
   refine⟨by simpa using ho,λg hg'=>?_⟩;rcases hat with h|h
   .exact hown.2 g (h.symm.trans hg')
   .rw[h] at hg';injection hg' with hg';rw[<- hg'];exact hn
  obtain⟨a',c',hv,_⟩:=hO.form;rw[List.length_append] at hv;subst hv;exact⟨a',c',w',hr,hO,hg,hat⟩
 cases a with
 | none =>
  have hm:m=[]:=by
   rcases s4 with h|⟨b,off,h,_⟩
   .exact h
   .cases h
  subst hm;exact fin v w (zFZ base t ty e i size ht hi v l.length _ hown.1 cap) (by simpa using hown.1) (World.grownBy.refl w _) (.inl rfl)
 | some ad =>
  have hcells:∀j u,(m.flatMap enc)[j]? = some u->w.cell? (ad.add j)=some u:=by
   intro j u hu;rcases s4 with h|⟨b,off,h,hbl,hF,hc⟩
   .subst h;simp at hu
   .injection h with h;subst h;have hj:j<m.length * size:=by rw[<- zCP henc m];exact (List.getElem?_eq_some_iff.1 hu).1
    have hq:j / size<m.length:=by rw[Nat.div_lt_iff_lt_mul hsz];exact hj
    have hr:j % size<(enc m[j / size]).length:=by rw[henc];exact Nat.mod_lt _ hsz
    have hji:j / size * size+j % size=j:=by rw[Nat.mul_comm];exact Nat.div_add_mod j size
    have h1:=zC4 henc m (j / size) m[j / size] (j % size) (enc m[j / size])[j % size] (by simp[hq]) (by simp[hr]);rw[hji,hu] at h1;injection h1 with h1;have h2:=hc (j / size) m[j / size] (by simp[hq]) (j % size) (enc m[j / size])[j % size] (by simp[hr]);rw[<- h1,Nat.add_assoc,hji] at h2;have hplain:(⟨b,off,none⟩:Addr).add j=⟨b,off+j,none⟩:=by unfold Addr.add;split <;> simp_all
    rw[hplain];exact h2
  obtain⟨v',w',hr,h2,h3,_,h5⟩:=run_append_own_at (P:=P) w base t ty e i z size bytes ht hi hz hsize hby hzs hsz v l.length _ hown.1 ad m.length cap (m.flatMap enc) (zCP henc m) hcells
   (λu hu=>by obtain⟨x,_,hx⟩:=List.mem_flatMap.1 hu;exact h1 x u hx) h63 hb hbase
  exact fin v' w' hr h2 h3 h5
theorem zEy{ops:Array Oper}{rest:List Oper}{o:Oper}{a:Act}{Q:Exit->Act->World->Prop}(hgd:o.guard=none)(sx x:Operand)(t:TypeId)
  (ho:o.op=.call { callee:=.builtin .append,args:=#[sx,x],argTypes:=#[t,t] })
  (base:Nat) (e:TypeId) (i:TypeInfo) (z:Value) (size bytes:Nat) (ht:P.underlying t=some (.slice e)) (hi:P.info? e=some i) (hz:i.zero=some z)
  (hsize:i.size=size) (hby:i.bytes=bytes) (hzs:z.cells.size=size) (hsz:0<size) (enc:α->List Value) (henc:∀x,(enc x).length=size) (h1:∀x,∀u∈enc x,u.oneCell'=true)
  (v s:Value) (l m:List α) (hv:a.eval sx=v) (hx:a.eval x=s) (hown:yC F w base e size enc v l) (hs:Sl G w size enc s m) (hb:(l.length+m.length) * bytes<=140737488355328) (hbp:0<bytes) (hbase:base<=w.heap.size) (hn:¬ F w.heap.size)
  (h:∀a' c' w',yC F w' base e size enc (.slice a' (l.length+m.length) c') (l++m)->w.grownBy w' v.ownBlock ->
   ((Value.slice a' (l.length+m.length) c').ownBlock=v.ownBlock\/(Value.slice a' (l.length+m.length) c').ownBlock=some w.heap.size)->wpList P ops Q rest (a.put o.dst (.slice a' (l.length+m.length) c')) w') :
  wpList P ops Q (o :: rest) a w:=by
 refine wpList_plain hgd λK hK=>?_
 obtain⟨a',c',w',hr,h2,h3,h4⟩:=zDT (P:=P) base t o.type e i z size bytes ht hi hz hsize hby hzs hsz enc henc h1 v s l m hown hs hb hbp hbase hn;unfold Oper.wp execOp;simp only[ho,resolve,invoke,builtin,Sem.run_bind,Sem.run_pure,Result.andThen_ok,List.map_toArray,List.map_cons,List.map_nil,hv,hx,hr];exact hK _ _ (h a' c' w' h2 h3 h4)
end
end Go.Proofs.YteabpacpngaoaaaGreatDoor
