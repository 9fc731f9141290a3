import Derived.Test.YteabpacpngaoaaaGreatDoorC19
import Derived.Deep.AppendLies
import Derived.Deep.RegionHeld3
import Derived.Deep.DrawnRows
namespace Go.Proofs.YteabpacpngaoaaaGreatDoor
open Lib renaming hid->oh
set_option maxHeartbeats 2000000
set_option maxRecDepth 100000
section
open Go.RowKit
attribute [local go_sem ↓] Go.wp_at_zero Go.wp_at_succ
theorem zHY{P:Program}{α:Type}{F G:Nat->Prop}{w:World}{t e:TypeId}{z:Value}{sz bytes:Nat}{enc:α->List Value}(T:ElT P t e z sz bytes)(E:zCh enc sz)
  {ops:Array Oper} {o:Oper} {a:Act} {K:Act->World->Prop} {Q:Exit->Act->World->Prop} {X:Prop} (hgd:o.guard=none) (sx x:Operand)
  (ho:o.op=.call { callee:=.builtin .append,args:=#[sx,x],argTypes:=#[t,t] })
  (base:Nat) (v s:Value) (l m:List α) (hv:a.eval sx=v) (hx:a.eval x=s) (hown:yC F w base e sz enc v l) (hs:Sl G w sz enc s m) (hb:(l.length+m.length) * bytes<=140737488355328) (hbase:base<=w.heap.size) (hn:¬ F w.heap.size)
  (h:∀a' c' w',yC F w' base e sz enc (.slice a' (l.length+m.length) c') (l++m)->w.grownBy w' v.ownBlock ->
   ((Value.slice a' (l.length+m.length) c').ownBlock=v.ownBlock\/(Value.slice a' (l.length+m.length) c').ownBlock=some w.heap.size)->K (a.put o.dst (.slice a' (l.length+m.length) c')) w') :
  if Region.wanted o (yielded ops a.tmps)=true then Oper.wp P o a w K Q else X:=by
 have hw:Region.wanted o (yielded ops a.tmps)=true:=by simp[Region.wanted,hgd]
 rw[if_pos hw];obtain⟨i,hi,hz,hs1,hb1⟩:=zEz T.info;obtain⟨a',c',w',hr,h2,h3,h4⟩:=zDT (P:=P) base t o.type e i z sz bytes T.under hi hz hs1 hb1 T.zs T.sz0 enc E.len E.one v s l m hown hs hb T.by0 hbase hn;unfold Oper.wp execOp;simp only[ho,resolve,invoke,builtin,Sem.run_bind,Sem.run_pure,Result.andThen_ok,List.map_toArray,List.map_cons,List.map_nil,hv,hx,hr];exact h a' c' w' h2 h3 h4
theorem zPb(x:Nat × Nat × Nat):∀u∈zKi x,u.oneCell'=true:=by
 intro u hu;simp[zKi,zAL] at hu;rcases hu with rfl|rfl <;> rfl
section
variable {P F:Nat->Prop}{ad:Nat->Addr}{w w':World}{d bl:Nat}{gs ws:List Nat}{wv kv:Value}{D:zI}
def jT(w:World)(P:Nat->Prop)(d:Nat)(D:zI):Prop:=∃bl gs ws wv kv,DkR w d bl gs ws wv kv D/\∀k,P k ↔ dkF d bl gs ws wv kv k
theorem DkR.frz(h:DkR w d bl gs ws wv kv D)(o:Nat):w.frozen? ⟨d,o,none⟩=false:=by
 obtain⟨cap,_,_,hb,_⟩:=h.own;exact hb.frozen o
theorem zI0{F:Nat->Prop}{w w':World}(m:zA F w w'){d o:Nat}{v:Value}(h:w.cell? ⟨d,o,none⟩=some v/\w.frozen? ⟨d,o,none⟩=false)(hF:¬ F d):w'.cell? ⟨d,o,none⟩=some v/\w'.frozen? ⟨d,o,none⟩=false :=
 ⟨(m.cell (yH h.1) hF).trans h.1,(m.frozen (yH h.1) hF).trans h.2⟩
theorem zI1{w:World}{d o:Nat}{v:Value}(h:w.cell? ⟨d,o,none⟩=some v/\w.frozen? ⟨d,o,none⟩=false)(x:Obj):(w.alloc x).cell? ⟨d,o,none⟩=some v/\(w.alloc x).frozen? ⟨d,o,none⟩=false :=
 zI0 ((zA.refl (λ_=>False) w).alloc x) h (λf=>f)
theorem DkR.bd(h:DkR w d bl gs ws wv kv D):∀k,k∈d :: bl :: (gs++ws)->k<w.heap.size:=by
 obtain⟨cap,_,_,h1,rest,h2,_⟩:=h.own;intro k hk;simp only[List.mem_cons,List.mem_append] at hk;rcases hk with rfl|rfl|hk|hk
 .exact h1.lt
 .exact h2.lt
 .obtain⟨j,hj,e⟩:=List.getElem_of_mem hk;have hl:j<D.lasting.length:=by rw[h.lenL,<- h.lenB];exact hj
  exact (h.row j k _ (by rw[<- e];exact List.getElem?_eq_getElem hj) (List.getElem?_eq_getElem hl)).2.lt
 .obtain⟨j,hj,e⟩:=List.getElem_of_mem hk;have hl:j<D.waiting.length:=by rw[<- h.lenW];exact hj
  exact (h.wrow j k _ (by rw[<- e];exact List.getElem?_eq_getElem hj) (List.getElem?_eq_getElem hl)).2.2.lt
theorem DkR.bdF(h:DkR w d bl gs ws wv kv D):Bd (dkF d bl gs ws wv kv) w:=λk hk=>by
 rcases hk with hk|hk|hk
 .exact h.bd k hk
 .exact (h.wait.lt k hk).2
 .exact (h.keep.lt k hk).2
theorem DkR.add{w1 w2 w4:World}{o:Obj}{g2 i:Nat}{b:List UInt8}{v':Value}(h:DkR w1 d bl gs ws wv kv D)(hD:∀k,P k ↔ dkF d bl gs ws wv kv k)(m2:zF w1 w2)(hg2:w1.heap.size<=g2)(hg3:g2<w2.heap.size)(hB2:zH w2 g2 (yW b) 5)
  (hgrow:(w2.alloc o).grownBy w4 wv.ownBlock) (hown:yC (λk=>k∈d :: bl :: (gs++ws)) w4 0 146 2 zKi v' (((D.waiting.zip ws).map λp=>(p.1.1,D.size,p.2))++[(i,D.size,g2)]))
  (hat:v'.ownBlock=wv.ownBlock\/v'.ownBlock=some (w2.alloc o).heap.size) (hi:i<D.blocks) (hb:b.length=D.size) (hfew:D.waiting.length<1000000) :
  DkR (w4.setCell ⟨d,3,none⟩ v') d bl gs (ws++[g2]) v' kv { D with waiting:=D.waiting++[(i,b)] }/\Stp P (dkF d bl gs (ws++[g2]) v' kv) w1 (w4.setCell ⟨d,3,none⟩ v'):=by
 have hlt:=h.bd;have hwl:=h.wait.lt;have mg:=zA.of_grown hgrow;have hsz2:=m2.size;have hsz4:=mg.size;have hsa:(w2.alloc o).heap.size=w2.heap.size+1:=by simp
 rw[hsa] at hsz4 hat;have hdw:∀k,k∈d :: bl :: (gs++ws)->wv.ownBlock≠some k:=λk hk e=>h.wait.2 k e hk
 have mA:zA (λk=>wv.ownBlock=some k) w1 w4:=(m2.ext.trans ((zA.refl _ w2).alloc o)).trans mg;have hP1:∀k,k∈d :: bl :: (gs++ws)->P k:=λk hk=>(hD k).2 (.inl hk)
 have hmem:∀k,k∈d :: bl :: (gs++(ws++[g2]))->k∈d :: bl :: (gs++ws)\/k=g2:=λk hk=>by
  simp only[List.mem_cons,List.mem_append,List.not_mem_nil,or_false] at hk ⊢;rcases hk with h|h|h|h|h <;> simp[h]
 have mW:zA P w1 (w4.setCell ⟨d,3,none⟩ v'):=((mA.mono (λk hk=>(hD k).2 (.inr (.inl hk))))).setCell (p:=⟨d,3,none⟩) (.inr (hP1 d List.mem_cons_self)) _;have old:∀k,k<w1.heap.size->dkF d bl gs (ws++[g2]) v' kv k->P k:=λk hk hf=>by
  rcases hf with hf|hf|hf
  .rcases hmem k hf with hf|rfl
   .exact hP1 k hf
   .omega
  .rcases hat with e|e
   .exact (hD k).2 (.inr (.inl (e ▸ hf)))
   .rw[e] at hf;injection hf with hf;omega
  .exact (hD k).2 (.inr (.inr hf))
 have hv'lt:∀k,v'.ownBlock=some k->k<w4.heap.size:=λk hk=>(hown.lt k hk).2
 have hne3:∀k,k∈bl :: (gs++ws)->k≠d:=λk hk e=>(List.nodup_cons.1 h.nodup).1 (e ▸ hk)
 have keepB:∀(k:Nat) (c:Array Value) (t:TypeId),k∈bl :: (gs++ws)->zH w1 k c t->zH (w4.setCell ⟨d,3,none⟩ v') k c t:=λk c t hk hb=>(hb.mods mA (hdw k (List.mem_cons_of_mem _ hk))).set_other (hne3 k hk) _
 obtain⟨cap,a1,a2,a3,rest,a4,a5⟩:=h.own;have hg2n:∀k,k∈d :: bl :: (gs++ws)->k≠g2:=λk hk e=>by have:=hlt k hk;omega
 have nd:(d :: bl :: (gs++(ws++[g2]))).Nodup:=by
  have e:d :: bl :: (gs++(ws++[g2]))=(d :: bl :: (gs++ws))++[g2]:=by simp
  rw[e,List.nodup_append];exact⟨h.nodup,by simp,λx hx y hy e=>hg2n x hx (by simp at hy;rw[e,hy])⟩
 have hB4:zH (w4.setCell ⟨d,3,none⟩ v') g2 (yW b) 5:=by
  refine ((hB2.alloc o).mods mg (λe=>?_)).set_other (λe=>hg2n d List.mem_cons_self e.symm) _;have:=(hwl g2 e).2;omega
 refine⟨⟨⟨cap,a1,a2,?_,rest,keepB bl _ _ List.mem_cons_self a4,a5⟩,h.lenB,h.lenL,by simp[h.lenW],?k1,?k2,h.few2,?_,λi g b h1 h2=>⟨(h.row i g b h1 h2).1,keepB g _ _ (List.mem_cons_of_mem _ (List.mem_append_left _ (List.mem_of_getElem? h1))) (h.row i g b h1 h2).2⟩,?_,nd,h.b8,h.b256,h.s256,h.s1024,by simp;omega⟩,
  ⟨mW,old,λk hf=>?_⟩⟩
 case k1 =>
  have h1:=(h.keep.mods mA (λg hg e=>h.kw g hg e)).mods (zA.at (λk=>k=d) w4 d 3 v' rfl) (λg hg e=>h.keep.2 g hg (e ▸ List.mem_cons_self));exact⟨h1.1,λg hg hm=>by
   rcases hmem g hm with hm|rfl
   .exact h1.2 g hg hm
   .have:=(h.keep.lt g hg).2;omega⟩
 case k2 =>
  intro g hg e';rcases hat with e|e
  .exact h.kw g hg (e ▸ e')
  .rw[e] at e';injection e' with e';have:=(h.keep.lt g hg).2;omega
 .have:=(a3.mods mA (hdw d List.mem_cons_self)).set 3 v';simpa using this
 .have hno:∀g,v'.ownBlock=some g->g≠d:=λg hg e=>hown.2 g hg (e ▸ List.mem_cons_self)
  have e1:((D.waiting++[(i,b)]).zip (ws++[g2])).map (λp=>(p.1.1,D.size,p.2))=((D.waiting.zip ws).map λp=>(p.1.1,D.size,p.2))++[(i,D.size,g2)]:=by
   rw[List.zip_append h.lenW.symm];simp
  show yC _ _ 0 _ 2 zKi v' (((D.waiting++[(i,b)]).zip (ws++[g2])).map (λp=>(p.1.1,D.size,p.2)));rw[e1];have h1:=hown.mods (zA.at (λk=>k=d) w4 d 3 v' rfl) hno;refine⟨h1.1,λg hg hm=>?_⟩;rcases hmem g hm with hm|rfl
  .exact h1.2 g hg hm
  .rcases hat with e|e
   .have:=(hwl g (e ▸ hg)).2;omega
   .rw[e] at hg;injection hg with hg;omega
 .intro j g p h1 h2;by_cases hj:j<D.waiting.length
  .rw[List.getElem?_append_left (by rw[h.lenW];exact hj)] at h1;rw[List.getElem?_append_left hj] at h2;have hr:=h.wrow j g p h1 h2;exact⟨hr.1,hr.2.1,keepB g _ _ (List.mem_cons_of_mem _ (List.mem_append_right _ (List.mem_of_getElem? h1))) hr.2.2⟩
  .rw[List.getElem?_append_right (by rw[h.lenW];omega)] at h1;rw[List.getElem?_append_right (by omega)] at h2;have hj2:=(List.getElem?_eq_some_iff.1 h2).1;have hj0:j-D.waiting.length=0:=by simp at hj2;omega
   rw[h.lenW,hj0] at h1;rw[hj0] at h2;simp at h1 h2;subst h1 h2;exact⟨hi,hb,hB4⟩
 .rw[show (w4.setCell ⟨d,3,none⟩ v').heap.size=w4.heap.size by simp[World.setCell]];rcases hf with hf|hf|hf
  .rcases hmem k hf with hf|rfl
   .have:=hlt k hf;omega
   .omega
  .exact hv'lt k hf
  .have:=(h.keep.lt k hf).2;omega
theorem zA.ofDrew{G:Nat->Prop}(m:zA G w.drew w'):zA G w w':=⟨m.os,m.tape,m.output,m.size,m.block⟩
theorem zKk{D:zI}(i:Nat)(b:List UInt8)(hl:D.lit=false):({ D with waiting:=D.waiting++[(i,b)] }:zI).burns.2=D.wrote i b:=by
 unfold zI.burns zI.wrote;simp[hl]
theorem DkR.far(h:DkR w d bl gs ws wv kv D){Q:Nat->Prop}(m:zA Q w w')(hQ:∀k,dkF d bl gs ws wv kv k->¬ Q k):DkR w' d bl gs ws wv kv D:=by
 obtain⟨cap,a1,a2,a3,rest,a4,a5⟩:=h.own;exact⟨⟨cap,a1,a2,a3.mods m (hQ d (.inl List.mem_cons_self)),rest,a4.mods m (hQ bl (.inl (List.mem_cons_of_mem _ List.mem_cons_self))),a5⟩,h.lenB,h.lenL,h.lenW,
  h.keep.mods m (λg hg=>hQ g (.inr (.inr hg))),h.kw,h.few2,h.wait.mods m (λg hg=>hQ g (.inr (.inl hg))),
  λi g b h1 h2=>⟨(h.row i g b h1 h2).1,(h.row i g b h1 h2).2.mods m (hQ g (.inl (List.mem_cons_of_mem _ (List.mem_cons_of_mem _ (List.mem_append_left _ (List.mem_of_getElem? h1))))))⟩,
  λi g p h1 h2=>⟨(h.wrow i g p h1 h2).1,(h.wrow i g p h1 h2).2.1,(h.wrow i g p h1 h2).2.2.mods m (hQ g (.inl (List.mem_cons_of_mem _ (List.mem_cons_of_mem _ (List.mem_append_right _ (List.mem_of_getElem? h1))))))⟩,
  h.nodup,h.b8,h.b256,h.s256,h.s1024,h.few⟩
theorem jT.far(h:jT w P d D){Q:Nat->Prop}(m:zA Q w w')(hQ:∀k,P k->¬ Q k):jT w' P d D:=by
 obtain⟨bl,gs,ws,wv,kv,h1,h2⟩:=h;exact⟨bl,gs,ws,wv,kv,h1.far m (λk hk=>hQ k ((h2 k).2 hk)),h2⟩
theorem Tryz.elT:ElT Tryz.prog 97 146 (.agg #[.int .i64 0,.slice none 0 0]) 2 32:=⟨Tryz.underlying97,by kernel_rfl,rfl,by decide,by decide⟩
end
section
variable {P F:Nat->Prop}{ad:Nat->Addr}{w w':World}{d bl:Nat}{gs ws:List Nat}{wv kv:Value}{D:zI}
theorem zME(hL:yG F ad w)(hP:∀k,P k->F k)(h:DkR w d bl gs ws wv kv D)(hD:∀k,P k ↔ dkF d bl gs ws wv kv k)(i:Nat)(hi:i<D.blocks)(ho:D.off=false)(hl:D.lit=false)(bv:Value)(b:List UInt8)(hb:Sl F w 1 zZ bv b)(hbl:b.length=D.size)(hfew:D.waiting.length<1000000) :
  Calls Tryz.prog 70 #[.pointer (some ⟨d,0,none⟩),.int .i64 (i:Int),bv] w λe w'=>∃P' F',e=.returned .nilIface/\jT w' P' d (D.wrote i b)/\zY P P' F F' ad w w':=by
 have hon:D.on i=none:=by
  unfold zI.on zI.check;rw[if_neg (by omega),ho];rfl
 have HL:=oh hL;have HD:=oh h;have HB:=oh hb;have HP:=oh hP;have HDD:=oh hD;have hsz:D.size<=1024:=h.s1024;have hsz2:256<=D.size:=h.s256;obtain⟨a,cap,rfl,i1,i2,i3,i4⟩:=hb;unfold maxLen at i2;have HBL:=oh hbl;rw[hbl] at i1 i3 ⊢;clear h hL i4 hbl hP hD
 go_enter Tryz.func70, Tryz.ntmps70
 go_wp2_with fail;refine (zKj HL.out HD.out _ i).mono ?_;rintro e w1 ⟨ev,rfl,hE,hm⟩;rw[hon] at hE;cases hE
 have HD1:=oh (HD.out.at hm);have c1:=HD1.out.sizeC;have c3:=HD1.out.wvC.1;have hd:=yH c1;have HM1:=oh hm;have HB1:=oh (HB.out.mods hm.ext);clear hm;go_wp2_with fail;have hBs:Sl (λ_=>False) w1 1 zZ (.slice a D.size cap) b:=by
  have:=HB1.out.anti' (Q:=λ_=>False) (λ_ f=>f.elim);rwa [HBL.out] at this
 have HBS:Hid (Sl (λ_=>False) w1.drew 1 zZ (.slice a D.size cap) b):=oh hBs;have HW1:Hid (yC (λk=>k∈d :: bl :: (gs++ws)) w1.drew 0 146 2 zKi wv ((D.waiting.zip ws).map λp=>(p.1.1,D.size,p.2))):=oh HD1.out.wait;have HNW:Hid (∀k,k∈d :: bl :: (gs++ws)->k<w1.heap.size):=oh HD1.out.bd;have HLEN:Hid (((D.waiting.zip ws).map λp=>(p.1.1,D.size,p.2)).length=D.waiting.length):=oh (by simp[HD1.out.lenW]);clear hBs;have hdw:¬ wv.ownBlock=some d:=λe=>HD1.out.wait.2 d e List.mem_cons_self
 have f3:w1.frozen? ⟨d,3,none⟩=false:=HD1.out.frz 3;go_region_law
  (first
   | (go_simp;go_at_call 81;refine (zDI (F:=λ_=>False) (λ_ f=>f.elim) _ b HBS.out (by have:=HBL.out;omega) (by have:=HBL.out;omega)).mono ?_;rintro e w2 ⟨g2,rfl,hg2,hg3,hB2,hm2⟩;rw[HBL.out];simp only[zAL];obtain⟨k2,k3⟩:=zI0 (w:=w1.drew) hm2 ⟨c3,f3⟩ (λf=>f);have k6:=λx:Obj=>(zI1 ⟨k2,k3⟩ x).1)
   | (refine zHY (enc:=zKi) (F:=λk=>k∈d :: bl :: (gs++ws)) (G:=λ_=>False) Tryz.elT ⟨λ_=>rfl,zPb⟩ (by rfl) _ _ (by rfl) 0 wv (.slice (some ⟨w2.heap.size,0,none⟩) 1 1) ((D.waiting.zip ws).map λp=>(p.1.1,D.size,p.2)) [(i,D.size,g2)] (by rfl) (by rfl) ((HW1.out.ext hm2).ext ((zA.refl _ _).alloc _)) (Sl.one (x:=(i,D.size,g2)) (t := 146) (fz:=(0,0)) (zR rfl) (λf=>f)) (by have:=HLEN.out;simp only[this];simp;omega) (Nat.zero_le _) (λf=>by have:=HNW.out _ f;have:=hm2.size;simp at *;omega) ?_;intro a' c' w4 hown hgrow hat;obtain⟨k4,k5⟩:=zI0 (zA.of_grown hgrow) (zI1 ⟨k2,k3⟩ _) hdw))
 all_goals
  simp only[List.length_map,List.length_zip,List.length_singleton] at hown hat;have HA:=oh (DkR.add HD1.out HDD.out (w2:=w2) hm2.ofDrew hg2 hg3 hB2 hgrow hown hat hi HBL.out hfew);clear hown hat hgrow k2 k3 k4 k5 k6 hB2;go_wp2_with fail;refine (zHX HA.out.1 hl).mono ?_;rintro e w5 ⟨rfl,hD5,hm5⟩;have HD5:=oh hD5;have HM5:=oh hm5;clear hD5 hm5;go_wp2_with fail;go_ret;have n1:=zY.ext (P:=P) HL.out HP.out HM1.out;have n2:=zY.of n1.env HP.out HA.out.2;have n3:=zY.same n2.env n2.sub (HM5.out.mono (λk hk=>.inl (by rw[hk];exact List.mem_cons_self)));exact⟨_,_,rfl,⟨bl,gs,_,_,kv,zKk i b hl ▸ HD5.out,λk=>Iff.rfl⟩,(n1.trans n2).trans n3⟩
end
end
section
open Go.RowKit
def qK(s:zS)(bv:Value):List Value:=[.int .i64 s.page.kind,.int .i64 s.page.id,.int .u64 (s.page.gen:Int),bv,.bool s.full,.bool s.dirty,.bool s.used,.int .i64 (s.pins:Int)]
def zBi(w:World)(sb:Nat)(l:List zS)(bvs:List Value):Prop :=
 ∃cs:Array Value,zH w sb cs 344 /\ cs.size=l.length * 8/\∀(i:Nat) (s:zS) (bv:Value),l[i]? = some s->bvs[i]? = some bv->∀(j:Nat) (v:Value),(qK s bv)[j]? = some v->cs[i * 8+j]? = some v
structure CaR(F:Nat->Prop)(w:World)(d c sb:Nat)(bvs:List Value)(Pd:Nat->Prop)(C:qJ):Prop where
 own:zH w c #[.pointer (some ⟨d,0,none⟩),.slice (some ⟨sb,0,none⟩) C.slots.length C.slots.length,.int .i64 (C.hand:Int)] 205
 row:zBi w sb C.slots bvs
 lenB:bvs.length=C.slots.length
 n64:C.slots.length<=64
 body:∀(i:Nat) (s:zS) (bv:Value),C.slots[i]? = some s->bvs[i]? = some bv->Sl F w 1 zZ bv s.page.body
 disk:jT w Pd d C.disk
 cd:¬ Pd c
 sd:¬ Pd sb
 ne:c≠sb
section
variable {P P' F F' Pd Pd':Nat->Prop}{ad:Nat->Addr}{w w':World}{d c sb:Nat}{bvs:List Value}{C:qJ}{D:zI}
theorem jT.at(h:jT w P d D)(m:zF w w'):jT w' P d D:=by
 obtain⟨bl,gs,ws,wv,kv,h1,h2⟩:=h;exact⟨bl,gs,ws,wv,kv,h1.at m,h2⟩
theorem jT.bd(h:jT w P d D):Bd P w:=by
 obtain⟨bl,gs,ws,wv,kv,h1,h2⟩:=h;exact λk hk=>h1.bdF k ((h2 k).1 hk)
theorem zBi.at{l:List zS}(h:zBi w sb l bvs)(m:zA P w w')(hn:¬ P sb):zBi w' sb l bvs:=by
 obtain⟨cs,h1,h2⟩:=h;exact⟨cs,h1.mods m hn,h2⟩
theorem CaR.at(h:CaR F w d c sb bvs Pd C)(m:zF w w'):CaR F w' d c sb bvs Pd C :=
 ⟨h.own.ext m,h.row.at m (λf=>f),h.lenB,h.n64,λi s bv h1 h2=>(h.body i s bv h1 h2).ext m,h.disk.at m,h.cd,h.sd,h.ne⟩
theorem CaR.bvAt(h:CaR F w d c sb bvs Pd C){i:Nat}{s:zS}(hi:C.slots[i]? = some s):∃a n cap,bvs[i]? = some (.slice a n cap):=by
 have hb:bvs[i]? = some (bvs[i]'(by rw[h.lenB];exact (List.getElem?_eq_some_iff.1 hi).1)):=List.getElem?_eq_getElem _;obtain⟨a,cap,e,_⟩:=h.body i s _ hi hb;exact⟨a,_,cap,by rw[hb,e]⟩
theorem CaR.cell8(h:CaR F w d c sb bvs Pd C){i:Nat}{s:zS}{bv:Value}(hi:C.slots[i]? = some s)(hb:bvs[i]? = some bv) :
  w.cell? ⟨sb,i * 8,none⟩=some (.int .i64 s.page.kind)/\w.cell? ⟨sb,i * 8+1,none⟩=some (.int .i64 s.page.id)/\w.cell? ⟨sb,i * 8+2,none⟩=some (.int .u64 (s.page.gen:Int))/\w.cell? ⟨sb,i * 8+3,none⟩=some bv /\
  w.cell? ⟨sb,i * 8+4,none⟩=some (.bool s.full)/\w.cell? ⟨sb,i * 8+5,none⟩=some (.bool s.dirty)/\w.cell? ⟨sb,i * 8+6,none⟩=some (.bool s.used)/\w.cell? ⟨sb,i * 8+7,none⟩=some (.int .i64 (s.pins:Int)):=by
 obtain⟨cs,h1,_,h3⟩:=h.row;have g:=λ(j:Nat) (v:Value) (hv:(qK s bv)[j]? = some v)=>h1.cell (h3 i s bv hi hb j v hv)
 exact⟨g 0 _ rfl,g 1 _ rfl,g 2 _ rfl,g 3 _ rfl,g 4 _ rfl,g 5 _ rfl,g 6 _ rfl,g 7 _ rfl⟩
theorem CaR.c3(h:CaR F w d c sb bvs Pd C):w.cell? ⟨c,0,none⟩=some (.pointer (some ⟨d,0,none⟩))/\w.cell? ⟨c,1,none⟩=some (.slice (some ⟨sb,0,none⟩) C.slots.length C.slots.length)/\w.cell? ⟨c,2,none⟩=some (.int .i64 (C.hand:Int)) :=
 ⟨h.own.cell rfl,h.own.cell rfl,h.own.cell rfl⟩
theorem jT.geo(h:jT w P d D) : Calls Tryz.prog 45 #[.pointer (some ⟨d,0,none⟩)] w λe w'=>e=.returned (.agg #[.int .i64 D.blocks,.int .i64 D.size])/\zF w w':=by
 obtain⟨bl,gs,ws,wv,kv,h1,h2⟩:=h;exact zN6 h1
theorem jT.lim(h:jT w P d D):8<=D.blocks/\D.blocks<=256/\256<=D.size/\D.size<=1024/\D.waiting.length<=1000000/\D.lasting.length=D.blocks:=by
 obtain⟨bl,gs,ws,wv,kv,h1,h2⟩:=h;exact⟨h1.b8,h1.b256,h1.s256,h1.s1024,h1.few,h1.lenL⟩
theorem Tryz.geoF0(x y:Value)(w:World):(Instr.field 24 (.agg #[x,y]) 0).run Tryz.prog w=.ok x w:=by kernel_rfl
theorem Tryz.geoF1(x y:Value)(w:World):(Instr.field 24 (.agg #[x,y]) 1).run Tryz.prog w=.ok y w:=by kernel_rfl
theorem zMF(h:CaR F w d c sb bvs Pd C) : Calls Tryz.prog 220 #[.pointer (some ⟨c,0,none⟩)] w λe w'=>e=.returned (.pointer (some ⟨d,0,none⟩))/\w=w':=by
 obtain⟨c0,_,_⟩:=h.c3;clear h
 go_enter Tryz.func220, Tryz.ntmps220
 go_wp2
 go_ret;exact⟨rfl,rfl⟩
def qJ.check(C:qJ)(id:Int):Option Err:=if id<0\/(C.disk.blocks:Int)<=id then some ([zB2 id],2) else none
theorem zGX(hL:yG F ad w)(h:CaR F w d c sb bvs Pd C)(op:ByteArray)(id:Int) :
  Calls Tryz.prog 225 #[.pointer (some ⟨c,0,none⟩),.string op,.int .i64 id] w λe w'=>∃ev,e=.returned ev/\zBw F ad w' ev (C.check id)/\zF w w':=by
 obtain⟨c0,_,_⟩:=h.c3;have g2:=hL.c2;have HL:=oh hL;have HC:=oh h;obtain⟨b8,b256,_⟩:=h.disk.lim;have gf0:=Tryz.geoF0;clear h hL;by_cases h2:id<0
 .have HR:Hid (C.check id=some ([zB2 id],2)):=oh (by unfold qJ.check;rw[if_pos (.inl h2)])
  go_enter Tryz.func225, Tryz.ntmps225
  go_wp2_with fail;refine (zAG HL.out _ _ _ _ 2 (.sent 2 (by decide) (by decide))).mono ?_;rintro e w1 ⟨f,rfl,hE,hm⟩;have HE:=oh hE;clear hE;go_wp2
  go_ret;exact⟨_,rfl,by rw[HR.out];exact⟨f,rfl,HE.out⟩,hm⟩
 .have h2':0<=id:=by omega
  by_cases h3:(C.disk.blocks:Int)<=id
  .have HR:Hid (C.check id=some ([zB2 id],2)):=oh (by unfold qJ.check;rw[if_pos (.inr h3)]);clear h2
   go_enter Tryz.func225, Tryz.ntmps225
   go_wp2_with fail;refine (HC.out.disk.geo).mono ?_;rintro e w1 ⟨rfl,hm1⟩;have HM1:=oh hm1;have g2':=(HL.out.mods hm1.ext).c2;have HL1:=oh (HL.out.mods hm1.ext);clear hm1;go_wp2_with fail;refine (zAG HL1.out _ _ _ _ 2 (.sent 2 (by decide) (by decide))).mono ?_;rintro e w2 ⟨f,rfl,hE,hm⟩;have HE:=oh hE;clear hE;go_wp2
   go_ret;exact⟨_,rfl,by rw[HR.out];exact⟨f,rfl,HE.out⟩,HM1.out.trans hm⟩
  .have HR:Hid (C.check id=none):=oh (by unfold qJ.check;rw[if_neg (by omega)]);have h3':id<(C.disk.blocks:Int):=by omega
   clear h2 h3
   go_enter Tryz.func225, Tryz.ntmps225
   go_wp2_with fail;refine (HC.out.disk.geo).mono ?_;rintro e w1 ⟨rfl,hm1⟩;have HM1:=oh hm1;clear hm1;go_wp2
   go_ret;exact⟨_,rfl,by rw[HR.out];rfl,HM1.out⟩
def AtP(C:qJ)(id:Nat)(e:Ending):Prop :=
 (∃(i:Nat) (s:zS),C.slots[i]? = some s/\s.has id=true/\e=.returned (.int .i64 (i:Int)))\/((∀(j:Nat) (t:zS),C.slots[j]? = some t->t.has id=false)/\e=.returned (.int .i64 (-1)))
theorem zHC{s:zS}{id:Nat}(h:s.full=false\/s.page.id≠(id:Int)):s.has id=false:=by
 cases hb:s.has id with
 | false=>rfl
 | true=>obtain⟨h1,h2⟩:=yO.1 hb;rcases h with h|h;(rw[h] at h1;cases h1);exact absurd h2 h
theorem zHZ(h:CaR F w d c sb bvs Pd C)(id:Nat) : Calls Tryz.prog 226 #[.pointer (some ⟨c,0,none⟩),.int .i64 (id:Int)] w λe w'=>zF w w'/\AtP C id e:=by
 obtain⟨_,c1,_⟩:=h.c3;have HC:=oh h;have hn:=h.n64;obtain⟨n,hnn⟩:∃n,n=C.slots.length:=⟨_,rfl⟩;rw[<- hnn] at c1 hn;have HN:=oh hnn;clear h hnn
 go_enter Tryz.func226, Tryz.ntmps226
 go_wp2
 go_loopg [12] n (λm i wr=>∃k:Nat,Hid (zF w wr)/\k+m=n/\i=.int .i64 k/\Hid (∀(j:Nat) (t:zS),j<k->C.slots[j]? = some t->t.has id=false))
 case atStart=>exact⟨0,oh (zA.refl _ _),by omega,rfl,oh (by omega)⟩
 case round =>
  obtain⟨k,HM,hk,rfl,HQ⟩:=hrel;by_cases hlt:k<n
  .obtain⟨s,hs⟩:∃s,C.slots[k]? = some s:=⟨_,List.getElem?_eq_getElem (by rw[<- HN.out];exact hlt)⟩;obtain⟨ba,bn,bc,hb⟩:=HC.out.bvAt hs;obtain⟨e0,e1,e2,e3,e4,e5,e6,e7⟩:=(HC.out.at HM.out).cell8 hs hb;have HS:=oh hs;clear hs hb;have step:s.has id=false->Hid (∀(j:Nat) (t:zS),j<k+1->C.slots[j]? = some t->t.has id=false):=λhh=>oh (λj t hj ht=>by
    by_cases e:j=k
    .subst e;rw[HS.out] at ht;injection ht with ht;rw[<- ht];exact hh
    .exact HQ.out j t (by omega) ht)
   cases hf:s.full with
   | false =>
    rw[hf] at e4;have HX:=oh (step (zHC (.inl hf)));clear step hf;go_wp2
    go_roundg (gk-1)
    case measure=>omega
    case rel=>exact⟨k+1,oh (HM.out.alloc _),by omega,by go_num,HX.out⟩
   | true =>
    rw[hf] at e4;by_cases he:s.page.id=(id:Int)
    .have HX:Hid (s.has id=true):=oh (yO.2 ⟨hf,he⟩);rw[he] at e1;clear step hf he;go_wp2
     go_ret;exact⟨HM.out.alloc _,.inl ⟨k,s,HS.out,HX.out,rfl⟩⟩
    .have HX:=oh (step (zHC (.inr he)));have he2:(s.page.id == (id:Int))=false:=beq_eq_false_iff_ne.2 he;clear step hf he;go_wp2
     go_roundg (gk-1)
     case measure=>omega
     case rel=>exact⟨k+1,oh (HM.out.alloc _),by omega,by go_num,HX.out⟩
  .go_wp2
   go_ret;exact⟨HM.out,.inr ⟨λj t ht=>HQ.out j t (by have:=(List.getElem?_eq_some_iff.1 ht).1;have:=HN.out;omega) ht,rfl⟩⟩
end
end
section
open Go.RowKit
attribute [local go_sem ↓] Go.wp_at_zero Go.wp_at_succ
section
variable {P P' F F' Pd Pd':Nat->Prop}{ad:Nat->Addr}{w w':World}{d c sb:Nat}{bvs:List Value}{C:qJ}{D:zI}
theorem zE{w w':World}(m:zF w w'){b o:Nat}{v:Value}(h:w.cell? ⟨b,o,none⟩=some v):w'.cell? ⟨b,o,none⟩=some v:=(m.cell (yH h) (λf=>f)).trans h
theorem zAC(s:zS)(bv:Value):(qK s bv).length=8:=rfl
theorem zBi.setAt{l:List zS}(h:zBi w sb l bvs){i:Nat}{s:zS}{bv:Value}(hi:l[i]? = some s)(hb:bvs[i]? = some bv)(j0:Nat)(v:Value)(s':zS)
  (hs:∀(j:Nat) (u:Value),(qK s' bv)[j]? = some u->(j=j0/\u=v)\/(j≠j0/\(qK s bv)[j]? = some u)) (hj0:j0<8):zBi (w.setCell ⟨sb,i * 8+j0,none⟩ v) sb (l.set i s') bvs:=by
 obtain⟨cs,h1,h2,h3⟩:=h;have hil:=(List.getElem?_eq_some_iff.1 hi).1;refine⟨_,h1.set (i * 8+j0) v,by simpa using h2,λk t bt ht hbt j u hu=>?_⟩;have hj:j<8:=by have:=(List.getElem?_eq_some_iff.1 hu).1;rw[zAC] at this;exact this
 rcases zK ht with ⟨rfl,rfl⟩|⟨hne,ht⟩
 .rw[hb] at hbt;injection hbt with hbt;subst hbt;rcases hs j u hu with ⟨rfl,rfl⟩|⟨hjne,hu⟩
  .rw[Array.getElem?_setIfInBounds_self_of_lt (by omega)]
  .rw[Array.getElem?_setIfInBounds_ne (by omega)];exact h3 k s bv hi hb j u hu
 .rw[Array.getElem?_setIfInBounds_ne (by omega)];exact h3 k t bt ht hbt j u hu
theorem zBi.set8{l:List zS}(h:zBi w sb l bvs){i:Nat}(hil:i<l.length)(s':zS)(bv':Value):zBi (w.setCells sb (i * 8) (qK s' bv')) sb (l.set i s') (bvs.set i bv'):=by
 obtain⟨cs,h1,h2,h3⟩:=h;have hb:=zH.setMany (qK s' bv') (i * 8) w cs h1 (by rw[zAC];omega);refine⟨_,hb,?_,λk t bt ht hbt j u hu=>?_⟩
 .simp only[List.size_toArray,List.length_append,List.length_take,List.length_drop,zAC,Array.length_toList,List.length_set];omega
 .have hj:j<8:=by have:=(List.getElem?_eq_some_iff.1 hu).1;rw[zAC] at this;exact this
  have hl:(cs.toList.take (i * 8)).length=i * 8:=by rw[List.length_take,Array.length_toList];omega
  rw[List.getElem?_toArray,List.append_assoc];rcases zK ht with ⟨rfl,rfl⟩|⟨hne,ht⟩
  .rcases zK hbt with ⟨_,rfl⟩|⟨hne,_⟩
   .rw[List.getElem?_append_right (by rw[hl];omega),hl,show k * 8+j-k * 8=j by omega,List.getElem?_append_left (by rw[zAC];exact hj)];exact hu
   .exact absurd rfl hne
  .have hbt2:bvs[k]? = some bt:=by
    rcases zK hbt with ⟨e,_⟩|⟨_,hbt⟩
    .exact absurd e hne
    .exact hbt
   have h4:=h3 k t bt ht hbt2 j u hu;by_cases hk:k<i
   .rw[List.getElem?_append_left (by rw[hl];omega),List.getElem?_take,if_pos (by omega),Array.getElem?_toList];exact h4
   .rw[List.getElem?_append_right (by rw[hl];omega),hl,List.getElem?_append_right (by rw[zAC];omega),zAC,List.getElem?_drop,Array.getElem?_toList];rw[show i * 8+8+(k * 8+j-i * 8-8)=k * 8+j by omega];exact h4
theorem zKl(h:CaR F w d c sb bvs Pd C){i:Nat}{s:zS}(hi:C.slots[i]? = some s)(hw:s.wet=false) :
  Calls Tryz.prog 156 #[.pointer (some ⟨c,0,none⟩),.int .i64 (i:Int)] w λe w'=>e=.returned .nilIface/\w=w':=by
 obtain⟨_,c1,_⟩:=h.c3;obtain⟨ba,bn,bc,hb⟩:=h.bvAt hi;obtain⟨_,_,_,_,e4,e5,_,_⟩:=h.cell8 hi hb;have hlt:i<C.slots.length:=(List.getElem?_eq_some_iff.1 hi).1;have hn:=h.n64;obtain⟨n,hnn⟩:∃n,n=C.slots.length:=⟨_,rfl⟩;rw[<- hnn] at c1 hn hlt;clear h hb hi hnn;have h1:(0:Int)<=(i:Int):=by omega
 have h2:(i:Int)<(n:Int):=by omega
 cases hf:s.full with
 | false =>
  rw[hf] at e4;clear hf hw
  go_enter Tryz.func156, Tryz.ntmps156
  go_wp2
  go_ret;exact⟨rfl,rfl⟩
 | true =>
  have hd:s.dirty=false:=by simpa[zS.wet,hf] using hw
  rw[hf] at e4;rw[hd] at e5;clear hf hw hd
  go_enter Tryz.func156, Tryz.ntmps156
  go_wp2
  go_ret;exact⟨rfl,rfl⟩
def caF(c sb:Nat)(Pd:Nat->Prop):Nat->Prop:=λk=>Pd k\/(k=c\/k=sb)
theorem jT.write(hL:yG F ad w)(hP:∀k,P k->F k)(h:jT w P d D)(i:Nat)(hi:i<D.blocks)(ho:D.off=false)(hl:D.lit=false)(bv:Value)(b:List UInt8)(hb:Sl F w 1 zZ bv b)(hbl:b.length=D.size)(hfew:D.waiting.length<1000000) :
  Calls Tryz.prog 70 #[.pointer (some ⟨d,0,none⟩),.int .i64 (i:Int),bv] w λe w'=>∃P' F',e=.returned .nilIface/\jT w' P' d (D.wrote i b)/\zY P P' F F' ad w w':=by
 obtain⟨bl,gs,ws,wv,kv,h1,h2⟩:=h;exact zME hL hP h1 h2 i hi ho hl bv b hb hbl hfew
theorem zY.cellK(n:zY P P' F F' ad w w'){b o:Nat}{v:Value}(h:w.cell? ⟨b,o,none⟩=some v)(hb:¬ P b):w'.cell? ⟨b,o,none⟩=some v:=(n.stp.mods.cell (yH h) hb).trans h
theorem CaR.disk'(h:CaR F w d c sb bvs Pd C)(hP:∀k,caF c sb Pd k->F k)(n:zY Pd Pd' F F' ad w w')(hD:jT w' Pd' d D):CaR F' w' d c sb bvs Pd' { C with disk:=D }:=by
 have hc:=h.own.lt;obtain⟨cs,h1,h2⟩:=h.row;have hs:=h1.lt;exact⟨n.blk h.own h.cd,⟨cs,n.blk h1 h.sd,h2⟩,h.lenB,h.n64,λi s bv h1 h2=>n.sl (λk hk=>hP k (.inl hk)) (h.body i s bv h1 h2),hD,n.not hc h.cd,n.not hs h.sd,h.ne⟩
theorem zKm[zW](hL:yG F ad w)(hP:∀k,caF c sb Pd k->F k)(h:CaR F w d c sb bvs Pd C)(hI:yI C){i:Nat}{s:zS}(hi:C.slots[i]? = some s)(hf:s.full=true)(hd:s.dirty=true)(hfew:C.disk.waiting.length<1000000) :
  Calls Tryz.prog 156 #[.pointer (some ⟨c,0,none⟩),.int .i64 (i:Int)] w λe w'=>∃Pd' F',e=.returned .nilIface/\CaR F' w' d c sb bvs Pd' (zA8 C i s)/\zY (caF c sb Pd) (caF c sb Pd') F F' ad w w':=by
 obtain⟨c0,c1,_⟩:=h.c3;obtain⟨ba,bn,bc,hb⟩:=h.bvAt hi;obtain⟨e0,e1,e2,e3,e4,e5,_,_⟩:=h.cell8 hi hb;obtain⟨hp0,hp1,hok⟩:=hI.page i s hi hf;obtain⟨id,hid⟩:∃id:Nat,s.page.id=(id:Int):=⟨s.page.id.toNat,by omega⟩;have hlt:i<C.slots.length:=(List.getElem?_eq_some_iff.1 hi).1;have hn:=h.n64;obtain⟨n,hnn⟩:∃n,n=C.slots.length:=⟨_,rfl⟩;rw[<- hnn] at c1 hn hlt;rw[hf] at e4;rw[hd] at e5;rw[hid] at e1;have gf1:=Tryz.geoF1;have HCd:=oh (h.at (zA.refl _ w).drew);have HLd:=oh (hL.mods (zA.refl _ w).drew);have HL0:=oh hL;have HB:=oh (h.body i s _ hi hb);have HOK:=oh hok;have HI:=oh hi;have HBV:=oh hb;have HF:=oh hf;have HD:=oh hd;have HID:=oh hid;have HINV:=oh hI;have HP:=oh hP;have h1:(0:Int)<=(i:Int):=by omega
 have h2:(i:Int)<(n:Int):=by omega
 clear h hL hb hi hnn hp0 hp1 hok hf hd hid hI hP
 go_enter Tryz.func156, Tryz.ntmps156
 go_wp2_with fail;go_region_held3 (λw'=>w'.cell? ⟨c,0,none⟩=some (.pointer (some ⟨d,0,none⟩))/\w'.cell? ⟨sb,i * 8,none⟩=some (.int .i64 s.page.kind)/\w'.cell? ⟨sb,i * 8+1,none⟩=some (.int .i64 id)/\w'.cell? ⟨sb,i * 8+2,none⟩=some (.int .u64 (s.page.gen:Int))/\w'.cell? ⟨sb,i * 8+3,none⟩=some (.slice ba bn bc))
  (first|exact⟨zE hm1 c0,zE hm1 e0,zE hm1 e1,zE hm1 e2,zE hm1 e3⟩|exact⟨zE hm2 (zE hm1 c0),zE hm2 (zE hm1 e0),zE hm2 (zE hm1 e1),zE hm2 (zE hm1 e2),zE hm2 (zE hm1 e3)⟩|go_keep)
  (first
   | (go_at_call 45;refine (HCd.out.disk.geo).mono ?_;rintro e w1 ⟨rfl,hm1⟩)
   | (go_at_call 136;rw[<- HID.out];refine (zHB (HLd.out.mods hm1.ext) s.page (.slice ba bn bc) (HB.out.ext hm1.ofDrew) C.disk.size HOK.out.2 HOK.out.1).mono ?_;rintro e w2 ⟨qa,qc,rfl,hown,hm2⟩))
 have HM2:Hid (zF w w2):=oh (hm1.ofDrew.trans hm2);have HC2:=oh (HCd.out.at (hm1.trans hm2));have HS2:=oh (hown.sl jE.len (by rw[jW _ _ (by have:=yZ HOK.out.1;omega)];have:=HINV.out.s1024;omega));have HL2:=oh ((HLd.out.mods hm1.ext).mods hm2.ext);have k0:=zE hm2 (zE hm1 c0);have k1:=zE hm2 (zE hm1 e1);have k5:=zE hm2 (zE hm1 e5);have HN:Hid (¬ Pd c/\¬ Pd sb):=oh ⟨HC2.out.cd,HC2.out.sd⟩;have hL0:=HL2.out;have HL2d:=oh (HL2.out.mods (zA.refl _ w2).drew);have HC2d:=oh (HC2.out.at (zA.refl _ w2).drew);have HS2d:=oh (HS2.out.mods (zA.refl _ w2).drew);have HB1:Hid (id<C.disk.blocks):=oh (by have:=(HINV.out.page i s HI.out HF.out).2.1;rw[HID.out] at this;exact Int.ofNat_lt.1 this);clear hL0 hm1 hm2 hown c0 e0 e1 e2 e3 e4 e5 gf1;go_wp2_with fail;go_region_held3 (λw'=>w'.cell? ⟨c,0,none⟩=some (.pointer (some ⟨d,0,none⟩))/\w'.cell? ⟨sb,i * 8+1,none⟩=some (.int .i64 id))
  (first|exact⟨n3.cellK (w:=w2.drew) k0 HN.out.1,n3.cellK (w:=w2.drew) k1 HN.out.2⟩|go_keep)
  (first
   | (go_at_call 70;refine (jT.write HL2d.out (λk hk=>HP.out k (.inl hk)) HC2d.out.disk id HB1.out HINV.out.off HINV.out.lit _ (vH s.page C.disk.size) HS2d.out (jW _ _ (by have:=yZ HOK.out.1;omega)) hfew).mono ?_;rintro e w3 ⟨Pd',F',rfl,hD3,n3⟩))
 have p5:=n3.cellK (w:=w2.drew) k5 HN.out.2;have HPF:Hid (∀k,Pd k->F k):=oh (λk hk=>HP.out k (.inl hk));have HC3:=oh (HC2d.out.disk' HP.out n3 hD3);obtain⟨cs,hrow,hsz,hpt⟩:=HC3.out.row;have f5:=hrow.frozen (i * 8+5);have HN3:=oh n3;clear hrow hsz hpt n3 hD3 k0 k1 k5;go_wp2_with fail;refine (wrap_nil _ _).mono ?_;rintro e w5 ⟨rfl,rfl⟩;go_wp2_with fail;go_ret;have hs':=HC3.out.row.setAt (w:=w3) HI.out HBV.out 5 (.bool false) { s with dirty:=false } (λj u hu=>by
  match j,hu with
  | 0,hu=>exact .inr ⟨by decide,hu⟩
  | 1,hu=>exact .inr ⟨by decide,hu⟩
  | 2,hu=>exact .inr ⟨by decide,hu⟩
  | 3,hu=>exact .inr ⟨by decide,hu⟩
  | 4,hu=>exact .inr ⟨by decide,hu⟩
  | 5,hu=>exact .inl ⟨rfl,by simpa[qK] using hu.symm⟩
  | 6,hu=>exact .inr ⟨by decide,hu⟩
  | 7,hu=>exact .inr ⟨by decide,hu⟩) (by decide)
 have mS:zA (λk=>k=sb) w3 (w3.setCell ⟨sb,i * 8+5,none⟩ (.bool false)):=zA.at _ _ sb _ _ rfl;have hC3:=HC3.out;have hbdP:=hC3.disk.bd;have n1:=zY.ext (P:=caF c sb Pd) (HL2d.out.anti (λ_ h=>h)) HP.out (zA.refl _ w2.drew);have m0:zF w w2.drew:=HM2.out.drew;have nA:=HN3.out.part (Q:=λk=>k=c\/k=sb) (λk hk=>HP.out k (.inr hk)) HL2d.out;have nB:=zY.same nA.env nA.sub (mS.mono (λk hk=>.inr (.inr hk)));have n0:zY (caF c sb Pd) (caF c sb Pd) F F ad w w2.drew:=⟨Stp.ext (λk hk=>HL0.out.lt k (HP.out k hk)) m0,HP.out,λ_ h=>h,λ_ _ h=>h,HL2d.out⟩;refine⟨Pd',F',rfl,?_,(n0.trans nA).trans nB⟩;have hcb:c≠sb:=hC3.ne;refine⟨by simpa[zA8] using (hC3.own.mods mS hcb),hs',by simpa[zA8] using hC3.lenB,by simpa[zA8] using hC3.n64,λj t bt ht hbt=>?_,?_,hC3.cd,hC3.sd,hC3.ne⟩
 .have mF:zA F' w3 _:=mS.mono (λk hk=>nA.sub k (.inr (.inr hk)));rcases zK ht with ⟨rfl,rfl⟩|⟨_,ht⟩
  .exact (hC3.body j s bt HI.out hbt).mods mF
  .exact (hC3.body j t bt ht hbt).mods mF
 .have:=hC3.disk.far mS (λk hk e=>hC3.sd (e ▸ hk));simpa[zA8,HID.out] using this
end
end
section
open Go.RowKit
section
variable {P P' F F' Pd Pd':Nat->Prop}{ad:Nat->Addr}{w w':World}{d c sb:Nat}{bvs:List Value}{C:qJ}{D:zI}
theorem CaR.bdP(h:CaR F w d c sb bvs Pd C):Bd (caF c sb Pd) w:=λk hk=>by
 obtain⟨cs,h1,_⟩:=h.row;rcases hk with hk|rfl|rfl
 .exact h.disk.bd k hk
 .exact h.own.lt
 .exact h1.lt
def Sub(C C':qJ):Prop:=∀(j:Nat) (t:zS),C'.slots[j]? = some t->t.full=true->∃t',C.slots[j]? = some t'/\t'.full=true/\t'.page=t.page
theorem Sub.refl(C:qJ):Sub C C:=λ_ t h1 h2=>⟨t,h1,h2,rfl⟩
theorem Sub.trans{C C1 C2:qJ}(a:Sub C C1)(b:Sub C1 C2):Sub C C2:=λj t h1 h2=>by
 obtain⟨t1,k1,k2,k3⟩:=b j t h1 h2;obtain⟨t2,l1,l2,l3⟩:=a j t1 k1 k2;exact⟨t2,l1,l2,l3.trans k3⟩
theorem Sub.no{C C':qJ}(a:Sub C C'){id:Nat}(h:∀(j:Nat) (t:zS),C.slots[j]? = some t->t.has id=false)(j:Nat)(t:zS)(ht:C'.slots[j]? = some t):t.has id=false:=by
 cases hb:t.has id with
 | false=>rfl
 | true =>
  obtain⟨h1,h2⟩:=yO.1 hb;obtain⟨t',k1,k2,k3⟩:=a j t ht h1;have:=h j t' k1;rw[show t'.has id=true from yO.2 ⟨k2,by rw[k3];exact h2⟩] at this;cases this
theorem Sub.set{C:qJ}{i:Nat}{s s':zS}(hi:C.slots[i]? = some s)(hf:s'.full=true->s.full=true/\s.page=s'.page)(x:Nat)(D:zI):Sub C { disk:=D,slots:=C.slots.set i s',hand:=x }:=λj t ht hft=>by
 rcases zK ht with ⟨rfl,rfl⟩|⟨_,ht⟩
 .exact⟨s,hi,(hf hft).1,(hf hft).2⟩
 .exact⟨t,ht,hft,rfl⟩
theorem zGY[zW](hL:yG F ad w)(hP:∀k,caF c sb Pd k->F k)(h:CaR F w d c sb bvs Pd C)(hI:yI C)(hc:C.cost<=1000000){i:Nat}{s:zS}(hi:C.slots[i]? = some s) :
  Calls Tryz.prog 156 #[.pointer (some ⟨c,0,none⟩),.int .i64 (i:Int)] w λe w'=>∃Pd' F' C' s',e=.returned .nilIface/\CaR F' w' d c sb bvs Pd' C'/\Sim C C'/\zY (caF c sb Pd) (caF c sb Pd') F F' ad w w' /\
   C'.slots[i]? = some s'/\s'.wet=false/\C'.slots.length=C.slots.length/\C'.hand=C.hand/\s'.used=s.used/\Sub C C'/\∀j,j≠i->C'.slots[j]? = C.slots[j]?:=by
 cases hw:s.wet with
 | false =>
  refine (zKl h hi hw).mono ?_;rintro e w' ⟨h1,rfl⟩;exact⟨Pd,F,C,s,h1,h,Sim.refl hI,zY.refl hL hP,hi,hw,rfl,rfl,rfl,Sub.refl _,λ_ _=>rfl⟩
 | true =>
  have hf:s.full=true:=by simp[zS.wet] at hw;exact hw.1
  have hd:s.dirty=true:=by simp[zS.wet] at hw;exact hw.2
  have hfew:C.disk.waiting.length<1000000:=by
   have:0<C.slots.countP (·.wet):=List.countP_pos_iff.2 ⟨s,List.mem_of_getElem? hi,hw⟩;unfold qJ.cost at hc;omega
  exact (zKm hL hP h hI hi hf hd hfew).mono λe w' ⟨Pd',F',h1,h2,h3⟩ =>
   ⟨Pd',F',zA8 C i s,{ s with dirty:=false },h1,h2,zNr hI hi hf hd,h3,zCN hi,by simp[zS.wet],by simp[zA8],rfl,rfl,Sub.set (s':={ s with dirty:=false }) hi (λh=>⟨h,rfl⟩) _ _,λj hj=>by simp[zA8,List.getElem?_set_ne (λe=>hj e.symm)]⟩
theorem CaR.used(h:CaR F w d c sb bvs Pd C)(hP:∀k,caF c sb Pd k->F k){i:Nat}{s:zS}(hi:C.slots[i]? = some s)(u:Bool) :
  CaR F (w.setCell ⟨sb,i * 8+6,none⟩ (.bool u)) d c sb bvs Pd { C with slots:=C.slots.set i { s with used:=u } }:=by
 obtain⟨ba,bn,bc,hb⟩:=h.bvAt hi;have mS:zA (λk=>k=sb) w (w.setCell ⟨sb,i * 8+6,none⟩ (.bool u)):=zA.at _ _ sb _ _ rfl;have hs':=h.row.setAt hi hb 6 (.bool u) { s with used:=u } (λj v hv=>by
  match j,hv with
  | 0,hu=>exact .inr ⟨by decide,hu⟩
  | 1,hu=>exact .inr ⟨by decide,hu⟩
  | 2,hu=>exact .inr ⟨by decide,hu⟩
  | 3,hu=>exact .inr ⟨by decide,hu⟩
  | 4,hu=>exact .inr ⟨by decide,hu⟩
  | 5,hu=>exact .inr ⟨by decide,hu⟩
  | 6,hu=>exact .inl ⟨rfl,by simpa[qK] using hu.symm⟩
  | 7,hu=>exact .inr ⟨by decide,hu⟩) (by decide)
 have mF:zA F w _:=mS.mono (λk hk=>hP k (.inr (.inr hk)));exact⟨by simpa using h.own.mods mS h.ne,hs',by simpa using h.lenB,by simpa using h.n64,λj t bt ht hbt=>by
   rcases zK ht with ⟨rfl,rfl⟩|⟨_,ht⟩
   .exact (h.body j s bt hi hbt).mods mF
   .exact (h.body j t bt ht hbt).mods mF,h.disk.far mS (λk hk e=>h.sd (e ▸ hk)),h.cd,h.sd,h.ne⟩
theorem CaR.hand'(h:CaR F w d c sb bvs Pd C)(hP:∀k,caF c sb Pd k->F k)(x:Nat):CaR F (w.setCell ⟨c,2,none⟩ (.int .i64 (x:Int))) d c sb bvs Pd { C with hand:=x }:=by
 have mS:zA (λk=>k=c) w (w.setCell ⟨c,2,none⟩ (.int .i64 (x:Int))):=zA.at _ _ c _ _ rfl;have mF:zA F w _:=mS.mono (λk hk=>hP k (.inr (.inl hk)));exact⟨by simpa using h.own.set 2 (.int .i64 (x:Int)),h.row.at mS (λe=>h.ne e.symm),h.lenB,h.n64,λj t bt ht hbt=>(h.body j t bt ht hbt).mods mF,h.disk.far mS (λk hk e=>h.cd (e ▸ hk)),h.cd,h.sd,h.ne⟩
theorem CaR.slot'(h:CaR F w d c sb bvs Pd C)(hP:∀k,caF c sb Pd k->F k){i:Nat}(hi:i<C.slots.length)(s':zS)(bv:Value)(hb:Sl F w 1 zZ bv s'.page.body) :
  CaR F (w.setCells sb (i * 8) (qK s' bv)) d c sb (bvs.set i bv) Pd { C with slots:=C.slots.set i s' }:=by
 have mS:zA (λk=>k=sb) w (w.setCells sb (i * 8) (qK s' bv)):=zA.setMany (F:=λk=>k=sb) (.inr rfl) _ _ _ (zA.refl _ w);have mF:zA F w _:=mS.mono (λk hk=>hP k (.inr (.inr hk)));exact⟨by simpa using h.own.mods mS h.ne,h.row.set8 hi s' bv,by simpa using h.lenB,by simpa using h.n64,λj t bt ht hbt=>by
   rcases zK ht with ⟨rfl,rfl⟩|⟨hne,ht⟩
   .rcases zK hbt with ⟨_,rfl⟩|⟨hne,_⟩
    .exact hb.mods mF
    .exact absurd rfl hne
   .rcases zK hbt with ⟨e,_⟩|⟨_,hbt⟩
    .exact absurd e hne
    .exact (h.body j t bt ht hbt).mods mF,h.disk.far mS (λk hk e=>h.sd (e ▸ hk)),h.cd,h.sd,h.ne⟩
theorem CaR.frz(h:CaR F w d c sb bvs Pd C):(∀o,w.frozen? ⟨c,o,none⟩=false)/\∀o,w.frozen? ⟨sb,o,none⟩=false:=by
 obtain⟨cs,h1,_⟩:=h.row;exact⟨h.own.frozen,h1.frozen⟩
theorem zHa[zW](hL:yG F ad w)(hP:∀k,caF c sb Pd k->F k)(h:CaR F w d c sb bvs Pd C)(hI:yI C)(hc:C.cost<=1000000) :
  Calls Tryz.prog 227 #[.pointer (some ⟨c,0,none⟩)] w λe w'=>∃(i:Nat) (s:zS) (bvs':List Value) (Pd' F':Nat->Prop) (C':qJ),e=.returned (.tuple #[.int .i64 (i:Int),.nilIface])/\CaR F' w' d c sb bvs' Pd' C'/\Sim C C' /\
   zY (caF c sb Pd) (caF c sb Pd') F F' ad w w'/\C'.slots[i]? = some s/\s.full=false/\Sub C C':=by
 obtain⟨_,c1,_⟩:=h.c3;have HC:=oh h;have HL:=oh hL;have HP:=oh hP;have HI:=oh hI;have HCO:=oh hc;have hn:=h.n64;have hn3:=hI.n3;have hh:=hI.hand;obtain⟨n,hnn⟩:∃n,n=C.slots.length:=⟨_,rfl⟩;rw[<- hnn] at c1 hn hn3 hh;have HN:=oh hnn;clear h hnn hL hP hI hc
 go_enter Tryz.func227, Tryz.ntmps227
 go_wp2
 go_loopg [21] n (λm i wr=>∃k:Nat,Hid (zF w wr)/\k+m=n/\i=.int .i64 k)
 case atStart=>exact⟨0,oh (zA.refl _ _),by omega,rfl⟩
 case round =>
  obtain⟨k,HM,hk,rfl⟩:=hrel;by_cases hlt:k<n
  .obtain⟨s,hs⟩:∃s,C.slots[k]? = some s:=⟨_,List.getElem?_eq_getElem (by rw[<- HN.out];exact hlt)⟩;obtain⟨ba,bn,bc,hb⟩:=HC.out.bvAt hs;obtain⟨e0,e1,e2,e3,e4,e5,e6,e7⟩:=(HC.out.at HM.out).cell8 hs hb;have HS:=oh hs;clear hs hb;cases hf:s.full with
   | false =>
    rw[hf] at e4;have HF:=oh hf;clear hf;go_wp2
    go_ret2
    exact⟨k,s,bvs,Pd,F,C,rfl,HC.out.at (HM.out.alloc _),Sim.refl HI.out,zY.ext HL.out HP.out (HM.out.alloc _),HS.out,HF.out,Sub.refl _⟩
   | true =>
    rw[hf] at e4;clear hf;go_wp2
    go_roundg (gk-1)
    case measure=>omega
    case rel=>exact⟨k+1,oh (HM.out.alloc _),by omega,by go_num⟩
  .obtain rfl:k=n:=by omega
   obtain⟨wA,rfl⟩:∃x,x=wr:=⟨_,rfl⟩;obtain⟨gA,rfl⟩:∃x,x=gk:=⟨_,rfl⟩;obtain⟨hand,hha⟩:∃x,x=C.hand:=⟨_,rfl⟩;rw[<- hha] at hh;have HH:=oh hha;clear hha hk hlt;go_wp2
   go_loopg [33] (2 * k) (λm i wr=>∃(q:Nat) (C1:qJ),q+m=2 * k/\q<=k/\i=.int .i64 q/\Hid (CaR F wr d c sb bvs Pd C1)/\Hid (Sim C C1)/\Hid (zY (caF c sb Pd) (caF c sb Pd) F F ad w wr) /\
    Hid (C1.slots.length=k/\C1.hand=hand)/\Hid (Sub C C1)/\Hid (∀j s,j<q->C1.slots[(hand+j) % k]? = some s->s.used=false))
   case atStart=>exact⟨0,C,by omega,by omega,rfl,oh (HC.out.at HM.out),oh (Sim.refl HI.out),oh (zY.ext HL.out HP.out HM.out),oh ⟨HN.out.symm,HH.out.symm⟩,oh (Sub.refl _),oh (by omega)⟩
   case round =>
    obtain⟨q,C1,hq,hqk,rfl,HC1,HS1,HX1,HL1,HSub,HQ⟩:=hrel;obtain⟨i,hi⟩:∃i,i=(hand+q) % k:=⟨_,rfl⟩;have hik:i<k:=by rw[hi];exact Nat.mod_lt _ (by omega)
    obtain⟨s,hs⟩:∃s,C1.slots[i]? = some s:=⟨_,List.getElem?_eq_getElem (by rw[HL1.out.1];exact hik)⟩;obtain⟨ba,bn,bc,hb⟩:=HC1.out.bvAt hs;obtain⟨e0,e1,e2,e3,e4,e5,e6,e7⟩:=HC1.out.cell8 hs hb;obtain⟨d0,d1,d2⟩:=HC1.out.c3;obtain⟨z0,z1⟩:=HC1.out.frz;rw[HS1.out.inv.pins i s hs] at e7;rw[HL1.out.1] at d1;rw[HL1.out.2] at d2;have t1:((hand:Int)+(q:Int)) % (k:Int)=(i:Int):=by rw[hi];simp
    have t2:((hand:Int)+(q:Int)).tmod (k:Int)=(i:Int):=by rw[Int.tmod_eq_emod_of_nonneg (by omega)];exact t1
    have t3:(q:Int)<2 * (k:Int):=by omega
    have HI2:=oh hi;have HS:=oh hs;have HBV:=oh hb;clear hi hs hb;cases hu:s.used with
    | true =>
     rw[hu] at e6;have HU:=oh hu;have hqk2:q<k:=by
      rcases Nat.lt_or_ge q k with h|h
      .exact h
      .exfalso;have h0:=HQ.out 0 s (by omega) (by rw[<- HS.out,HI2.out,show q=k by omega];simp);rw[hu] at h0;cases h0
     clear hu;go_wp2
     go_roundg (gk-1)
     case measure=>omega
     case rel=>exact⟨q+1,{ C1 with slots:=C1.slots.set i { s with used:=false } },by omega,by omega,by go_num,oh (HC1.out.used HP.out HS.out false),oh (HS1.out.trans (zKZ HS1.out.inv HS.out false)),
       oh (HX1.out.trans (zY.same HX1.out.env HP.out (zA.at _ _ sb _ _ (.inr (.inr rfl))))),oh ⟨by simpa using HL1.out.1,HL1.out.2⟩,oh (HSub.out.trans (Sub.set (s':={ s with used:=false }) HS.out (λh=>⟨h,rfl⟩) _ _)),oh (λj t hj ht=>by
        rcases zK ht with ⟨_,rfl⟩|⟨hne,ht⟩
        .rfl
        .by_cases e:j=q
         .subst e;exact absurd HI2.out.symm hne
         .exact HQ.out j t (by omega) ht)⟩
    | false =>
     rw[hu] at e6;clear hu;go_wp2_with fail;refine (zGY HX1.out.env HP.out HC1.out HS1.out.inv (Nat.le_trans HS1.out.cost HCO.out) HS.out).mono ?_;rintro e w5 ⟨Pd',F',C2,s2,rfl,hC2,hS2,hX2,hs2,hw2,hl2,hh2,hu2,ho2,_⟩;have HO2:=oh ho2;obtain⟨f0,f1,f2,f3,f4,f5,f6,f7⟩:=hC2.cell8 hs2 HBV.out;obtain⟨g0,g1,g2⟩:=hC2.c3;obtain⟨y0,y1⟩:=hC2.frz;have hcs:=hC2.ne;have hsc:=Ne.symm hcs;have HC2:=oh hC2;have HS2:=oh hS2;have HX2:=oh hX2;have HSS:=oh hs2;have HWW:=oh hw2;have HLL:=oh hl2;obtain⟨i1,hi1⟩:∃i1,i1=(i+1) % k:=⟨_,rfl⟩;have t4:((i:Int)+1) % (k:Int)=(i1:Int):=by rw[hi1];simp
     have t5:((i:Int)+1).tmod (k:Int)=(i1:Int):=by rw[Int.tmod_eq_emod_of_nonneg (by omega)];exact t4
     have hi1k:i1<k:=by rw[hi1];exact Nat.mod_lt _ (by omega)
     clear hC2 hS2 hX2 hs2 hw2 hl2 hh2 hu2 ho2 hi1 e0 e1 e2 e3 e4 e5 e6 e7 d0 d1 d2 z0 z1 t1 t2;go_wp2_with fail;go_ret2
     have hl5:i<C2.slots.length:=(List.getElem?_eq_some_iff.1 HSS.out).1;have q1:=HC2.out.hand' HX2.out.sub i1;have q2:=q1.slot' HX2.out.sub (i:=i) hl5 qM (.slice none 0 0) (Sl.nil _ _ _ _);have q3:zA (caF c sb Pd') w5 ((w5.setCell ⟨c,2,none⟩ (.int .i64 (i1:Int))).setCells sb (i * 8) (qK qM (.slice none 0 0))):=zA.setMany (.inr (.inr (.inr rfl))) _ _ _ (zA.at _ _ c _ _ (.inr (.inl rfl)));have q4:Sim C2 { C2 with hand:=i1,slots:=C2.slots.set i qM }:=(zIv HS2.out.inv HSS.out HWW.out).trans (zPF (zIv HS2.out.inv HSS.out HWW.out).inv (by simp;have:=HLL.out;have:=HL1.out.1;omega));exact⟨i,qM,_,Pd',F',_,rfl,q2,(HS1.out.trans HS2.out).trans q4,(HX1.out.trans HX2.out).trans (zY.same HX2.out.env HX2.out.sub q3),zCN HSS.out,rfl,(HSub.out.trans HO2.out).trans (Sub.set (s':=qM) HSS.out (λh=>by cases h) _ _)⟩
end
end
section
open Go.RowKit
attribute [local go_sem ↓] Go.wp_at_zero Go.wp_at_succ
section
variable {P P' F F' Pd Pd':Nat->Prop}{ad:Nat->Addr}{w w':World}{d c sb:Nat}{bvs:List Value}{C:qJ}{D:zI}
theorem zEX(hF:Bd F w)(p:zX)(bv:Value)(hb:Sl F w 1 zZ bv p.body)(hl:p.body.length<=100000) :
  Calls Tryz.prog 228 #[qA p bv] w λe w'=>∃pv,e=.returned (qA p pv)/\Sl F w' 1 zZ pv p.body/\zF w w':=by
 obtain⟨pk,pi,pg,l⟩:=p;obtain⟨a,cap,rfl,i1,i2,i3,i4⟩:=id hb;simp only at *;unfold qA;simp only;have hmk:=zHS (P:=Tryz.prog) 87 5 (.int .u8 0) 1 Tryz.underlying87 Tryz.mkB rfl l.length (by omega) (by omega);have hcp:∃W,(Builtin.copy_ #[87,87] 3 #[.slice (some ⟨w.heap.size+2,0,none⟩) l.length l.length,.slice a l.length cap]).run Tryz.prog (((w.alloc (.cells #[.int .i64 pk,.int .i64 pi,.int .u64 (pg:Int),.slice a l.length cap] 192)).alloc (.cells #[.int .i64 0,.int .i64 0,.int .u64 0,.slice none 0 0] 192)).alloc (.cells (Array.replicate l.length (.int .u8 0)) 5))=.ok (goInt l.length) W /\
   zH W w.heap.size #[.int .i64 pk,.int .i64 pi,.int .u64 (pg:Int),.slice a l.length cap] 192 /\ zH W (w.heap.size+1) #[.int .i64 0,.int .i64 0,.int .u64 0,.slice none 0 0] 192 /\ zH W (w.heap.size+2) (l.flatMap zZ).toArray 5 /\ zF w W:=by
  have b1:zH (((w.alloc (.cells #[.int .i64 pk,.int .i64 pi,.int .u64 (pg:Int),.slice a l.length cap] 192)).alloc (.cells #[.int .i64 0,.int .i64 0,.int .u64 0,.slice none 0 0] 192)).alloc (.cells (Array.replicate l.length (.int .u8 0)) 5)) w.heap.size _ _:=((zH.new w _ _).alloc _).alloc _;have b2:zH (((w.alloc (.cells #[.int .i64 pk,.int .i64 pi,.int .u64 (pg:Int),.slice a l.length cap] 192)).alloc (.cells #[.int .i64 0,.int .i64 0,.int .u64 0,.slice none 0 0] 192)).alloc (.cells (Array.replicate l.length (.int .u8 0)) 5)) (w.heap.size+1) _ _:=zH.alloc (zR (by simp)) _;have b3:zH (((w.alloc (.cells #[.int .i64 pk,.int .i64 pi,.int .u64 (pg:Int),.slice a l.length cap] 192)).alloc (.cells #[.int .i64 0,.int .i64 0,.int .u64 0,.slice none 0 0] 192)).alloc (.cells (Array.replicate l.length (.int .u8 0)) 5)) (w.heap.size+2) _ _:=zR (by simp);have mA:zF w (((w.alloc (.cells #[.int .i64 pk,.int .i64 pi,.int .u64 (pg:Int),.slice a l.length cap] 192)).alloc (.cells #[.int .i64 0,.int .i64 0,.int .u64 0,.slice none 0 0] 192)).alloc (.cells (Array.replicate l.length (.int .u8 0)) 5)):=(((zA.refl _ w).alloc _).alloc _).alloc _;obtain⟨W,h1,h2,h3⟩:=zG3 (P:=Tryz.prog) Tryz.elB 3 (w.heap.size+2) _ _ l a cap b3 (by simp) (hb.mods mA.ext);exact⟨W,h1,b1.mods h3 (by simp),b2.mods h3 (by simp),h2,mA.trans' h3 (λi hi e=>by omega)⟩
 obtain⟨W,hc1,k1,k2,k3,km⟩:=hcp;have c10:=k1.cell (o:=0) rfl;have c11:=k1.cell (o:=1) rfl;have c12:=k1.cell (o:=2) rfl;have c13:=k1.cell (o:=3) rfl;have c20:=k2.cell (o:=0) rfl;have c21:=k2.cell (o:=1) rfl;have c22:=k2.cell (o:=2) rfl;have c23:=k2.cell (o:=3) rfl;have f1:=k1.frozen;have f2:=k2.frozen;have K1:=oh k1;have K2:=oh k2;have K3:=oh k3;have KM:=oh km;have HF:=oh hF;unfold maxLen at i2;clear k1 k2 k3 km i4 hb hF
 go_enter Tryz.func228, Tryz.ntmps228
 go_wp2_with (at_builtin;refine Go.Lib.wpList_copy_run _ rfl _ _ 87 87 rfl _ _ rfl rfl hc1 ?_);go_wp2_with fail;have q1:=(K2.out.set_other (p:=⟨w.heap.size,3,none⟩) (by simp) (.slice (some ⟨w.heap.size+2,0,none⟩) l.length l.length)).set4 (.int .i64 pk) (.int .i64 pi) (.int .u64 (pg:Int)) (.slice (some ⟨w.heap.size+2,0,none⟩) l.length l.length);refine bodyPost_ret (results_cell_row rfl _ _ (w.heap.size+1) 192 #[.int .i64 pk,.int .i64 pi,.int .u64 (pg:Int),.slice (some ⟨w.heap.size+2,0,none⟩) l.length l.length] (0,0) _ rfl q1 Tryz.underlying192 rfl Tryz.pageSize) rfl ?_;have m1:=KM.out.setCell (p:=⟨w.heap.size,3,none⟩) (.inl (Nat.le_refl _)) (.slice (some ⟨w.heap.size+2,0,none⟩) l.length l.length);have m2:=m1.set4 (R:=w.heap.size+1) (.inl (by omega)) (.int .i64 pk) (.int .i64 pi) (.int .u64 (pg:Int)) (.slice (some ⟨w.heap.size+2,0,none⟩) l.length l.length);refine⟨_,rfl,?_,m2⟩;have K4:zH W (w.heap.size+2) (yW l) 5:=by rw[<- zGW];exact K3.out
 have K5:=((((K4.set_other (p:=⟨w.heap.size,3,none⟩) (by simp) (.slice (some ⟨w.heap.size+2,0,none⟩) l.length l.length)).set_other (p:=⟨w.heap.size+1,0,none⟩) (by simp) (.int .i64 pk)).set_other (p:=⟨w.heap.size+1,1,none⟩) (by simp) (.int .i64 pi)).set_other (p:=⟨w.heap.size+1,2,none⟩) (by simp) (.int .u64 (pg:Int))).set_other (p:=⟨w.heap.size+1,3,none⟩) (by simp) (.slice (some ⟨w.heap.size+2,0,none⟩) l.length l.length);exact zDW (size:=l.length) K5 rfl (λf=>by have:=HF.out _ f;omega) (by omega)
theorem jT.read(hL:yG F ad w)(h:jT w P d D)(i:Nat)(hi:i<D.blocks)(ho:D.off=false) :
  Calls Tryz.prog 157 #[.pointer (some ⟨d,0,none⟩),.int .i64 (i:Int)] w λe w'=>∃g,e=.returned (.tuple #[zAL D.size g,.nilIface])/\w.heap.size<=g/\zH w' g (yW (D.look i)) 5 /\ (D.look i).length=D.size/\zF w w':=by
 obtain⟨bl,gs,ws,wv,kv,h1,h2⟩:=h;exact zN5 hL h1 i hi ho
def zRx(F':Nat->Prop)(ad:Nat->Addr)(w':World)(C C':qJ)(id:Nat)(e:Ending):Prop :=
 (∃(i:Nat) (s:zS),e=.returned (.tuple #[.int .i64 (i:Int),.nilIface])/\C'.slots[i]? = some s/\s.has id=true/\C.vw id=.inl s.page) \/
 (∃(pg:List Int) (k f:Nat),e=.returned (.tuple #[.int .i64 0,zL f])/\C.vw id=.inr (pg,k)/\vB F' ad w' (zL f) pg k)
theorem zMG[zW](hL:yG F ad w)(hP:∀k,caF c sb Pd k->F k)(h:CaR F w d c sb bvs Pd C)(hI:yI C)(hc:C.cost<=1000000)(id:Nat)(hid:id<C.disk.blocks)(hlo:vQ<=id) :
  Calls Tryz.prog 275 #[.pointer (some ⟨c,0,none⟩),.int .i64 (id:Int)] w λe w'=>∃(bvs':List Value) (Pd' F':Nat->Prop) (C':qJ),CaR F' w' d c sb bvs' Pd' C'/\Sim C C' /\
   zY (caF c sb Pd) (caF c sb Pd') F F' ad w w'/\zRx F' ad w' C C' id e:=by
 have HC:=oh h;have HL:=oh hL;have HP:=oh hP;have HI:=oh hI;have HCO:=oh hc;have HID:=oh hid;have HLO:=oh hlo;have hn:=h.n64;clear h hL hP hI hc hid hlo
 go_enter Tryz.func275, Tryz.ntmps275
 go_wp2_with fail;refine (zHZ HC.out id).mono ?_;rintro e w1 ⟨hm,hat⟩;have HM:=oh hm;have HC1:=oh (HC.out.at hm);clear hm;rcases hat with ⟨i,s,hs,hh,rfl⟩|⟨hno,rfl⟩
 .obtain⟨ba,bn,bc,hb⟩:=HC1.out.bvAt hs;obtain⟨e0,e1,e2,e3,e4,e5,e6,e7⟩:=HC1.out.cell8 hs hb;obtain⟨d0,d1,d2⟩:=HC1.out.c3;obtain⟨z0,z1⟩:=HC1.out.frz;have hlt:i<C.slots.length:=(List.getElem?_eq_some_iff.1 hs).1;have HS:=oh hs;have HH:=oh hh;generalize C.slots.length=n at hn hlt d1
  have h1:(0:Int)<=(i:Int):=by omega
  have h2:(i:Int)<(n:Int):=by omega
  clear hs hh hb e0 e1 e2 e3 e4 e5 e7;go_wp2_with fail;go_ret2
  have n1:=zY.ext (P:=caF c sb Pd) HL.out HP.out HM.out;have n2:=zY.same n1.env n1.sub (zA.at (caF c sb Pd) w1 sb (i * 8+6) (.bool true) (.inr (.inr rfl)));exact⟨bvs,Pd,F,_,HC1.out.used HP.out HS.out true,zKZ HI.out HS.out true,n1.trans n2,.inl ⟨i,{ s with used:=true },rfl,zCN HS.out,HH.out,(show C.vw id=.inl s.page from HI.out.vw_at HS.out HH.out)⟩⟩
 .have HNO:=oh hno;clear hno;have HL1:=oh (HL.out.mods HM.out.ext);go_wp2_with fail;refine (zHa HL1.out HP.out HC1.out HI.out HCO.out).mono ?_;rintro e w2 ⟨i,s,bvs2,Pd2,F2,C2,rfl,hC2,hS2,hX2,hs2,hf2,hsub⟩;have HC2:=oh hC2;have HS2:=oh hS2;have HX2:=oh hX2;have HSS:=oh hs2;have HFF:=oh hf2;have HNO2:Hid (∀(j:Nat) (t:zS),C2.slots[j]? = some t->t.has id=false):=oh (hsub.no HNO.out);have HID2:Hid (id<C2.disk.blocks):=oh (by rw[hS2.blocks];exact HID.out);have HVW:Hid (C.vw id=zQ (C2.disk.look id) id):=oh (by rw[<- hS2.vw id];exact zAK HNO2.out);obtain⟨d0,d1,d2⟩:=hC2.c3;have hsz:=HS2.out.inv.s1024;have hsz2:=HS2.out.inv.s256;clear hC2 hS2 hX2 hs2 hf2 hsub d2;go_wp2_with fail;refine (jT.read HX2.out.env HC2.out.disk id HID2.out HS2.out.inv.off).mono ?_;rintro e w3 ⟨g,rfl,hg,hB3,hlen,hm3⟩;have HB3:Hid (Sl F2 w3 1 zZ (zAL C2.disk.size g) (C2.disk.look id)):=oh (zDW hB3 hlen (λf=>by have:=HX2.out.env.lt g f;omega) (by omega));have HLen:=oh hlen;have HM3:=oh hm3;have HL3:=oh (HX2.out.env.mods hm3.ext);have HC3:=oh (HC2.out.at hm3);have p1:=zE hm3 d1;clear hg hB3 hlen hm3;go_wp2_with fail;refine (zC6 HL3.out _ (C2.disk.look id) HB3.out (by rw[HLen.out];exact hsz2) (by rw[HLen.out];exact hsz) id).mono ?_;rintro e w4 ⟨hm4,hr⟩;have HM4:=oh hm4;have HC4:=oh (HC3.out.at hm4);have p2:=zE hm4 p1;clear hm4;rcases hr with ⟨p,pv,hop,rfl,hpv⟩|⟨pg,k,f,hop,rfl,hE⟩
  .obtain⟨pa,pcap,rfl,_⟩:=_root_.id hpv;obtain⟨pk,pi,pg,l⟩:=p;have HPV:=oh hpv;have HOP:=oh hop;obtain⟨ba,bn,bc,hb⟩:=HC4.out.bvAt HSS.out;obtain⟨e0,e1,e2,e3,e4,e5,e6,e7⟩:=HC4.out.cell8 HSS.out hb;obtain⟨z0,z1⟩:=HC4.out.frz;have hlt:i<C2.slots.length:=(List.getElem?_eq_some_iff.1 HSS.out).1;have hn2:=HC4.out.n64;have h1:(0:Int)<=(i:Int):=by omega
   have h2:(i:Int)<(C2.slots.length:Int):=by omega
   have hsl:sb<w4.heap.size:=yH e0;have hcl:c<w4.heap.size:=yH p2;clear hop hpv hb p1 d0 d1;simp only[qA];go_wp2_with fail;go_region
   go_wp2
   go_ret2
   have q2:=HC4.out.slot' HX2.out.sub (i:=i) hlt ⟨⟨pk,pi,pg,l⟩,true,false,true,0⟩ (.slice pa l.length pcap) HPV.out;have q3:zA (caF c sb Pd2) w4 (w4.setCells sb (i * 8) (qK ⟨⟨pk,pi,pg,l⟩,true,false,true,0⟩ (.slice pa l.length pcap))):=zA.setMany (.inr (.inr (.inr rfl))) _ _ _ (zA.refl _ _);have q5:=zFE HOP.out;rw[HLen.out] at q5;have q4:=zPG HS2.out.inv HSS.out HFF.out id HID2.out HLO.out HNO2.out ⟨pk,pi,pg,l⟩ HOP.out q5.2.1 q5.1;have n1:=zY.ext (P:=caF c sb Pd) HL.out HP.out HM.out;have n2:=zY.ext HX2.out.env HX2.out.sub (HM3.out.trans HM4.out);have n3:=zY.same n2.env n2.sub ((q3.alloc (.cells #[.int .i64 pk,.int .i64 pi,.int .u64 (pg:Int),.slice pa l.length pcap] 192)).drew);exact⟨_,Pd2,F2,_,q2.at ((zA.refl _ _).alloc _).drew,HS2.out.trans q4,((n1.trans HX2.out).trans n2).trans n3,.inl ⟨i,_,rfl,zCN HSS.out,yO.2 ⟨rfl,q5.2.1⟩,by rw[HVW.out,HOP.out]⟩⟩
  .have HE:=oh hE;have HOP:=oh hop;clear hop hE;simp only[qA];go_wp2_with fail;go_ret2
   have n1:=zY.ext (P:=caF c sb Pd) HL.out HP.out HM.out;have n2:=zY.ext HX2.out.env HX2.out.sub ((HM3.out.trans HM4.out).alloc (.cells #[.int .i64 0,.int .i64 0,.int .u64 0,.slice none 0 0] 192));exact⟨bvs2,Pd2,F2,C2,HC4.out.at ((zA.refl _ _).alloc _),HS2.out,(n1.trans HX2.out).trans n2,.inr ⟨pg,k,f,rfl,by rw[HVW.out,HOP.out],HE.out.mods ((zA.refl _ _).alloc _)⟩⟩
end
end
end Go.Proofs.YteabpacpngaoaaaGreatDoor
