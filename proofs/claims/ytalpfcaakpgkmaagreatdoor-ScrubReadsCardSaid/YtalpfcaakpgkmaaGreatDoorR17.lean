import Derived.Test.YtalpfcaakpgkmaaGreatDoorR16
import Derived.Deep.AppendLies
import Derived.Deep.RegionHeld3
import Derived.Deep.DrawnRows
namespace Go.Proofs.YtalpfcaakpgkmaaGreatDoor
open Lib renaming hid->oh
set_option maxRecDepth 100000
section
open Go.RowKit
attribute [local go_sem ↓] Go.wp_at_zero Go.wp_at_succ
theorem zH5{P:Program}{α:Type}{F G:NP}{w:World}{t e:TypeId}{z:Value}{sz bytes:Nat}{enc:α->List Value}(T:ElT P t e z sz bytes)(E:zCx enc sz)
  {ops:Array Oper} {o:Oper} {a:Act} {K:Act->World->Prop} {Q:Exit->Act->World->Prop} {X:Prop} (Bt:o.guard=none) (sx x:Operand)
  (ho:o.op=.call { callee:=.builtin .append,args:=#[sx,x],argTypes:=#[t,t] })
  (base:Nat) (v s:Value) (l m:List α) (hv:a.eval sx=v) (hx:a.eval x=s) (A1:yC F w base e sz enc v l) (hs:Sl G w sz enc s m) (hb:(l.length+m.length) * bytes<=140737488355328) (Ai:base<=w.heap.size) (hn:¬ F w.heap.size)
  (h:∀a' c' w',yC F w' base e sz enc (.slice a' (l.length+m.length) c') (l++m)->w.grownBy w' v.ownBlock ->
   ((Value.slice a' (l.length+m.length) c').ownBlock=v.ownBlock\/(Value.slice a' (l.length+m.length) c').ownBlock=some w.heap.size)->K (a.put o.dst (.slice a' (l.length+m.length) c')) w') :
  if Region.wanted o (yielded ops a.tmps)=true then Oper.wp P o a w K Q else X:=by
 have hw:Region.wanted o (yielded ops a.tmps)=true:=by simp[Region.wanted,Bt]
 rw[if_pos hw];obtain⟨i,hi,hz,Bu,Bv⟩:=zFO T.info;obtain⟨a',c',w',hr,h2,h3,h4⟩:=zDl (P:=P) base t o.type e i z sz bytes T.under hi hz Bu Bv T.zs T.sz0 enc E.len E.one v s l m A1 hs hb T.by0 Ai hn;unfold Oper.wp execOp;simp only[ho,resolve,invoke,builtin,Sem.run_bind,Sem.run_pure,Result.andThen_ok,pI,tS,nN,hv,hx,hr];exact h a' c' w' h2 h3 h4
theorem zQL(x:Nat × Nat × Nat):∀u∈zLJ x,u.oneCell'=true:=by
 intro u hu;simp[zLJ,zAT] at hu;rcases hu with rfl|rfl <;> rfl
section
variable {P F:NP}{ad:Nat->Addr}{w w':World}{d bl:Nat}{gs ws:List Nat}{wv kv:Value}{D:zJ}
def DkS(w:World)(P:NP)(d:Nat)(D:zJ):Prop:=∃bl gs ws wv kv,DkR w d bl gs ws wv kv D/\∀k,P k ↔ dkF d bl gs ws wv kv k
theorem DkR.frz(h:DkR w d bl gs ws wv kv D)(o:Nat):w.frozen? ⟨d,o,none⟩=false:=by
 obtain⟨cap,_,_,hb,_⟩:=h.own;exact hb.frozen o
theorem zJU{F:NP}{w w':World}(m:zA F w w'){d o:Nat}{v:Value}(h:w.cell? ⟨d,o,none⟩=some v/\w.frozen? ⟨d,o,none⟩=false)(hF:¬ F d):w'.cell? ⟨d,o,none⟩=some v/\w'.frozen? ⟨d,o,none⟩=false :=
 ⟨(m.cell (yN h.1) hF).trans h.1,(m.frozen (yN h.1) hF).trans h.2⟩
theorem zJV{w:World}{d o:Nat}{v:Value}(h:w.cell? ⟨d,o,none⟩=some v/\w.frozen? ⟨d,o,none⟩=false)(x:Obj):(w.alloc x).cell? ⟨d,o,none⟩=some v/\(w.alloc x).frozen? ⟨d,o,none⟩=false :=
 zJU ((zA.refl (λ_=>False) w).alloc x) h (λf=>f)
theorem DkR.bd(h:DkR w d bl gs ws wv kv D):∀k,k∈d :: bl :: (gs++ws)->k<w.heap.size:=by
 obtain⟨cap,_,_,h1,rest,h2,_⟩:=h.own;intro k hk;simp only[uQ,uM] at hk;rcases hk with rfl|rfl|hk|hk
 .exact h1.lt
 .exact h2.lt
 .obtain⟨j,hj,e⟩:=wF hk;have hl:j<D.lasting.length:=by rw[h.lenL,<- h.lenB];exact hj
  exact (h.row j k _ (by rw[<- e];exact uB hj) (uB hl)).2.lt
 .obtain⟨j,hj,e⟩:=wF hk;have hl:j<D.waiting.length:=by rw[<- h.lenW];exact hj
  exact (h.wrow j k _ (by rw[<- e];exact uB hj) (uB hl)).2.2.lt
theorem DkR.bdF(h:DkR w d bl gs ws wv kv D):Bd (dkF d bl gs ws wv kv) w:=λk hk=>by
 rcases hk with hk|hk|hk
 .exact h.bd k hk
 .exact (h.wait.lt k hk).2
 .exact (h.keep.lt k hk).2
theorem DkR.add{w1 w2 w4:World}{o:Obj}{g2 i:Nat}{b:List UInt8}{v':Value}(h:DkR w1 d bl gs ws wv kv D)(hD:∀k,P k ↔ dkF d bl gs ws wv kv k)(m2:zF w1 w2)(Ba:w1.heap.size<=g2)(Bb:g2<w2.heap.size)(As:zG w2 g2 (qA b) 5)
  (A3:(w2.alloc o).grownBy w4 wv.ownBlock) (A1:yC (λk=>k∈d :: bl :: (gs++ws)) w4 0 230 2 zLJ v' (((D.waiting.zip ws).map λp=>(p.1.1,D.size,p.2))++[(i,D.size,g2)]))
  (Ac:v'.ownBlock=wv.ownBlock\/v'.ownBlock=some (w2.alloc o).heap.size) (hi:i<D.blocks) (hb:b.length=D.size) (A4:D.waiting.length<1000000) :
  DkR (w4.setCell ⟨d,3,none⟩ v') d bl gs (ws++[g2]) v' kv { D with waiting:=D.waiting++[(i,b)] }/\Stp P (dkF d bl gs (ws++[g2]) v' kv) w1 (w4.setCell ⟨d,3,none⟩ v'):=by
 have A8:=h.bd;have Bc:=h.wait.lt;have mg:=zA.of_grown A3;have Aw:=m2.size;have Ax:=mg.size;have Bw:(w2.alloc o).heap.size=w2.heap.size+1:=by simp
 rw[Bw] at Ax Ac;have At:∀k,k∈d :: bl :: (gs++ws)->wv.ownBlock≠some k:=λk hk e=>h.wait.2 k e hk
 have mA:zA (λk=>wv.ownBlock=some k) w1 w4:=(m2.ext.trans ((zss w2).alloc o)).trans mg;have Be:∀k,k∈d :: bl :: (gs++ws)->P k:=λk hk=>(hD k).2 (.inl hk)
 have Aa:∀k,k∈d :: bl :: (gs++(ws++[g2]))->k∈d :: bl :: (gs++ws)\/k=g2:=λk hk=>by
  simp only[uQ,uM,List.not_mem_nil,or_false] at hk ⊢;rcases hk with h|h|h|h|h <;> simp[h]
 have mW:zA P w1 (w4.setCell ⟨d,3,none⟩ v'):=((mA.mono (λk hk=>(hD k).2 (.inr (.inl hk))))).setCell (p:=⟨d,3,none⟩) (.inr (Be d uK)) _;have old:∀k,k<w1.heap.size->dkF d bl gs (ws++[g2]) v' kv k->P k:=λk hk hf=>by
  rcases hf with hf|hf|hf
  .rcases Aa k hf with hf|rfl
   .exact Be k hf
   .omega
  .rcases Ac with e|e
   .exact (hD k).2 (.inr (.inl (e ▸ hf)))
   .rw[e] at hf;injection hf with hf;omega
  .exact (hD k).2 (.inr (.inr hf))
 have hv'lt:∀k,v'.ownBlock=some k->k<w4.heap.size:=λk hk=>(A1.lt k hk).2
 have Ay:∀k,k∈bl :: (gs++ws)->k≠d:=λk hk e=>(uV.1 h.nodup).1 (e ▸ hk)
 have keepB:∀(k:Nat) (c:Array Value) (t:TypeId),k∈bl :: (gs++ws)->zG w1 k c t->zG (w4.setCell ⟨d,3,none⟩ v') k c t:=λk c t hk hb=>(hb.mods mA (At k (uJ _ hk))).set_other (Ay k hk) _
 obtain⟨cap,a1,a2,a3,rest,a4,a5⟩:=h.own;have Aj:∀k,k∈d :: bl :: (gs++ws)->k≠g2:=λk hk e=>by have:=A8 k hk;omega
 have nd:(d :: bl :: (gs++(ws++[g2]))).Nodup:=by
  have e:d :: bl :: (gs++(ws++[g2]))=(d :: bl :: (gs++ws))++[g2]:=by simp
  rw[e,uX];exact⟨h.nodup,by simp,λx hx y hy e=>Aj x hx (by simp at hy;rw[e,hy])⟩
 have Bx:zG (w4.setCell ⟨d,3,none⟩ v') g2 (qA b) 5:=by
  refine ((As.alloc o).mods mg (λe=>?_)).set_other (λe=>Aj d uK e.symm) _;have:=(Bc g2 e).2;omega
 refine⟨⟨⟨cap,a1,a2,?_,rest,keepB bl _ _ uK a4,a5⟩,h.lenB,h.lenL,by simp[h.lenW],?k1,?k2,h.few2,?_,λi g b h1 h2=>⟨(h.row i g b h1 h2).1,keepB g _ _ (uJ _ (wE _ (uU h1))) (h.row i g b h1 h2).2⟩,?_,nd,h.b8,h.b256,h.s256,h.s1024,by simp;omega⟩,
  ⟨mW,old,λk hf=>?_⟩⟩
 case k1 =>
  have h1:=(h.keep.mods mA (λg hg e=>h.kw g hg e)).mods (zA.at (λk=>k=d) w4 d 3 v' rfl) (λg hg e=>h.keep.2 g hg (e ▸ uK));exact⟨h1.1,λg hg hm=>by
   rcases Aa g hm with hm|rfl
   .exact h1.2 g hg hm
   .have:=(h.keep.lt g hg).2;omega⟩
 case k2 =>
  intro g hg e';rcases Ac with e|e
  .exact h.kw g hg (e ▸ e')
  .rw[e] at e';injection e' with e';have:=(h.keep.lt g hg).2;omega
 .have:=(a3.mods mA (At d uK)).set 3 v';simpa using this
 .have By:∀g,v'.ownBlock=some g->g≠d:=λg hg e=>A1.2 g hg (e ▸ uK)
  have e1:((D.waiting++[(i,b)]).zip (ws++[g2])).map (λp=>(p.1.1,D.size,p.2))=((D.waiting.zip ws).map λp=>(p.1.1,D.size,p.2))++[(i,D.size,g2)]:=by
   rw[List.zip_append h.lenW.symm];simp
  show yC _ _ 0 _ 2 zLJ v' (((D.waiting++[(i,b)]).zip (ws++[g2])).map (λp=>(p.1.1,D.size,p.2)));rw[e1];have h1:=A1.mods (zA.at (λk=>k=d) w4 d 3 v' rfl) By;refine⟨h1.1,λg hg hm=>?_⟩;rcases Aa g hm with hm|rfl
  .exact h1.2 g hg hm
  .rcases Ac with e|e
   .have:=(Bc g (e ▸ hg)).2;omega
   .rw[e] at hg;injection hg with hg;omega
 .intro j g p h1 h2;by_cases hj:j<D.waiting.length
  .rw[tJ (by rw[h.lenW];exact hj)] at h1;rw[tJ hj] at h2;have hr:=h.wrow j g p h1 h2;exact⟨hr.1,hr.2.1,keepB g _ _ (uJ _ (wK _ (uU h1))) hr.2.2⟩
  .rw[wV (by rw[h.lenW];omega)] at h1;rw[wV (by omega)] at h2;have Bz:=(uA.1 h2).1;have Az:j-D.waiting.length=0:=by simp at Bz;omega
   rw[h.lenW,Az] at h1;rw[Az] at h2;simp at h1 h2;subst h1 h2;exact⟨hi,hb,Bx⟩
 .rw[show (w4.setCell ⟨d,3,none⟩ v').heap.size=w4.heap.size by simp[World.setCell]];rcases hf with hf|hf|hf
  .rcases Aa k hf with hf|rfl
   .have:=A8 k hf;omega
   .omega
  .exact hv'lt k hf
  .have:=(h.keep.lt k hf).2;omega
theorem zA.ofDrew{G:NP}(m:zA G w.drew w'):zA G w w':=⟨m.os,m.tape,m.output,m.size,m.block⟩
theorem zLL{D:zJ}(i:Nat)(b:List UInt8)(hl:D.lit=false):({ D with waiting:=D.waiting++[(i,b)] }:zJ).burns.2=D.wrote i b:=by
 unfold zJ.burns zJ.wrote;simp[hl]
theorem DkR.far(h:DkR w d bl gs ws wv kv D){Q:NP}(m:zA Q w w')(hQ:∀k,dkF d bl gs ws wv kv k->¬ Q k):DkR w' d bl gs ws wv kv D:=by
 obtain⟨cap,a1,a2,a3,rest,a4,a5⟩:=h.own;exact⟨⟨cap,a1,a2,a3.mods m (hQ d (.inl uK)),rest,a4.mods m (hQ bl (.inl (uJ _ uK))),a5⟩,h.lenB,h.lenL,h.lenW,
  h.keep.mods m (λg hg=>hQ g (.inr (.inr hg))),h.kw,h.few2,h.wait.mods m (λg hg=>hQ g (.inr (.inl hg))),
  λi g b h1 h2=>⟨(h.row i g b h1 h2).1,(h.row i g b h1 h2).2.mods m (hQ g (.inl (uJ _ (uJ _ (wE _ (uU h1))))))⟩,
  λi g p h1 h2=>⟨(h.wrow i g p h1 h2).1,(h.wrow i g p h1 h2).2.1,(h.wrow i g p h1 h2).2.2.mods m (hQ g (.inl (uJ _ (uJ _ (wK _ (uU h1))))))⟩,
  h.nodup,h.b8,h.b256,h.s256,h.s1024,h.few⟩
theorem DkS.far(h:DkS w P d D){Q:NP}(m:zA Q w w')(hQ:∀k,P k->¬ Q k):DkS w' P d D:=by
 obtain⟨bl,gs,ws,wv,kv,h1,h2⟩:=h;exact⟨bl,gs,ws,wv,kv,h1.far m (λk hk=>hQ k ((h2 k).2 hk)),h2⟩
theorem Tryz.elT:ElT Tryz.prog 125 230 (.agg #[.int .i64 0,.slice none 0 0]) 2 32:=⟨Tryz.underlying125,by kernel_rfl,rfl,by decide,by decide⟩
theorem zMp(hL:yH F ad w)(hP:∀k,P k->F k)(h:DkR w d bl gs ws wv kv D)(hD:∀k,P k ↔ dkF d bl gs ws wv kv k)(i:Nat)(hi:i<D.blocks)(ho:D.off=false)(hl:D.lit=false)(bv:Value)(b:List UInt8)(hb:Sl F w 1 zZ bv b)(Ak:b.length=D.size)(A4:D.waiting.length<1000000) :
  Calls Tryz.prog 63 #[.pointer (some ⟨d,0,none⟩),.int .i64 (i:Int),bv] w λe w'=>∃P' F',e=.returned .nilIface/\DkS w' P' d (D.wrote i b)/\zX P P' F F' ad w w':=by
 have C0:D.on i=none:=by
  unfold zJ.on zJ.check;rw[if_neg (by omega),ho];rfl
 have HL:=oh hL;have HD:=oh h;have HB:=oh hb;have HP:=oh hP;have C3:=oh hD;have Bf:D.size<=1024:=h.s1024;have Aw:256<=D.size:=h.s256;obtain⟨a,cap,rfl,i1,i2,i3,i4⟩:=hb;unfold maxLen at i2;have Al:=oh Ak;rw[Ak] at i1 i3 ⊢;clear h hL i4 Ak hP hD
 go_enter Tryz.func63, Tryz.ntmps63
 go_wp2_with fail;refine (zLK HL.out HD.out _ i).mono ?_;rintro e w1 ⟨ev,rfl,hE,hm⟩;rw[C0] at hE;cases hE
 have Ad:=oh (HD.out.at hm);have c1:=Ad.out.sizeC;have c3:=Ad.out.wvC.1;have hd:=yN c1;have Am:=oh hm;have B0:=oh (HB.out.mods hm.ext);clear hm;go_wp2_with fail;have Bg:Sl (λ_=>False) w1 1 zZ (.slice a D.size cap) b:=by
  have:=B0.out.anti' (Q:=λ_=>False) (λ_ f=>f.elim);rwa [Al.out] at this
 have C4:Hid (Sl (λ_=>False) w1.drew 1 zZ (.slice a D.size cap) b):=oh Bg;have C5:Hid (yC (λk=>k∈d :: bl :: (gs++ws)) w1.drew 0 230 2 zLJ wv ((D.waiting.zip ws).map λp=>(p.1.1,D.size,p.2))):=oh Ad.out.wait;have C6:Hid (∀k,k∈d :: bl :: (gs++ws)->k<w1.heap.size):=oh Ad.out.bd;have B1:Hid (((D.waiting.zip ws).map λp=>(p.1.1,D.size,p.2)).length=D.waiting.length):=oh (by simp[Ad.out.lenW]);clear Bg;have At:¬ wv.ownBlock=some d:=λe=>Ad.out.wait.2 d e uK
 have f3:w1.frozen? ⟨d,3,none⟩=false:=Ad.out.frz 3;go_region_law
  (first
   | (go_simp;go_at_call 65;refine (zDa (F:=λ_=>False) (λ_ f=>f.elim) _ b C4.out (by have:=Al.out;omega) (by have:=Al.out;omega)).mono ?_;rintro e w2 ⟨g2,rfl,Ba,Bb,As,A5⟩;rw[Al.out];simp only[zAT];obtain⟨k2,k3⟩:=zJU (w:=w1.drew) A5 ⟨c3,f3⟩ (λf=>f);have k6:=λx:Obj=>(zJV ⟨k2,k3⟩ x).1)
   | (refine zH5 (enc:=zLJ) (F:=λk=>k∈d :: bl :: (gs++ws)) (G:=λ_=>False) Tryz.elT ⟨λ_=>rfl,zQL⟩ (by rfl) _ _ (by rfl) 0 wv (.slice (some ⟨w2.heap.size,0,none⟩) 1 1) ((D.waiting.zip ws).map λp=>(p.1.1,D.size,p.2)) [(i,D.size,g2)] (by rfl) (by rfl) ((C5.out.ext A5).ext (zr.alloc _)) (Sl.one (x:=(i,D.size,g2)) (t := 230) (fz:=(0,0)) (zS rfl) (λf=>f)) (by have:=B1.out;simp only[this];simp;omega) (tH _) (λf=>by have:=C6.out _ f;have:=A5.size;simp at *;omega) ?_;intro a' c' w4 A1 A3 Ac;obtain⟨k4,k5⟩:=zJU (zA.of_grown A3) (zJV ⟨k2,k3⟩ _) At))
 all_goals
  simp only[wS,List.length_zip,List.length_singleton] at A1 Ac;have HA:=oh (DkR.add Ad.out C3.out (w2:=w2) A5.ofDrew Ba Bb As A3 A1 Ac hi Al.out A4);clear A1 Ac A3 k2 k3 k4 k5 k6 As;go_wp2_with fail;refine (zH4 HA.out.1 hl).mono ?_;rintro e w5 ⟨rfl,Bh,Bi⟩;have C7:=oh Bh;have C8:=oh Bi;clear Bh Bi;go_wp2_with fail;go_ret;have n1:=zX.ext (P:=P) HL.out HP.out Am.out;have n2:=zX.of n1.env HP.out HA.out.2;have n3:=zX.same n2.env n2.sub (C8.out.mono (λk hk=>.inl (by rw[hk];exact uK)));exact⟨_,_,rfl,⟨bl,gs,_,_,kv,zLL i b hl ▸ C7.out,λk=>rQ⟩,(n1.trans n2).trans n3⟩
end
end
section
open Go.RowKit
def qP(s:zU)(bv:Value):List Value:=[.int .i64 s.page.kind,.int .i64 s.page.id,.int .u64 (s.page.gen:Int),bv,.bool s.full,.bool s.dirty,.bool s.used,.int .i64 (s.pins:Int)]
def zB3(w:World)(sb:Nat)(l:List zU)(bvs:List Value):Prop :=
 ∃cs:Array Value,zG w sb cs 428 /\ cs.size=l.length * 8/\∀(i:Nat) (s:zU) (bv:Value),l[i]? = some s->bvs[i]? = some bv->∀(j:Nat) (v:Value),(qP s bv)[j]? = some v->cs[i * 8+j]? = some v
structure CaR(F:NP)(w:World)(d c sb:Nat)(bvs:List Value)(Pd:NP)(C:qL):Prop where
 own:zG w c #[.pointer (some ⟨d,0,none⟩),.slice (some ⟨sb,0,none⟩) C.slots.length C.slots.length,.int .i64 (C.hand:Int)] 175
 row:zB3 w sb C.slots bvs
 lenB:bvs.length=C.slots.length
 n64:C.slots.length<=64
 body:∀(i:Nat) (s:zU) (bv:Value),C.slots[i]? = some s->bvs[i]? = some bv->Sl F w 1 zZ bv s.page.body
 disk:DkS w Pd d C.disk
 cd:¬ Pd c
 sd:¬ Pd sb
 ne:c≠sb
section
variable {P P' F F' Pd Pd':NP}{ad:Nat->Addr}{w w':World}{d c sb:Nat}{bvs:List Value}{C:qL}{D:zJ}
theorem DkS.at(h:DkS w P d D)(m:zF w w'):DkS w' P d D:=by
 obtain⟨bl,gs,ws,wv,kv,h1,h2⟩:=h;exact⟨bl,gs,ws,wv,kv,h1.at m,h2⟩
theorem DkS.bd(h:DkS w P d D):Bd P w:=by
 obtain⟨bl,gs,ws,wv,kv,h1,h2⟩:=h;exact λk hk=>h1.bdF k ((h2 k).1 hk)
theorem zB3.at{l:List zU}(h:zB3 w sb l bvs)(m:zA P w w')(hn:¬ P sb):zB3 w' sb l bvs:=by
 obtain⟨cs,h1,h2⟩:=h;exact⟨cs,h1.mods m hn,h2⟩
theorem CaR.at(h:CaR F w d c sb bvs Pd C)(m:zF w w'):CaR F w' d c sb bvs Pd C :=
 ⟨h.own.ext m,h.row.at m (λf=>f),h.lenB,h.n64,λi s bv h1 h2=>(h.body i s bv h1 h2).ext m,h.disk.at m,h.cd,h.sd,h.ne⟩
theorem CaR.bvAt(h:CaR F w d c sb bvs Pd C){i:Nat}{s:zU}(hi:C.slots[i]? = some s):∃a n cap,bvs[i]? = some (.slice a n cap):=by
 have hb:bvs[i]? = some (bvs[i]' (by rw[h.lenB];exact (uA.1 hi).1)):=uB _;obtain⟨a,cap,e,_⟩:=h.body i s _ hi hb;exact⟨a,_,cap,by rw[hb,e]⟩
theorem CaR.cell8(h:CaR F w d c sb bvs Pd C){i:Nat}{s:zU}{bv:Value}(hi:C.slots[i]? = some s)(hb:bvs[i]? = some bv) :
  w.cell? ⟨sb,i * 8,none⟩=some (.int .i64 s.page.kind)/\w.cell? ⟨sb,i * 8+1,none⟩=some (.int .i64 s.page.id)/\w.cell? ⟨sb,i * 8+2,none⟩=some (.int .u64 (s.page.gen:Int))/\w.cell? ⟨sb,i * 8+3,none⟩=some bv /\
  w.cell? ⟨sb,i * 8+4,none⟩=some (.bool s.full)/\w.cell? ⟨sb,i * 8+5,none⟩=some (.bool s.dirty)/\w.cell? ⟨sb,i * 8+6,none⟩=some (.bool s.used)/\w.cell? ⟨sb,i * 8+7,none⟩=some (.int .i64 (s.pins:Int)):=by
 obtain⟨cs,h1,_,h3⟩:=h.row;have g:=λ(j:Nat) (v:Value) (hv:(qP s bv)[j]? = some v)=>h1.cell (h3 i s bv hi hb j v hv)
 exact⟨g 0 _ rfl,g 1 _ rfl,g 2 _ rfl,g 3 _ rfl,g 4 _ rfl,g 5 _ rfl,g 6 _ rfl,g 7 _ rfl⟩
theorem CaR.c3(h:CaR F w d c sb bvs Pd C):w.cell? ⟨c,0,none⟩=some (.pointer (some ⟨d,0,none⟩))/\w.cell? ⟨c,1,none⟩=some (.slice (some ⟨sb,0,none⟩) C.slots.length C.slots.length)/\w.cell? ⟨c,2,none⟩=some (.int .i64 (C.hand:Int)) :=
 ⟨h.own.cell rfl,h.own.cell rfl,h.own.cell rfl⟩
theorem DkS.geo(h:DkS w P d D) : Calls Tryz.prog 47 #[.pointer (some ⟨d,0,none⟩)] w λe w'=>e=.returned (.agg #[.int .i64 D.blocks,.int .i64 D.size])/\zF w w':=by
 obtain⟨bl,gs,ws,wv,kv,h1,h2⟩:=h;exact zOo h1
theorem DkS.lim(h:DkS w P d D):8<=D.blocks/\D.blocks<=256/\256<=D.size/\D.size<=1024/\D.waiting.length<=1000000/\D.lasting.length=D.blocks:=by
 obtain⟨bl,gs,ws,wv,kv,h1,h2⟩:=h;exact⟨h1.b8,h1.b256,h1.s256,h1.s1024,h1.few,h1.lenL⟩
theorem Tryz.geoF0(x y:Value)(w:World):(Instr.field 53 (.agg #[x,y]) 0).run Tryz.prog w=.ok x w:=by kernel_rfl
theorem Tryz.geoF1(x y:Value)(w:World):(Instr.field 53 (.agg #[x,y]) 1).run Tryz.prog w=.ok y w:=by kernel_rfl
theorem zMq(h:CaR F w d c sb bvs Pd C) : Calls Tryz.prog 294 #[.pointer (some ⟨c,0,none⟩)] w λe w'=>e=.returned (.pointer (some ⟨d,0,none⟩))/\w=w':=by
 obtain⟨c0,_,_⟩:=h.c3;clear h
 go_enter Tryz.func294, Tryz.ntmps294
 go_wp2
 go_ret;exact⟨rfl,rfl⟩
def qL.check(C:qL)(id:Int):Option Err:=if id<0\/(C.disk.blocks:Int)<=id then some ([zBz id],2) else none
theorem zG3(hL:yH F ad w)(h:CaR F w d c sb bvs Pd C)(op:ByteArray)(id:Int) :
  Calls Tryz.prog 299 #[.pointer (some ⟨c,0,none⟩),.string op,.int .i64 id] w λe w'=>∃ev,e=.returned ev/\zAb F ad w' ev (C.check id)/\zF w w':=by
 obtain⟨c0,_,_⟩:=h.c3;have g2:=hL.c2;have HL:=oh hL;have HC:=oh h;obtain⟨b8,b256,_⟩:=h.disk.lim;have gf0:=Tryz.geoF0;clear h hL;by_cases h2:id<0
 .have HR:Hid (C.check id=some ([zBz id],2)):=oh (by unfold qL.check;rw[if_pos (.inl h2)])
  go_enter Tryz.func299, Tryz.ntmps299
  go_wp2_with fail;refine (zAF HL.out _ _ _ _ 2 (.sent 2 (by decide) (by decide))).mono ?_;rintro e w1 ⟨f,rfl,hE,hm⟩;have HE:=oh hE;clear hE;go_wp2
  go_ret;exact⟨_,rfl,by rw[HR.out];exact⟨f,rfl,HE.out⟩,hm⟩
 .have h2':0<=id:=by omega
  by_cases h3:(C.disk.blocks:Int)<=id
  .have HR:Hid (C.check id=some ([zBz id],2)):=oh (by unfold qL.check;rw[if_pos (.inr h3)]);clear h2
   go_enter Tryz.func299, Tryz.ntmps299
   go_wp2_with fail;refine (HC.out.disk.geo).mono ?_;rintro e w1 ⟨rfl,A0⟩;have Am:=oh A0;have g2':=(HL.out.mods A0.ext).c2;have Ae:=oh (HL.out.mods A0.ext);clear A0;go_wp2_with fail;refine (zAF Ae.out _ _ _ _ 2 (.sent 2 (by decide) (by decide))).mono ?_;rintro e w2 ⟨f,rfl,hE,hm⟩;have HE:=oh hE;clear hE;go_wp2
   go_ret;exact⟨_,rfl,by rw[HR.out];exact⟨f,rfl,HE.out⟩,Am.out.trans hm⟩
  .have HR:Hid (C.check id=none):=oh (by unfold qL.check;rw[if_neg (by omega)]);have h3':id<(C.disk.blocks:Int):=by omega
   clear h2 h3
   go_enter Tryz.func299, Tryz.ntmps299
   go_wp2_with fail;refine (HC.out.disk.geo).mono ?_;rintro e w1 ⟨rfl,A0⟩;have Am:=oh A0;clear A0;go_wp2
   go_ret;exact⟨_,rfl,by rw[HR.out];rfl,Am.out⟩
def AtP(C:qL)(id:Nat)(e:Ending):Prop :=
 (∃(i:Nat) (s:zU),C.slots[i]? = some s/\s.has id=true/\e=.returned (.int .i64 (i:Int)))\/((∀(j:Nat) (t:zU),C.slots[j]? = some t->t.has id=false)/\e=.returned (.int .i64 (-1)))
theorem zHf{s:zU}{id:Nat}(h:s.full=false\/s.page.id≠(id:Int)):s.has id=false:=by
 cases hb:s.has id with
 | false=>rfl
 | true=>obtain⟨h1,h2⟩:=yR.1 hb;rcases h with h|h;(rw[h] at h1;cases h1);exact absurd h2 h
theorem zH6(h:CaR F w d c sb bvs Pd C)(id:Nat) : Calls Tryz.prog 300 #[.pointer (some ⟨c,0,none⟩),.int .i64 (id:Int)] w λe w'=>zF w w'/\AtP C id e:=by
 obtain⟨_,c1,_⟩:=h.c3;have HC:=oh h;have hn:=h.n64;obtain⟨n,A6⟩:∃n,n=C.slots.length:=⟨_,rfl⟩;rw[<- A6] at c1 hn;have HN:=oh A6;clear h A6
 go_enter Tryz.func300, Tryz.ntmps300
 go_wp2
 go_loopg [12] n (λm i wr=>∃k:Nat,Hid (zF w wr)/\k+m=n/\i=.int .i64 k/\Hid (∀(j:Nat) (t:zU),j<k->C.slots[j]? = some t->t.has id=false))
 case atStart=>exact⟨0,oh zr,by omega,rfl,oh (by omega)⟩
 case round =>
  obtain⟨k,HM,hk,rfl,HQ⟩:=hrel;by_cases A8:k<n
  .obtain⟨s,hs⟩:∃s,C.slots[k]? = some s:=⟨_,uB (by rw[<- HN.out];exact A8)⟩;obtain⟨ba,bn,bc,hb⟩:=HC.out.bvAt hs;obtain⟨e0,e1,e2,e3,e4,e5,e6,e7⟩:=(HC.out.at HM.out).cell8 hs hb;have HS:=oh hs;clear hs hb;have step:s.has id=false->Hid (∀(j:Nat) (t:zU),j<k+1->C.slots[j]? = some t->t.has id=false):=λhh=>oh (λj t hj ht=>by
    by_cases e:j=k
    .subst e;rw[HS.out] at ht;injection ht with ht;rw[<- ht];exact hh
    .exact HQ.out j t (by omega) ht)
   cases hf:s.full with
   | false =>
    rw[hf] at e4;have HX:=oh (step (zHf (.inl hf)));clear step hf;go_wp2
    go_roundg (gk-1)
    case measure=>omega
    case rel=>exact⟨k+1,oh (HM.out.alloc _),by omega,by go_num,HX.out⟩
   | true =>
    rw[hf] at e4;by_cases he:s.page.id=(id:Int)
    .have HX:Hid (s.has id=true):=oh (yR.2 ⟨hf,he⟩);rw[he] at e1;clear step hf he;go_wp2
     go_ret;exact⟨HM.out.alloc _,.inl ⟨k,s,HS.out,HX.out,rfl⟩⟩
    .have HX:=oh (step (zHf (.inr he)));have Cv:(s.page.id == (id:Int))=false:=uR.2 he;clear step hf he;go_wp2
     go_roundg (gk-1)
     case measure=>omega
     case rel=>exact⟨k+1,oh (HM.out.alloc _),by omega,by go_num,HX.out⟩
  .go_wp2
   go_ret;exact⟨HM.out,.inr ⟨λj t ht=>HQ.out j t (by have:=(uA.1 ht).1;have:=HN.out;omega) ht,rfl⟩⟩
end
end
section
open Go.RowKit
attribute [local go_sem ↓] Go.wp_at_zero Go.wp_at_succ
section
variable {P P' F F' Pd Pd':NP}{ad:Nat->Addr}{w w':World}{d c sb:Nat}{bvs:List Value}{C:qL}{D:zJ}
theorem zE{w w':World}(m:zF w w'){b o:Nat}{v:Value}(h:w.cell? ⟨b,o,none⟩=some v):w'.cell? ⟨b,o,none⟩=some v:=(m.cell (yN h) (λf=>f)).trans h
theorem zAM(s:zU)(bv:Value):(qP s bv).length=8:=rfl
theorem zB3.setAt{l:List zU}(h:zB3 w sb l bvs){i:Nat}{s:zU}{bv:Value}(hi:l[i]? = some s)(hb:bvs[i]? = some bv)(j0:Nat)(v:Value)(s':zU)
  (hs:∀(j:Nat) (u:Value),(qP s' bv)[j]? = some u->(j=j0/\u=v)\/(j≠j0/\(qP s bv)[j]? = some u)) (Az:j0<8):zB3 (w.setCell ⟨sb,i * 8+j0,none⟩ v) sb (l.set i s') bvs:=by
 obtain⟨cs,h1,h2,h3⟩:=h;have C9:=(uA.1 hi).1;refine⟨_,h1.set (i * 8+j0) v,by simpa using h2,λk t bt ht A2 j u hu=>?_⟩;have hj:j<8:=by have:=(uA.1 hu).1;rw[zAM] at this;exact this
 rcases zK ht with ⟨rfl,rfl⟩|⟨A9,ht⟩
 .rw[hb] at A2;injection A2 with A2;subst A2;rcases hs j u hu with ⟨rfl,rfl⟩|⟨Ca,hu⟩
  .rw[Array.getElem?_setIfInBounds_self_of_lt (by omega)]
  .rw[rC (by omega)];exact h3 k s bv hi hb j u hu
 .rw[rC (by omega)];exact h3 k t bt ht A2 j u hu
theorem zB3.set8{l:List zU}(h:zB3 w sb l bvs){i:Nat}(C9:i<l.length)(s':zU)(bv':Value):zB3 (w.setCells sb (i * 8) (qP s' bv')) sb (l.set i s') (bvs.set i bv'):=by
 obtain⟨cs,h1,h2,h3⟩:=h;have hb:=zG.setMany (qP s' bv') (i * 8) w cs h1 (by rw[zAM];omega);refine⟨_,hb,?_,λk t bt ht A2 j u hu=>?_⟩
 .simp only[List.size_toArray,uC,wB,wN,zAM,rB,tN];omega
 .have hj:j<8:=by have:=(uA.1 hu).1;rw[zAM] at this;exact this
  have hl:(cs.toList.take (i * 8)).length=i * 8:=by rw[wB,rB];omega
  rw[List.getElem?_toArray,uN];rcases zK ht with ⟨rfl,rfl⟩|⟨A9,ht⟩
  .rcases zK A2 with ⟨_,rfl⟩|⟨A9,_⟩
   .rw[wV (by rw[hl];omega),hl,show k * 8+j-k * 8=j by omega,tJ (by rw[zAM];exact hj)];exact hu
   .exact absurd rfl A9
  .have B2:bvs[k]? = some bt:=by
    rcases zK A2 with ⟨e,_⟩|⟨_,A2⟩
    .exact absurd e A9
    .exact A2
   have h4:=h3 k t bt ht B2 j u hu;by_cases hk:k<i
   .rw[tJ (by rw[hl];omega),rX,if_pos (by omega),Array.getElem?_toList];exact h4
   .rw[wV (by rw[hl];omega),hl,wV (by rw[zAM];omega),zAM,rD,Array.getElem?_toList];rw[show i * 8+8+(k * 8+j-i * 8-8)=k * 8+j by omega];exact h4
theorem zLM(h:CaR F w d c sb bvs Pd C){i:Nat}{s:zU}(hi:C.slots[i]? = some s)(hw:s.wet=false) :
  Calls Tryz.prog 238 #[.pointer (some ⟨c,0,none⟩),.int .i64 (i:Int)] w λe w'=>e=.returned .nilIface/\w=w':=by
 obtain⟨_,c1,_⟩:=h.c3;obtain⟨ba,bn,bc,hb⟩:=h.bvAt hi;obtain⟨_,_,_,_,e4,e5,_,_⟩:=h.cell8 hi hb;have A8:i<C.slots.length:=(uA.1 hi).1;have hn:=h.n64;obtain⟨n,A6⟩:∃n,n=C.slots.length:=⟨_,rfl⟩;rw[<- A6] at c1 hn A8;clear h hb hi A6;have h1:(0:Int)<=(i:Int):=by omega
 have h2:(i:Int)<(n:Int):=by omega
 cases hf:s.full with
 | false =>
  rw[hf] at e4;clear hf hw
  go_enter Tryz.func238, Tryz.ntmps238
  go_wp2
  go_ret;exact⟨rfl,rfl⟩
 | true =>
  have hd:s.dirty=false:=by simpa[zU.wet,hf] using hw
  rw[hf] at e4;rw[hd] at e5;clear hf hw hd
  go_enter Tryz.func238, Tryz.ntmps238
  go_wp2
  go_ret;exact⟨rfl,rfl⟩
def caF(c sb:Nat)(Pd:NP):NP:=λk=>Pd k\/(k=c\/k=sb)
theorem DkS.write(hL:yH F ad w)(hP:∀k,P k->F k)(h:DkS w P d D)(i:Nat)(hi:i<D.blocks)(ho:D.off=false)(hl:D.lit=false)(bv:Value)(b:List UInt8)(hb:Sl F w 1 zZ bv b)(Ak:b.length=D.size)(A4:D.waiting.length<1000000) :
  Calls Tryz.prog 63 #[.pointer (some ⟨d,0,none⟩),.int .i64 (i:Int),bv] w λe w'=>∃P' F',e=.returned .nilIface/\DkS w' P' d (D.wrote i b)/\zX P P' F F' ad w w':=by
 obtain⟨bl,gs,ws,wv,kv,h1,h2⟩:=h;exact zMp hL hP h1 h2 i hi ho hl bv b hb Ak A4
theorem zX.cellK(n:zX P P' F F' ad w w'){b o:Nat}{v:Value}(h:w.cell? ⟨b,o,none⟩=some v)(hb:¬ P b):w'.cell? ⟨b,o,none⟩=some v:=(n.stp.mods.cell (yN h) hb).trans h
theorem CaR.disk'(h:CaR F w d c sb bvs Pd C)(hP:∀k,caF c sb Pd k->F k)(n:zX Pd Pd' F F' ad w w')(hD:DkS w' Pd' d D):CaR F' w' d c sb bvs Pd' { C with disk:=D }:=by
 have hc:=h.own.lt;obtain⟨cs,h1,h2⟩:=h.row;have hs:=h1.lt;exact⟨n.blk h.own h.cd,⟨cs,n.blk h1 h.sd,h2⟩,h.lenB,h.n64,λi s bv h1 h2=>n.sl (λk hk=>hP k (.inl hk)) (h.body i s bv h1 h2),hD,n.not hc h.cd,n.not hs h.sd,h.ne⟩
theorem zLN[zQ](hL:yH F ad w)(hP:∀k,caF c sb Pd k->F k)(h:CaR F w d c sb bvs Pd C)(hI:yJ C){i:Nat}{s:zU}(hi:C.slots[i]? = some s)(hf:s.full=true)(hd:s.dirty=true)(A4:C.disk.waiting.length<1000000) :
  Calls Tryz.prog 238 #[.pointer (some ⟨c,0,none⟩),.int .i64 (i:Int)] w λe w'=>∃Pd' F',e=.returned .nilIface/\CaR F' w' d c sb bvs Pd' (zBP C i s)/\zX (caF c sb Pd) (caF c sb Pd') F F' ad w w':=by
 obtain⟨c0,c1,_⟩:=h.c3;obtain⟨ba,bn,bc,hb⟩:=h.bvAt hi;obtain⟨e0,e1,e2,e3,e4,e5,_,_⟩:=h.cell8 hi hb;obtain⟨Cb,Cc,Bj⟩:=hI.page i s hi hf;obtain⟨id,hid⟩:∃id:Nat,s.page.id=(id:Int):=⟨s.page.id.toNat,by omega⟩;have A8:i<C.slots.length:=(uA.1 hi).1;have hn:=h.n64;obtain⟨n,A6⟩:∃n,n=C.slots.length:=⟨_,rfl⟩;rw[<- A6] at c1 hn A8;rw[hf] at e4;rw[hd] at e5;rw[hid] at e1;have gf1:=Tryz.geoF1;have HCd:=oh (h.at (zss w).drew);have HLd:=oh (hL.mods (zss w).drew);have Cd:=oh hL;have HB:=oh (h.body i s _ hi hb);have Au:=oh Bj;have HI:=oh hi;have B3:=oh hb;have HF:=oh hf;have HD:=oh hd;have B4:=oh hid;have Ab:=oh hI;have HP:=oh hP;have h1:(0:Int)<=(i:Int):=by omega
 have h2:(i:Int)<(n:Int):=by omega
 clear h hL hb hi A6 Cb Cc Bj hf hd hid hI hP
 go_enter Tryz.func238, Tryz.ntmps238
 go_wp2_with fail;go_region_held3 (λw'=>w'.cell? ⟨c,0,none⟩=some (.pointer (some ⟨d,0,none⟩))/\w'.cell? ⟨sb,i * 8,none⟩=some (.int .i64 s.page.kind)/\w'.cell? ⟨sb,i * 8+1,none⟩=some (.int .i64 id)/\w'.cell? ⟨sb,i * 8+2,none⟩=some (.int .u64 (s.page.gen:Int))/\w'.cell? ⟨sb,i * 8+3,none⟩=some (.slice ba bn bc))
  (first|exact⟨zE A0 c0,zE A0 e0,zE A0 e1,zE A0 e2,zE A0 e3⟩|exact⟨zE A5 (zE A0 c0),zE A5 (zE A0 e0),zE A5 (zE A0 e1),zE A5 (zE A0 e2),zE A5 (zE A0 e3)⟩|go_keep)
  (first
   | (go_at_call 47;refine (HCd.out.disk.geo).mono ?_;rintro e w1 ⟨rfl,A0⟩)
   | (go_at_call 199;rw[<- B4.out];refine (zHe (HLd.out.mods A0.ext) s.page (.slice ba bn bc) (HB.out.ext A0.ofDrew) C.disk.size Au.out.2 Au.out.1).mono ?_;rintro e w2 ⟨qa,qc,rfl,A1,A5⟩))
 have Ce:Hid (zF w w2):=oh (A0.ofDrew.trans A5);have An:=oh (HCd.out.at (A0.trans A5));have Ao:=oh (A1.sl jN.len (by rw[zAE _ _ (by have:=qO Au.out.1;omega)];have:=Ab.out.s1024;omega));have Bk:=oh ((HLd.out.mods A0.ext).mods A5.ext);have k0:=zE A5 (zE A0 c0);have k1:=zE A5 (zE A0 e1);have k5:=zE A5 (zE A0 e5);have HN:Hid (¬ Pd c/\¬ Pd sb):=oh ⟨An.out.cd,An.out.sd⟩;have Cf:=Bk.out;have HL2d:=oh (Bk.out.mods (zss w2).drew);have HC2d:=oh (An.out.at (zss w2).drew);have HS2d:=oh (Ao.out.mods (zss w2).drew);have B0:Hid (id<C.disk.blocks):=oh (by have:=(Ab.out.page i s HI.out HF.out).2.1;rw[B4.out] at this;exact Int.ofNat_lt.1 this);clear Cf A0 A5 A1 c0 e0 e1 e2 e3 e4 e5 gf1;go_wp2_with fail;go_region_held3 (λw'=>w'.cell? ⟨c,0,none⟩=some (.pointer (some ⟨d,0,none⟩))/\w'.cell? ⟨sb,i * 8+1,none⟩=some (.int .i64 id))
  (first|exact⟨n3.cellK (w:=w2.drew) k0 HN.out.1,n3.cellK (w:=w2.drew) k1 HN.out.2⟩|go_keep)
  (first
   | (go_at_call 63;refine (DkS.write HL2d.out (λk hk=>HP.out k (.inl hk)) HC2d.out.disk id B0.out Ab.out.off Ab.out.lit _ (jX s.page C.disk.size) HS2d.out (zAE _ _ (by have:=qO Au.out.1;omega)) A4).mono ?_;rintro e w3 ⟨Pd',F',rfl,Bl,n3⟩))
 have p5:=n3.cellK (w:=w2.drew) k5 HN.out.2;have Cw:Hid (∀k,Pd k->F k):=oh (λk hk=>HP.out k (.inl hk));have B5:=oh (HC2d.out.disk' HP.out n3 Bl);obtain⟨cs,Ap,Bf,Cg⟩:=B5.out.row;have f5:=Ap.frozen (i * 8+5);have Ch:=oh n3;clear Ap Bf Cg n3 Bl k0 k1 k5;go_wp2_with fail;refine (wrap_nil _ _).mono ?_;rintro e w5 ⟨rfl,rfl⟩;go_wp2_with fail;go_ret;have hs':=B5.out.row.setAt (w:=w3) HI.out B3.out 5 (.bool false) { s with dirty:=false } (λj u hu=>by
  match j,hu with
  | 0,hu=>exact .inr ⟨by decide,hu⟩
  | 1,hu=>exact .inr ⟨by decide,hu⟩
  | 2,hu=>exact .inr ⟨by decide,hu⟩
  | 3,hu=>exact .inr ⟨by decide,hu⟩
  | 4,hu=>exact .inr ⟨by decide,hu⟩
  | 5,hu=>exact .inl ⟨rfl,by simpa[qP] using hu.symm⟩
  | 6,hu=>exact .inr ⟨by decide,hu⟩
  | 7,hu=>exact .inr ⟨by decide,hu⟩) (by decide)
 have mS:zA (λk=>k=sb) w3 (w3.setCell ⟨sb,i * 8+5,none⟩ (.bool false)):=zA.at _ _ sb _ _ rfl;have A7:=B5.out;have Ci:=A7.disk.bd;have n1:=zX.ext (P:=caF c sb Pd) (HL2d.out.anti (λ_ h=>h)) HP.out (zA.refl _ w2.drew);have m0:zF w w2.drew:=Ce.out.drew;have nA:=Ch.out.part (Q:=λk=>k=c\/k=sb) (λk hk=>HP.out k (.inr hk)) HL2d.out;have nB:=zX.same nA.env nA.sub (mS.mono (λk hk=>.inr (.inr hk)));have n0:zX (caF c sb Pd) (caF c sb Pd) F F ad w w2.drew:=⟨Stp.ext (λk hk=>Cd.out.lt k (HP.out k hk)) m0,HP.out,λ_ h=>h,λ_ _ h=>h,HL2d.out⟩;refine⟨Pd',F',rfl,?_,(n0.trans nA).trans nB⟩;have Cj:c≠sb:=A7.ne;refine⟨by simpa[zBP] using (A7.own.mods mS Cj),hs',by simpa[zBP] using A7.lenB,by simpa[zBP] using A7.n64,λj t bt ht A2=>?_,?_,A7.cd,A7.sd,A7.ne⟩
 .have mF:zA F' w3 _:=mS.mono (λk hk=>nA.sub k (.inr (.inr hk)));rcases zK ht with ⟨rfl,rfl⟩|⟨_,ht⟩
  .exact (A7.body j s bt HI.out A2).mods mF
  .exact (A7.body j t bt ht A2).mods mF
 .have:=A7.disk.far mS (λk hk e=>A7.sd (e ▸ hk));simpa[zBP,B4.out] using this
end
end
section
open Go.RowKit
section
variable {P P' F F' Pd Pd':NP}{ad:Nat->Addr}{w w':World}{d c sb:Nat}{bvs:List Value}{C:qL}{D:zJ}
theorem CaR.bdP(h:CaR F w d c sb bvs Pd C):Bd (caF c sb Pd) w:=λk hk=>by
 obtain⟨cs,h1,_⟩:=h.row;rcases hk with hk|rfl|rfl
 .exact h.disk.bd k hk
 .exact h.own.lt
 .exact h1.lt
def Sub(C C':qL):Prop:=∀(j:Nat) (t:zU),C'.slots[j]? = some t->t.full=true->∃t',C.slots[j]? = some t'/\t'.full=true/\t'.page=t.page
theorem Sub.refl(C:qL):Sub C C:=λ_ t h1 h2=>⟨t,h1,h2,rfl⟩
theorem Sub.trans{C C1 C2:qL}(a:Sub C C1)(b:Sub C1 C2):Sub C C2:=λj t h1 h2=>by
 obtain⟨t1,k1,k2,k3⟩:=b j t h1 h2;obtain⟨t2,l1,l2,l3⟩:=a j t1 k1 k2;exact⟨t2,l1,l2,l3.trans k3⟩
theorem Sub.no{C C':qL}(a:Sub C C'){id:Nat}(h:∀(j:Nat) (t:zU),C.slots[j]? = some t->t.has id=false)(j:Nat)(t:zU)(ht:C'.slots[j]? = some t):t.has id=false:=by
 cases hb:t.has id with
 | false=>rfl
 | true =>
  obtain⟨h1,h2⟩:=yR.1 hb;obtain⟨t',k1,k2,k3⟩:=a j t ht h1;have:=h j t' k1;rw[show t'.has id=true from yR.2 ⟨k2,by rw[k3];exact h2⟩] at this;cases this
theorem Sub.set{C:qL}{i:Nat}{s s':zU}(hi:C.slots[i]? = some s)(hf:s'.full=true->s.full=true/\s.page=s'.page)(x:Nat)(D:zJ):Sub C { disk:=D,slots:=C.slots.set i s',hand:=x }:=λj t ht B6=>by
 rcases zK ht with ⟨rfl,rfl⟩|⟨_,ht⟩
 .exact⟨s,hi,(hf B6).1,(hf B6).2⟩
 .exact⟨t,ht,B6,rfl⟩
theorem zG4[zQ](hL:yH F ad w)(hP:∀k,caF c sb Pd k->F k)(h:CaR F w d c sb bvs Pd C)(hI:yJ C)(hc:C.cost<=1000000){i:Nat}{s:zU}(hi:C.slots[i]? = some s) :
  Calls Tryz.prog 238 #[.pointer (some ⟨c,0,none⟩),.int .i64 (i:Int)] w λe w'=>∃Pd' F' C' s',e=.returned .nilIface/\CaR F' w' d c sb bvs Pd' C'/\Sim C C'/\zX (caF c sb Pd) (caF c sb Pd') F F' ad w w' /\
   C'.slots[i]? = some s'/\s'.wet=false/\C'.slots.length=C.slots.length/\C'.hand=C.hand/\s'.used=s.used/\Sub C C'/\∀j,j≠i->C'.slots[j]? = C.slots[j]?:=by
 cases hw:s.wet with
 | false =>
  refine (zLM h hi hw).mono ?_;rintro e w' ⟨h1,rfl⟩;exact⟨Pd,F,C,s,h1,h,Sim.refl hI,zX.refl hL hP,hi,hw,rfl,rfl,rfl,Sub.refl _,λ_ _=>rfl⟩
 | true =>
  have hf:s.full=true:=by simp[zU.wet] at hw;exact hw.1
  have hd:s.dirty=true:=by simp[zU.wet] at hw;exact hw.2
  have A4:C.disk.waiting.length<1000000:=by
   have:0<C.slots.countP (·.wet):=List.countP_pos_iff.2 ⟨s,uU hi,hw⟩;unfold qL.cost at hc;omega
  exact (zLN hL hP h hI hi hf hd A4).mono λe w' ⟨Pd',F',h1,h2,h3⟩ =>
   ⟨Pd',F',zBP C i s,{ s with dirty:=false },h1,h2,zOa hI hi hf hd,h3,zCZ hi,by simp[zU.wet],by simp[zBP],rfl,rfl,Sub.set (s':={ s with dirty:=false }) hi (λh=>⟨h,rfl⟩) _ _,λj hj=>by simp[zBP,uS (λe=>hj e.symm)]⟩
theorem CaR.used(h:CaR F w d c sb bvs Pd C)(hP:∀k,caF c sb Pd k->F k){i:Nat}{s:zU}(hi:C.slots[i]? = some s)(u:Bool) :
  CaR F (w.setCell ⟨sb,i * 8+6,none⟩ (.bool u)) d c sb bvs Pd { C with slots:=C.slots.set i { s with used:=u } }:=by
 obtain⟨ba,bn,bc,hb⟩:=h.bvAt hi;have mS:zA (λk=>k=sb) w (w.setCell ⟨sb,i * 8+6,none⟩ (.bool u)):=zA.at _ _ sb _ _ rfl;have hs':=h.row.setAt hi hb 6 (.bool u) { s with used:=u } (λj v hv=>by
  match j,hv with
  | 0,hu=>exact .inr ⟨by decide,hu⟩
  | 1,hu=>exact .inr ⟨by decide,hu⟩
  | 2,hu=>exact .inr ⟨by decide,hu⟩
  | 3,hu=>exact .inr ⟨by decide,hu⟩
  | 4,hu=>exact .inr ⟨by decide,hu⟩
  | 5,hu=>exact .inr ⟨by decide,hu⟩
  | 6,hu=>exact .inl ⟨rfl,by simpa[qP] using hu.symm⟩
  | 7,hu=>exact .inr ⟨by decide,hu⟩) (by decide)
 have mF:zA F w _:=mS.mono (λk hk=>hP k (.inr (.inr hk)));exact⟨by simpa using h.own.mods mS h.ne,hs',by simpa using h.lenB,by simpa using h.n64,λj t bt ht A2=>by
   rcases zK ht with ⟨rfl,rfl⟩|⟨_,ht⟩
   .exact (h.body j s bt hi A2).mods mF
   .exact (h.body j t bt ht A2).mods mF,h.disk.far mS (λk hk e=>h.sd (e ▸ hk)),h.cd,h.sd,h.ne⟩
theorem CaR.hand'(h:CaR F w d c sb bvs Pd C)(hP:∀k,caF c sb Pd k->F k)(x:Nat):CaR F (w.setCell ⟨c,2,none⟩ (.int .i64 (x:Int))) d c sb bvs Pd { C with hand:=x }:=by
 have mS:zA (λk=>k=c) w (w.setCell ⟨c,2,none⟩ (.int .i64 (x:Int))):=zA.at _ _ c _ _ rfl;have mF:zA F w _:=mS.mono (λk hk=>hP k (.inr (.inl hk)));exact⟨by simpa using h.own.set 2 (.int .i64 (x:Int)),h.row.at mS (λe=>h.ne e.symm),h.lenB,h.n64,λj t bt ht A2=>(h.body j t bt ht A2).mods mF,h.disk.far mS (λk hk e=>h.cd (e ▸ hk)),h.cd,h.sd,h.ne⟩
theorem CaR.slot'(h:CaR F w d c sb bvs Pd C)(hP:∀k,caF c sb Pd k->F k){i:Nat}(hi:i<C.slots.length)(s':zU)(bv:Value)(hb:Sl F w 1 zZ bv s'.page.body) :
  CaR F (w.setCells sb (i * 8) (qP s' bv)) d c sb (bvs.set i bv) Pd { C with slots:=C.slots.set i s' }:=by
 have mS:zA (λk=>k=sb) w (w.setCells sb (i * 8) (qP s' bv)):=zA.setMany (F:=λk=>k=sb) (.inr rfl) _ _ _ (zss w);have mF:zA F w _:=mS.mono (λk hk=>hP k (.inr (.inr hk)));exact⟨by simpa using h.own.mods mS h.ne,h.row.set8 hi s' bv,by simpa using h.lenB,by simpa using h.n64,λj t bt ht A2=>by
   rcases zK ht with ⟨rfl,rfl⟩|⟨A9,ht⟩
   .rcases zK A2 with ⟨_,rfl⟩|⟨A9,_⟩
    .exact hb.mods mF
    .exact absurd rfl A9
   .rcases zK A2 with ⟨e,_⟩|⟨_,A2⟩
    .exact absurd e A9
    .exact (h.body j t bt ht A2).mods mF,h.disk.far mS (λk hk e=>h.sd (e ▸ hk)),h.cd,h.sd,h.ne⟩
theorem CaR.frz(h:CaR F w d c sb bvs Pd C):(∀o,w.frozen? ⟨c,o,none⟩=false)/\∀o,w.frozen? ⟨sb,o,none⟩=false:=by
 obtain⟨cs,h1,_⟩:=h.row;exact⟨h.own.frozen,h1.frozen⟩
set_option maxHeartbeats 2000000 in
theorem zH7[zQ](hL:yH F ad w)(hP:∀k,caF c sb Pd k->F k)(h:CaR F w d c sb bvs Pd C)(hI:yJ C)(hc:C.cost<=1000000) :
  Calls Tryz.prog 301 #[.pointer (some ⟨c,0,none⟩)] w λe w'=>∃(i:Nat) (s:zU) (bvs':List Value) (Pd' F':NP) (C':qL),e=.returned (.tuple #[.int .i64 (i:Int),.nilIface])/\CaR F' w' d c sb bvs' Pd' C'/\Sim C C' /\
   zX (caF c sb Pd) (caF c sb Pd') F F' ad w w'/\C'.slots[i]? = some s/\s.full=false/\Sub C C':=by
 obtain⟨_,c1,_⟩:=h.c3;have HC:=oh h;have HL:=oh hL;have HP:=oh hP;have HI:=oh hI;have Ck:=oh hc;have hn:=h.n64;have Cl:=hI.n3;have hh:=hI.hand;obtain⟨n,A6⟩:∃n,n=C.slots.length:=⟨_,rfl⟩;rw[<- A6] at c1 hn Cl hh;have HN:=oh A6;clear h A6 hL hP hI hc
 go_enter Tryz.func301, Tryz.ntmps301
 go_wp2
 go_loopg [21] n (λm i wr=>∃k:Nat,Hid (zF w wr)/\k+m=n/\i=.int .i64 k)
 case atStart=>exact⟨0,oh zr,by omega,rfl⟩
 case round =>
  obtain⟨k,HM,hk,rfl⟩:=hrel;by_cases A8:k<n
  .obtain⟨s,hs⟩:∃s,C.slots[k]? = some s:=⟨_,uB (by rw[<- HN.out];exact A8)⟩;obtain⟨ba,bn,bc,hb⟩:=HC.out.bvAt hs;obtain⟨e0,e1,e2,e3,e4,e5,e6,e7⟩:=(HC.out.at HM.out).cell8 hs hb;have HS:=oh hs;clear hs hb;cases hf:s.full with
   | false =>
    rw[hf] at e4;have HF:=oh hf;clear hf;go_wp2
    go_ret2
    exact⟨k,s,bvs,Pd,F,C,rfl,HC.out.at (HM.out.alloc _),Sim.refl HI.out,zX.ext HL.out HP.out (HM.out.alloc _),HS.out,HF.out,Sub.refl _⟩
   | true =>
    rw[hf] at e4;clear hf;go_wp2
    go_roundg (gk-1)
    case measure=>omega
    case rel=>exact⟨k+1,oh (HM.out.alloc _),by omega,by go_num⟩
  .obtain rfl:k=n:=by omega
   obtain⟨wA,rfl⟩:∃x,x=wr:=⟨_,rfl⟩;obtain⟨gA,rfl⟩:∃x,x=gk:=⟨_,rfl⟩;obtain⟨hand,B7⟩:∃x,x=C.hand:=⟨_,rfl⟩;rw[<- B7] at hh;have HH:=oh B7;clear B7 hk A8;go_wp2
   go_loopg [33] (2 * k) (λm i wr=>∃(q:Nat) (C1:qL),q+m=2 * k/\q<=k/\i=.int .i64 q/\Hid (CaR F wr d c sb bvs Pd C1)/\Hid (Sim C C1)/\Hid (zX (caF c sb Pd) (caF c sb Pd) F F ad w wr) /\
    Hid (C1.slots.length=k/\C1.hand=hand)/\Hid (Sub C C1)/\Hid (∀j s,j<q->C1.slots[(hand+j) % k]? = some s->s.used=false))
   case atStart=>exact⟨0,C,by omega,by omega,rfl,oh (HC.out.at HM.out),oh (Sim.refl HI.out),oh (zX.ext HL.out HP.out HM.out),oh ⟨HN.out.symm,HH.out.symm⟩,oh (Sub.refl _),oh (by omega)⟩
   case round =>
    obtain⟨q,C1,hq,Cx,rfl,Af,Ag,Av,Ae,HSub,HQ⟩:=hrel;obtain⟨i,hi⟩:∃i,i=(hand+q) % k:=⟨_,rfl⟩;have Cm:i<k:=by rw[hi];exact pE _ (by omega)
    obtain⟨s,hs⟩:∃s,C1.slots[i]? = some s:=⟨_,uB (by rw[Ae.out.1];exact Cm)⟩;obtain⟨ba,bn,bc,hb⟩:=Af.out.bvAt hs;obtain⟨e0,e1,e2,e3,e4,e5,e6,e7⟩:=Af.out.cell8 hs hb;obtain⟨d0,d1,d2⟩:=Af.out.c3;obtain⟨z0,z1⟩:=Af.out.frz;rw[Ag.out.inv.pins i s hs] at e7;rw[Ae.out.1] at d1;rw[Ae.out.2] at d2;have t1:((hand:Int)+(q:Int)) % (k:Int)=(i:Int):=by rw[hi];simp
    have t2:((hand:Int)+(q:Int)).tmod (k:Int)=(i:Int):=by rw[tD (by omega)];exact t1
    have t3:(q:Int)<2 * (k:Int):=by omega
    have Bm:=oh hi;have HS:=oh hs;have B3:=oh hb;clear hi hs hb;cases hu:s.used with
    | true =>
     rw[hu] at e6;have HU:=oh hu;have Cn:q<k:=by
      rcases tK q k with h|h
      .exact h
      .exfalso;have h0:=HQ.out 0 s (by omega) (by rw[<- HS.out,Bm.out,show q=k by omega];simp);rw[hu] at h0;cases h0
     clear hu;go_wp2
     go_roundg (gk-1)
     case measure=>omega
     case rel=>exact⟨q+1,{ C1 with slots:=C1.slots.set i { s with used:=false } },by omega,by omega,by go_num,oh (Af.out.used HP.out HS.out false),oh (Ag.out.trans (zLA Ag.out.inv HS.out false)),
       oh (Av.out.trans (zX.same Av.out.env HP.out (zA.at _ _ sb _ _ (.inr (.inr rfl))))),oh ⟨by simpa using Ae.out.1,Ae.out.2⟩,oh (HSub.out.trans (Sub.set (s':={ s with used:=false }) HS.out (λh=>⟨h,rfl⟩) _ _)),oh (λj t hj ht=>by
        rcases zK ht with ⟨_,rfl⟩|⟨A9,ht⟩
        .rfl
        .by_cases e:j=q
         .subst e;exact absurd Bm.out.symm A9
         .exact HQ.out j t (by omega) ht)⟩
    | false =>
     rw[hu] at e6;clear hu;go_wp2_with fail;refine (zG4 Av.out.env HP.out Af.out Ag.out.inv (uP Ag.out.cost Ck.out) HS.out).mono ?_;rintro e w5 ⟨Pd',F',C2,s2,rfl,Ah,Bn,Bo,B8,Bp,Bq,Co,Cp,Br,_⟩;have Cq:=oh Br;obtain⟨f0,f1,f2,f3,f4,f5,f6,f7⟩:=Ah.cell8 B8 B3.out;obtain⟨g0,g1,g2⟩:=Ah.c3;obtain⟨y0,y1⟩:=Ah.frz;have Cr:=Ah.ne;have Cy:=Ne.symm Cr;have An:=oh Ah;have Ao:=oh Bn;have Aq:=oh Bo;have Ar:=oh B8;have Bs:=oh Bp;have Cs:=oh Bq;obtain⟨i1,B9⟩:∃i1,i1=(i+1) % k:=⟨_,rfl⟩;have t4:((i:Int)+1) % (k:Int)=(i1:Int):=by rw[B9];simp
     have t5:((i:Int)+1).tmod (k:Int)=(i1:Int):=by rw[tD (by omega)];exact t4
     have Ct:i1<k:=by rw[B9];exact pE _ (by omega)
     clear Ah Bn Bo B8 Bp Bq Co Cp Br B9 e0 e1 e2 e3 e4 e5 e6 e7 d0 d1 d2 z0 z1 t1 t2;go_wp2_with fail;go_ret2
     have Cu:i<C2.slots.length:=(uA.1 Ar.out).1;have q1:=An.out.hand' Aq.out.sub i1;have q2:=q1.slot' Aq.out.sub (i:=i) Cu qM (.slice none 0 0) (Sl.nil _ _ _ _);have q3:zA (caF c sb Pd') w5 ((w5.setCell ⟨c,2,none⟩ (.int .i64 (i1:Int))).setCells sb (i * 8) (qP qM (.slice none 0 0))):=zA.setMany (.inr (.inr (.inr rfl))) _ _ _ (zA.at _ _ c _ _ (.inr (.inl rfl)));have q4:Sim C2 { C2 with hand:=i1,slots:=C2.slots.set i qM }:=(zJO Ao.out.inv Ar.out Bs.out).trans (zPx (zJO Ao.out.inv Ar.out Bs.out).inv (by simp;have:=Cs.out;have:=Ae.out.1;omega));exact⟨i,qM,_,Pd',F',_,rfl,q2,(Ag.out.trans Ao.out).trans q4,(Av.out.trans Aq.out).trans (zX.same Aq.out.env Aq.out.sub q3),zCZ Ar.out,rfl,(HSub.out.trans Cq.out).trans (Sub.set (s':=qM) Ar.out (λh=>by cases h) _ _)⟩
end
end
end Go.Proofs.YtalpfcaakpgkmaaGreatDoor
