import Derived.Test.YtdnbmdghmmpgcaaGreatDoorK19
import Derived.IntWalk
namespace Go.Proofs.YtdnbmdghmmpgcaaGreatDoor
open Lib renaming hid→oh
set_option maxHeartbeats 4000000
set_option maxRecDepth 100000
section
open Go.RowKit
theorem Tryz.elI:ElT Tryz.prog 90 3 (.int .i64 0) 1 8:=⟨Tryz.underlying90,Tryz.mkI,rfl,by decide,by decide⟩
theorem wpl_app2{P:Program}{α:Type}{F G:Nat→Prop}{w:World}{t e:TypeId}{z:Value}{sz bytes:Nat}{enc:α→List Value}(T:ElT P t e z sz bytes)(E:EncOk enc sz)
  {ops:Array Oper} {rest:List Oper} {o:Oper} {a:Act} {Q:Exit→Act→World→Prop} (hgd:o.guard=none) (sx x:Operand)
  (ho:o.op=.call { callee:=.builtin .append,args:=#[sx,x],argTypes:=#[t,t] })
  (base:Nat) (v s:Value) (l m:List α) (hv:a.eval sx=v) (hx:a.eval x=s) (hown:Own F w base e sz enc v l) (hs:Sl G w sz enc s m) (hb:(l.length+m.length) * bytes≤140737488355328) (hbase:base≤w.heap.size) (hn:¬ F w.heap.size)
  (h:∀a' c' w',Own F w' base e sz enc (.slice a' (l.length+m.length) c') (l++m)→Mods (λk=>v.ownBlock=some k) w w' →
   ((Value.slice a' (l.length+m.length) c').ownBlock=v.ownBlock∨(Value.slice a' (l.length+m.length) c').ownBlock=some w.heap.size)→wpList P ops Q rest (a.put o.dst (.slice a' (l.length+m.length) c')) w') :
  wpList P ops Q (o :: rest) a w:=by
 obtain⟨i,hi,hz,hs1,hb1⟩:=info3 T.info;refine wpl_append_sl hgd sx x t ho base e i z sz bytes T.under hi hz hs1 hb1 T.zs T.sz0 enc E.len E.one v s l m hv hx hown hs hb T.by0 hbase hn ?_;intro a' c' w' h1 h2 h3;exact h a' c' w' h1 (Mods.of_grown h2) h3
def LocR{α:Type}(w0:World)(F P:Nat→Prop)(w:World)(e:TypeId)(sz:Nat)(enc:α→List Value)(v:Value)(l:List α):Prop :=
 Own (λ_=>False) w w0.heap.size e sz enc v l∧∀g,v.ownBlock=some g→F g∧¬ P g
section
variable {α:Type}{P0 P P' F0 F F':Nat→Prop}{ad:Nat→Addr}{w0 w w':World}{c s:Nat}{G G':GA}{l l':List Nat}{e:TypeId}{sz:Nat}{enc:α→List Value}{v v':Value}{x x':List α}
theorem LocR.nxt(h:LocR w0 F P w e sz enc v x)(n:Nxt P P' F F' ad w w'):LocR w0 F' P' w' e sz enc v x :=
 ⟨h.1.mods n.stp.mods (λg hg=>(h.2 g hg).2),λg hg=>⟨n.grow g (h.2 g hg).1,n.not (h.1.lt g hg).2 (h.2 g hg).2⟩⟩
theorem LocR.ext(h:LocR w0 F P w e sz enc v x)(m:Ext w w'):LocR w0 F P w' e sz enc v x:=⟨h.1.ext m,h.2⟩
theorem LocR.nil(w0:World)(F P:Nat→Prop)(w:World)(e:TypeId)(sz:Nat)(enc:α→List Value):LocR w0 F P w e sz enc (.slice none 0 0) ([]:List α) :=
 ⟨Own.nil _ _ _ _ _ _,λg hg=>by simp[Value.ownBlock] at hg⟩
def plusV(F:Nat→Prop)(v:Value):Nat→Prop:=λk=>F k∨v.ownBlock=some k
theorem LocR.app(n:Nxt P0 P F0 F ad w0 w)(h:LocR w0 F P w e sz enc v x)(ho:Own (λ_=>False) w' w0.heap.size e sz enc v' x')(m:Mods (λk=>v.ownBlock=some k) w w'){K:Nat}(hat:v'.ownBlock=v.ownBlock∨v'.ownBlock=some K)(hK:w.heap.size≤K) :
  Nxt P0 P F0 (plusV F v') ad w0 w'∧LocR w0 (plusV F v') P w' e sz enc v' x':=by
 have hv:=λg (hg:v.ownBlock=some g)=>h.1.lt g hg
 have hb:∀k,v'.ownBlock=some k→k<w'.heap.size:=λk hk=>(ho.lt k hk).2
 have h0:∀k,v'.ownBlock=some k→w0.heap.size≤k:=λk hk=>(ho.lt k hk).1
 refine⟨⟨⟨n.stp.mods.trans' m (λi hi e=>by have:=(hv i e).1;omega),n.stp.old,λk hk=>Nat.lt_of_lt_of_le (n.stp.bd k hk) m.size⟩,λk hk=>.inl (n.sub k hk),λk hk=>.inl (n.grow k hk),λk hk hf=>?_,?_⟩,ho,λg hg=>⟨.inr hg,?_⟩⟩
 ·rcases hf with hf|hf
  ·exact n.oldF k hk hf
  ·have:=h0 k hf;omega
 ·exact n.env.step (m.mono (λk hk=>(h.2 k hk).1)) (λk hk hn hf=>by
   rcases hf with hf|hf
   ·exact hn hf
   ·rcases hat with e|e
    ·exact hn (h.2 k (e ▸ hf)).1
    ·rw[e] at hf;injection hf with hf;omega) (λk hf=>hf.elim (λhf=>Nat.lt_of_lt_of_le (n.env.lt k hf) m.size) (hb k))
 ·rcases hat with e|e
  ·exact (h.2 g (e ▸ hg)).2
  ·rw[e] at hg;injection hg with hg;exact λhp=>by have:=n.stp.bd g hp;omega
theorem CaR.plus{d sb:Nat}{bvs:List Value}{Pd:Nat→Prop}{C:CaA}(h:CaR F w d c sb bvs Pd C){Q:Nat→Prop}(m:Mods Q w w')(hQ:∀k,caF c sb Pd k→¬ Q k)(hF:∀k,Q k→F k)(hG:∀k,k<w.heap.size→¬ F k→¬ F' k):CaR F' w' d c sb bvs Pd C :=
 ⟨h.own.mods m (hQ c (.inr (.inl rfl))),h.row.at m (hQ sb (.inr (.inr rfl))),h.lenB,h.n64,λi s bv h1 h2=>(h.body i s bv h1 h2).step (m.mono hF) hG,h.disk.far m (λk hk=>hQ k (.inl hk)),h.cd,h.sd,h.ne⟩
theorem PgR.plus(h:PgR F w P c s G l){Q:Nat→Prop}(m:Mods Q w w')(hQ:∀k,P k→¬ Q k)(hF:∀k,Q k→F k)(hG:∀k,k<w.heap.size→¬ F k→¬ F' k):PgR F' w' P c s G l:=by
 obtain⟨d,sb,bvs,Pd,b2,C,h1,h2,h3,h4,h5,h6,h7⟩:=h;exact⟨d,sb,bvs,Pd,b2,C,h1.plus m (λk hk=>hQ k ((h6 k).2 (.inl hk))) hF hG,h2,h3,h4,h5.mods m (hQ s ((h6 s).2 (.inr (.inl rfl)))) (hQ b2 ((h6 b2).2 (.inr (.inr rfl)))),h6,h7⟩
end
section
variable {P P' F F':Nat→Prop}{ad:Nat→Addr}{w w':World}{c s:Nat}{G G':GA}{l l':List Nat}
theorem spFree_at{l:List Nat}{i:Nat}(h:spFree l=some i):l[i]? = some 0∧i<l.length:=by
 unfold spFree at h;rw[List.findIdx?_eq_some_iff_getElem] at h;obtain⟨h1,h2,_⟩:=h;exact⟨by rw[List.getElem?_eq_getElem h1];simpa using h2,h1⟩
end
end
section
open Go.RowKit
attribute [local go_sem ↓] Go.wp_at_zero Go.wp_at_succ
theorem strCells_enc(s:ByteArray):Go.Lib.strCells s=s.data.toList.flatMap encB:=by
 unfold Go.Lib.strCells;induction s.data.toList with
 | nil=>rfl
 | cons x l ih=>rw[List.map_cons,List.flatMap_cons,ih];rfl
theorem size_toList(s:ByteArray):s.data.toList.length=s.size:=by rw[Array.length_toList];rfl
end
section
open Go.RowKit
def pieceBad(size:Nat)(x:PageA)(n:Int):Bool :=
 (takeF x.body 0 4).2.isSome || decide (x.kind≠4) || decide ((x.body.length:Int)≠4+min n ((size:Int)-28)) || (decide ((takeF x.body 0 4).1=0) != decide (n=min n ((size:Int)-28)))
def walkA(G:GA):Nat→Int→Int→List (Int × List UInt8) × Option Err
 | 0,_,_=>([],none)
 | f+1,id,n=>if n≤0 then ([],none) else
  match G.get id with
  | .inr e=>([],some e)
  | .inl x=>if pieceBad G.size x n=true then ([],some ([pgOf id],5)) else
   ((id,x.body.drop 4) :: (walkA G f ((takeF x.body 0 4).1:Nat) (n-min n ((G.size:Int)-28))).1,(walkA G f ((takeF x.body 0 4).1:Nat) (n-min n ((G.size:Int)-28))).2)
def walkOk(G:GA):Nat→Int→Int→Prop
 | 0,_,_=>True
 | f+1,id,n=>0<n→G.knows id∧∀x,G.get id=.inl x→pieceBad G.size x n=false→walkOk G f ((takeF x.body 0 4).1:Nat) (n-min n ((G.size:Int)-28))
def U(A B:Nat→Prop):Nat→Prop:=λk=>A k∨B k
structure WS(J:(Nat→Prop)→(Nat→Prop)→World→List (Int × List UInt8)→Prop)(P V F:Nat→Prop)(ad:Nat→Addr)(w:World)(B0 c s gen:Nat)(G:GA)(l:List Nat)(P1 V1 F1:Nat→Prop)(wr:World)(acc:List (Int × List UInt8)):Prop where
 pg:PgR F1 wr P1 c s G l
 nx:Nxt (U P V) (U P1 V1) F F1 ad w wr
 box:Blk wr B0 #[.pointer (some ⟨c,0,none⟩),.pointer (some ⟨s,0,none⟩),.int .u64 (gen:Int)] 142
 bP:¬ P1 B0
 bV:¬ V1 B0
 j:J V1 F1 wr acc
 apart:∀k,P1 k→¬ V1 k
def WalkDone(J:(Nat→Prop)→(Nat→Prop)→World→List (Int × List UInt8)→Prop)(F P V:Nat→Prop)(ad:Nat→Addr)(w:World)(c s:Nat)(G:GA)(l:List Nat)(r:List (Int × List UInt8) × Option Err)(e:Ending)(w':World):Prop :=
 ∃(P' V' F':Nat→Prop) (ev:Value),e=.returned ev∧PgR F' w' P' c s G l∧Nxt (U P V) (U P' V') F F' ad w w'∧J V' F' w' r.1∧(∀k,P' k→¬ V' k)∧ErrR F' ad w' ev r.2
def JKeep(J:(Nat→Prop)→(Nat→Prop)→World→List (Int × List UInt8)→Prop)(ad:Nat→Addr):Prop :=
 ∀(P1 P2 V1 F1 F2:Nat→Prop) (w1 w2:World) (acc:List (Int × List UInt8)),J V1 F1 w1 acc→Nxt P1 P2 F1 F2 ad w1 w2→(∀k,P1 k→¬ V1 k)→J V1 F2 w2 acc
section
variable {J:(Nat→Prop)→(Nat→Prop)→World→List (Int × List UInt8)→Prop}{P V F P1 P2 V1 V2 F1 F2:Nat→Prop}{ad:Nat→Addr}{w wr w2:World}{B0 c s gen:Nat}{G:GA}{l:List Nat}{acc acc':List (Int × List UInt8)}
theorem WS.envr(h:WS J P V F ad w B0 c s gen G l P1 V1 F1 wr acc):Env F1 ad wr:=h.nx.env
theorem WS.subP(h:WS J P V F ad w B0 c s gen G l P1 V1 F1 wr acc):∀k,P1 k→F1 k:=λk hk=>h.nx.sub k (.inl hk)
theorem WS.subV(h:WS J P V F ad w B0 c s gen G l P1 V1 F1 wr acc):∀k,V1 k→F1 k:=λk hk=>h.nx.sub k (.inr hk)
theorem WS.nxt(h:WS J P V F ad w B0 c s gen G l P1 V1 F1 wr acc)(K:JKeep J ad)(n:Nxt P1 P2 F1 F2 ad wr w2)(hG:PgR F2 w2 P2 c s G l):WS J P V F ad w B0 c s gen G l P2 V1 F2 w2 acc :=
 ⟨hG,h.nx.trans (n.part (Q:=V1) h.subV h.envr),n.blk h.box h.bP,n.not h.box.lt h.bP,h.bV,K _ _ _ _ _ _ _ _ h.j n h.apart,λk hk hv=>by
  have hb:=h.nx.stp.bd k (.inr hv);exact h.apart k (n.stp.old k hb hk) hv⟩
theorem WS.ext(h:WS J P V F ad w B0 c s gen G l P1 V1 F1 wr acc)(K:JKeep J ad)(m:Ext wr w2):WS J P V F ad w B0 c s gen G l P1 V1 F1 w2 acc :=
 h.nxt K (Nxt.ext h.envr h.subP m) (h.pg.at m)
theorem WS.clo(h:WS J P V F ad w B0 c s gen G l P1 V1 F1 wr acc)(n:Nxt V1 V2 F1 F2 ad wr w2)(hj:J V2 F2 w2 acc'):WS J P V F ad w B0 c s gen G l P1 V2 F2 w2 acc':=by
 have hq:=n.part (Q:=P1) h.subP h.envr;have hq2:Nxt (U P1 V1) (U P1 V2) F1 F2 ad wr w2:=hq.iff (λk=>Or.comm) (λk=>Or.comm);refine⟨h.pg.plus n.stp.mods (λk hk hv=>h.apart k hk hv) h.subV (λk hk hn hf=>hn (n.oldF k hk hf)),h.nx.trans hq2,n.blk h.box h.bV,h.bP,n.not h.box.lt h.bV,hj,λk hk hv=>?_⟩;have hb:=h.nx.stp.bd k (.inl hk);exact h.apart k hk (n.stp.old k hb hv)
end
section
variable {P P' F F':Nat→Prop}{ad:Nat→Addr}{w w':World}{c s:Nat}{G G':GA}{l l':List Nat}
theorem takeF_lt(b:List UInt8):(takeF b 0 4).1<4294967296:=by
 unfold takeF;split
 ·simp
 ·split
  ·simp
  ·have:=ofLe_lt ((b.drop (0:Int).toNat).take 4);have h2:((b.drop (0:Int).toNat).take 4).length≤4:=List.length_take_le _ _;have h3:(256:Nat) ^ ((b.drop (0:Int).toNat).take 4).length≤256 ^ 4:=Nat.pow_le_pow_right (by omega) h2;simp only;omega
theorem walk_any(J:(Nat→Prop)→(Nat→Prop)→World→List (Int × List UInt8)→Prop)(V:Nat→Prop)(hL:Env F ad w)(hP:∀k,P k→F k)(hV:∀k,V k→F k)(hPV:∀k,P k→¬ V k)(h:PgR F w P c s G l)(gen:Nat)(id n:Int)(hn:n≤4096)(fuel:Nat)(hf:n≤fuel)(hok:walkOk G fuel id n)(fn:FuncId)(cv:Value)
  (hid : -9223372036854775808≤id∧id≤9223372036854775807) (hn0:0≤n)
  (hcf:∀(args:Array Value) (w:World),(callFunc fn args).run Tryz.prog w=.ok (.enter fn args) w)
  (hJ0:J V F w []) (hJn:JKeep J ad)
  (hJs:∀(V1 F1:Nat→Prop) (w1:World) (acc:List (Int × List UInt8)) (id:Int) (sv:Value) (b:List UInt8),J V1 F1 w1 acc→Env F1 ad w1→(∀k,V1 k→F1 k)→Sl F1 w1 1 encB sv b→b.length≤1000→acc.length≤4096 →
   Calls Tryz.prog fn #[.int .i64 id,sv,cv] w1 λe w2=>∃V2 F2,e=.returned (.tuple #[])∧J V2 F2 w2 (acc++[(id,b)])∧Nxt V1 V2 F1 F2 ad w1 w2) :
  Calls Tryz.prog 300 #[pgV c s gen,.int .i64 id,.int .i64 n,.func (.func fn) #[] #[cv]] w (WalkDone J F P V ad w c s G l (walkA G fuel id n)):=by
 unfold pgV;have hlim:=h.lim;have m0:Ext w (w.alloc (.cells #[.pointer (some ⟨c,0,none⟩),.pointer (some ⟨s,0,none⟩),.int .u64 (gen:Int)] 142)):=(Mods.refl _ w).alloc _;have hs0:WS J P V F ad w w.heap.size c s gen G l P V F (w.alloc (.cells #[.pointer (some ⟨c,0,none⟩),.pointer (some ⟨s,0,none⟩),.int .u64 (gen:Int)] 142)) []:=by
  have hn:=Nxt.ext hL (P:=U P V) (λk hk=>hk.elim (hP k) (hV k)) m0;exact⟨h.at m0,hn,Blk.new w _ _,λf=>by have:=h.bd _ f;omega,λf=>by have:=hL.lt _ (hV _ f);omega,hJn _ _ _ _ _ _ _ _ hJ0 (Nxt.ext hL hP m0) hPV,hPV⟩
 have HS0:=oh hs0;have HJN:=oh hJn;have HJS:=oh hJs;have HOK:=oh hok;obtain⟨b8,b256,s256,s1024,_,_⟩:=hlim;obtain⟨nn,hnn⟩:∃nn,nn=G.size-28:=⟨_,rfl⟩;have hnI:(G.size:Int)-28=(nn:Int):=by omega
 have HNI:=oh hnI;have hnn2:228≤nn∧nn≤996:=by omega
 obtain⟨hnn3,hnn4⟩:=hnn2;clear hL hP h m0 hJ0 hJn hJs hok hnn hnI hV hPV hs0
 go_enter Tryz.func300, Tryz.ntmps300
 go_wp2_with fail;go_loopg [1,2] fuel (λm iv nv wr=>∃(id1 n1:Int) (P1 V1 F1:Nat→Prop) (acc:List (Int × List UInt8)),iv=.int .i64 id1∧nv=.int .i64 n1∧n1≤m∧0≤n1∧n1≤4096∧(-9223372036854775808≤id1∧id1≤9223372036854775807) ∧
  Hid (WS J P V F ad w w.heap.size c s gen G l P1 V1 F1 wr acc∧walkOk G m id1 n1∧(acc.length:Int)+n1≤4096∧acc++(walkA G m id1 n1).1=(walkA G fuel id n).1∧(walkA G m id1 n1).2=(walkA G fuel id n).2))
 case atStart=>exact⟨id,n,P,V,F,[],rfl,rfl,hf,hn0,hn,hid,oh ⟨HS0.out,HOK.out,by simpa using hn,by simp,rfl⟩⟩
 case round =>
  obtain⟨id1,n1,P1,V1,F1,acc,rfl,rfl,hf1,h01,hn1,⟨hi1,hi2⟩,HW⟩:=hrel;by_cases hpos:0<n1
  ·obtain⟨m,rfl⟩:∃m,gk=m+1:=⟨gk-1,by omega⟩;have hW3:=HW.out.1.box;have hkn:=(HW.out.2.1 hpos).1;have HKN:=oh hkn;have r0:=hW3.cell (o:=0) (v:=.pointer (some ⟨c,0,none⟩)) rfl;clear hW3 hkn;go_wp2_with fail;refine (pgGet HW.out.1.envr HW.out.1.subP HW.out.1.pg id1 HKN.out).mono ?_;rintro e w2 ⟨P2,F2,hG2,hN2,hres⟩;have HS2:=oh (HW.out.1.nxt HJN.out hN2 hG2);have HB2:=oh HS2.out.box;clear hG2 hN2 r0;rcases hres with ⟨x,xv,hx,rfl,hxv⟩|⟨er,f,hx,rfl,hE⟩
   ·obtain⟨xa,xc,rfl,x1,x2,x3,x4⟩:=_root_.id hxv;obtain⟨xk,xi,xg,xb⟩:=x;simp only at x1 x3 x4 hxv;unfold maxLen at x2;have HXV:=oh hxv;have HX:=oh hx;have X4:=oh x4;obtain⟨wt,hwt⟩:∃wt:Nat,min n1 (nn:Int)=(wt:Int):=⟨(min n1 (nn:Int)).toNat,by omega⟩;have hwt1:1≤wt:=by omega
    have hwt2:(wt:Int)≤n1:=by omega
    have hwt3:wt≤996:=by omega
    have HWT:Hid (min n1 ((G.size:Int)-28)=(wt:Int)):=oh (by rw[HNI.out];exact hwt);have hB3:=HB2.out.alloc (.cells #[.int .i64 xk,.int .i64 xi,.int .u64 (xg:Int),.slice xa xb.length xc] 304);have r0:=hB3.cell (o:=0) (v:=.pointer (some ⟨c,0,none⟩)) rfl;have r1:=hB3.cell (o:=1) (v:=.pointer (some ⟨s,0,none⟩)) rfl;have r2:=hB3.cell (o:=2) (v:=.int .u64 (gen:Int)) rfl;have HG3:=oh (HS2.out.pg.at ((Mods.refl _ w2).alloc (.cells #[.int .i64 xk,.int .i64 xi,.int .u64 (xg:Int),.slice xa xb.length xc] 304)));have HB9:=oh (Blk.new w2 #[.int .i64 xk,.int .i64 xi,.int .u64 (xg:Int),.slice xa xb.length xc] 304);clear hx hxv x4 hB3;simp only[pageV];go_wp2_with fail;refine (chSize_any HG3.out gen).mono ?_;rintro e w4 ⟨rfl,hm4⟩;have HM4:Hid (Ext w2 w4):=oh (((Mods.refl _ w2).alloc _).trans hm4);have hB9:=HB9.out.ext hm4;have q0:=hB9.cell (o:=0) (v:=.int .i64 xk) rfl;have q3:=hB9.cell (o:=3) (v:=.slice xa xb.length xc) rfl;have HB94:=oh hB9;clear hm4 hB9 r0 r1 r2;go_wp2_with fail;refine (piece_any (G.size:Int) _ (by omega) (by omega)).mono ?_;rintro e w4' ⟨rfl,rfl⟩;rw[HNI.out];have HL4:=oh (HS2.out.envr.mods HM4.out.ext);go_wp2_with fail;refine (Take_any HL4.out (.slice xa xb.length xc) xb (HXV.out.ext HM4.out) 0 4 (by omega)).mono ?_;rintro e w5 ⟨ev,rfl,hE5,hm5⟩;have HM5:Hid (Ext w2 w5):=oh (HM4.out.trans hm5);have HL5:=oh (HS2.out.envr.mods HM5.out.ext);have c5:=HL5.out.c5;have hB9:=HB94.out.ext hm5;have p0:=hB9.cell (o:=0) (v:=.int .i64 xk) rfl;have p3:=hB9.cell (o:=3) (v:=.slice xa xb.length xc) rfl;have htl:=takeF_lt xb;obtain⟨tk,htk⟩:∃t,t=takeF xb 0 4:=⟨_,rfl⟩;rw[← htk] at hE5 htl ⊢;obtain⟨nx,o⟩:=tk;simp only at hE5 htl ⊢;have HTK:=oh htk;have BAD:pieceBad G.size ⟨xk,xi,xg,xb⟩ n1=true→∀(w6:World) (f6:Nat),Ext w5 w6→ErrC F2 ad w6 (faultV f6) [pgOf id1] 5→WalkDone J F P V ad w c s G l (walkA G fuel id n) (.returned (faultV f6)) w6:=by
     intro hpb w6 f6 hm6 hE6;have h8:=HW.out.2.2.2.1;have h9:=HW.out.2.2.2.2;rw[walkA,if_neg (by omega),HX.out] at h8 h9;simp only[hpb,if_true] at h8 h9;have hS:=HS2.out.ext HJN.out (HM5.out.trans hm6);refine⟨P2,V1,F2,_,rfl,hS.pg,hS.nx,?_,hS.apart,?_⟩
     ·rw[← h8,List.append_nil];exact hS.j
     ·rw[← h9];exact⟨f6,rfl,hE6⟩
    have BADT:Hid (∀(w6:World) (f6:Nat),pieceBad G.size ⟨xk,xi,xg,xb⟩ n1=true→Ext w5 w6→ErrC F2 ad w6 (faultV f6) [pgOf id1] 5→WalkDone J F P V ad w c s G l (walkA G fuel id n) (.returned (faultV f6)) w6):=oh (λw6 f6 hpb h1 h2=>BAD hpb w6 f6 h1 h2);clear BAD htk hm5 hB9 q0 q3;cases o with
    | some er =>
     obtain⟨el,ek⟩:=er;obtain⟨f5,rfl,_⟩:=hE5;have HPB:Hid (pieceBad G.size ⟨xk,xi,xg,xb⟩ n1=true):=oh (by unfold pieceBad;rw[← HTK.out];simp)
     -- bad
     go_wp2_with fail;refine (at_any HL5.out _ id1 _ _ 5 (.sent 5 (by decide) (by decide))).mono ?_;rintro e w6 ⟨f6,rfl,hE6,hm6⟩;have HE6:=oh hE6;have HM6:=oh hm6;clear hE6 hm6;go_wp2_with fail;go_ret;exact BADT.out w6 f6 HPB.out HM6.out HE6.out
    | none =>
     cases hE5
     by_cases hk4:xk=4
     ·subst hk4;by_cases hlen:(xb.length:Int)=4+(wt:Int)
      ·have b1:((xb.length:Int) != 4+(wt:Int))=false:=by simp[hlen]
       by_cases hz:(nx=0) ↔ (n1=(wt:Int))
       ·have HPB:Hid (pieceBad G.size ⟨4,xi,xg,xb⟩ n1=false):=oh (by
         unfold pieceBad;rw[← HTK.out,HWT.out];by_cases h1:nx=0 <;> by_cases h2:n1=(wt:Int) <;> simp[h1,h2,hlen] at hz ⊢)
        have hxl:5≤xb.length:=by omega
        have HLN:=oh hlen;obtain⟨b0,off,hxa⟩:∃b0 off,xa=some ⟨b0,off,none⟩:=by
         rcases X4.out with h|⟨b,off,h,_⟩
         ·rw[h] at hxl;simp at hxl
         ·exact⟨b,off,h⟩
        subst hxa;have HSL:Hid (Sl F2 w5 1 encB (.slice (some ⟨b0,off+4,none⟩) (xb.length-4) (xc-4)) (xb.drop 4)):=oh (by
         have:=(HXV.out.ext HM5.out).sub 4 xb.length (by omega) (Nat.le_refl _);rw[List.take_of_length_le (by simp)] at this;exact this)
        have HS5:=oh (HS2.out.ext HJN.out HM5.out);have hxc5:5≤xc:=by omega
        have hxc4:¬ xc=4:=by omega
        have HAL:Hid (acc.length≤4096):=oh (by have:=HW.out.2.2.1;omega);have HNXT:Hid (walkOk G m (nx:Int) (n1-(wt:Int))∧acc++[(id1,xb.drop 4)]++(walkA G m (nx:Int) (n1-(wt:Int))).1=(walkA G fuel id n).1∧(walkA G m (nx:Int) (n1-(wt:Int))).2=(walkA G fuel id n).2):=oh (by
         have h6:=(HW.out.2.1 hpos).2 ⟨4,xi,xg,xb⟩ HX.out HPB.out;have h8:=HW.out.2.2.2.1;have h9:=HW.out.2.2.2.2;rw[walkA,if_neg (by omega),HX.out] at h8 h9;simp only[HPB.out] at h8 h9;rw[← HTK.out,HWT.out] at h6 h8 h9;refine⟨h6,?_,by simpa using h9⟩;simpa using h8)
        by_cases h1:nx=0
        ·subst h1;have h2:n1=(wt:Int):=hz.1 rfl;subst h2;clear hz hlen;go_wp2_with fail;refine (HJS.out V1 F2 w5 acc id1 _ (xb.drop 4) HS5.out.j HS5.out.envr HS5.out.subV HSL.out (by have:=HLN.out;simp;omega) HAL.out).mono ?_;rintro e w6 ⟨V6,F6,rfl,hJ6,hX6⟩;have HNX:=oh (HS5.out.clo hX6 hJ6);clear hJ6 hX6;go_wp2_with fail;go_roundg m
         case measure=>omega
         case rel=>exact⟨((0:Nat):Int),(wt:Int)-(wt:Int),P2,V6,F6,acc++[(id1,xb.drop 4)],by first|rfl|exact val_int (by omega),by first|rfl|exact val_int (by omega),by omega,by omega,by omega,⟨by omega,by omega⟩,oh ⟨HNX.out,HNXT.out.1,by have:=HW.out.2.2.1;simp;omega,HNXT.out.2.1,HNXT.out.2.2⟩⟩
        ·have h2:n1≠(wt:Int):=λe=>h1 (hz.2 e)
         have b2:(n1 == (wt:Int))=false:=beq_eq_false_iff_ne.2 h2;have b3:((nx:Int) == 0)=false:=beq_eq_false_iff_ne.2 (by omega);clear hz hlen h1 h2;go_wp2_with fail;refine (HJS.out V1 F2 w5 acc id1 _ (xb.drop 4) HS5.out.j HS5.out.envr HS5.out.subV HSL.out (by have:=HLN.out;simp;omega) HAL.out).mono ?_;rintro e w6 ⟨V6,F6,rfl,hJ6,hX6⟩;have HNX:=oh (HS5.out.clo hX6 hJ6);clear hJ6 hX6;go_wp2_with fail;go_roundg m
         case measure=>omega
         case rel=>exact⟨(nx:Int),n1-(wt:Int),P2,V6,F6,acc++[(id1,xb.drop 4)],by first|rfl|exact val_int (by omega),by first|rfl|exact val_int (by omega),by omega,by omega,by omega,⟨by omega,by omega⟩,oh ⟨HNX.out,HNXT.out.1,by have:=HW.out.2.2.1;simp;omega,HNXT.out.2.1,HNXT.out.2.2⟩⟩
       ·have HPB:Hid (pieceBad G.size ⟨4,xi,xg,xb⟩ n1=true):=oh (by
         unfold pieceBad;rw[← HTK.out,HWT.out];by_cases h1:nx=0 <;> by_cases h2:n1=(wt:Int) <;> simp[h1,h2] at hz ⊢)
        by_cases h1:nx=0
        ·subst h1;have h2:n1≠(wt:Int):=λe=>hz ⟨λ_=>e,λ_=>rfl⟩
         have b2:(n1 == (wt:Int))=false:=beq_eq_false_iff_ne.2 h2;clear hz hlen h2;go_wp2_with fail;refine (at_any HL5.out _ id1 _ _ 5 (.sent 5 (by decide) (by decide))).mono ?_;rintro e w6 ⟨f6,rfl,hE6,hm6⟩;have HE6:=oh hE6;have HM6:=oh hm6;clear hE6 hm6;go_wp2_with fail;go_ret;exact BADT.out w6 f6 HPB.out HM6.out HE6.out
        ·have h2:n1=(wt:Int):=Classical.byContradiction (λe=>hz ⟨λh=>absurd h h1,λh=>absurd h e⟩);have b2:(n1 == (wt:Int))=true:=beq_iff_eq.2 h2;have b3:((nx:Int) == 0)=false:=beq_eq_false_iff_ne.2 (by omega);clear hz hlen h2;go_wp2_with fail;refine (at_any HL5.out _ id1 _ _ 5 (.sent 5 (by decide) (by decide))).mono ?_;rintro e w6 ⟨f6,rfl,hE6,hm6⟩;have HE6:=oh hE6;have HM6:=oh hm6;clear hE6 hm6;go_wp2_with fail;go_ret;exact BADT.out w6 f6 HPB.out HM6.out HE6.out
      ·have b1:((xb.length:Int) != 4+(wt:Int))=true:=bne_iff_ne.2 hlen;have b1':((xb.length:Int) == 4+(wt:Int))=false:=beq_eq_false_iff_ne.2 hlen;have HPB:Hid (pieceBad G.size ⟨4,xi,xg,xb⟩ n1=true):=oh (by
        unfold pieceBad;rw[← HTK.out,HWT.out];simp[hlen])
       clear hlen;go_wp2_with fail;refine (at_any HL5.out _ id1 _ _ 5 (.sent 5 (by decide) (by decide))).mono ?_;rintro e w6 ⟨f6,rfl,hE6,hm6⟩;have HE6:=oh hE6;have HM6:=oh hm6;clear hE6 hm6;go_wp2_with fail;go_ret;exact BADT.out w6 f6 HPB.out HM6.out HE6.out
     ·have b1:(xk != 4)=true:=bne_iff_ne.2 hk4;have b1':(xk == 4)=false:=beq_eq_false_iff_ne.2 hk4;have HPB:Hid (pieceBad G.size ⟨xk,xi,xg,xb⟩ n1=true):=oh (by
       unfold pieceBad;rw[← HTK.out];simp[hk4])
      clear hk4;go_wp2_with fail;refine (at_any HL5.out _ id1 _ _ 5 (.sent 5 (by decide) (by decide))).mono ?_;rintro e w6 ⟨f6,rfl,hE6,hm6⟩;have HE6:=oh hE6;have HM6:=oh hm6;clear hE6 hm6;go_wp2_with fail;go_ret;exact BADT.out w6 f6 HPB.out HM6.out HE6.out
   ·have HX:=oh hx;have HE:=oh hE;clear hx hE;simp only[pageV,zeroPage];go_wp2_with fail;go_ret;have hS:=HS2.out.ext HJN.out ((Mods.refl _ w2).alloc (.cells #[.int .i64 0,.int .i64 0,.int .u64 0,.slice none 0 0] 304));refine⟨P2,V1,F2,_,rfl,hS.pg,hS.nx,?_,hS.apart,?_⟩
    ·have h8:=HW.out.2.2.2.1;rw[walkA,if_neg (by omega),HX.out,List.append_nil] at h8;rw[← h8];exact hS.j
    ·have h9:=HW.out.2.2.2.2;rw[walkA,if_neg (by omega),HX.out] at h9;rw[← h9];exact⟨f,rfl,HE.out.mods ((Mods.refl _ _).alloc _)⟩
  ·go_wp2_with fail;go_ret;have hz:walkA G gk id1 n1=([],none):=by
    cases gk with
    | zero=>rfl
    | succ k=>rw[walkA,if_pos (by omega)]
   have h8:=HW.out.2.2.2.1;have h9:=HW.out.2.2.2.2;rw[hz] at h8 h9;refine⟨P1,V1,F1,_,rfl,HW.out.1.pg,HW.out.1.nx,?_,HW.out.1.apart,?_⟩
   ·rw[← h8,List.append_nil];exact HW.out.1.j
   ·rw[← h9];rfl
end
theorem run_conv_sl{P:Program}{F:Nat→Prop}{w:World}{src dst e:TypeId}(hs:P.underlying src=some (.slice e))(he:P.underlying e=some (.int .u8))(hd:P.underlying dst=some .string){v:Value}{l:List UInt8}(h:Sl F w 1 encB v l) :
  (convert src dst v).run P w=.ok (.string ⟨l.toArray⟩) w:=by
 obtain⟨a,cap,rfl,h1,h2,h3,h4⟩:=h;rcases h4 with h4|⟨b,off,rfl,hb,hF,hc⟩
 ·subst h4;rw[run_convert_bytes_string w src dst e _ _ cap hs he hd];cases a <;> simp[Conv.bytesToString,loadCells,loadCellsFrom] <;> rfl
 ·have:=run_convert_bytes_arg (P:=P) w src e hs he b off l.length cap (l.map λx=>(x.toNat:Int)) (by simp) (λi hi=>by
   have h5:=hc i l[i] (List.getElem?_eq_getElem hi) 0 _ rfl;simp only[Nat.mul_one,Nat.add_zero] at h5;rw[h5];simp[List.getD,hi]) dst hd
  rw[this];congr 3
  unfold strOfNums;simp only[List.map_map];congr 2
  have:((λn:Int=>UInt8.ofNat n.toNat) ∘ λx:UInt8=>(x.toNat:Int))=id:=by funext x;simp
  rw[this,List.map_id]
section
variable {P P' F F':Nat→Prop}{ad:Nat→Addr}{w w':World}{c s:Nat}{G G':GA}{l l':List Nat}
theorem Nxt.comp{V V' F1 F2:Nat→Prop}{w1 w2:World}(n1:Nxt P P F F1 ad w w1)(n2:Nxt (U P V) (U P' V') F1 F2 ad w1 w2)(hV:∀k,V k→w.heap.size≤k):Nxt P P' F F2 ad w w2 :=
 ⟨⟨n1.stp.mods.trans' n2.stp.mods (λi hi h=>h.elim id (λhv=>by have:=hV i hv;omega)),λk hk h=>(n2.stp.old k (Nat.lt_of_lt_of_le hk n1.stp.mods.size) (.inl h)).elim id (λhv=>by have:=hV k hv;omega),λk h=>n2.stp.bd k (.inl h)⟩,
  λk h=>n2.sub k (.inl h),λk h=>n2.grow k (n1.grow k h),λk hk h=>n1.oldF k hk (n2.oldF k (Nat.lt_of_lt_of_le hk n1.stp.mods.size) h),n2.env⟩
theorem str_app(a b:List UInt8):(⟨a.toArray⟩:ByteArray) ++ ⟨b.toArray⟩=⟨(a++b).toArray⟩:=by
 apply ByteArray.ext;simp
def JRead(b:Nat)(V _F:Nat→Prop)(w:World)(acc:List (Int × List UInt8)):Prop:=(∀k,V k ↔ k=b)∧Blk w b #[.string ⟨(acc.flatMap (·.2)).toArray⟩] 9 ∧ (acc.flatMap (·.2)).length≤1000 * acc.length
theorem JRead.keep(b:Nat):JKeep (JRead b) ad:=λ_ _ _ _ _ _ _ _ h n hap=>⟨h.1,n.blk h.2.1 (λhp=>hap b hp ((h.1 b).2 rfl)),h.2.2⟩
theorem read1_any(b:Nat)(V1 F1:Nat→Prop)(w1:World)(acc:List (Int × List UInt8))(id:Int)(sv:Value)(x:List UInt8)(h:JRead b V1 F1 w1 acc)(hL:Env F1 ad w1)(hV:∀k,V1 k→F1 k)(hs:Sl F1 w1 1 encB sv x)(hx:x.length≤1000)(hacc:acc.length≤4096) :
  Calls Tryz.prog 301 #[.int .i64 id,sv,.pointer (some ⟨b,0,none⟩)] w1 λe w2=>∃V2 F2,e=.returned (.tuple #[])∧JRead b V2 F2 w2 (acc++[(id,x)])∧Nxt V1 V2 F1 F2 ad w1 w2:=by
 have c0:=h.2.1.cell (o:=0) (v:=.string ⟨(acc.flatMap (·.2)).toArray⟩) rfl;have f0:=h.2.1.frozen 0;have hcv:=run_conv_sl (P:=Tryz.prog) Tryz.underlying26 Tryz.underlying5 Tryz.underlying9 hs;obtain⟨S,hS⟩:∃S,S=(acc.flatMap (·.2)):=⟨_,rfl⟩;have hSl:=h.2.2;rw[← hS] at c0 hSl;have hSl2:S.length≤4096000:=by omega
 have HS:=oh hS;have HH:=oh h;have HL:=oh hL;have HV:=oh hV;clear h hL hV hs hS
 go_enter Tryz.func301, Tryz.ntmps301
 go_wp2_with fail;go_end0
 have e1:(acc++[(id,x)]).flatMap (·.2)=S++x:=by rw[List.flatMap_append,HS.out];simp
 refine⟨V1,F1,rfl,⟨HH.out.1,?_,?_⟩,Nxt.same HL.out HV.out (Mods.at _ _ b 0 _ ((HH.out.1 b).2 rfl))⟩
 ·have:=HH.out.2.1.set 0 (.string ⟨(S++x).toArray⟩);rw[e1,← str_app];rw[← str_app] at this;simpa using this
 ·rw[e1];simp;omega
end
section
variable {P P' F F':Nat→Prop}{ad:Nat→Addr}{w w':World}{c s:Nat}{G G':GA}{l l':List Nat}
def chErr(G:GA)(id n:Int):Option Err :=
 match chCheck n with
 | some e=>some e
 | none=>wrapO (walkA G n.toNat id n).2
def ReadDone(F P:Nat→Prop)(ad:Nat→Addr)(w:World)(c s:Nat)(G:GA)(l:List Nat)(id n:Int)(e:Ending)(w':World):Prop :=
  ∃(P' F':Nat→Prop),PgR F' w' P' c s G l∧Nxt P P' F F' ad w w' ∧
    ((chErr G id n = none ∧ e = .returned (.tuple #[.string ⟨((walkA G n.toNat id n).1.flatMap (·.2)).toArray⟩, .nilIface])) ∨
     (∃(er:Err) (f:Nat),chErr G id n=some er∧e=.returned (.tuple #[.string ⟨#[]⟩,faultV f])∧ErrC F' ad w' (faultV f) er.1 er.2))
theorem PgR.plusNew(h:PgR F w P c s G l)(_hP:∀k,P k→F k){Q:Nat→Prop}(m:Ext w w')(hQ:∀k,Q k→w.heap.size≤k):PgR (λk=>F k∨Q k) w' P c s G l :=
 h.plus (Q:=λ_=>False) m (λ_ _ f=>f) (λ_ f=>f.elim) (λk hk hn hf=>hf.elim hn (λhq=>by have:=hQ k hq;omega))
theorem Nxt.new(hL:Env F ad w)(hP:∀k,P k→F k){Q:Nat→Prop}(m:Ext w w')(hQ:∀k,Q k→w.heap.size≤k)(hQ2:∀k,Q k→k<w'.heap.size):Nxt P P F (λk=>F k∨Q k) ad w w' :=
 ⟨Stp.ext (λk h=>hL.lt k (hP k h)) m,λk h=>.inl (hP k h),λ_ h=>.inl h,λk hk h=>h.elim id (λhq=>by have:=hQ k hq;omega),
  hL.step m.ext (λk hk hn hf=>hf.elim hn (λhq=>by have:=hQ k hq;omega)) (λk hf=>hf.elim (λhf=>Nat.lt_of_lt_of_le (hL.lt k hf) m.size) (hQ2 k))⟩
theorem Tryz.enterR(args:Array Value)(w:World):(callFunc 301 args).run Tryz.prog w=.ok (.enter 301 args) w:=by kernel_rfl
theorem chRead_any(hL:Env F ad w)(hP:∀k,P k→F k)(h:PgR F w P c s G l)(gen:Nat)(id n:Int)(hid : -9223372036854775808≤id∧id≤9223372036854775807)(hok:25≤n→n≤4096→walkOk G n.toNat id n) :
  Calls Tryz.prog 246 #[pgV c s gen,.int .i64 id,.int .i64 n] w (ReadDone F P ad w c s G l id n):=by
 unfold pgV;have m0:Ext w (w.alloc (.cells #[.pointer (some ⟨c,0,none⟩),.pointer (some ⟨s,0,none⟩),.int .u64 (gen:Int)] 142)):=(Mods.refl _ w).alloc _;have HB0:=oh (Blk.new w #[.pointer (some ⟨c,0,none⟩),.pointer (some ⟨s,0,none⟩),.int .u64 (gen:Int)] 142);have HX0:=oh (Nxt.ext hL hP m0);have HL:=oh hL;have HP:=oh hP;have HG:=oh h;have HOK:=oh hok;have HM0:=oh m0;clear hL hP h m0 hok
 go_enter Tryz.func246, Tryz.ntmps246
 go_wp2_with fail;refine (chCheck_any HX0.out.env _ gen n).mono ?_;rintro e w1 ⟨ev,rfl,hE,hm1⟩;have HM1:=oh (HM0.out.trans hm1);have hB1:=HB0.out.ext hm1;have r0:=hB1.cell (o:=0) (v:=.pointer (some ⟨c,0,none⟩)) rfl;have r1:=hB1.cell (o:=1) (v:=.pointer (some ⟨s,0,none⟩)) rfl;have r2:=hB1.cell (o:=2) (v:=.int .u64 (gen:Int)) rfl;have hbl:=hB1.lt;cases hck:chCheck n with
 | some er =>
  obtain⟨el,ek⟩:=er;rw[hck] at hE;obtain⟨f,rfl,hE⟩:=hE;have HE:=oh hE;have HK:Hid (chErr G id n=some (el,ek)):=oh (by unfold chErr;rw[hck]);clear hE hck hm1 hB1;go_wp2_with fail;go_ret2
  exact⟨P,F,HG.out.at HM1.out,Nxt.ext HL.out HP.out HM1.out,.inr ⟨(el,ek),f,HK.out,rfl,HE.out⟩⟩
 | none =>
  rw[hck] at hE;cases hE
  have hn:25≤n∧n≤4096:=by unfold chCheck at hck;split at hck;cases hck;omega
  obtain⟨hn1,hn2⟩:=hn;have HCK:=oh hck;have m1:Ext w (w1.alloc (.cells #[.string ⟨#[]⟩] 9)):=HM1.out.alloc _;have HN1:=oh (Nxt.new (Q:=λk=>k=w1.heap.size) HL.out HP.out m1 (λk hk=>hk ▸ HM1.out.size) (λk hk=>by rw[hk];simp));have HG1:=oh (HG.out.plusNew HP.out (Q:=λk=>k=w1.heap.size) m1 (λk hk=>hk ▸ HM1.out.size));have HBV:=oh (Blk.new w1 #[.string ⟨#[]⟩] 9);have HBD:=oh HG.out.bd;clear hck hm1 hB1;go_wp2_with fail;refine (walk_any (JRead w1.heap.size) (λk=>k=w1.heap.size) HN1.out.env HN1.out.sub (λk hk=>.inr hk) (λk hk hv=>by have:=HBD.out k hk;have:=HM1.out.size;omega) HG1.out gen id n (by omega) n.toNat (by omega) (HOK.out hn1 hn2) 301 (.pointer (some ⟨w1.heap.size,0,none⟩)) hid (by omega) Tryz.enterR ⟨λk=>Iff.rfl,HBV.out,by simp⟩ (JRead.keep _) (λV1 F1 w2 acc id sv b j1 j2 j3 j4 j5 j6=>read1_any _ V1 F1 w2 acc id sv b j1 j2 j3 j4 j5 j6)).mono ?_;rintro e w3 ⟨P3,V3,F3,ev,rfl,hG3,hN3,hJ3,hA3,hE3⟩;have HN3:=oh (HN1.out.comp hN3 (λk hk=>by rw[hk];exact HM1.out.size));have HG3:=oh hG3;have hc:=hJ3.2.1.cell (o:=0) (v:=.string ⟨((walkA G n.toNat id n).1.flatMap (·.2)).toArray⟩) rfl;obtain⟨wk,hwk⟩:∃x,x=walkA G n.toNat id n:=⟨_,rfl⟩;rw[← hwk] at hc hE3;obtain⟨wr1,we⟩:=wk;have HWK:=oh hwk;simp only at hc hE3;clear hG3 hN3 hJ3 hA3 hwk;cases we with
  | none =>
   cases hE3
   have HK:Hid (chErr G id n=none):=oh (by unfold chErr;rw[HCK.out,← HWK.out];rfl);go_wp2_with fail;go_ret2
   exact⟨P3,F3,HG3.out,HN3.out,.inl ⟨HK.out,by rw[← HWK.out];rfl⟩⟩
  | some er =>
   obtain⟨el,ek⟩:=er;obtain⟨f,rfl,hE3⟩:=hE3;have HE3:=oh hE3;have HK:Hid (chErr G id n=some (-1 :: el,ek)):=oh (by unfold chErr;rw[HCK.out,← HWK.out];rfl);clear hE3;go_wp2_with fail;refine (wrap_any HN3.out.env _ _ el ek HE3.out).mono ?_;rintro e w4 ⟨f4,rfl,hE4,hm4⟩;have HE4:=oh hE4;have HM4:=oh hm4;clear hE4 hm4;go_wp2_with fail;go_ret2
   exact⟨P3,F3,HG3.out.at HM4.out,HN3.out.trans (Nxt.ext HN3.out.env HN3.out.sub HM4.out),.inr ⟨(-1 :: el,ek),f4,HK.out,rfl,HE4.out⟩⟩
end
theorem SameBytes_any{F G:Nat→Prop}{w:World}(av bv:Value)(l m:List UInt8)(ha:Sl F w 1 encB av l)(hb:Sl G w 1 encB bv m) :
  Calls Tryz.prog 14 #[av,bv] w λe w'=>e=.returned (.bool (decide (l=m)))∧Ext w w':=by
 obtain⟨a,cap,rfl,h1,h2,h3,h4⟩:=ha;obtain⟨b,cap2,rfl,i1,i2,i3,i4⟩:=hb;unfold maxLen at h2 i2;have H4:=oh h4;have I4:=oh i4;clear h4 i4;by_cases hl:l.length=m.length
 ·obtain⟨n,hn⟩:∃n,n=l.length:=⟨_,rfl⟩;rw[← hl,← hn] at i1 i3 ⊢;rw[← hn] at h1 h3;have N1:Hid (n=l.length):=oh hn;have N2:Hid (n=m.length):=oh (hn.trans hl);clear hn hl
  go_enter Tryz.func14, Tryz.ntmps14
  go_wp2_with fail;go_loopg [5] n (λq v5 wr=>∃k:Nat,k+q=n∧v5=.int .i64 k∧Hid (l.take k=m.take k)∧Hid (Ext w wr))
  case atStart=>exact⟨0,by omega,rfl,oh rfl,oh (Mods.refl _ _)⟩
  case round =>
   obtain⟨k,hk,rfl,HQ,HM⟩:=hrel;by_cases hltn:k<n
   ·have hlt:k<l.length:=by have:=N1.out;omega
    have hlt2:k<m.length:=by have:=N2.out;omega
    obtain⟨b1,off1,rfl,hb1,hF1,hc1⟩:=Sl.atE H4.out HM.out k hlt;obtain⟨b2,off2,rfl,hb2,hF2,hc2⟩:=Sl.atE I4.out HM.out k hlt2;obtain⟨x,hx⟩:∃x,x=l[k]:=⟨_,rfl⟩;obtain⟨y,hy⟩:∃y,y=m[k]:=⟨_,rfl⟩;have d1:=hc1 0 (.int .u8 (x.toNat:Int)) (by rw[hx];rfl);have d2:=hc2 0 (.int .u8 (y.toNat:Int)) (by rw[hy];rfl);simp only[Nat.mul_one,Nat.add_zero] at d1 d2;have hx8:x.toNat<256:=x.toNat_lt;have hy8:y.toNat<256:=y.toNat_lt;have hx2:l[k]? = some x:=by rw[hx];simp[hlt]
    have hy2:m[k]? = some y:=by rw[hy];simp[hlt2]
    have HT:Hid (x=y→l.take (k+1)=m.take (k+1)):=oh (λe=>by rw[take_one l k x hx2,take_one m k y hy2,HQ.out,e]);have HN:Hid (x≠y→decide (l=m)=false):=oh (λe=>by
     rw[decide_eq_false_iff_not];intro h;rw[h,hy2] at hx2;injection hx2 with h5;exact e h5.symm)
    clear hc1 hc2 hx hy hx2 hy2 hlt hlt2;by_cases hxy:x=y
    ·subst hxy;go_wp2_with fail;go_region
     go_wp2_with fail;go_roundg (gk-1)
     case measure=>omega
     case rel=>exact⟨k+1,by omega,by go_num,oh (HT.out (by first|rfl|trivial)),oh HM.out.drew⟩
    ·have hne:x.toNat≠y.toNat:=λe=>hxy (UInt8.toNat_inj.1 e)
     have HN2:=oh (HN.out hxy);clear hxy;go_wp2_with fail;go_region
     go_wp2_with fail;go_ret;exact⟨ret_bool HN2.out.symm,HM.out.drew⟩
   ·have he:Hid (decide (l=m)=true):=oh (by
     have:=HQ.out;have n1:=N1.out;have n2:=N2.out;rw[List.take_of_length_le (by omega),List.take_of_length_le (by omega)] at this;simp[this])
    go_wp2_with fail;go_ret;exact⟨ret_bool he.out.symm,HM.out⟩
 ·have he:Hid (decide (l=m)=false):=oh (by rw[decide_eq_false_iff_not];intro h;exact hl (by rw[h]))
  go_enter Tryz.func14, Tryz.ntmps14
  go_wp2_with fail;go_ret;exact⟨ret_bool he.out.symm,Mods.refl _ _⟩
end
end Go.Proofs.YtdnbmdghmmpgcaaGreatDoor
