import Derived.Test.YtchklfmggpconaaGreatDoorK41
import Derived.BigQuiet
import Derived.Deep.RegionHeld3
namespace Go.Proofs.YtchklfmggpconaaGreatDoor
open Lib renaming hid→oh
set_option maxHeartbeats 4000000
set_option maxRecDepth 100000
section
open Go.RowKit Go.Maps
attribute [local go_sem ↓] Go.wp_at_zero Go.wp_at_succ
section
variable {F P P' F' P1 F1:Nat→Prop}{ad:Nat→Addr}{w w' w0:World}{c s gen kb mb:Nat}{G:GA}{l:List Nat}{pv kv pv' kv':Value}{st st':WkS}{ps:List Int}
def YoungRes(F:Nat→Prop)(ad:Nat→Addr)(w':World)(r:PageA ⊕ Err)(e:Ending):Prop :=
 match r with
 | .inl p=>∃a n,e=.returned (.tuple #[.agg #[.int .i64 p.kind,.int .i64 p.id,.int .u64 (p.gen:Int),.slice a p.body.length n],.nilIface])∧Sl F w' 1 encB (.slice a p.body.length n) p.body∧p.body.length≤1000
 | .inr (el,ek)=>∃(x0 x1 x2:Int) (a:Option Addr) (n m:Nat) (f:Nat),e=.returned (.tuple #[.agg #[.int .i64 x0,.int .i64 x1,.int .u64 x2,.slice a n m],faultV f])∧ErrC F ad w' (faultV f) el ek
theorem young_any(hL:Env F ad w)(hP:∀k,P k→F k)(h:PgR F w P c s G l){cs:Array Value}(hB:Blk w kb cs 102)(h0:cs[0]? = some (.pointer (some ⟨c,0,none⟩)))(h2:cs[2]? = some (.int .u64 (gen:Int)))(hkb:¬ P kb)(id:Int)(hk:G.knows id) :
  Calls Tryz.prog 79 #[.pointer (some ⟨kb,0,none⟩),.int .i64 id] w (PgDone F P ad w c s G l (λF' w' e=>YoungRes F' ad w' (youngW G gen id) e)):=by
 have m0:Ext w (w.alloc (.cells #[.int .i64 0,.int .i64 0,.int .u64 0,.slice none 0 0] 167)):=(Mods.refl _ w).alloc _;have HM0:=oh m0;have HB0:=oh (hB.ext m0);have hRP:¬ P w.heap.size:=λhp=>by have:=h.bd _ hp;omega
 have HRP:=oh hRP;have HR0:=oh (Blk.new w #[.int .i64 0,.int .i64 0,.int .u64 0,.slice none 0 0] 167);have HN1:Hid (Nxt P P F (λk=>F k∨k=w.heap.size) ad w (w.alloc (.cells #[.int .i64 0,.int .i64 0,.int .u64 0,.slice none 0 0] 167))):=oh (Nxt.new hL hP (Q:=λk=>k=w.heap.size) m0 (λk hk=>by omega) (λk hk=>by simp;omega));have HG1:Hid (PgR (λk=>F k∨k=w.heap.size) (w.alloc (.cells #[.int .i64 0,.int .i64 0,.int .u64 0,.slice none 0 0] 167)) P c s G l):=oh (h.plusNew hP (Q:=λk=>k=w.heap.size) m0 (λk hk=>by omega));have k0:=(hB.ext m0).cell h0;have HKN:=oh hk;have H2:=oh h2;have HKB:=oh hkb;clear hL hP h hB m0 hRP h0 hk h2
 go_enter Tryz.func79, Tryz.ntmps79
 go_wp2_with fail;refine (pgGet HN1.out.env HN1.out.sub HG1.out id HKN.out).mono ?_;rintro e w2 ⟨P2,F2,hG2,hN2,hres⟩;have HG2:=oh hG2;have HN2:=oh hN2;have HR2:=oh (hN2.blk HR0.out HRP.out);have hB2:=hN2.blk HB0.out HKB.out;have HB2:=oh hB2;have k2:=hB2.cell H2.out;have HRP2:Hid (¬ P2 w.heap.size):=oh (hN2.not HR0.out.lt HRP.out);have HRF2:Hid (F2 w.heap.size):=oh (hN2.grow _ (.inr rfl));clear hG2 hN2 hB2 k0;rcases hres with ⟨x,xv,hx,rfl,hxv⟩|⟨er,f,hx,rfl,hE⟩
 ·obtain⟨hxi,_,hxl⟩:=HG2.out.got hx;have HXV:=oh hxv;obtain⟨xa,xc,rfl, -, -, -, -⟩:=_root_.id hxv;unfold pageV;have HX1:=oh (Blk.new w2 #[.int .i64 x.kind,.int .i64 x.id,.int .u64 (x.gen:Int),.slice xa x.body.length xc] 167);have HX2:Hid (∀q,Ext w2 ((w2.alloc (.cells #[.int .i64 x.kind,.int .i64 x.id,.int .u64 (x.gen:Int),.slice xa x.body.length xc] 167)).drewN q)):=oh (λq=>((Mods.refl _ w2).alloc _).drewN q);have HXB:Hid (∀q,Blk ((w2.alloc (.cells #[.int .i64 x.kind,.int .i64 x.id,.int .u64 (x.gen:Int),.slice xa x.body.length xc] 167)).drewN q) w2.heap.size #[.int .i64 x.kind,.int .i64 x.id,.int .u64 (x.gen:Int),.slice xa x.body.length xc] 167):=oh (λ_=>HX1.out);have k2:=(HB2.out.ext ((Mods.refl _ w2).alloc (.cells #[.int .i64 x.kind,.int .i64 x.id,.int .u64 (x.gen:Int),.slice xa x.body.length xc] 167))).cell H2.out;have hne:w2.heap.size≠w.heap.size:=by have:=HR2.out.lt;omega
  have hne2:w.heap.size≠w2.heap.size:=λe=>hne e.symm
  by_cases hy:gen<x.gen
  ·have HY:Hid (youngW G gen id=.inr (corrE id)):=oh (by unfold youngW;rw[hx];simp only[if_pos hy]);have hyi:(gen:Int)<(x.gen:Int):=by omega
   have HCR:=oh (λq=>corrupt_any (HN2.out.env.mods (HX2.out q).ext) id);clear hx hxv hxi hy;go_wp2_with fail;go_quiet (fail)
   go_wp2_with fail;refine (HCR.out _).mono ?_;rintro e w3 ⟨f,rfl,hE,hm3⟩;have HE:=oh hE;have HM3:=oh ((HX2.out _).trans hm3);have hX3:=(HXB.out _).ext hm3;have hR3:=HR2.out.ext HM3.out;have x0:=hX3.cell (o:=0) (v:=.int .i64 x.kind) rfl;have x1:=hX3.cell (o:=1) (v:=.int .i64 x.id) rfl;have x2:=hX3.cell (o:=2) (v:=.int .u64 (x.gen:Int)) rfl;have x3:=hX3.cell (o:=3) (v:=.slice xa x.body.length xc) rfl;have r0:=hR3.cell (o:=0) (v:=.int .i64 0) rfl;have r1:=hR3.cell (o:=1) (v:=.int .i64 0) rfl;have r2:=hR3.cell (o:=2) (v:=.int .u64 0) rfl;have r3:=hR3.cell (o:=3) (v:=.slice none 0 0) rfl;have rf:=hR3.frozen;have HR3:=oh hR3;clear hE hm3 hX3 hR3;go_wp2_with fail;have HRB:=oh (HR3.out.set4 (.int .i64 x.kind) (.int .i64 x.id) (.int .u64 (x.gen:Int)) (.slice xa x.body.length xc));have HMR:=oh (Mods.set4 (F:=λk=>k=w.heap.size) (Mods.refl _ (w3)) (R:=w.heap.size) (.inr rfl) (.int .i64 x.kind) (.int .i64 x.id) (.int .u64 (x.gen:Int)) (.slice xa x.body.length xc));clear r0 r1 r2 r3 rf x0 x1 x2 x3;go_wp2_with fail;refine bodyPost_ret (results_row_tmp rfl _ _ w.heap.size 167 #[.int .i64 x.kind,.int .i64 x.id,.int .u64 (x.gen:Int),.slice xa x.body.length xc] _ rfl HRB.out Tryz.underlying167 rfl Tryz.pageSize) rfl ?_;have HMF:=HMR.out.mono (G:=F2) (λk hk=>hk ▸ HRF2.out);refine⟨P2,F2,(HG2.out.at (HM3.out)).res HMR.out HRP2.out HRF2.out,((HN1.out.trans HN2.out).trans (Nxt.ext HN2.out.env HN2.out.sub (HM3.out))).resD HMR.out (by omega) HRF2.out,?_⟩;rw[HY.out];exact⟨_,_,_,_,_,_,f,rfl,HE.out.mods HMF⟩
  ·have HY:Hid (youngW G gen id=.inl x):=oh (by unfold youngW;rw[hx];simp only[if_neg hy]);have hyi:¬ (gen:Int)<(x.gen:Int):=by omega
   have HXL:=oh hxl;clear hx hxv hxi hy hxl;go_wp2_with fail;go_quiet (fail)
   have hX3:=HXB.out nq;have hR3:=HR2.out.ext (HX2.out nq);have x0:=hX3.cell (o:=0) (v:=.int .i64 x.kind) rfl;have x1:=hX3.cell (o:=1) (v:=.int .i64 x.id) rfl;have x2:=hX3.cell (o:=2) (v:=.int .u64 (x.gen:Int)) rfl;have x3:=hX3.cell (o:=3) (v:=.slice xa x.body.length xc) rfl;have r0:=hR3.cell (o:=0) (v:=.int .i64 0) rfl;have r1:=hR3.cell (o:=1) (v:=.int .i64 0) rfl;have r2:=hR3.cell (o:=2) (v:=.int .u64 0) rfl;have r3:=hR3.cell (o:=3) (v:=.slice none 0 0) rfl;have rf:=hR3.frozen;have HR3:=oh hR3;clear hX3 hR3;go_wp2_with fail;have HRB:=oh (HR3.out.set4 (.int .i64 x.kind) (.int .i64 x.id) (.int .u64 (x.gen:Int)) (.slice xa x.body.length xc));have HMR:=oh (Mods.set4 (F:=λk=>k=w.heap.size) (Mods.refl _ ((w2.alloc (.cells #[.int .i64 x.kind,.int .i64 x.id,.int .u64 (x.gen:Int),.slice xa x.body.length xc] 167)).drewN nq)) (R:=w.heap.size) (.inr rfl) (.int .i64 x.kind) (.int .i64 x.id) (.int .u64 (x.gen:Int)) (.slice xa x.body.length xc));clear r0 r1 r2 r3 rf x0 x1 x2 x3;go_wp2_with fail;refine bodyPost_ret (results_row_tmp rfl _ _ w.heap.size 167 #[.int .i64 x.kind,.int .i64 x.id,.int .u64 (x.gen:Int),.slice xa x.body.length xc] _ rfl HRB.out Tryz.underlying167 rfl Tryz.pageSize) rfl ?_;have HMF:=HMR.out.mono (G:=F2) (λk hk=>hk ▸ HRF2.out);refine⟨P2,F2,(HG2.out.at (HX2.out nq)).res HMR.out HRP2.out HRF2.out,((HN1.out.trans HN2.out).trans (Nxt.ext HN2.out.env HN2.out.sub (HX2.out nq))).resD HMR.out (by omega) HRF2.out,?_⟩;rw[HY.out];exact⟨xa,xc,rfl,(HXV.out.ext (HX2.out nq)).mods HMF,HXL.out⟩
 ·obtain⟨el,ek⟩:=er;have HY:Hid (youngW G gen id=.inr (el,ek)):=oh (by unfold youngW;rw[hx]);have HE:=oh hE;unfold pageV zeroPage;have HX1:=oh (Blk.new w2 #[.int .i64 0,.int .i64 0,.int .u64 0,.slice none 0 0] 167);have HX2:Hid (∀q,Ext w2 ((w2.alloc (.cells #[.int .i64 0,.int .i64 0,.int .u64 0,.slice none 0 0] 167)).drewN q)):=oh (λq=>((Mods.refl _ w2).alloc _).drewN q);have HXB:Hid (∀q,Blk ((w2.alloc (.cells #[.int .i64 0,.int .i64 0,.int .u64 0,.slice none 0 0] 167)).drewN q) w2.heap.size #[.int .i64 0,.int .i64 0,.int .u64 0,.slice none 0 0] 167):=oh (λ_=>HX1.out);have k2:=(HB2.out.ext ((Mods.refl _ w2).alloc (.cells #[.int .i64 0,.int .i64 0,.int .u64 0,.slice none 0 0] 167))).cell H2.out;have hne:w2.heap.size≠w.heap.size:=by have:=HR2.out.lt;omega
  have hne2:w.heap.size≠w2.heap.size:=λe=>hne e.symm
  clear hx hE;go_wp2_with fail;go_quiet (fail)
  have hX3:=HXB.out nq;have hR3:=HR2.out.ext (HX2.out nq);have x0:=hX3.cell (o:=0) (v:=.int .i64 0) rfl;have x1:=hX3.cell (o:=1) (v:=.int .i64 0) rfl;have x2:=hX3.cell (o:=2) (v:=.int .u64 0) rfl;have x3:=hX3.cell (o:=3) (v:=.slice none 0 0) rfl;have r0:=hR3.cell (o:=0) (v:=.int .i64 0) rfl;have r1:=hR3.cell (o:=1) (v:=.int .i64 0) rfl;have r2:=hR3.cell (o:=2) (v:=.int .u64 0) rfl;have r3:=hR3.cell (o:=3) (v:=.slice none 0 0) rfl;have rf:=hR3.frozen;have HR3:=oh hR3;clear hX3 hR3;go_wp2_with fail;have HRB:=oh (HR3.out.set4 (.int .i64 0) (.int .i64 0) (.int .u64 0) (.slice none 0 0));have HMR:=oh (Mods.set4 (F:=λk=>k=w.heap.size) (Mods.refl _ ((w2.alloc (.cells #[.int .i64 0,.int .i64 0,.int .u64 0,.slice none 0 0] 167)).drewN nq)) (R:=w.heap.size) (.inr rfl) (.int .i64 0) (.int .i64 0) (.int .u64 0) (.slice none 0 0));clear r0 r1 r2 r3 rf x0 x1 x2 x3;go_wp2_with fail;refine bodyPost_ret (results_row_tmp rfl _ _ w.heap.size 167 #[.int .i64 0,.int .i64 0,.int .u64 0,.slice none 0 0] _ rfl HRB.out Tryz.underlying167 rfl Tryz.pageSize) rfl ?_;have HMF:=HMR.out.mono (G:=F2) (λk hk=>hk ▸ HRF2.out);refine⟨P2,F2,(HG2.out.at (HX2.out nq)).res HMR.out HRP2.out HRF2.out,((HN1.out.trans HN2.out).trans (Nxt.ext HN2.out.env HN2.out.sub (HX2.out nq))).resD HMR.out (by omega) HRF2.out,?_⟩;rw[HY.out];exact⟨0,0,0,none,0,0,f,rfl,(HE.out.mods (HX2.out nq).ext).mods HMF⟩
end
end
section
open Go.RowKit Go.Maps
section
variable {F P P' F' P1 F1:Nat→Prop}{ad:Nat→Addr}{w w' w0:World}{base c s gen kb mb:Nat}{G:GA}{l:List Nat}{pv kv pv' kv':Value}{st st':WkS}
def wkQ(P:Nat→Prop)(kb mb:Nat)(pv kv:Value):Nat→Prop:=λk=>P k∨WkB kb mb pv kv k
structure WkI(F P:Nat→Prop)(ad:Nat→Addr)(w:World)(base c s gen kb mb:Nat)(G:GA)(l:List Nat)(pv kv:Value)(st:WkS):Prop where
 env:Env F ad w
 sub:∀k,P k→F k
 pg:PgR F w P c s G l
 wk:WkR F P w base c s gen kb mb pv kv st
 bl:base≤w.heap.size
theorem WkR.lt(h:WkR F P w base c s gen kb mb pv kv st):∀k,WkB kb mb pv kv k→k<w.heap.size:=by
 rintro k (rfl|rfl|e|e)
 ·exact h.blk.lt
 ·exact h.seen.lt
 ·exact (h.rp.lt k e).2
 ·exact (h.rk.lt k e).2
theorem WkI.bd(h:WkI F P ad w base c s gen kb mb G l pv kv st):Bd (wkQ P kb mb pv kv) w:=by
 rintro k (hk|hk)
 ·exact h.pg.bd k hk
 ·exact h.wk.lt k hk
theorem WkI.subQ(h:WkI F P ad w base c s gen kb mb G l pv kv st):∀k,wkQ P kb mb pv kv k→F k:=by
 rintro k (hk|hk)
 ·exact h.sub k hk
 ·exact (h.wk.nP k hk).1
theorem WkI.ext(h:WkI F P ad w base c s gen kb mb G l pv kv st)(m:Ext w w'):WkI F P ad w' base c s gen kb mb G l pv kv st∧Nxt (wkQ P kb mb pv kv) (wkQ P kb mb pv kv) F F ad w w' :=
 ⟨⟨h.env.mods m.ext,h.sub,h.pg.at m,⟨h.wk.blk.ext m,h.wk.seen.mods m (λf=>f),h.wk.rp.ext m,h.wk.rk.ext m,h.wk.nP,h.wk.few⟩,Nat.le_trans h.bl m.size⟩,Nxt.ext h.env h.subQ m⟩
theorem WkI.pag{G':GA}{l':List Nat}(h:WkI F P ad w base c s gen kb mb G l pv kv st)(n:Nxt P P' F F' ad w w')(g:PgR F' w' P' c s G' l') :
  WkI F' P' ad w' base c s gen kb mb G' l' pv kv st∧Nxt (wkQ P kb mb pv kv) (wkQ P' kb mb pv kv) F F' ad w w':=by
 have hw:=h.wk;have np:=λk (hk:WkB kb mb pv kv k)=>(hw.nP k hk).2
 have m:=n.stp.mods;have nq:∀k,WkB kb mb pv kv k→F' k∧¬ P' k:=λk hk=>⟨n.grow k (hw.nP k hk).1,n.not (hw.lt k hk) (np k hk)⟩
 refine⟨⟨n.env,n.sub,g,⟨hw.blk.mods m (np kb (.inl rfl)),hw.seen.mods m (np mb (.inr (.inl rfl))),hw.rp.mods m (λk hk=>np k (.inr (.inr (.inl hk)))),hw.rk.mods m (λk hk=>np k (.inr (.inr (.inr hk)))),nq,hw.few⟩,Nat.le_trans h.bl m.size⟩,
  ⟨⟨m.mono (λk hk=>.inl hk),?_,?_⟩,?_,n.grow,n.oldF,n.env⟩⟩
 ·rintro k hk (hp|hp)
  ·exact .inl (n.stp.old k hk hp)
  ·exact .inr hp
 ·rintro k (hp|hp)
  ·exact n.stp.bd k hp
  ·exact Nat.lt_of_lt_of_le (hw.lt k hp) m.size
 ·rintro k (hp|hp)
  ·exact n.sub k hp
  ·exact (nq k hp).1
theorem WkI.saw(h:WkI F P ad w base c s gen kb mb G l pv kv st)(hw:WkR (plusV F pv') P w' base c s gen kb mb pv' kv st')(m:Mods (WkB kb mb pv kv) w w')(hat:pv'.ownBlock=pv.ownBlock∨∃K,w.heap.size≤K∧pv'.ownBlock=some K) :
  WkI (plusV F pv') P ad w' base c s gen kb mb G l pv' kv st'∧Nxt (wkQ P kb mb pv kv) (wkQ P kb mb pv' kv) F (plusV F pv') ad w w':=by
 have hnew:∀k,k<w.heap.size→¬ F k→¬ plusV F pv' k:=by
  rintro k hk hn (hf|hf)
  ·exact hn hf
  ·rcases hat with e|⟨K,hK,e⟩
   ·exact hn (h.wk.nP k (.inr (.inr (.inl (e ▸ hf))))).1
   ·rw[e] at hf;injection hf with hf;omega
 have hE:Env (plusV F pv') ad w':=h.env.step (m.mono (λk hk=>(h.wk.nP k hk).1)) hnew (λk hf=>by
  rcases hf with hf|hf
  ·exact Nat.lt_of_lt_of_le (h.env.lt k hf) m.size
  ·exact (hw.rp.lt k hf).2)
 have hI:WkI (plusV F pv') P ad w' base c s gen kb mb G l pv' kv st' :=
  ⟨hE,λk hk=>.inl (h.sub k hk),h.pg.plus m (λk hk hq=>(h.wk.nP k hq).2 hk) (λk hk=>(h.wk.nP k hk).1) hnew,hw,Nat.le_trans h.bl m.size⟩
 refine⟨hI,⟨⟨m.mono (λk hk=>.inr hk),?_,hI.bd⟩,hI.subQ,λk hk=>.inl hk,λk hk hf=>Classical.byContradiction λhn=>hnew k hk hn hf,hE⟩⟩;rintro k hk (hp|hp|hp|hp|hp)
 ·exact .inl hp
 ·exact .inr (.inl hp)
 ·exact .inr (.inr (.inl hp))
 ·rcases hat with e|⟨K,hK,e⟩
  ·exact .inr (.inr (.inr (.inl (e ▸ hp))))
  ·rw[e] at hp;injection hp with hp;omega
 ·exact .inr (.inr (.inr (.inr hp)))
end
end
section
open Go.RowKit
attribute [local go_sem ↓] Go.wp_at_zero Go.wp_at_succ
def ShortP(l:List PairS):Prop:=l.length≤1000∧∀x∈l,x.1.size≤10000∧x.2.size≤10000
theorem wtP_lim{x:PairS}(h:x.1.size≤10000∧x.2.size≤10000):0≤wtP x∧wtP x≤30000:=by unfold wtP;split <;> omega
theorem addW_lim{l:List PairS}(h:∀x∈l,x.1.size≤10000∧x.2.size≤10000):0≤addW (wtsP l)∧addW (wtsP l)≤30000 * l.length:=by
 induction l with
 | nil=>simp[addW,wtsP]
 | cons x l ih =>
  have h1:=wtP_lim (h x List.mem_cons_self);have h2:=ih (λy hy=>h y (List.mem_cons_of_mem _ hy));simp only[wtsP,List.map_cons,addW,List.length_cons] at h2 ⊢;omega
theorem addW_take{l:List Int}{k:Nat}{x:Int}(h:l[k]? = some x):addW (l.take (k+1))=addW (l.take k)+x:=by
 rw[take_one l k x h,addW_append];simp[addW]
section
variable {F:Nat→Prop}{w w':World}
theorem weigh15_any(x:PairS)(h:x.1.size≤10000∧x.2.size≤10000) : Calls Tryz.prog 87 #[.agg #[.string x.1,.string x.2]] w λe w'=>e=.returned (.int .i64 (wtP x))∧Ext w w':=by
 obtain⟨k,v⟩:=x;simp only at h ⊢;obtain⟨h1,h2⟩:=h;have HM:Hid (Ext w (w.alloc (.cells #[.string k,.string v] 25))):=oh ((Mods.refl _ w).alloc _);obtain⟨W,hW⟩:∃W,W=wtP (k,v):=⟨_,rfl⟩;have HW:=oh hW;rw[← hW];clear hW;by_cases hv:24<v.size
 ·have hv2:(24:Int)<(v.size:Int):=by omega
  have HR:Hid (W=1+(k.size:Int)+9):=oh (by rw[HW.out];unfold wtP;rw[if_pos hv];simp only;omega);clear hv HW
  go_enter Tryz.func87, Tryz.ntmps87
  go_wp2_with fail;go_ret;exact⟨by rw[HR.out];rfl,HM.out⟩
 ·have hv2:¬ (24:Int)<(v.size:Int):=by omega
  have HR:Hid (W=1+(k.size:Int)+2+(v.size:Int)):=oh (by rw[HW.out];unfold wtP;rw[if_neg hv];simp only;omega);clear hv HW
  go_enter Tryz.func87, Tryz.ntmps87
  go_wp2_with fail;go_ret;exact⟨by rw[HR.out];rfl,HM.out⟩
theorem sum15_any(l:List PairS)(lv:Value)(hl:Sl F w 2 encP lv l)(hs:ShortP l) : Calls Tryz.prog 50 #[lv] w λe w'=>e=.returned (.int .i64 (2+addW (wtsP l)))∧Ext w w':=by
 obtain⟨hs1,hs2⟩:=hs;have HL:=oh hl;obtain⟨la,lc,rfl,h1,h2,h3, -⟩:=hl;unfold maxLen at h2;have HS:=oh hs2;clear hs2
 go_enter Tryz.func50, Tryz.ntmps50
 go_wp2_with fail;go_loopg [3,4] l.length (λm v3 v4 wr=>∃(k:Nat) (a:Int),k+m=l.length∧v3=.int .i64 a∧v4=.int .i64 (k:Int)∧0≤a∧a≤2+30000 * (k:Int)∧Hid (a=2+addW ((wtsP l).take k)∧Ext w wr))
 case atStart=>exact⟨0,2,by omega,rfl,rfl,by omega,by omega,oh ⟨by simp[addW],Mods.refl _ _⟩⟩
 case round =>
  obtain⟨k,a,hkm,rfl,rfl,ha0,ha1,HR⟩:=hrel;by_cases hlt:k<l.length
  ·obtain⟨qb,qoff,hqa,hc⟩:=HL.out.elem hlt HR.out.2;have c0:=hc 0 (.string l[k].1) rfl;have c1:=hc 1 (.string l[k].2) rfl;simp only[Nat.add_zero] at c0;subst hqa;have hx:=HS.out l[k] (List.getElem_mem hlt);have HWG:=oh (weigh15_any (w:=wr) l[k] hx);have hlim:=wtP_lim hx;obtain⟨W,hW⟩:∃W,W=wtP l[k]:=⟨_,rfl⟩;rw[← hW] at HWG hlim;have HA:Hid (addW ((wtsP l).take (k+1))=addW ((wtsP l).take k)+W):=oh (addW_take (by unfold wtsP;rw[List.getElem?_map,List.getElem?_eq_getElem hlt,hW];rfl));have i1:(0:Int)≤(k:Int):=by omega
   have i2:(k:Int)<(l.length:Int):=by omega
   obtain⟨w1,w2⟩:=hlim;clear hc hx hW;go_wp2_with fail;refine HWG.out.mono ?_;rintro e w3 ⟨rfl,hm3⟩;have HM3:=oh hm3;clear hm3;go_wp2_with fail;go_roundg (gk-1)
   case measure=>omega
   case rel=>exact⟨k+1,a+W,by omega,by go_num,by go_num,by omega,by omega,oh ⟨by rw[HA.out,HR.out.1];omega,HR.out.2.trans HM3.out⟩⟩
  ·have hk:k=l.length:=by omega
   have HE:Hid (a=2+addW (wtsP l)):=oh (by rw[HR.out.1,hk,List.take_of_length_le (by unfold wtsP;rw[List.length_map];exact Nat.le_refl _)]);go_wp2_with fail;go_ret;exact⟨by rw[HE.out];rfl,HR.out.2⟩
theorem unlikeW_eq(ws:List Int)(a:Nat):(unlikeW ws a:Int)=max ((2+addW (ws.take a))-(2+addW (ws.drop a))) ((2+addW (ws.drop a))-(2+addW (ws.take a))):=by
 unfold unlikeW;omega
theorem cut15_any(l:List PairS)(lv:Value)(hl:Sl F w 2 encP lv l)(hs:ShortP l) : Calls Tryz.prog 51 #[lv] w λe w'=>e=.returned (.int .i64 (cutW (wtsP l):Int))∧Ext w w':=by
 have HL:=oh hl;have HS:=oh hs;obtain⟨hs1,_⟩:=hs;obtain⟨la,lc,rfl,h1,h2,h3, -⟩:=hl;unfold maxLen at h2;have HP:Hid (∀(W:World) (k:Nat),Ext w W→k≤l.length → Calls Tryz.prog 50 #[.slice la k lc] W λe w'=>e=.returned (.int .i64 (2+addW ((wtsP l).take k)))∧Ext W w'):=oh (λW k m hk=>by
  have:=sum15_any (l.take k) (.slice la k lc) ((HL.out.ext m).pre k hk) ⟨by rw[List.length_take];have:=HS.out.1;omega,λx hx=>HS.out.2 x (List.mem_of_mem_take hx)⟩;unfold wtsP at this ⊢;rwa [List.map_take] at this)
 have HT:Hid (∀(W:World) (k:Nat),Ext w W→k<l.length → Calls Tryz.prog 50 #[.slice (la.map (·.add (k * 2))) (l.length-k) (lc-k)] W λe w'=>e=.returned (.int .i64 (2+addW ((wtsP l).drop k)))∧Ext W w'):=oh (λW k m hk=>by
  have:=sum15_any (l.drop k) (.slice (if lc=k then la else la.map (·.add (k * 2))) (l.length-k) (lc-k)) ((HL.out.ext m).tail_ k (by omega)) ⟨by rw[List.length_drop];have:=HS.out.1;omega,λx hx=>HS.out.2 x (List.mem_of_mem_drop hx)⟩;rw[if_neg (by omega)] at this;unfold wtsP at this ⊢;rwa [List.map_drop] at this)
 have HB:Hid (∀k,0≤addW ((wtsP l).take k)∧addW ((wtsP l).take k)≤30000000∧0≤addW ((wtsP l).drop k)∧addW ((wtsP l).drop k)≤30000000):=oh (λk=>by
  have a1:=addW_lim (l:=l.take k) (λx hx=>HS.out.2 x (List.mem_of_mem_take hx));have a2:=addW_lim (l:=l.drop k) (λx hx=>HS.out.2 x (List.mem_of_mem_drop hx));unfold wtsP at a1 a2 ⊢;rw[List.map_take,List.length_take] at a1;rw[List.map_drop,List.length_drop] at a2;omega)
 have hwl:(wtsP l).length=l.length:=by unfold wtsP;rw[List.length_map]
 have HWL:=oh hwl;clear hwl
 go_enter Tryz.func51, Tryz.ntmps51
 go_wp2_with fail;go_loopg [3,4] (l.length) (λm v3 v4 wr=>∃(k b:Nat),k+m=l.length+1∧v3=.int .i64 (b:Int)∧v4=.int .i64 (k:Int)∧1≤k∧1≤b∧b≤k∧Hid (firstMin (unlikeW (wtsP l)) b k (l.length-k)=cutW (wtsP l)∧Ext w wr))
 case atStart=>exact⟨1,1,by omega,rfl,rfl,by omega,by omega,by omega,oh ⟨by unfold cutW;rw[HWL.out],Mods.refl _ _⟩⟩
 case round =>
  obtain⟨k,b,hkm,rfl,rfl,hk1,hb1,hbk,HR⟩:=hrel;by_cases hlt:k<l.length
  ·obtain⟨A,hA⟩:∃A,A=2+addW ((wtsP l).take k):=⟨_,rfl⟩;obtain⟨B,hB⟩:∃B,B=2+addW ((wtsP l).drop k):=⟨_,rfl⟩;obtain⟨C,hC⟩:∃C,C=2+addW ((wtsP l).take b):=⟨_,rfl⟩;obtain⟨D,hD⟩:∃D,D=2+addW ((wtsP l).drop b):=⟨_,rfl⟩;have q1:=HB.out k;have q2:=HB.out b;have w1:IntKind.i64.wrap (A-B)=A-B:=IntWalk.i64_in _ (by omega);have w2:IntKind.i64.wrap (B-A)=B-A:=IntWalk.i64_in _ (by omega);have w3:IntKind.i64.wrap (C-D)=C-D:=IntWalk.i64_in _ (by omega);have w4:IntKind.i64.wrap (D-C)=D-C:=IntWalk.i64_in _ (by omega);have H1:=oh (λW m=>HP.out W k m (by omega));have H2:=oh (λW m=>HT.out W k m (by omega));have H3:=oh (λW m=>HP.out W b m (by omega));have H4:=oh (λW m=>HT.out W b m (by omega));rw[← hA] at H1;rw[← hB] at H2;rw[← hC] at H3;rw[← hD] at H4;have HU:Hid ((unlikeW (wtsP l) k:Int)=max (A-B) (B-A)∧(unlikeW (wtsP l) b:Int)=max (C-D) (D-C)):=oh ⟨by rw[unlikeW_eq,← hA,← hB],by rw[unlikeW_eq,← hC,← hD]⟩;have i1:(0:Int)≤(k:Int):=by omega
   have i2:(k:Int)≤(l.length:Int):=by omega
   have i3:(k:Int)≤(lc:Int):=by omega
   have i4:(0:Int)≤(b:Int):=by omega
   have i5:(b:Int)≤(l.length:Int):=by omega
   have i6:(b:Int)≤(lc:Int):=by omega
   have i7:(k:Int)<(l.length:Int):=by omega
   clear hA hB hC hD q1 q2;go_wp2_with fail;go_cut [5] (λv5 wx=>v5=.int .i64 (max (A-B) (B-A))∧Hid (Ext w wx))
   case first =>
    have xx:Ext w wr.drew:=HR.out.2.drew;go_region_held3 (λ_=>True) (trivial)
     (first
      | (go_at_call 50;(with_reducible refine (H1.out _ xx).mono ?_);rintro x w5 ⟨rfl,hm5⟩;have xx:=xx.trans hm5)
      | (go_at_call 50;(with_reducible refine (H2.out _ xx).mono ?_);rintro x w5 ⟨rfl,hm5⟩;have xx:=xx.trans hm5)
      | fail)
    all_goals
     go_wp2_with fail;go_meet;exact⟨by simp[w1,w2],oh xx⟩
   case rest =>
    obtain⟨rfl,HX5⟩:=hcut;obtain⟨U,hU⟩:∃U,U=max (A-B) (B-A):=⟨_,rfl⟩;obtain⟨V,hV⟩:∃V,V=max (C-D) (D-C):=⟨_,rfl⟩;rw[← hU,← hV] at HU;rw[← hU];have HVV:=oh hV;clear hU hV;obtain⟨wo,rfl⟩:∃wo:World,wo=wr:=⟨_,rfl⟩;go_wp2_with fail;go_cut [51] (λv51 wx=>v51=.bool (decide (U<V))∧Hid (Ext w wx))
    case first =>
     have xx:Ext w wc.drew:=HX5.out.drew;go_region_held3 (λ_=>True) (trivial)
      (first
       | (go_at_call 50;(with_reducible refine (H3.out _ xx).mono ?_);rintro x w5 ⟨rfl,hm5⟩;have xx:=xx.trans hm5)
       | (go_at_call 50;(with_reducible refine (H4.out _ xx).mono ?_);rintro x w5 ⟨rfl,hm5⟩;have xx:=xx.trans hm5)
       | fail)
     all_goals
      go_wp2_with fail;go_meet;exact⟨by simp[w3,w4,HVV.out],oh xx⟩
    case rest =>
     obtain⟨rfl,HX6⟩:=hcut;have hst:firstMin (unlikeW (wtsP l)) b k (l.length-k)=firstMin (unlikeW (wtsP l)) (if unlikeW (wtsP l) k<unlikeW (wtsP l) b then k else b) (k+1) (l.length-(k+1)):=by
      rw[show l.length-k=(l.length-(k+1))+1 by omega,firstMin]
     have HST:=oh (hst.symm.trans HR.out.1);clear hst;by_cases hlt2:U<V
     ·have HB2:Hid (unlikeW (wtsP l) k<unlikeW (wtsP l) b):=oh (by have:=HU.out.1;have:=HU.out.2;omega);go_wp2_with fail;go_roundg (gk-1)
      case measure=>omega
      case rel=>exact⟨k+1,k,by omega,rfl,by go_num,by omega,by omega,by omega,oh ⟨by have:=HST.out;rwa [if_pos HB2.out] at this,HX6.out⟩⟩
     ·have HB2:Hid (¬ unlikeW (wtsP l) k<unlikeW (wtsP l) b):=oh (by have:=HU.out.1;have:=HU.out.2;omega);go_wp2_with fail;go_roundg (gk-1)
      case measure=>omega
      case rel=>exact⟨k+1,b,by omega,rfl,by go_num,by omega,by omega,by omega,oh ⟨by have:=HST.out;rwa [if_neg HB2.out] at this,HX6.out⟩⟩
  ·have HE:Hid (b=cutW (wtsP l)):=oh (by rw[← HR.out.1,show l.length-k=0 by omega];rfl);go_wp2_with fail;go_ret;exact⟨by rw[← HE.out];rfl,HR.out.2⟩
end
end
end Go.Proofs.YtchklfmggpconaaGreatDoor
