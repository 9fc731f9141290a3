import Derived.Test.YtchklfmggpconaaGreatDoorK38
import Derived.BigQuiet
import Derived.Deep.RegionHeld3
namespace Go.Proofs.YtchklfmggpconaaGreatDoor
open Lib renaming hid->oh
set_option maxHeartbeats 4000000
set_option maxRecDepth 100000
section
open Go.RowKit Go.Maps
attribute [local go_sem ↓] Go.wp_at_zero Go.wp_at_succ
section
variable {F P P' F' P1 F1:Nat->Prop}{ad:Nat->Addr}{w w' w0:World}{c s gen kb mb:Nat}{G:GA}{l:List Nat}{pv kv pv' kv':Value}{st st':WkS}{ps:List Int}
def zQR(F:Nat->Prop)(ad:Nat->Addr)(w':World)(r:yN ⊕ Err)(e:Ending):Prop :=
 match r with
 | .inl p=>∃a n,e=.returned (.tuple #[.agg #[.int .i64 p.kind,.int .i64 p.id,.int .u64 (p.gen:Int),.slice a p.body.length n],.nilIface])/\Sl F w' 1 yE (.slice a p.body.length n) p.body/\p.body.length<=1000
 | .inr (el,ek)=>∃(x0 x1 x2:Int) (a:Option Addr) (n m:Nat) (f:Nat),e=.returned (.tuple #[.agg #[.int .i64 x0,.int .i64 x1,.int .u64 x2,.slice a n m],zQ f])/\qQ F ad w' (zQ f) el ek
theorem zJM(hL:yW F ad w)(hP:∀k,P k->F k)(h:yS F w P c s G l){cs:Array Value}(hB:zL w kb cs 102)(h0:cs[0]? = some (.pointer (some ⟨c,0,none⟩)))(h2:cs[2]? = some (.int .u64 (gen:Int)))(hkb:¬ P kb)(id:Int)(hk:G.knows id) :
  Calls Tryz.prog 79 #[.pointer (some ⟨kb,0,none⟩),.int .i64 id] w (jL F P ad w c s G l (λF' w' e=>zQR F' ad w' (zAb G gen id) e)):=by
 have m0:zJ w (w.alloc gE):=(zA.refl _ w).alloc _;have HM0:=oh m0;have HB0:=oh (hB.ext m0);have hRP:¬ P w.heap.size:=λhp=>by have:=h.bd _ hp;omega
 have HRP:=oh hRP;have HR0:=oh (zL.new w gE 167);have HN1:Hid (zR P P F (λk=>F k\/k=w.heap.size) ad w (w.alloc gE)):=oh (zR.new hL hP (Q:=λk=>k=w.heap.size) m0 (λk hk=>by omega) (λk hk=>by simp;omega));have HG1:Hid (yS (λk=>F k\/k=w.heap.size) (w.alloc gE) P c s G l):=oh (h.plusNew hP (Q:=λk=>k=w.heap.size) m0 (λk hk=>by omega));have k0:=(hB.ext m0).cell h0;have HKN:=oh hk;have H2:=oh h2;have HKB:=oh hkb;clear hL hP h hB m0 hRP h0 hk h2
 go_enter Tryz.func79, Tryz.ntmps79
 go_wp2_with fail;refine (zPq HN1.out.env HN1.out.sub HG1.out id HKN.out).mono ?_;rintro e w2 ⟨P2,F2,hG2,hN2,hres⟩;have HG2:=oh hG2;have HN2:=oh hN2;have HR2:=oh (hN2.blk HR0.out HRP.out);have hB2:=hN2.blk HB0.out HKB.out;have HB2:=oh hB2;have k2:=hB2.cell H2.out;have HRP2:Hid (¬ P2 w.heap.size):=oh (hN2.not HR0.out.lt HRP.out);have HRF2:Hid (F2 w.heap.size):=oh (hN2.grow _ (.inr rfl));clear hG2 hN2 hB2 k0;rcases hres with ⟨x,xv,hx,rfl,hxv⟩|⟨er,f,hx,rfl,hE⟩
 .obtain⟨hxi,_,hxl⟩:=HG2.out.got hx;have HXV:=oh hxv;obtain⟨xa,xc,rfl, -, -, -, -⟩:=_root_.id hxv;unfold vQ;have HX1:=oh (zL.new w2 #[.int .i64 x.kind,.int .i64 x.id,.int .u64 (x.gen:Int),.slice xa x.body.length xc] 167);have HX2:Hid (∀q,zJ w2 ((w2.alloc (.cells #[.int .i64 x.kind,.int .i64 x.id,.int .u64 (x.gen:Int),.slice xa x.body.length xc] 167)).drewN q)):=oh (λq=>((zA.refl _ w2).alloc _).drewN q);have HXB:Hid (∀q,zL ((w2.alloc (.cells #[.int .i64 x.kind,.int .i64 x.id,.int .u64 (x.gen:Int),.slice xa x.body.length xc] 167)).drewN q) w2.heap.size #[.int .i64 x.kind,.int .i64 x.id,.int .u64 (x.gen:Int),.slice xa x.body.length xc] 167):=oh (λ_=>HX1.out);have k2:=(HB2.out.ext ((zA.refl _ w2).alloc (.cells #[.int .i64 x.kind,.int .i64 x.id,.int .u64 (x.gen:Int),.slice xa x.body.length xc] 167))).cell H2.out;have hne:w2.heap.size≠w.heap.size:=by have:=HR2.out.lt;omega
  have hne2:w.heap.size≠w2.heap.size:=λe=>hne e.symm
  by_cases hy:gen<x.gen
  .have HY:Hid (zAb G gen id=.inr (zCE id)):=oh (by unfold zAb;rw[hx];simp only[if_pos hy]);have hyi:(gen:Int)<(x.gen:Int):=by omega
   have HCR:=oh (λq=>zBX (HN2.out.env.mods (HX2.out q).ext) id);clear hx hxv hxi hy;go_wp2_with fail;go_quiet (fail)
   go_wp2_with fail;refine (HCR.out _).mono ?_;rintro e w3 ⟨f,rfl,hE,hm3⟩;have HE:=oh hE;have HM3:=oh ((HX2.out _).trans hm3);have hX3:=(HXB.out _).ext hm3;have hR3:=HR2.out.ext HM3.out;have x0:=hX3.cell (o:=0) (v:=.int .i64 x.kind) rfl;have x1:=hX3.cell (o:=1) (v:=.int .i64 x.id) rfl;have x2:=hX3.cell (o:=2) (v:=.int .u64 (x.gen:Int)) rfl;have x3:=hX3.cell (o:=3) (v:=.slice xa x.body.length xc) rfl;have r0:=hR3.cell (o:=0) (v:=.int .i64 0) rfl;have r1:=hR3.cell (o:=1) (v:=.int .i64 0) rfl;have r2:=hR3.cell (o:=2) (v:=.int .u64 0) rfl;have r3:=hR3.cell (o:=3) (v:=.slice none 0 0) rfl;have rf:=hR3.frozen;have HR3:=oh hR3;clear hE hm3 hX3 hR3;go_wp2_with fail;have HRB:=oh (HR3.out.set4 (.int .i64 x.kind) (.int .i64 x.id) (.int .u64 (x.gen:Int)) (.slice xa x.body.length xc));have HMR:=oh (zA.set4 (F:=λk=>k=w.heap.size) (zA.refl _ (w3)) (R:=w.heap.size) (.inr rfl) (.int .i64 x.kind) (.int .i64 x.id) (.int .u64 (x.gen:Int)) (.slice xa x.body.length xc));clear r0 r1 r2 r3 rf x0 x1 x2 x3;go_wp2_with fail;refine bodyPost_ret (zG rfl _ _ w.heap.size 167 #[.int .i64 x.kind,.int .i64 x.id,.int .u64 (x.gen:Int),.slice xa x.body.length xc] _ rfl HRB.out Tryz.underlying167 rfl Tryz.pageSize) rfl ?_;have HMF:=HMR.out.mono (G:=F2) (λk hk=>hk ▸ HRF2.out);refine⟨P2,F2,(HG2.out.at (HM3.out)).res HMR.out HRP2.out HRF2.out,((HN1.out.trans HN2.out).trans (zR.ext HN2.out.env HN2.out.sub (HM3.out))).resD HMR.out (by omega) HRF2.out,?_⟩;rw[HY.out];exact⟨_,_,_,_,_,_,f,rfl,HE.out.mods HMF⟩
  .have HY:Hid (zAb G gen id=.inl x):=oh (by unfold zAb;rw[hx];simp only[if_neg hy]);have hyi:¬ (gen:Int)<(x.gen:Int):=by omega
   have HXL:=oh hxl;clear hx hxv hxi hy hxl;go_wp2_with fail;go_quiet (fail)
   have hX3:=HXB.out nq;have hR3:=HR2.out.ext (HX2.out nq);have x0:=hX3.cell (o:=0) (v:=.int .i64 x.kind) rfl;have x1:=hX3.cell (o:=1) (v:=.int .i64 x.id) rfl;have x2:=hX3.cell (o:=2) (v:=.int .u64 (x.gen:Int)) rfl;have x3:=hX3.cell (o:=3) (v:=.slice xa x.body.length xc) rfl;have r0:=hR3.cell (o:=0) (v:=.int .i64 0) rfl;have r1:=hR3.cell (o:=1) (v:=.int .i64 0) rfl;have r2:=hR3.cell (o:=2) (v:=.int .u64 0) rfl;have r3:=hR3.cell (o:=3) (v:=.slice none 0 0) rfl;have rf:=hR3.frozen;have HR3:=oh hR3;clear hX3 hR3;go_wp2_with fail;have HRB:=oh (HR3.out.set4 (.int .i64 x.kind) (.int .i64 x.id) (.int .u64 (x.gen:Int)) (.slice xa x.body.length xc));have HMR:=oh (zA.set4 (F:=λk=>k=w.heap.size) (zA.refl _ ((w2.alloc (.cells #[.int .i64 x.kind,.int .i64 x.id,.int .u64 (x.gen:Int),.slice xa x.body.length xc] 167)).drewN nq)) (R:=w.heap.size) (.inr rfl) (.int .i64 x.kind) (.int .i64 x.id) (.int .u64 (x.gen:Int)) (.slice xa x.body.length xc));clear r0 r1 r2 r3 rf x0 x1 x2 x3;go_wp2_with fail;refine bodyPost_ret (zG rfl _ _ w.heap.size 167 #[.int .i64 x.kind,.int .i64 x.id,.int .u64 (x.gen:Int),.slice xa x.body.length xc] _ rfl HRB.out Tryz.underlying167 rfl Tryz.pageSize) rfl ?_;have HMF:=HMR.out.mono (G:=F2) (λk hk=>hk ▸ HRF2.out);refine⟨P2,F2,(HG2.out.at (HX2.out nq)).res HMR.out HRP2.out HRF2.out,((HN1.out.trans HN2.out).trans (zR.ext HN2.out.env HN2.out.sub (HX2.out nq))).resD HMR.out (by omega) HRF2.out,?_⟩;rw[HY.out];exact⟨xa,xc,rfl,(HXV.out.ext (HX2.out nq)).mods HMF,HXL.out⟩
 .obtain⟨el,ek⟩:=er;have HY:Hid (zAb G gen id=.inr (el,ek)):=oh (by unfold zAb;rw[hx]);have HE:=oh hE;unfold vQ zFe;have HX1:=oh (zL.new w2 gE 167);have HX2:Hid (∀q,zJ w2 ((w2.alloc gE).drewN q)):=oh (λq=>((zA.refl _ w2).alloc _).drewN q);have HXB:Hid (∀q,zL ((w2.alloc gE).drewN q) w2.heap.size gE 167):=oh (λ_=>HX1.out);have k2:=(HB2.out.ext ((zA.refl _ w2).alloc gE)).cell H2.out;have hne:w2.heap.size≠w.heap.size:=by have:=HR2.out.lt;omega
  have hne2:w.heap.size≠w2.heap.size:=λe=>hne e.symm
  clear hx hE;go_wp2_with fail;go_quiet (fail)
  have hX3:=HXB.out nq;have hR3:=HR2.out.ext (HX2.out nq);have x0:=hX3.cell (o:=0) (v:=.int .i64 0) rfl;have x1:=hX3.cell (o:=1) (v:=.int .i64 0) rfl;have x2:=hX3.cell (o:=2) (v:=.int .u64 0) rfl;have x3:=hX3.cell (o:=3) (v:=.slice none 0 0) rfl;have r0:=hR3.cell (o:=0) (v:=.int .i64 0) rfl;have r1:=hR3.cell (o:=1) (v:=.int .i64 0) rfl;have r2:=hR3.cell (o:=2) (v:=.int .u64 0) rfl;have r3:=hR3.cell (o:=3) (v:=.slice none 0 0) rfl;have rf:=hR3.frozen;have HR3:=oh hR3;clear hX3 hR3;go_wp2_with fail;have HRB:=oh (HR3.out.set4 (.int .i64 0) (.int .i64 0) (.int .u64 0) (.slice none 0 0));have HMR:=oh (zA.set4 (F:=λk=>k=w.heap.size) (zA.refl _ ((w2.alloc gE).drewN nq)) (R:=w.heap.size) (.inr rfl) (.int .i64 0) (.int .i64 0) (.int .u64 0) (.slice none 0 0));clear r0 r1 r2 r3 rf x0 x1 x2 x3;go_wp2_with fail;refine bodyPost_ret (zG rfl _ _ w.heap.size 167 gE _ rfl HRB.out Tryz.underlying167 rfl Tryz.pageSize) rfl ?_;have HMF:=HMR.out.mono (G:=F2) (λk hk=>hk ▸ HRF2.out);refine⟨P2,F2,(HG2.out.at (HX2.out nq)).res HMR.out HRP2.out HRF2.out,((HN1.out.trans HN2.out).trans (zR.ext HN2.out.env HN2.out.sub (HX2.out nq))).resD HMR.out (by omega) HRF2.out,?_⟩;rw[HY.out];exact⟨0,0,0,none,0,0,f,rfl,(HE.out.mods (HX2.out nq).ext).mods HMF⟩
end
end
section
open Go.RowKit Go.Maps
section
variable {F P P' F' P1 F1:Nat->Prop}{ad:Nat->Addr}{w w' w0:World}{base c s gen kb mb:Nat}{G:GA}{l:List Nat}{pv kv pv' kv':Value}{st st':WkS}
def wkQ(P:Nat->Prop)(kb mb:Nat)(pv kv:Value):Nat->Prop:=λk=>P k\/WkB kb mb pv kv k
structure WkI(F P:Nat->Prop)(ad:Nat->Addr)(w:World)(base c s gen kb mb:Nat)(G:GA)(l:List Nat)(pv kv:Value)(st:WkS):Prop where
 env:yW F ad w
 sub:∀k,P k->F k
 pg:yS F w P c s G l
 wk:WkR F P w base c s gen kb mb pv kv st
 bl:base<=w.heap.size
theorem WkR.lt(h:WkR F P w base c s gen kb mb pv kv st):∀k,WkB kb mb pv kv k->k<w.heap.size:=by
 rintro k (rfl|rfl|e|e)
 .exact h.blk.lt
 .exact h.seen.lt
 .exact (h.rp.lt k e).2
 .exact (h.rk.lt k e).2
theorem WkI.bd(h:WkI F P ad w base c s gen kb mb G l pv kv st):Bd (wkQ P kb mb pv kv) w:=by
 rintro k (hk|hk)
 .exact h.pg.bd k hk
 .exact h.wk.lt k hk
theorem WkI.subQ(h:WkI F P ad w base c s gen kb mb G l pv kv st):∀k,wkQ P kb mb pv kv k->F k:=by
 rintro k (hk|hk)
 .exact h.sub k hk
 .exact (h.wk.nP k hk).1
theorem WkI.ext(h:WkI F P ad w base c s gen kb mb G l pv kv st)(m:zJ w w'):WkI F P ad w' base c s gen kb mb G l pv kv st/\zR (wkQ P kb mb pv kv) (wkQ P kb mb pv kv) F F ad w w' :=
 ⟨⟨h.env.mods m.ext,h.sub,h.pg.at m,⟨h.wk.blk.ext m,h.wk.seen.mods m (λf=>f),h.wk.rp.ext m,h.wk.rk.ext m,h.wk.nP,h.wk.few⟩,uM h.bl m.size⟩,zR.ext h.env h.subQ m⟩
theorem WkI.pag{G':GA}{l':List Nat}(h:WkI F P ad w base c s gen kb mb G l pv kv st)(n:zR P P' F F' ad w w')(g:yS F' w' P' c s G' l') :
  WkI F' P' ad w' base c s gen kb mb G' l' pv kv st/\zR (wkQ P kb mb pv kv) (wkQ P' kb mb pv kv) F F' ad w w':=by
 have hw:=h.wk;have np:=λk (hk:WkB kb mb pv kv k)=>(hw.nP k hk).2
 have m:=n.stp.mods;have nq:∀k,WkB kb mb pv kv k->F' k/\¬ P' k:=λk hk=>⟨n.grow k (hw.nP k hk).1,n.not (hw.lt k hk) (np k hk)⟩
 refine⟨⟨n.env,n.sub,g,⟨hw.blk.mods m (np kb (.inl rfl)),hw.seen.mods m (np mb (.inr (.inl rfl))),hw.rp.mods m (λk hk=>np k (.inr (.inr (.inl hk)))),hw.rk.mods m (λk hk=>np k (.inr (.inr (.inr hk)))),nq,hw.few⟩,uM h.bl m.size⟩,
  ⟨⟨m.mono (λk hk=>.inl hk),?_,?_⟩,?_,n.grow,n.oldF,n.env⟩⟩
 .rintro k hk (hp|hp)
  .exact .inl (n.stp.old k hk hp)
  .exact .inr hp
 .rintro k (hp|hp)
  .exact n.stp.bd k hp
  .exact uH (hw.lt k hp) m.size
 .rintro k (hp|hp)
  .exact n.sub k hp
  .exact (nq k hp).1
theorem WkI.saw(h:WkI F P ad w base c s gen kb mb G l pv kv st)(hw:WkR (zAA F pv') P w' base c s gen kb mb pv' kv st')(m:zA (WkB kb mb pv kv) w w')(hat:pv'.ownBlock=pv.ownBlock\/∃K,w.heap.size<=K/\pv'.ownBlock=some K) :
  WkI (zAA F pv') P ad w' base c s gen kb mb G l pv' kv st'/\zR (wkQ P kb mb pv kv) (wkQ P kb mb pv' kv) F (zAA F pv') ad w w':=by
 have hnew:∀k,k<w.heap.size->¬ F k->¬ zAA F pv' k:=by
  rintro k hk hn (hf|hf)
  .exact hn hf
  .rcases hat with e|⟨K,hK,e⟩
   .exact hn (h.wk.nP k (.inr (.inr (.inl (e ▸ hf))))).1
   .rw[e] at hf;injection hf with hf;omega
 have hE:yW (zAA F pv') ad w':=h.env.step (m.mono (λk hk=>(h.wk.nP k hk).1)) hnew (λk hf=>by
  rcases hf with hf|hf
  .exact uH (h.env.lt k hf) m.size
  .exact (hw.rp.lt k hf).2)
 have hI:WkI (zAA F pv') P ad w' base c s gen kb mb G l pv' kv st' :=
  ⟨hE,λk hk=>.inl (h.sub k hk),h.pg.plus m (λk hk hq=>(h.wk.nP k hq).2 hk) (λk hk=>(h.wk.nP k hk).1) hnew,hw,uM h.bl m.size⟩
 refine⟨hI,⟨⟨m.mono (λk hk=>.inr hk),?_,hI.bd⟩,hI.subQ,λk hk=>.inl hk,λk hk hf=>Classical.byContradiction λhn=>hnew k hk hn hf,hE⟩⟩;rintro k hk (hp|hp|hp|hp|hp)
 .exact .inl hp
 .exact .inr (.inl hp)
 .exact .inr (.inr (.inl hp))
 .rcases hat with e|⟨K,hK,e⟩
  .exact .inr (.inr (.inr (.inl (e ▸ hp))))
  .rw[e] at hp;injection hp with hp;omega
 .exact .inr (.inr (.inr (.inr hp)))
end
end
section
open Go.RowKit
theorem zEQ:∀{l:List Int},(∀x∈l,0<=x)->0<=zCO l
 | [],_=>Int.le_refl _
 | x :: l,h=>by rw[zCO];have:=h x uF;have:=zEQ (l:=l) (λy hy=>h y (uI _ hy));omega
theorem zJN(z:Int):∀(l:List Int) (acc:Int) (k:Nat),(∀x∈l,0<=x)->k<=l.length->acc+zCO (l.take k)<=z->k<=zFM z acc l
 | _,_,0,_,_,_=>pS _
 | [],_,k+1,_,hk,_=>by simp at hk
 | x :: l,acc,k+1,h,hk,hz=>by
  have hn:=zEQ (l:=l.take k) (λy hy=>h y (uI _ (tC hy)));rw[rY,zCO] at hz;rw[zFM,if_pos (by omega)];have:=zJN z l (acc+x) k (λy hy=>h y (uI _ hy)) (by simpa using hk) (by omega);omega
theorem zGV(z:Int):∀(gs:List (List Int)) (f k:Nat),(∀g∈gs,(∀x∈g,0<=x)/\2+zCO g<=z)->(zCJ z f (gs.flatten.drop k)).length<=gs.length
 | [],f,k,_=>by cases f <;> simp[zCJ]
 | g :: gs,f,k,h=>by
  have hg:=h g uF;have hr:=λy (hy:y∈gs)=>h y (uI _ hy)
  rw[wT,uD];by_cases hk:g.length<=k
  .have e:(g++gs.flatten).drop k=gs.flatten.drop (k-g.length):=by rw[nI,rB hk,uT]
   rw[e];have:=zGV z gs f (k-g.length) hr;omega
  .have e:(g++gs.flatten).drop k=g.drop k++gs.flatten:=by rw[nI,show k-g.length=0 by omega,pX]
   rw[e];have hlen:(g.drop k).length=g.length-k:=u0;cases f with
   | zero=>simp[zCJ]
   | succ f =>
    cases hd:g.drop k with
    | nil=>rw[hd] at hlen;simp at hlen;omega
    | cons x t =>
     rw[hd,uD] at hlen;rw[wN,zCJ,uD];have hsub:∀y∈x :: t,0<=y:=λy hy=>hg.1 y (rV (hd ▸ hy))
     have hsum:zCO g=zCO (g.take k)+zCO (x :: t):=by rw[<- hd,<- zLT,uZ]
     have hpre:=zEQ (l:=g.take k) (λy hy=>hg.1 y (tC hy));have hfl:∀y∈gs.flatten,0<=y:=λy hy=>by
      obtain⟨g',h1,h2⟩:=rG.1 hy;exact (hr g' h1).1 y h2
     have hr2:t.length<=zFM z (2+x) (t++gs.flatten):=by
      refine zJN z _ _ _ (λy hy=>?_) (by simp) ?_
      .rcases uG.1 hy with hy|hy
       .exact hsub y (uI _ hy)
       .exact hfl y hy
      .rw[pR rfl];rw[zCO] at hsum;have:=hg.2;omega
     have e2:(t++gs.flatten).drop (zFM z (2+x) (t++gs.flatten))=gs.flatten.drop (zFM z (2+x) (t++gs.flatten)-t.length):=by rw[nI,rB hr2,uT]
     rw[e2];have:=zGV z gs f (zFM z (2+x) (t++gs.flatten)-t.length) hr;omega
theorem zPG(z:Int)(ws:List Int)(out:List Nat):(zLS z ws out).length<=out.length:=by
 have hl:out.length=out.reverse.length:=rF.symm;unfold zLS;split
 .rename_i b a r hr;rw[hl,hr];split
  .rw[<- rF,hr];exact uJ _
  .split
   .simp
   .simp
 .exact uJ _
theorem zLm{z:Int}{gs:List (List Int)}(h:∀g∈gs,(∀x∈g,0<=x)/\2+zCO g<=z):(zB6 z gs.flatten).length<=gs.length:=by
 have h1:=zPG z gs.flatten (zCJ z gs.flatten.length gs.flatten);have h2:=zGV z gs gs.flatten.length 0 h;rw[pX] at h2;unfold zB6;omega
theorem zNE(x:zE):0<=wtP x:=by unfold wtP;split <;> omega
section
variable {G:GA}{gen:Nat}
theorem zLn{d:Nat}{W:Int}(hT:∀lo hi c l q,vJ G gen d lo hi c l q->∃gs:List (List zE),gs.flatten=l/\yK G d c=gs.map List.length/\∀g∈gs,2+zCO (zFO g)<=W){lo:ByteArray}{hi:Option ByteArray}{kk:List ByteArray}{cc:List Int}{ps:List zE}{q:List Nat}(h:qF (vJ G gen d) lo hi kk cc ps q) :
  ∃gs:List (List zE),gs.flatten=ps/\(cc.flatMap λk=>yK G d k.toNat)=gs.map List.length/\∀g∈gs,2+zCO (zFO g)<=W:=by
 induction h with
 | one h =>
  obtain⟨gs,h1,h2,h3⟩:=hT _ _ _ _ _ h;exact⟨gs,h1,by simp[h2],h3⟩
 | cons h1 _ _ ih =>
  obtain⟨gs,a1,a2,a3⟩:=hT _ _ _ _ _ h1;obtain⟨gt,b1,b2,b3⟩:=ih;refine⟨gs++gt,by rw[tQ,a1,b1],?_,λg hg=>(uG.1 hg).elim (a3 g) (b3 g)⟩;rw[wI,uL,a2,b2,wF]
theorem vJ.groups:∀(d:Nat) (lo:ByteArray) (hi:Option ByteArray) (id:Nat) (l:List zE) (q:List Nat),vJ G gen d lo hi id l q->∃gs:List (List zE),gs.flatten=l/\yK G d id=gs.map List.length/\∀g∈gs,2+zCO (zFO g)<=(G.size:Int)-24
 | 0,_,_,_,_,_,h=>h.elim
 | d+1,lo,hi,id,l,q,h=>by
  obtain⟨n,q',h1,hr,rfl,hb⟩:=h;have hn:G.node id=some n:=by
   obtain⟨p,hp,_,hd⟩:=h1.page;unfold GA.node;rw[if_pos h1.lt,hp];simp only;rw[hd]
  rcases hb with ⟨hl,rfl,_,he,_⟩|⟨hl,hk⟩
  .refine⟨[l],by simp,by rw[zDq hn hl,he.len];rfl,λg hg=>?_⟩;rw[wS] at hg;subst hg;rw[<- zHz he (zAQ hr),<- zDO];have hf:=h1.fit;unfold zD at hf;rw[if_pos hl] at hf;have:=qS n.keys;omega
  .obtain⟨gs,a1,a2,a3⟩:=zLn (λlo hi c l q hh=>vJ.groups d lo hi c l q hh) hk;exact⟨gs,a1,by rw[zCy hn hl,a2],a3⟩
theorem TD.fewest{root d:Nat}{ps:List zE}{pgs:List Nat}(h:TD G gen root d ps pgs):(zB6 ((G.size:Int)-24) (zFO ps)).length<=(yK G d root).length:=by
 rcases h.tree with ⟨_,rfl,rfl,_⟩|⟨_,h⟩
 .simp[zB6,zFO,zCJ,zLS,yK]
 .obtain⟨gs,h1,h2,h3⟩:=vJ.groups _ _ _ _ _ _ h;have h4:=zLm (z:=(G.size:Int)-24) (gs:=gs.map zFO) (λg hg=>by
   obtain⟨g',hg',rfl⟩:=wY.1 hg;refine⟨λx hx=>?_,h3 g' hg'⟩;obtain⟨y,_,rfl⟩:=wY.1 hx;exact zNE y)
  have h5:(gs.map zFO).flatten=zFO ps:=by
   rw[<- h1];unfold zFO;rw[List.map_flatten]
  rw[h5,uU] at h4;rw[h2,uU];exact h4
end
theorem zH7:∀(ids:List Nat) (G:GA),(qM G ids).cost=G.cost
 | [],_=>rfl
 | i :: r,G=>by rw[qM,zH7 r];rfl
structure zR7(n:Nat)(G:GA)(l:List Nat)(root:Nat)(ps:List zE)(pgs:List Nat)(G':GA)(l':List Nat)(root' d':Nat)(pgs':List Nat):Prop where
 ok:zBM l pgs
 ctx:zAK (qM G pgs) (qU l pgs)
 cost:(qM G pgs).cost=G.cost
 ld:zEM 5 (qM G pgs) (qU l pgs) ps=.inl (G',l',root')
 ctx':zAK G' l'
 td:TD G' 5 root' d' ps pgs'
 blk:G'.blocks=n
 size:G'.size=256
 lay:∀i,i<n->l'[i]? = some (if i<2 then 1 else if i∈pgs' then 2 else 0)
 leafs:yK G' d' root'=zB6 232 (zFO ps)
theorem zPH{G:GA}{l:List Nat}{root d:Nat}{ps:List zE}{pgs:List Nat}(hc:zAK G l)(hT:TD G 5 root d ps pgs)(hsz:G.size=256)(hblk:G.blocks=250)(hlay:∀i,i<250->l[i]? = some (if i<2 then 1 else if i∈pgs then 2 else 0))(hroom:246<=zAJ l+pgs.length)
  (hp:∀x∈ps,zCN x) (hlen:ps.length<=30) (hv:∀x∈ps,x.2.size<=228):∃G' l' root' d' pgs',zR7 250 G l root ps pgs G' l' root' d' pgs':=by
 have hs:=hT.sorted;have h2:∀i∈pgs,2<=i:=λi hi=>(hT.lt i hi).1
 have hu:vX l (λi=>i∈pgs):=λi hi=>by
  have hb:=hT.lt i hi;have:=hlay i (by omega);rw[if_neg (by omega),if_pos hi] at this;exact .inr this
 obtain⟨u1,u2,u3⟩:=zDL pgs l G hT.nodup h2 hu;have hc1:=hc.upd u1 h2;have hl1:∀i,i<250->(qU l pgs)[i]? = some (if i<2 then 1 else 0):=λi hi=>by
  have h0:=hlay i hi;by_cases hm:i∈pgs
  .have:=h2 i hm;rcases u1.gone i hm (λf=>f) with ⟨_,e⟩|⟨e,_⟩
   .rw[e,if_neg (by omega)]
   .rw[h0,if_neg (by omega),if_pos hm] at e;simp at e
  .rw[(u1.rest i hm (λf=>f)).1,h0,if_neg hm]
 have hs1:(qM G pgs).size=256:=u1.sz.trans hsz;have hch:=zKD ps hv;rcases zNn (gen:=5) hc1 hs hp (by omega) with ⟨_,a2⟩|⟨G',l',root',d',pgs',a1,a2,a3,a4,a5,a6⟩
 .rw[hs1] at a2;omega
 .refine⟨G',l',root',d',pgs',⟨u2,hc1,zH7 _ _,a1,a5,a3,a2.bl.trans (u1.bl.trans hblk),a2.sz.trans hs1,λi hi=>?_,?_⟩⟩
  .by_cases hm:i∈pgs'
   .rcases a2.inn i hm with ⟨f,_⟩|⟨h1,h2⟩
    .exact f.elim
    .have h3:=hl1 i hi;rw[h1] at h3;have:¬ i<2:=λh=>by rw[if_pos h] at h3;simp at h3
     rw[h2,if_neg this,if_pos hm]
   .have h1:=(a2.rest i (λf=>f) hm).1;rw[h1,hl1 i hi,if_neg hm]
  .by_cases h0:ps=[]
   .subst h0;rcases a3.tree with ⟨_,rfl,_,_⟩|⟨_,hT⟩
    .rfl
    .exact absurd rfl (vJ.ne _ _ _ _ _ _ hT)
   .obtain⟨G1,l1,es,q,d2,q',e1,e2,e3,e4,e5⟩:=zHx hc1 hs hp (by omega) a1 h0;rcases a3.tree with ⟨_,_,rfl,_⟩|⟨_,hT⟩
    .exact absurd rfl h0
    .have m1:=zB0 (G':=G') rfl d' (d'+d2+1) _ _ _ _ _ (by omega) (λ_ _=>rfl) hT;have m2:=zB0 (G':=G') rfl (d2+1) (d'+d2+1) _ _ _ _ _ (by omega) (λ_ _=>rfl) e4;rw[<- m1,m2,e5,hs1];have hz:((256:Nat):Int)-24=232:=rfl;rw[hz,zGr (by omega) (by omega) ⟨e3,by rw[e2.keys];exact wW.2 hs⟩,zHz e2 e3]
theorem zQS{G:GA}{root d:Nat}{ps:List zE}{pgs:List Nat}(hT:TD G 5 root d ps pgs)(hsz:G.size=256):(zB6 232 (zFO ps)).length<=(yK G d root).length:=by
 have:=hT.fewest;rw[hsz] at this;exact this
end
section
open Go.RowKit
attribute [local go_sem ↓] Go.wp_at_zero Go.wp_at_succ
theorem zQ3{n A B:zF}{k:ByteArray}(h:zDX n=some (A,k,B))(hf:n.entries.length<=100000/\n.keys.length<=100000/\n.kids.length<=100000):A.entries.length<=100000/\A.keys.length<=100000/\A.kids.length<=100000/\B.entries.length<=100000/\B.keys.length<=100000/\B.kids.length<=100000:=by
 unfold zDX at h;split at h
 .injection h with h;unfold zS at h;split at h
  .injection h with h1 h2;injection h2 with h2 h3;subst h1 h3;simp only[uP,u0,uE];omega
  .injection h with h1 h2;injection h2 with h2 h3;subst h1 h3;simp only[uP,u0,uE];omega
 .cases h
section
variable {P P' F F':Nat->Prop}{ad:Nat->Addr}{w w':World}{c s:Nat}{G:GA}{l:List Nat}
theorem zLo(n:zF)(hnf:¬ zD n<=(G.size:Int)-24)(hL:yW F ad w)(hP:∀k,P k->F k)(h:yS F w P c s G l)(gen old:Nat)(hgen:gen<18446744073709551616)(ve vk vi:Value)(hve:Sl F w 4 vA ve n.entries)(hvk:Sl F w 1 qK vk n.keys)(hvi:Sl F w 1 yB vi n.kids)(hok:zH0 G l old n) :
  Calls Tryz.prog 93 #[qR c s gen,.int .i64 (old:Int),.agg #[.bool n.leaf,ve,vk,vi]] w (zMs F P ad w c s G l (vF G l gen old n)):=by
 have HNF:=oh hnf;clear hnf;obtain⟨w1,hw1⟩:∃w1,w1=(((w.alloc (gP c s gen)).alloc (.cells #[.bool n.leaf,ve,vk,vi] 118)).alloc (.cells zAD 113)).alloc (.cells zAD 113):=⟨_,rfl⟩;have m0:zJ w w1:=by rw[hw1];exact ((((zA.refl _ w).alloc _).alloc _).alloc _).alloc _
 have hz:w1.heap.size=w.heap.size+4:=by rw[hw1];simp
 have hN:zR P P F (λk=>F k\/(w.heap.size<=k/\k<w1.heap.size)) ad w w1:=zR.new hL hP (Q:=λk=>w.heap.size<=k/\k<w1.heap.size) m0 (λk hk=>hk.1) (λk hk=>hk.2);have HB:=oh (show jN (λk=>F k\/(w.heap.size<=k/\k<w1.heap.size)) P w w1 w.heap.size (gP c s gen) 31 from ⟨by rw[hw1];exact (((zL.new w _ _).alloc _).alloc _).alloc _,.inr ⟨by omega,by omega⟩,λhp=>by have:=h.bd _ hp;omega,by omega⟩);have HD:=oh (show jN (λk=>F k\/(w.heap.size<=k/\k<w1.heap.size)) P w w1 (w.heap.size+1) #[.bool n.leaf,ve,vk,vi] 118 from ⟨by rw[hw1];exact ((show zL ((w.alloc _).alloc (.cells #[.bool n.leaf,ve,vk,vi] 118)) (w.heap.size+1) #[.bool n.leaf,ve,vk,vi] 118 from zK (by simp)).alloc _).alloc _,.inr ⟨by omega,by omega⟩,λhp=>by have:=h.bd _ hp;omega,by omega⟩);have HR:=oh (show jN (λk=>F k\/(w.heap.size<=k/\k<w1.heap.size)) P w w1 (w.heap.size+1+1) zAD 113 from ⟨by rw[hw1];exact (show zL (((w.alloc _).alloc _).alloc (.cells zAD 113)) (w.heap.size+1+1) zAD 113 from zK (by simp)).alloc _,.inr ⟨by omega,by omega⟩,λhp=>by have:=h.bd _ hp;omega,by omega⟩);have HO:=oh (show jN (λk=>F k\/(w.heap.size<=k/\k<w1.heap.size)) P w w1 (w.heap.size+1+1+1) zAD 113 from ⟨by rw[hw1];exact zK (by simp),.inr ⟨by omega,by omega⟩,λhp=>by have:=h.bd _ hp;omega,by omega⟩);have HG:=oh (h.plusNew hP (Q:=λk=>w.heap.size<=k/\k<w1.heap.size) m0 (λk hk=>hk.1));have HVE:=oh (hN.sl hP hve);have HVK:=oh (hN.sl hP hvk);have HVI:=oh (hN.sl hP hvi);have HLIM:=oh h.lim;have HN:=oh hN;have HOK:=oh hok;have HSZ:=oh (λW (m:zJ w1 W)=>zDf (HG.out.at m) gen);have HFT:Hid (∀W,zJ w1 W -> Calls Tryz.prog 97 #[.agg #[.bool n.leaf,ve,vk,vi],.int .i64 (G.size:Int)] W λe w'=>e=.returned (.bool (decide (zD n<=(G.size:Int)-24)))/\zJ W w'):=oh (λW m=>zCC n ve vk vi W (HVE.out.ext m) (HVK.out.ext m) (by have:=hok.wt;omega) _ (by omega) (by have:=HLIM.out;omega));obtain⟨ea,ec,rfl, -, -, -, -⟩:=hve;obtain⟨ka,kc,rfl, -, -, -, -⟩:=hvk;obtain⟨ia,ic,rfl, -, -, -, -⟩:=hvi;have b0:=HB.out.blk.cell (o:=0) rfl;have b1:=HB.out.blk.cell (o:=1) rfl;have b2:=HB.out.blk.cell (o:=2) rfl;have n0:=HD.out.blk.cell (o:=0) rfl;have n1:=HD.out.blk.cell (o:=1) rfl;have n2:=HD.out.blk.cell (o:=2) rfl;have n3:=HD.out.blk.cell (o:=3) rfl;have HW1:=oh hw1;clear hL hP h m0 hN hok hw1;unfold qR at HSZ ⊢
 go_enter Tryz.func93, Tryz.ntmps93
 go_wp2_with fail;rw[<- HW1.out];go_cut [17] (λv17 wx=>v17=.bool (decide (zD n<=(G.size:Int)-24))/\Hid (zJ w1 wx))
 case first =>
  go_region_held3 (λw'=>w'.cell? ⟨w.heap.size+1,0,none⟩=some (.bool n.leaf)/\w'.cell? ⟨w.heap.size+1,1,none⟩=some (.slice ea n.entries.length ec)/\w'.cell? ⟨w.heap.size+1,2,none⟩=some (.slice ka n.keys.length kc)/\w'.cell? ⟨w.heap.size+1,3,none⟩=some (.slice ia n.kids.length ic) /\
    w'.cell? ⟨w.heap.size,0,none⟩=some (.pointer (some ⟨c,0,none⟩))/\w'.cell? ⟨w.heap.size,1,none⟩=some (.pointer (some ⟨s,0,none⟩))/\w'.cell? ⟨w.heap.size,2,none⟩=some (.int .u64 (gen:Int)))
   (first|(with_reducible exact⟨n0,n1,n2,n3,b0,b1,b2⟩)|(with_reducible exact⟨y0,y1,y2,y3,d0,d1,d2⟩)|(with_reducible exact⟨z0,z1,z2,z3,f0,f1,f2⟩)|go_keep)
   (first
    | (go_at_call 98;(with_reducible refine (HSZ.out _ (zA.refl _ w1).drew).mono ?_);rintro e w2 ⟨rfl,hm2⟩;have y0:=zC hm2 n0;have y1:=zC hm2 n1;have y2:=zC hm2 n2;have y3:=zC hm2 n3;have d0:=zC hm2 b0;have d1:=zC hm2 b1;have d2:=zC hm2 b2)
    | (go_at_call 97;refine (HFT.out _ ((zA.refl _ w1).drew.trans hm2)).mono ?_;rintro e w3 ⟨rfl,hm3⟩;have z0:=zC hm3 y0;have z1:=zC hm3 y1;have z2:=zC hm3 y2;have z3:=zC hm3 y3;have f0:=zC hm3 d0;have f1:=zC hm3 d1;have f2:=zC hm3 d2)
    | fail)
  all_goals
   go_wp2_with fail;go_meet;exact⟨rfl,oh ((zA.refl _ w1).drew.trans (hm2.trans hm3))⟩
 obtain⟨rfl,HX⟩:=hcut;have HB:=oh (HB.out.ext HX.out);have HD:=oh (HD.out.ext HX.out);have HR:=oh (HR.out.ext HX.out);have HO:=oh (HO.out.ext HX.out);have HN1:=oh (HN.out.trans (zR.ext HN.out.env HN.out.sub HX.out));have HG:=oh (HG.out.at HX.out);have b0:=HB.out.blk.cell (o:=0) rfl;have b1:=HB.out.blk.cell (o:=1) rfl;have b2:=HB.out.blk.cell (o:=2) rfl;have n0:=HD.out.blk.cell (o:=0) rfl;have n1:=HD.out.blk.cell (o:=1) rfl;have n2:=HD.out.blk.cell (o:=2) rfl;have n3:=HD.out.blk.cell (o:=3) rfl;have hnf:¬ zD n<=(G.size:Int)-24:=by have:=HNF.out;omega
 obtain⟨A,kx,B,hcut,hwa,hwb⟩:=HOK.out.cut hnf;have HSA:Hid (vF G l gen old n=match qW G l old A with
   | none=>.inr (zAp G A)
   | some i=>match qW (yD G l gen old A) (yO G l old A) 0 B with
    | none=>.inr (zAp (yD G l gen old A) B)
    | some j=>.inl (yD (yD G l gen old A) (yO G l old A) gen 0 B,yO (yD G l gen old A) (yO G l old A) 0 B,⟨i,j,kx,true,false⟩)):=oh (by
  unfold vF;rw[if_neg hnf,hcut];simp only;rw[if_pos ⟨hwa,hwb⟩];rfl)
 have HCT:=oh (zNt HN1.out.env n _ _ _ (HVE.out.ext HX.out) (HVK.out.ext HX.out) (HVI.out.ext HX.out) HOK.out.bytes HOK.out.few.1 HOK.out.few.2.2 HOK.out.few.2.1);have HCUT:=oh hcut;have hnfb:decide (zD n<=(G.size:Int)-24)=false:=uX hnf;rw[hnfb];have HWA:=oh hwa;have HWB:=oh hwb;clear hcut hnf hnfb hwa hwb;go_wp2_with fail;refine HCT.out.mono ?_;rintro e w2 ⟨hm2,⟨x,va,vb,hx,rfl,hA,hB⟩|⟨hno,_⟩⟩
 case inr=>rw[HCUT.out] at hno;cases hno
 rw[HCUT.out] at hx;injection hx with hx;subst hx;simp only at hA hB;obtain⟨e1,k1,i1,rfl,oe1,ok1,oi1⟩:=hA;obtain⟨e2,k2,i2,rfl,oe2,ok2,oi2⟩:=hB;have HE1:=oh oe1;have HK1:=oh ok1;have HI1:=oh oi1;have HE2:=oh oe2;have HK2:=oh ok2;have HI2:=oh oi2;obtain⟨ea1,ec1,rfl,_,_⟩:=oe1.form;obtain⟨ka1,kc1,rfl,_,_⟩:=ok1.form;obtain⟨ia1,ic1,rfl,_,_⟩:=oi1.form;obtain⟨ea2,ec2,rfl,_,_⟩:=oe2.form;obtain⟨ka2,kc2,rfl,_,_⟩:=ok2.form;obtain⟨ia2,ic2,rfl,_,_⟩:=oi2.form;have hw1c:=HX.out.size;have hbase:∀k,(F k\/(w.heap.size<=k/\k<w1.heap.size))->k<wc.heap.size:=λk hk=>by
  rcases hk with hk|hk
  .have:=HN.out.env.lt k (.inl hk);omega
  .omega
 have HHF:=oh (zQ3 HCUT.out HOK.out.few);have HSE1:=oh (oe1.slF hbase yU.len (by have:=HHF.out.1;omega));have HSK1:=oh (ok1.slF hbase yV.len (by have:=HHF.out.2.1;omega));have HSI1:=oh (oi1.slF hbase yG.len (by have:=HHF.out.2.2.1;omega));have HSE2:=oh (oe2.slF hbase yU.len (by have:=HHF.out.2.2.2.1;omega));have HSK2:=oh (ok2.slF hbase yV.len (by have:=HHF.out.2.2.2.2.1;omega));have HSI2:=oh (oi2.slF hbase yG.len (by have:=HHF.out.2.2.2.2.2;omega));obtain⟨w3,hw3⟩:∃w3,w3=(w2.alloc (.cells #[.bool A.leaf,.slice ea1 A.entries.length ec1,.slice ka1 A.keys.length kc1,.slice ia1 A.kids.length ic1] 118)).alloc (.cells #[.bool B.leaf,.slice ea2 B.entries.length ec2,.slice ka2 B.keys.length kc2,.slice ia2 B.kids.length ic2] 118):=⟨_,rfl⟩;have m23:zJ w2 w3:=by rw[hw3];exact ((zA.refl _ _).alloc _).alloc _
 have HXA:Hid (zL w3 w2.heap.size #[.bool A.leaf,.slice ea1 A.entries.length ec1,.slice ka1 A.keys.length kc1,.slice ia1 A.kids.length ic1] 118):=oh (by rw[hw3];exact (zL.new w2 _ _).alloc _);have HXB:Hid (zL w3 (w2.heap.size+1) #[.bool B.leaf,.slice ea2 B.entries.length ec2,.slice ka2 B.keys.length kc2,.slice ia2 B.kids.length ic2] 118):=oh (by rw[hw3];exact zK (by simp));have hw2s:w.heap.size+4<=w2.heap.size:=by have:=hm2.size;omega
 have mc3:zJ wc w3:=hm2.trans m23;have HBP:Hid (¬ P w2.heap.size/\¬ P (w2.heap.size+1)):=oh ⟨λhp=>by have:=HG.out.bd _ hp;have:=hm2.size;omega,λhp=>by have:=HG.out.bd _ hp;have:=hm2.size;omega⟩;have HB3:=oh (HB.out.ext mc3);have HR3:=oh (HR.out.ext mc3);have HO3:=oh (HO.out.ext mc3);have HG3:=oh (HG.out.at mc3);have HN3:=oh (HN1.out.trans (zR.ext HN1.out.env HN1.out.sub mc3));have HSZ3:=oh (λW (m:zJ w3 W)=>zDf (HG3.out.at m) gen);have HFA:Hid (∀W,zJ w3 W -> Calls Tryz.prog 97 #[.agg #[.bool A.leaf,.slice ea1 A.entries.length ec1,.slice ka1 A.keys.length kc1,.slice ia1 A.kids.length ic1],.int .i64 (G.size:Int)] W λe w'=>e=.returned (.bool true)/\zJ W w'):=oh (λW m=>by
  have:=zCC A _ _ (.slice ia1 A.kids.length ic1) W (HSE1.out.ext (m23.trans m)) (HSK1.out.ext (m23.trans m)) (by have:=HWA.out;have:=HLIM.out;omega) (G.size:Int) (by omega) (by have:=HLIM.out;omega);rw[wC HWA.out] at this;exact this)
 have HFB:Hid (∀W,zJ w3 W -> Calls Tryz.prog 97 #[.agg #[.bool B.leaf,.slice ea2 B.entries.length ec2,.slice ka2 B.keys.length kc2,.slice ia2 B.kids.length ic2],.int .i64 (G.size:Int)] W λe w'=>e=.returned (.bool true)/\zJ W w'):=oh (λW m=>by
  have:=zCC B _ _ (.slice ia2 B.kids.length ic2) W (HSE2.out.ext (m23.trans m)) (HSK2.out.ext (m23.trans m)) (by have:=HWB.out;have:=HLIM.out;omega) (G.size:Int) (by omega) (by have:=HLIM.out;omega);rw[wC HWB.out] at this;exact this)
 unfold qR at HSZ3;have p0:=HXA.out.cell (o:=0) rfl;have p1:=HXA.out.cell (o:=1) rfl;have p2:=HXA.out.cell (o:=2) rfl;have p3:=HXA.out.cell (o:=3) rfl;have q0:=HXB.out.cell (o:=0) rfl;have q1:=HXB.out.cell (o:=1) rfl;have q2:=HXB.out.cell (o:=2) rfl;have q3:=HXB.out.cell (o:=3) rfl;have b0:=HB3.out.blk.cell (o:=0) rfl;have b1:=HB3.out.blk.cell (o:=1) rfl;have b2:=HB3.out.blk.cell (o:=2) rfl;have HM23:=oh m23;have HW3:=oh hw3;have xm:=(zA.refl (λ_=>False) w3).drew;clear oe1 ok1 oi1 oe2 ok2 oi2 hbase hw3 m23 mc3 hm2 hw1c n0 n1 n2 n3;go_wp2_with fail;rw[<- HW3.out];have HS:∀W:World,zJ w3 W->W.cell? ⟨w2.heap.size,0,none⟩=some (.bool A.leaf)/\W.cell? ⟨w2.heap.size,1,none⟩=some (.slice ea1 A.entries.length ec1)/\W.cell? ⟨w2.heap.size,2,none⟩=some (.slice ka1 A.keys.length kc1)/\W.cell? ⟨w2.heap.size,3,none⟩=some (.slice ia1 A.kids.length ic1)/\W.cell? ⟨w2.heap.size+1,0,none⟩=some (.bool B.leaf)/\W.cell? ⟨w2.heap.size+1,1,none⟩=some (.slice ea2 B.entries.length ec2)/\W.cell? ⟨w2.heap.size+1,2,none⟩=some (.slice ka2 B.keys.length kc2)/\W.cell? ⟨w2.heap.size+1,3,none⟩=some (.slice ia2 B.kids.length ic2)/\W.cell? ⟨w.heap.size,0,none⟩=some (.pointer (some ⟨c,0,none⟩))/\W.cell? ⟨w.heap.size,1,none⟩=some (.pointer (some ⟨s,0,none⟩))/\W.cell? ⟨w.heap.size,2,none⟩=some (.int .u64 (gen:Int)):=λW m=>⟨zC m p0,zC m p1,zC m p2,zC m p3,zC m q0,zC m q1,zC m q2,zC m q3,zC m b0,zC m b1,zC m b2⟩
 have zd:=HS _ xm;go_region_held3 (λw'=>w'.cell? ⟨w2.heap.size,0,none⟩=some (.bool A.leaf)/\w'.cell? ⟨w2.heap.size,1,none⟩=some (.slice ea1 A.entries.length ec1)/\w'.cell? ⟨w2.heap.size,2,none⟩=some (.slice ka1 A.keys.length kc1)/\w'.cell? ⟨w2.heap.size,3,none⟩=some (.slice ia1 A.kids.length ic1)/\w'.cell? ⟨w2.heap.size+1,0,none⟩=some (.bool B.leaf)/\w'.cell? ⟨w2.heap.size+1,1,none⟩=some (.slice ea2 B.entries.length ec2)/\w'.cell? ⟨w2.heap.size+1,2,none⟩=some (.slice ka2 B.keys.length kc2)/\w'.cell? ⟨w2.heap.size+1,3,none⟩=some (.slice ia2 B.kids.length ic2)/\w'.cell? ⟨w.heap.size,0,none⟩=some (.pointer (some ⟨c,0,none⟩))/\w'.cell? ⟨w.heap.size,1,none⟩=some (.pointer (some ⟨s,0,none⟩))/\w'.cell? ⟨w.heap.size,2,none⟩=some (.int .u64 (gen:Int)))
  (first|(with_reducible exact zd)|fail)
  (first|(go_at_call 98;(with_reducible refine (HSZ3.out _ xm).mono ?_);rintro e wy ⟨rfl,hmy⟩;have xm:=xm.trans hmy;have zd:=HS _ xm;clear hmy)|(go_at_call 97;(with_reducible refine (HFA.out _ xm).mono ?_);rintro e wy ⟨rfl,hmy⟩;have xm:=xm.trans hmy;have zd:=HS _ xm;clear hmy)|(go_at_call 97;(with_reducible refine (HFB.out _ xm).mono ?_);rintro e wy ⟨rfl,hmy⟩;have xm:=xm.trans hmy;have zd:=HS _ xm;clear hmy)|fail)
 have HB4:=oh (HB3.out.ext xm);have HR4:=oh (HR3.out.ext xm);have hO4:=HO3.out.ext xm;have HG4:=oh (HG3.out.at xm);have HN4:=oh (HN3.out.trans (zR.ext HN3.out.env HN3.out.sub xm));have HXA4:=oh (HXA.out.ext xm);have HXB4:=oh (HXB.out.ext xm);have o0:=hO4.blk.cell (o:=0) rfl;have o1:=hO4.blk.cell (o:=1) rfl;have o2:=hO4.blk.cell (o:=2) rfl;have o3:=hO4.blk.cell (o:=3) rfl;have o4:=hO4.blk.cell (o:=4) rfl;have of:=hO4.blk.frozen;have mO:zA (λk=>k=w.heap.size+1+1+1) wy ((wy.setCell ⟨w.heap.size+1+1+1,2,none⟩ (.string kx)).setCell ⟨w.heap.size+1+1+1,3,none⟩ (.bool true)):=((zA.refl (λk=>k=w.heap.size+1+1+1) wy).setCell (p:=⟨w.heap.size+1+1+1,2,none⟩) (.inr rfl) _).setCell (p:=⟨w.heap.size+1+1+1,3,none⟩) (.inr rfl) _;have hO5:jN (λk=>F k\/(w.heap.size<=k/\k<w1.heap.size)) P w ((wy.setCell ⟨w.heap.size+1+1+1,2,none⟩ (.string kx)).setCell ⟨w.heap.size+1+1+1,3,none⟩ (.bool true)) (w.heap.size+1+1+1) #[.int .i64 0,.int .i64 0,.string kx,.bool true,.bool false] 113:=by
  simpa using (hO4.put 2 (.string kx)).put 3 (.bool true)
 have HO5:=oh hO5;have HG5:=oh (HG4.out.var hO4 mO);have HN5:=oh (HN4.out.var hO4 mO);have hmF:=hO4.mF mO;have HB5:=oh (HB4.out.other mO (by omega));have HR5:=oh (HR4.out.other mO (by omega));have HXA5:=oh (HXA4.out.mods mO (by omega));have HXB5:=oh (HXB4.out.mods mO (by omega));have HS5:=oh (λ(α:Type) (sz:Nat) (enc:α->List Value) (v:Value) (l:List α) (h:Sl (λk=>F k\/(w.heap.size<=k/\k<w1.heap.size)) w2 sz enc v l)=>((h.ext (HM23.out.trans xm)).mods hmF));have HBY:Hid ((zM A=true->(zZ A).length<=100000)/\(zM B=true->(zZ B).length<=100000)):=oh ⟨λhr=>by have:=vW (qD hr);have:=HWA.out;have:=HLIM.out;omega,λhr=>by have:=vW (qD hr);have:=HWB.out;have:=HLIM.out;omega⟩;have HDA:=oh (zEF HN5.out.env HN5.out.sub HG5.out gen old hgen A _ _ _ (HS5.out _ _ _ _ _ HSE1.out) (HS5.out _ _ _ _ _ HSK1.out) (HS5.out _ _ _ _ _ HSI1.out) HBY.out.1 HOK.out.place.ok HOK.out.place.two (HOK.out.place.lt (by have:=HLIM.out;omega)) HOK.out.len (by have:=HOK.out.cost;omega));unfold qR at HDA;have hneA:w2.heap.size≠w.heap.size+1+1+1:=by omega
 have hneA2:w.heap.size+1+1+1≠w2.heap.size:=by omega
 have hneB:w2.heap.size+1≠w.heap.size+1+1+1:=by omega
 have hneB2:w.heap.size+1+1+1≠w2.heap.size+1:=by omega
 clear xm hO4 mO hO5 hmF;go_wp2_with fail;refine HDA.out.mono ?_;rintro e w6 ⟨P6,F6,hG6,hN6,hr⟩;have hO6:=HO5.out.nxt hN6;have HR6:=oh (HR5.out.nxt hN6);have HB6:=oh (HB5.out.nxt hN6);have HXB6:=oh (hN6.blk HXB5.out HBP.out.2);have HBP6:=oh (hN6.not HXB5.out.lt HBP.out.2);have HG6:=oh hG6;have HN6:=oh (HN5.out.trans hN6);have HSE6:=oh (hN6.sl HN5.out.sub (HS5.out _ _ _ _ _ HSE2.out));have HSK6:=oh (hN6.sl HN5.out.sub (HS5.out _ _ _ _ _ HSK2.out));have HSI6:=oh (hN6.sl HN5.out.sub (HS5.out _ _ _ _ _ HSI2.out));have o0:=hO6.blk.cell (o:=0) rfl;have o1:=hO6.blk.cell (o:=1) rfl;have o2:=hO6.blk.cell (o:=2) rfl;have o3:=hO6.blk.cell (o:=3) rfl;have o4:=hO6.blk.cell (o:=4) rfl;have of:=hO6.blk.frozen;have r0:=HR6.out.blk.cell (o:=0) rfl;have r1:=HR6.out.blk.cell (o:=1) rfl;have r2:=HR6.out.blk.cell (o:=2) rfl;have r3:=HR6.out.blk.cell (o:=3) rfl;have r4:=HR6.out.blk.cell (o:=4) rfl;have rf:=HR6.out.blk.frozen;have b0:=HB6.out.blk.cell (o:=0) rfl;have b1:=HB6.out.blk.cell (o:=1) rfl;have b2:=HB6.out.blk.cell (o:=2) rfl;have q0:=HXB6.out.cell (o:=0) rfl;have q1:=HXB6.out.cell (o:=1) rfl;have q2:=HXB6.out.cell (o:=2) rfl;have q3:=HXB6.out.cell (o:=3) rfl;have HO6:=oh hO6;have HFR1:Hid (FrG G l (yD G l gen old A) (yO G l old A)/\(yD G l gen old A).cost<=G.cost+1):=oh ⟨zJ6 HOK.out.place (by rw[HOK.out.low.1];simp),(zCe G l gen old A).2.2⟩;clear hG6 hN6 hO6 p0 p1 p2 p3;rcases hr with ⟨i,hi,rfl⟩|⟨hi,f,el,rfl,hE⟩
 .have mO:=zA.at (λk=>k=w.heap.size+1+1+1) w6 (w.heap.size+1+1+1) 0 (.int .i64 (i:Int)) rfl;have hO7:jN F6 P6 w (w6.setCell ⟨w.heap.size+1+1+1,0,none⟩ (.int .i64 (i:Int))) (w.heap.size+1+1+1) #[.int .i64 (i:Int),.int .i64 0,.string kx,.bool true,.bool false] 113:=by
   simpa using HO6.out.put 0 (.int .i64 (i:Int))
  have HO7:=oh hO7;have HG7:=oh (HG6.out.var HO6.out mO);have HN7:=oh (HN6.out.var HO6.out mO);have hmF:=HO6.out.mF mO;have HR7:=oh (HR6.out.other mO (by omega));have HDB:=oh (zEF HN7.out.env HN7.out.sub HG7.out gen 0 hgen B _ _ _ (HSE6.out.mods hmF) (HSK6.out.mods hmF) (HSI6.out.mods hmF) HBY.out.2 (.inl rfl) (.inl rfl) (by omega) (by have:=(zCe G l gen old A).2.1;have:=HFR1.out.1.len;have:=HOK.out.len;omega) (by have:=HFR1.out.2;have:=HOK.out.cost;omega));unfold qR at HDB;have HI:=oh hi;clear hi mO hO7 hmF;go_wp2_with fail;refine HDB.out.mono ?_;rintro e w8 ⟨P8,F8,hG8,hN8,hr⟩;have hO8:=HO7.out.nxt hN8;have HR8:=oh (HR7.out.nxt hN8);have HG8:=oh hG8;have HN8:=oh (HN7.out.trans hN8);have o0:=hO8.blk.cell (o:=0) rfl;have o1:=hO8.blk.cell (o:=1) rfl;have o2:=hO8.blk.cell (o:=2) rfl;have o3:=hO8.blk.cell (o:=3) rfl;have o4:=hO8.blk.cell (o:=4) rfl;have of:=hO8.blk.frozen;have r0:=HR8.out.blk.cell (o:=0) rfl;have r1:=HR8.out.blk.cell (o:=1) rfl;have r2:=HR8.out.blk.cell (o:=2) rfl;have r3:=HR8.out.blk.cell (o:=3) rfl;have r4:=HR8.out.blk.cell (o:=4) rfl;have rf:=HR8.out.blk.frozen;have HO8:=oh hO8;clear hG8 hN8 hO8;rcases hr with ⟨j,hj,rfl⟩|⟨hj,f,el,rfl,hE⟩
  .have HS9:Hid (vF G l gen old n=.inl (yD (yD G l gen old A) (yO G l old A) gen 0 B,yO (yD G l gen old A) (yO G l old A) 0 B,⟨i,j,kx,true,false⟩)):=oh (by rw[HSA.out,HI.out];simp only;rw[hj]);clear hj;go_wp2_with fail;have mO:=zA.at (λk=>k=w.heap.size+1+1+1) w8 (w.heap.size+1+1+1) 1 (.int .i64 (j:Int)) rfl;have g3:=HG8.out.var HO8.out mO;have n3:=HN8.out.var HO8.out mO;have r3:=HR8.out.other mO (by omega);have mR:=zA.set5 (F:=λk=>k=w.heap.size+1+1) (zA.refl _ (w8.setCell ⟨w.heap.size+1+1+1,1,none⟩ (.int .i64 (j:Int)))) (R:=w.heap.size+1+1) (.inr rfl) (.int .i64 (i:Int)) (.int .i64 (j:Int)) (.string kx) (.bool true) (.bool false);have bR:=r3.blk.set5 (.int .i64 (i:Int)) (.int .i64 (j:Int)) (.string kx) (.bool true) (.bool false);refine bodyPost_ret (zG rfl _ _ (w.heap.size+1+1) 113 _ _ rfl bR Tryz.underlying113 rfl Tryz.outSz) rfl ?_;exact⟨P8,F8,_,_,g3.var r3 mR,n3.var r3 mR,.inl ⟨_,HS9.out,rfl⟩⟩
  .have HS9:Hid (vF G l gen old n=.inr (zAp (yD G l gen old A) B)):=oh (by rw[HSA.out,HI.out];simp only;rw[hj]);have HFR2:Hid (FrG G l (yD (yD G l gen old A) (yO G l old A) gen 0 B) (yO (yD G l gen old A) (yO G l old A) 0 B)):=oh (HFR1.out.1.trans (zJ6 (.inl rfl) (by rw[(HFR1.out.1.lowL HOK.out.low).1];simp)));have HE:=oh hE;clear hj hE;go_wp2_with fail;have mO:=zA.at (λk=>k=w.heap.size+1+1+1) w8 (w.heap.size+1+1+1) 1 (.int .i64 0) rfl;have g3:=HG8.out.var HO8.out mO;have n3:=HN8.out.var HO8.out mO;have r3:=HR8.out.other mO (by omega);have mR:=zA.set5 (F:=λk=>k=w.heap.size+1+1) (zA.refl _ (w8.setCell ⟨w.heap.size+1+1+1,1,none⟩ (.int .i64 0))) (R:=w.heap.size+1+1) (.inr rfl) (.int .i64 (i:Int)) (.int .i64 0) (.string kx) (.bool true) (.bool false);have bR:=r3.blk.set5 (.int .i64 (i:Int)) (.int .i64 0) (.string kx) (.bool true) (.bool false);refine bodyPost_ret (zG rfl _ _ (w.heap.size+1+1) 113 _ _ rfl bR Tryz.underlying113 rfl Tryz.outSz) rfl ?_;exact⟨P8,F8,_,_,g3.var r3 mR,n3.var r3 mR,.inr ⟨_,⟨i,0,kx,true,false⟩,_,_,HS9.out,HFR2.out,rfl,(HE.out.mods (HO8.out.mF mO)).mods (r3.mF mR)⟩⟩
 .have HS9:Hid (vF G l gen old n=.inr (zAp G A)):=oh (by rw[HSA.out,hi]);have HE:=oh hE;clear hi hE;go_wp2_with fail;have mO:=zA.at (λk=>k=w.heap.size+1+1+1) w6 (w.heap.size+1+1+1) 0 (.int .i64 0) rfl;have g3:=HG6.out.var HO6.out mO;have n3:=HN6.out.var HO6.out mO;have r3:=HR6.out.other mO (by omega);have mR:=zA.set5 (F:=λk=>k=w.heap.size+1+1) (zA.refl _ (w6.setCell ⟨w.heap.size+1+1+1,0,none⟩ (.int .i64 0))) (R:=w.heap.size+1+1) (.inr rfl) (.int .i64 0) (.int .i64 0) (.string kx) (.bool true) (.bool false);have bR:=r3.blk.set5 (.int .i64 0) (.int .i64 0) (.string kx) (.bool true) (.bool false);refine bodyPost_ret (zG rfl _ _ (w.heap.size+1+1) 113 _ _ rfl bR Tryz.underlying113 rfl Tryz.outSz) rfl ?_;exact⟨P6,F6,_,_,g3.var r3 mR,n3.var r3 mR,.inr ⟨_,⟨0,0,kx,true,false⟩,_,_,HS9.out,HFR1.out.1,rfl,(HE.out.mods (HO6.out.mF mO)).mods (r3.mF mR)⟩⟩
theorem zH8(n:zF)(hL:yW F ad w)(hP:∀k,P k->F k)(h:yS F w P c s G l)(gen old:Nat)(hgen:gen<18446744073709551616)(ve vk vi:Value)(hve:Sl F w 4 vA ve n.entries)(hvk:Sl F w 1 qK vk n.keys)(hvi:Sl F w 1 yB vi n.kids)(hok:zH0 G l old n) :
  Calls Tryz.prog 93 #[qR c s gen,.int .i64 (old:Int),.agg #[.bool n.leaf,ve,vk,vi]] w (zMs F P ad w c s G l (vF G l gen old n)):=by
 by_cases hf:zD n<=(G.size:Int)-24
 .exact zLV n hf hL hP h gen old hgen ve vk vi hve hvk hvi hok
 .exact zLo n hf hL hP h gen old hgen ve vk vi hve hvk hvi hok
end
end
end Go.Proofs.YtchklfmggpconaaGreatDoor
