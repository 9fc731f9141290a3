/- walker.young. | The walker beside its pager. | Pages as a row of the call's own, each with its body. Over any program but for the types' numbers. | The laws' pager of pages: a new disk, cache and space, each page put and marked. | The state of a law: its pager lies in a box. | ref11.chained. | The reference's leaves, step by step. Plain. | Levels and pages, while a tree is built. | ref11.leaves. | ref11.With. | ref11.Pairs, ref11.Find. | ref11.Keys. -/
import Derived.Test.YtphafjmdhmpkbaaGreatDoorK37
import Derived.BigQuiet
import Derived.Deep.RegionHeld3
import Derived.Test.YtphafjmdhmpkbaaGreatDoorK27
import Derived.Test.YtphafjmdhmpkbaaGreatDoorK23
import Derived.Test.YtphafjmdhmpkbaaGreatDoorK20
import Derived.Test.YtphafjmdhmpkbaaGreatDoorK24
import Derived.Test.YtphafjmdhmpkbaaGreatDoorK19
import Derived.IntWalk
import Derived.Deep.RegionLawGrows
import Derived.Deep.CutBlock
import Derived.Deep.DeepCutAuto
import Derived.Test.YtphafjmdhmpkbaaGreatDoorK03
import Derived.Test.YtphafjmdhmpkbaaGreatDoorK25
import Derived.Test.YtphafjmdhmpkbaaGreatDoorK05
namespace Go.Proofs.YtphafjmdhmpkbaaGreatDoor
open Go.RowKit Go.Maps
attribute [local go_sem ↓] Go.wp_at_zero Go.wp_at_succ
section
variable {F P P' F' P1 F1:Nat→Prop} {ad:Nat→Addr} {w w' w0:World} {c s gen kb mb:Nat} {G:GA} {l:List Nat} {pv kv pv' kv':Value} {st st':WkS} {ps:List Int}
def YoungRes (F:Nat→Prop) (ad:Nat→Addr) (w':World) (r:PageA ⊕ Err) (e:Ending):Prop :=
  match r with
  | .inl p=>∃ a n,e=.returned (.tuple #[.agg #[.int .i64 p.kind,.int .i64 p.id,.int .u64 (p.gen:Int),.slice a p.body.length n],.nilIface])∧Sl F w' 1 encB (.slice a p.body.length n) p.body∧p.body.length≤1000
  | .inr (el,ek)=>∃ (x0 x1 x2:Int) (a:Option Addr) (n m:Nat) (f:Nat),e=.returned (.tuple #[.agg #[.int .i64 x0,.int .i64 x1,.int .u64 x2,.slice a n m],faultV f])∧ErrC F ad w' (faultV f) el ek
set_option maxRecDepth 100000 in
set_option maxHeartbeats 1000000 in
theorem young_any (hL:Env F ad w) (hP:∀ k,P k→F k) (h:PgR F w P c s G l) {cs:Array Value} (hB:Blk w kb cs 152) (h0:cs[0]? = some (.pointer (some ⟨c,0,none⟩))) (h2:cs[2]? = some (.int .u64 (gen:Int))) (hkb:¬ P kb) (id:Int) (hk:G.knows id) :
    Calls Tryz.prog 136 #[.pointer (some ⟨kb,0,none⟩),.int .i64 id] w (PgDone F P ad w c s G l (fun F' w' e=>YoungRes F' ad w' (youngW G gen id) e)):=by
  have m0:Ext w (w.alloc (.cells #[.int .i64 0,.int .i64 0,.int .u64 0,.slice none 0 0] 211)):=(Mods.refl _ w).alloc _
  have HM0:=Lib.hid m0
  have HB0:=Lib.hid (hB.ext m0)
  have hRP:¬ P w.heap.size:=fun hp=>by have:=h.bd _ hp;omega
  have HRP:=Lib.hid hRP
  have HR0:=Lib.hid (Blk.new w #[.int .i64 0,.int .i64 0,.int .u64 0,.slice none 0 0] 211)
  have HN1:Hid (Nxt P P F (fun k=>F k∨k=w.heap.size) ad w (w.alloc (.cells #[.int .i64 0,.int .i64 0,.int .u64 0,.slice none 0 0] 211))):=Lib.hid (Nxt.new hL hP (Q:=fun k=>k=w.heap.size) m0 (fun k hk=>by omega) (fun k hk=>by simp;omega))
  have HG1:Hid (PgR (fun k=>F k∨k=w.heap.size) (w.alloc (.cells #[.int .i64 0,.int .i64 0,.int .u64 0,.slice none 0 0] 211)) P c s G l):=Lib.hid (h.plusNew hP (Q:=fun k=>k=w.heap.size) m0 (fun k hk=>by omega))
  have k0:=(hB.ext m0).cell h0
  have HKN:=Lib.hid hk
  have H2:=Lib.hid h2
  have HKB:=Lib.hid hkb
  clear hL hP h hB m0 hRP h0 hk h2
  go_enter Tryz.func136, Tryz.ntmps136
  go_wp2_with fail
  refine (pgGet HN1.out.env HN1.out.sub HG1.out id HKN.out).mono ?_
  rintro e w2 ⟨P2,F2,hG2,hN2,hres⟩
  have HG2:=Lib.hid hG2
  have HN2:=Lib.hid hN2
  have HR2:=Lib.hid (hN2.blk HR0.out HRP.out)
  have hB2:=hN2.blk HB0.out HKB.out
  have HB2:=Lib.hid hB2
  have k2:=hB2.cell H2.out
  have HRP2:Hid (¬ P2 w.heap.size):=Lib.hid (hN2.not HR0.out.lt HRP.out)
  have HRF2:Hid (F2 w.heap.size):=Lib.hid (hN2.grow _ (.inr rfl))
  clear hG2 hN2 hB2 k0
  rcases hres with ⟨x,xv,hx,rfl,hxv⟩ | ⟨er,f,hx,rfl,hE⟩
  · obtain ⟨hxi,_,hxl⟩:=HG2.out.got hx
    have HXV:=Lib.hid hxv
    obtain ⟨xa,xc,rfl, -, -, -, -⟩:=_root_.id hxv
    unfold pageV
    have HX1:=Lib.hid (Blk.new w2 #[.int .i64 x.kind,.int .i64 x.id,.int .u64 (x.gen:Int),.slice xa x.body.length xc] 211)
    have HX2:Hid (∀ q,Ext w2 ((w2.alloc (.cells #[.int .i64 x.kind,.int .i64 x.id,.int .u64 (x.gen:Int),.slice xa x.body.length xc] 211)).drewN q)):=Lib.hid (fun q=>((Mods.refl _ w2).alloc _).drewN q)
    have HXB:Hid (∀ q,Blk ((w2.alloc (.cells #[.int .i64 x.kind,.int .i64 x.id,.int .u64 (x.gen:Int),.slice xa x.body.length xc] 211)).drewN q) w2.heap.size #[.int .i64 x.kind,.int .i64 x.id,.int .u64 (x.gen:Int),.slice xa x.body.length xc] 211):=Lib.hid (fun _=>HX1.out)
    have k2:=(HB2.out.ext ((Mods.refl _ w2).alloc (.cells #[.int .i64 x.kind,.int .i64 x.id,.int .u64 (x.gen:Int),.slice xa x.body.length xc] 211))).cell H2.out
    have hne:w2.heap.size ≠ w.heap.size:=by have:=HR2.out.lt;omega
    have hne2:w.heap.size ≠ w2.heap.size:=fun e=>hne e.symm
    by_cases hy:gen < x.gen
    · have HY:Hid (youngW G gen id=.inr (corrE id)):=Lib.hid (by unfold youngW;rw [hx];simp only [if_pos hy])
      have hyi:(gen:Int) < (x.gen:Int):=by omega
      have HCR:=Lib.hid (fun q=>corrupt_any (HN2.out.env.mods (HX2.out q).ext) id)
      clear hx hxv hxi hy
      go_wp2_with fail
      go_quiet (fail)
      go_wp2_with fail
      refine (HCR.out _).mono ?_
      rintro e w3 ⟨f,rfl,hE,hm3⟩
      have HE:=Lib.hid hE
      have HM3:=Lib.hid ((HX2.out _).trans hm3)
      have hX3:=(HXB.out _).ext hm3
      have hR3:=HR2.out.ext HM3.out
      have x0:=hX3.cell (o:=0) (v:=.int .i64 x.kind) rfl
      have x1:=hX3.cell (o:=1) (v:=.int .i64 x.id) rfl
      have x2:=hX3.cell (o:=2) (v:=.int .u64 (x.gen:Int)) rfl
      have x3:=hX3.cell (o:=3) (v:=.slice xa x.body.length xc) rfl
      have r0:=hR3.cell (o:=0) (v:=.int .i64 0) rfl
      have r1:=hR3.cell (o:=1) (v:=.int .i64 0) rfl
      have r2:=hR3.cell (o:=2) (v:=.int .u64 0) rfl
      have r3:=hR3.cell (o:=3) (v:=.slice none 0 0) rfl
      have rf:=hR3.frozen
      have HR3:=Lib.hid hR3
      clear hE hm3 hX3 hR3
      go_wp2_with fail
      have HRB:=Lib.hid (HR3.out.set4 (.int .i64 x.kind) (.int .i64 x.id) (.int .u64 (x.gen:Int)) (.slice xa x.body.length xc))
      have HMR:=Lib.hid (Mods.set4 (F:=fun k=>k=w.heap.size) (Mods.refl _ (w3)) (R:=w.heap.size) (.inr rfl) (.int .i64 x.kind) (.int .i64 x.id) (.int .u64 (x.gen:Int)) (.slice xa x.body.length xc))
      clear r0 r1 r2 r3 rf x0 x1 x2 x3
      go_wp2_with fail
      refine bodyPost_ret (results_row_tmp rfl _ _ w.heap.size 211 #[.int .i64 x.kind,.int .i64 x.id,.int .u64 (x.gen:Int),.slice xa x.body.length xc] _ rfl HRB.out Tryz.underlying211 rfl Tryz.pageSize) rfl ?_
      have HMF:=HMR.out.mono (G:=F2) (fun k hk=>hk ▸ HRF2.out)
      refine ⟨P2,F2,(HG2.out.at (HM3.out)).res HMR.out HRP2.out HRF2.out,((HN1.out.trans HN2.out).trans (Nxt.ext HN2.out.env HN2.out.sub (HM3.out))).resD HMR.out (by omega) HRF2.out,?_⟩
      rw [HY.out]
      exact ⟨_,_,_,_,_,_,f,rfl,HE.out.mods HMF⟩
    · have HY:Hid (youngW G gen id=.inl x):=Lib.hid (by unfold youngW;rw [hx];simp only [if_neg hy])
      have hyi:¬ (gen:Int) < (x.gen:Int):=by omega
      have HXL:=Lib.hid hxl
      clear hx hxv hxi hy hxl
      go_wp2_with fail
      go_quiet (fail)
      have hX3:=HXB.out nq
      have hR3:=HR2.out.ext (HX2.out nq)
      have x0:=hX3.cell (o:=0) (v:=.int .i64 x.kind) rfl
      have x1:=hX3.cell (o:=1) (v:=.int .i64 x.id) rfl
      have x2:=hX3.cell (o:=2) (v:=.int .u64 (x.gen:Int)) rfl
      have x3:=hX3.cell (o:=3) (v:=.slice xa x.body.length xc) rfl
      have r0:=hR3.cell (o:=0) (v:=.int .i64 0) rfl
      have r1:=hR3.cell (o:=1) (v:=.int .i64 0) rfl
      have r2:=hR3.cell (o:=2) (v:=.int .u64 0) rfl
      have r3:=hR3.cell (o:=3) (v:=.slice none 0 0) rfl
      have rf:=hR3.frozen
      have HR3:=Lib.hid hR3
      clear hX3 hR3
      go_wp2_with fail
      have HRB:=Lib.hid (HR3.out.set4 (.int .i64 x.kind) (.int .i64 x.id) (.int .u64 (x.gen:Int)) (.slice xa x.body.length xc))
      have HMR:=Lib.hid (Mods.set4 (F:=fun k=>k=w.heap.size) (Mods.refl _ ((w2.alloc (.cells #[.int .i64 x.kind,.int .i64 x.id,.int .u64 (x.gen:Int),.slice xa x.body.length xc] 211)).drewN nq)) (R:=w.heap.size) (.inr rfl) (.int .i64 x.kind) (.int .i64 x.id) (.int .u64 (x.gen:Int)) (.slice xa x.body.length xc))
      clear r0 r1 r2 r3 rf x0 x1 x2 x3
      go_wp2_with fail
      refine bodyPost_ret (results_row_tmp rfl _ _ w.heap.size 211 #[.int .i64 x.kind,.int .i64 x.id,.int .u64 (x.gen:Int),.slice xa x.body.length xc] _ rfl HRB.out Tryz.underlying211 rfl Tryz.pageSize) rfl ?_
      have HMF:=HMR.out.mono (G:=F2) (fun k hk=>hk ▸ HRF2.out)
      refine ⟨P2,F2,(HG2.out.at (HX2.out nq)).res HMR.out HRP2.out HRF2.out,((HN1.out.trans HN2.out).trans (Nxt.ext HN2.out.env HN2.out.sub (HX2.out nq))).resD HMR.out (by omega) HRF2.out,?_⟩
      rw [HY.out]
      exact ⟨xa,xc,rfl,(HXV.out.ext (HX2.out nq)).mods HMF,HXL.out⟩
  · obtain ⟨el,ek⟩:=er
    have HY:Hid (youngW G gen id=.inr (el,ek)):=Lib.hid (by unfold youngW;rw [hx])
    have HE:=Lib.hid hE
    unfold pageV zeroPage
    have HX1:=Lib.hid (Blk.new w2 #[.int .i64 0,.int .i64 0,.int .u64 0,.slice none 0 0] 211)
    have HX2:Hid (∀ q,Ext w2 ((w2.alloc (.cells #[.int .i64 0,.int .i64 0,.int .u64 0,.slice none 0 0] 211)).drewN q)):=Lib.hid (fun q=>((Mods.refl _ w2).alloc _).drewN q)
    have HXB:Hid (∀ q,Blk ((w2.alloc (.cells #[.int .i64 0,.int .i64 0,.int .u64 0,.slice none 0 0] 211)).drewN q) w2.heap.size #[.int .i64 0,.int .i64 0,.int .u64 0,.slice none 0 0] 211):=Lib.hid (fun _=>HX1.out)
    have k2:=(HB2.out.ext ((Mods.refl _ w2).alloc (.cells #[.int .i64 0,.int .i64 0,.int .u64 0,.slice none 0 0] 211))).cell H2.out
    have hne:w2.heap.size ≠ w.heap.size:=by have:=HR2.out.lt;omega
    have hne2:w.heap.size ≠ w2.heap.size:=fun e=>hne e.symm
    clear hx hE
    go_wp2_with fail
    go_quiet (fail)
    have hX3:=HXB.out nq
    have hR3:=HR2.out.ext (HX2.out nq)
    have x0:=hX3.cell (o:=0) (v:=.int .i64 0) rfl
    have x1:=hX3.cell (o:=1) (v:=.int .i64 0) rfl
    have x2:=hX3.cell (o:=2) (v:=.int .u64 0) rfl
    have x3:=hX3.cell (o:=3) (v:=.slice none 0 0) rfl
    have r0:=hR3.cell (o:=0) (v:=.int .i64 0) rfl
    have r1:=hR3.cell (o:=1) (v:=.int .i64 0) rfl
    have r2:=hR3.cell (o:=2) (v:=.int .u64 0) rfl
    have r3:=hR3.cell (o:=3) (v:=.slice none 0 0) rfl
    have rf:=hR3.frozen
    have HR3:=Lib.hid hR3
    clear hX3 hR3
    go_wp2_with fail
    have HRB:=Lib.hid (HR3.out.set4 (.int .i64 0) (.int .i64 0) (.int .u64 0) (.slice none 0 0))
    have HMR:=Lib.hid (Mods.set4 (F:=fun k=>k=w.heap.size) (Mods.refl _ ((w2.alloc (.cells #[.int .i64 0,.int .i64 0,.int .u64 0,.slice none 0 0] 211)).drewN nq)) (R:=w.heap.size) (.inr rfl) (.int .i64 0) (.int .i64 0) (.int .u64 0) (.slice none 0 0))
    clear r0 r1 r2 r3 rf x0 x1 x2 x3
    go_wp2_with fail
    refine bodyPost_ret (results_row_tmp rfl _ _ w.heap.size 211 #[.int .i64 0,.int .i64 0,.int .u64 0,.slice none 0 0] _ rfl HRB.out Tryz.underlying211 rfl Tryz.pageSize) rfl ?_
    have HMF:=HMR.out.mono (G:=F2) (fun k hk=>hk ▸ HRF2.out)
    refine ⟨P2,F2,(HG2.out.at (HX2.out nq)).res HMR.out HRP2.out HRF2.out,((HN1.out.trans HN2.out).trans (Nxt.ext HN2.out.env HN2.out.sub (HX2.out nq))).resD HMR.out (by omega) HRF2.out,?_⟩
    rw [HY.out]
    exact ⟨0,0,0,none,0,0,f,rfl,(HE.out.mods (HX2.out nq).ext).mods HMF⟩
end
end Go.Proofs.YtphafjmdhmpkbaaGreatDoor
namespace Go.Proofs.YtphafjmdhmpkbaaGreatDoor
open Go.RowKit Go.Maps
section
variable {F P P' F' P1 F1:Nat→Prop} {ad:Nat→Addr} {w w' w0:World} {base c s gen kb mb:Nat} {G:GA} {l:List Nat} {pv kv pv' kv':Value} {st st':WkS}
def wkQ (P:Nat→Prop) (kb mb:Nat) (pv kv:Value):Nat→Prop:=fun k=>P k∨WkB kb mb pv kv k
structure WkI (F P:Nat→Prop) (ad:Nat→Addr) (w:World) (base c s gen kb mb:Nat) (G:GA) (l:List Nat) (pv kv:Value) (st:WkS):Prop where
  env:Env F ad w
  sub:∀ k,P k→F k
  pg:PgR F w P c s G l
  wk:WkR F P w base c s gen kb mb pv kv st
  bl:base≤w.heap.size
theorem WkR.lt (h:WkR F P w base c s gen kb mb pv kv st):∀ k,WkB kb mb pv kv k→k < w.heap.size:=by
  rintro k (rfl | rfl | e | e)
  · exact h.blk.lt
  · exact h.seen.lt
  · exact (h.rp.lt k e).2
  · exact (h.rk.lt k e).2
theorem WkI.bd (h:WkI F P ad w base c s gen kb mb G l pv kv st):Bd (wkQ P kb mb pv kv) w:=by
  rintro k (hk | hk)
  · exact h.pg.bd k hk
  · exact h.wk.lt k hk
theorem WkI.subQ (h:WkI F P ad w base c s gen kb mb G l pv kv st):∀ k,wkQ P kb mb pv kv k→F k:=by
  rintro k (hk | hk)
  · exact h.sub k hk
  · exact (h.wk.nP k hk).1
theorem WkI.ext (h:WkI F P ad w base c s gen kb mb G l pv kv st) (m:Ext w w'):WkI F P ad w' base c s gen kb mb G l pv kv st∧Nxt (wkQ P kb mb pv kv) (wkQ P kb mb pv kv) F F ad w w' :=
  ⟨⟨h.env.mods m.ext,h.sub,h.pg.at m,⟨h.wk.blk.ext m,h.wk.seen.mods m (fun f=>f),h.wk.rp.ext m,h.wk.rk.ext m,h.wk.nP,h.wk.few⟩,Nat.le_trans h.bl m.size⟩,Nxt.ext h.env h.subQ m⟩
theorem WkI.pag {G':GA} {l':List Nat} (h:WkI F P ad w base c s gen kb mb G l pv kv st) (n:Nxt P P' F F' ad w w') (g:PgR F' w' P' c s G' l') :
    WkI F' P' ad w' base c s gen kb mb G' l' pv kv st∧Nxt (wkQ P kb mb pv kv) (wkQ P' kb mb pv kv) F F' ad w w':=by
  have hw:=h.wk
  have np:=fun k (hk:WkB kb mb pv kv k)=>(hw.nP k hk).2
  have m:=n.stp.mods
  have nq:∀ k,WkB kb mb pv kv k→F' k∧¬ P' k:=fun k hk=>⟨n.grow k (hw.nP k hk).1,n.not (hw.lt k hk) (np k hk)⟩
  refine ⟨⟨n.env,n.sub,g,⟨hw.blk.mods m (np kb (.inl rfl)),hw.seen.mods m (np mb (.inr (.inl rfl))),hw.rp.mods m (fun k hk=>np k (.inr (.inr (.inl hk)))),hw.rk.mods m (fun k hk=>np k (.inr (.inr (.inr hk)))),nq,hw.few⟩,Nat.le_trans h.bl m.size⟩,
    ⟨⟨m.mono (fun k hk=>.inl hk),?_,?_⟩,?_,n.grow,n.oldF,n.env⟩⟩
  · rintro k hk (hp | hp)
    · exact .inl (n.stp.old k hk hp)
    · exact .inr hp
  · rintro k (hp | hp)
    · exact n.stp.bd k hp
    · exact Nat.lt_of_lt_of_le (hw.lt k hp) m.size
  · rintro k (hp | hp)
    · exact n.sub k hp
    · exact (nq k hp).1
theorem WkI.saw (h:WkI F P ad w base c s gen kb mb G l pv kv st) (hw:WkR (plusV F pv') P w' base c s gen kb mb pv' kv st') (m:Mods (WkB kb mb pv kv) w w') (hat:pv'.ownBlock=pv.ownBlock∨∃ K,w.heap.size≤K∧pv'.ownBlock=some K) :
    WkI (plusV F pv') P ad w' base c s gen kb mb G l pv' kv st'∧Nxt (wkQ P kb mb pv kv) (wkQ P kb mb pv' kv) F (plusV F pv') ad w w':=by
  have hnew:∀ k,k < w.heap.size→¬ F k→¬ plusV F pv' k:=by
    rintro k hk hn (hf | hf)
    · exact hn hf
    · rcases hat with e | ⟨K,hK,e⟩
      · exact hn (h.wk.nP k (.inr (.inr (.inl (e ▸ hf))))).1
      · rw [e] at hf;injection hf with hf;omega
  have hE:Env (plusV F pv') ad w':=h.env.step (m.mono (fun k hk=>(h.wk.nP k hk).1)) hnew (fun k hf=>by
    rcases hf with hf | hf
    · exact Nat.lt_of_lt_of_le (h.env.lt k hf) m.size
    · exact (hw.rp.lt k hf).2)
  have hI:WkI (plusV F pv') P ad w' base c s gen kb mb G l pv' kv st' :=
    ⟨hE,fun k hk=>.inl (h.sub k hk),h.pg.plus m (fun k hk hq=>(h.wk.nP k hq).2 hk) (fun k hk=>(h.wk.nP k hk).1) hnew,hw,Nat.le_trans h.bl m.size⟩
  refine ⟨hI,⟨⟨m.mono (fun k hk=>.inr hk),?_,hI.bd⟩,hI.subQ,fun k hk=>.inl hk,fun k hk hf=>Classical.byContradiction fun hn=>hnew k hk hn hf,hE⟩⟩
  rintro k hk (hp | hp | hp | hp | hp)
  · exact .inl hp
  · exact .inr (.inl hp)
  · exact .inr (.inr (.inl hp))
  · rcases hat with e | ⟨K,hK,e⟩
    · exact .inr (.inr (.inr (.inl (e ▸ hp))))
    · rw [e] at hp;injection hp with hp;omega
  · exact .inr (.inr (.inr (.inr hp)))
end
end Go.Proofs.YtphafjmdhmpkbaaGreatDoor
namespace Go.Proofs.YtphafjmdhmpkbaaGreatDoor
open Go.RowKit
abbrev PgE:=PageA × (Option Addr × Nat × Nat)
section
variable {w w':World} {base:Nat} {pv pv':Value} {xs ys:List PgE}
end
section
variable {P P' F F':Nat→Prop} {ad:Nat→Addr} {w w':World} {c s:Nat} {G G':GA} {l l':List Nat}
end
theorem pgV5 (c s:Nat):pgV c s 5=.agg #[.pointer (some ⟨c,0,none⟩),.pointer (some ⟨s,0,none⟩),.int .u64 5]:=rfl
structure LG (ad:Nat→Addr) (w0 w:World) (B c s gen:Nat) (P F:Nat→Prop) (G:GA) (l:List Nat):Prop where
  pg:PgR F w P c s G l
  nx:Nxt NoB P NoB F ad w0 w
  box:Blk w B #[.pointer (some ⟨c,0,none⟩),.pointer (some ⟨s,0,none⟩),.int .u64 (gen:Int)] 45
  nB:¬ P B
  nF:¬ F B
section
variable {ad:Nat→Addr} {w0 w w':World} {B c s gen:Nat} {P P' F F':Nat→Prop} {G G':GA} {l l':List Nat}
theorem LG.env (h:LG ad w0 w B c s gen P F G l):Env F ad w:=h.nx.env
theorem LG.sub (h:LG ad w0 w B c s gen P F G l):∀ k,P k→F k:=h.nx.sub
theorem LG.step (h:LG ad w0 w B c s gen P F G l) (n:Nxt P P' F F' ad w w') (g:PgR F' w' P' c s G' l'):LG ad w0 w' B c s gen P' F' G' l' :=
  ⟨g,h.nx.trans n,n.blk h.box h.nB,n.not h.box.lt h.nB,fun f=>h.nF (n.oldF B h.box.lt f)⟩
theorem LG.ext (h:LG ad w0 w B c s gen P F G l) (m:Ext w w'):LG ad w0 w' B c s gen P F G l:=h.step (Nxt.ext h.env h.sub m) (h.pg.at m)
theorem LG.ext0 (h:LG ad w0 w B c s gen P F G l):Ext w0 w:=h.nx.stp.mods
theorem LG.c0 (h:LG ad w0 w B c s gen P F G l):w.cell? ⟨B,0,none⟩=some (.pointer (some ⟨c,0,none⟩)):=h.box.cell rfl
theorem LG.c1 (h:LG ad w0 w B c s gen P F G l):w.cell? ⟨B,1,none⟩=some (.pointer (some ⟨s,0,none⟩)):=h.box.cell rfl
theorem LG.c2 (h:LG ad w0 w B c s gen P F G l):w.cell? ⟨B,2,none⟩=some (.int .u64 (gen:Int)):=h.box.cell rfl
theorem LG.start (g:PgR F w P c s G l) (n:Nxt NoB P NoB F ad w0 w):LG ad w0 (w.alloc (.cells #[.pointer (some ⟨c,0,none⟩),.pointer (some ⟨s,0,none⟩),.int .u64 (gen:Int)] 45)) w.heap.size c s gen P F G l :=
  ⟨g.at ((Mods.refl _ w).alloc _),n.trans (Nxt.ext n.env n.sub ((Mods.refl _ w).alloc _)),Blk.new w _ _,fun f=>by have:=g.bd _ f;omega,fun f=>by have:=n.env.lt _ f;omega⟩
theorem LG.startZ (g:PgR F w P c s G l) (n:Nxt NoB P NoB F ad w0 w) (z:Int) (hz:z=(gen:Int)):LG ad w0 (w.alloc (.cells #[.pointer (some ⟨c,0,none⟩),.pointer (some ⟨s,0,none⟩),.int .u64 z] 45)) w.heap.size c s gen P F G l:=by
  subst hz;exact LG.start g n
def LgDone (ad:Nat→Addr) (w0:World) (B c s gen:Nat) (G:GA) (l:List Nat) (R:(Nat→Prop)→World→Ending→Prop) (e:Ending) (w':World):Prop :=
  ∃ P' F',LG ad w0 w' B c s gen P' F' G l∧R F' w' e
theorem LG.done (h:LG ad w0 w B c s gen P F G l) {R:(Nat→Prop)→World→Ending→Prop} {e:Ending} (hd:PgDone F P ad w c s G' l' R e w'):LgDone ad w0 B c s gen G' l' R e w':=by
  obtain ⟨P',F',g,n,r⟩:=hd
  exact ⟨P',F',h.step n g,r⟩
end
end Go.Proofs.YtphafjmdhmpkbaaGreatDoor
namespace Go.Proofs.YtphafjmdhmpkbaaGreatDoor
open Go.RowKit
attribute [local go_sem ↓] Go.wp_at_zero Go.wp_at_succ
section
variable {w w' w1 w2:World} {x:PairS} {G:Nat→Prop}
end
end Go.Proofs.YtphafjmdhmpkbaaGreatDoor
namespace Go.Proofs.YtphafjmdhmpkbaaGreatDoor
open Go.RowKit
end Go.Proofs.YtphafjmdhmpkbaaGreatDoor
namespace Go.Proofs.YtphafjmdhmpkbaaGreatDoor
open Go.RowKit
attribute [local go_sem ↓] Go.wp_at_zero Go.wp_at_succ
theorem encP_ok:EncOk encP 2:=⟨fun _=>rfl,by intro x u hu;simp [encP] at hu;rcases hu with rfl | rfl <;> rfl⟩
theorem Tryz.mkP:(Tryz.prog.info? 40).map (fun i=>(i.zero,i.size,i.bytes))=some (some (.agg #[.string ⟨#[]⟩,.string ⟨#[]⟩]),2,32):=by kernel_rfl
theorem Tryz.elP:ElT Tryz.prog 37 40 (.agg #[.string ⟨#[]⟩,.string ⟨#[]⟩]) 2 32:=⟨Tryz.underlying37,Tryz.mkP,rfl,by decide,by decide⟩
section
variable {F:Nat→Prop} {w w' wr w2:World}
def PairsRes (w:World) (l:List PairS) (e:Ending) (w':World):Prop:=∃ v,e=.returned v∧Own NoF w' w.heap.size 40 2 encP v l∧Ext w w'
set_option maxRecDepth 100000 in
set_option maxHeartbeats 2000000 in
theorem with_any (l:List PairS) (lv:Value) (hl:Sl F w 2 encP lv l) (hlen:l.length≤1000) (key value:ByteArray) (over:Bool) :
    Calls Tryz.prog 30 #[lv,.string key,.string value,.bool over] w (PairsRes w (withP key value over l)):=by
  obtain ⟨la,lc,rfl,h1,h2,h3,hll⟩:=hl
  unfold maxLen at h2
  have HLL:=Lib.hid hll
  clear hll
  go_enter Tryz.func30, Tryz.ntmps30
  go_wp2_with fail
  have HO0:Hid (Own NoF (w.alloc (.cells #[] 40)) w.heap.size 40 2 encP (.slice (some ⟨w.heap.size,0,none⟩) 0 0) []):=Lib.hid
    (Own.made (l:=([]:List PairS)) (cur:=#[]) (cap:=0) (heap_at (by simp)) (by omega) (fun f=>f) (Nat.le_refl _) (by simp [maxLen]) (by simp) (by simp) (fun _=>rfl))
  have HM0:Hid (Ext w (w.alloc (.cells #[] 40))):=Lib.hid ((Mods.refl _ w).alloc _)
  go_loopg [9,10,11] l.length (fun m v9 v10 v11 wr=>∃ (k:Nat) (dn:Bool) (out:List PairS),k+m=l.length∧v11=.int .i64 (k:Int)∧v10=.bool dn∧Hid (Own NoF wr w.heap.size 40 2 encP v9 out∧Ext w wr∧WthI key value over l k dn out))
  case atStart=>exact ⟨0,false,[],by omega,rfl,rfl,Lib.hid ⟨HO0.out,HM0.out,WthI.start⟩⟩
  case round =>
    obtain ⟨k,dn,out,hkm,rfl,rfl,HS⟩:=hrel
    by_cases hlt:k < l.length
    · obtain ⟨b,off,rfl,hb,hF,hc⟩:=Sl.at HLL.out HS.out.2.1 (fun _ _ f=>f.elim) k hlt
      obtain ⟨x,hx⟩:∃ x,l[k]? = some x:=⟨_,List.getElem?_eq_getElem hlt⟩
      have hx':l[k]=x:=by rw [List.getElem?_eq_getElem hlt] at hx;exact Option.some.inj hx
      rw [hx'] at hc
      have c0:=hc 0 _ rfl
      simp only [Nat.add_zero] at c0
      have c1:=hc 1 _ rfl
      have HX:=Lib.hid hx
      have HOL:Hid (out.length≤k+1):=Lib.hid (by have:=HS.out.2.2.1;omega)
      clear hc hx hx'
      have i1:(0:Int)≤(k:Int):=by omega
      have i2:(k:Int) < (l.length:Int):=by omega
      have HSZ:Hid (w.heap.size≤wr.heap.size):=Lib.hid HS.out.2.1.size
      cases dn with
      | true =>
        go_wp2_with (at_builtin;refine wpl_app2 Tryz.elP encP_ok rfl _ _ rfl w.heap.size _ _ out [x] rfl rfl (HS.out.1.ext ((Mods.refl _ _).alloc _)) (Sl.one (F:=NoF) (heap_at (by simp)) (fun f=>f)) (by have:=HOL.out;simp only [List.length_cons,List.length_nil];omega) (by have:=hb;have:=HSZ.out;simp;omega) (fun f=>f) ?_;intro a4 c4 w4 hO4 hm4 hat4)
        have HS4:Hid (Own NoF w4 w.heap.size 40 2 encP _ _∧Ext w w4∧WthI key value over l (k+1) true (out ++ [x])):=Lib.hid ⟨hO4,(HS.out.2.1.alloc _).trans' hm4 (fun i hi e=>by have:=(HS.out.1.lt i e).1;omega),HS.out.2.2.pass HX.out⟩
        clear hO4 hm4 hat4
        go_wp2_with fail
        go_roundg (gk - 1)
        case measure=>omega
        case rel=>exact ⟨k+1,true,_,by omega,by go_num,rfl,HS4⟩
      | false =>
        by_cases hl:ltS x.1 key=true
        · have e1:Op.bytesLess x.1.toList key.toList=true:=hl
          have HE:=Lib.hid hl
          clear hl
          go_wp2_with (at_builtin;refine wpl_app2 Tryz.elP encP_ok rfl _ _ rfl w.heap.size _ _ out [x] rfl rfl (HS.out.1.ext ((Mods.refl _ _).alloc _)) (Sl.one (F:=NoF) (heap_at (by simp)) (fun f=>f)) (by have:=HOL.out;simp only [List.length_cons,List.length_nil];omega) (by have:=hb;have:=HSZ.out;simp;omega) (fun f=>f) ?_;intro a4 c4 w4 hO4 hm4 hat4)
          have HS4:Hid (Own NoF w4 w.heap.size 40 2 encP _ _∧Ext w w4∧WthI key value over l (k+1) false (out ++ [x])):=Lib.hid ⟨hO4,(HS.out.2.1.alloc _).trans' hm4 (fun i hi e=>by have:=(HS.out.1.lt i e).1;omega),HS.out.2.2.lt HX.out HE.out⟩
          clear hO4 hm4 hat4
          go_wp2_with fail
          go_roundg (gk - 1)
          case measure=>omega
          case rel=>exact ⟨k+1,false,_,by omega,by go_num,rfl,HS4⟩
        · have hl':ltS x.1 key=false:=by simpa using hl
          have e1:Op.bytesLess x.1.toList key.toList=false:=hl'
          have HE:=Lib.hid hl'
          clear hl hl'
          by_cases hk:x.1=key
          · obtain ⟨xk,xv⟩:=x
            simp only at hk
            subst hk
            cases over with
            | true =>
              go_wp2_with (at_builtin;refine wpl_app2 Tryz.elP encP_ok rfl _ _ rfl w.heap.size _ _ out [(xk,value)] rfl rfl (HS.out.1.ext ((Mods.refl _ _).alloc _)) (Sl.one (F:=NoF) (heap_at (by simp)) (fun f=>f)) (by have:=HOL.out;simp only [List.length_cons,List.length_nil];omega) (by have:=HSZ.out;simp;omega) (fun f=>f) ?_;intro a4 c4 w4 hO4 hm4 hat4;have y0:=cellM hm4 (cellE ((Mods.refl _ wr).alloc (.cells #[.string xk,.string value] 40)) c0) (fun e=>by have:=(HS.out.1.lt _ e).1;omega);have y1:=cellM hm4 (cellE ((Mods.refl _ wr).alloc (.cells #[.string xk,.string value] 40)) c1) (fun e=>by have:=(HS.out.1.lt _ e).1;omega))
              have HS4:Hid (Own NoF w4 w.heap.size 40 2 encP _ _∧Ext w w4∧WthI xk value true l (k+1) true (out ++ [(xk,value)])):=Lib.hid ⟨hO4,(HS.out.2.1.alloc _).trans' hm4 (fun i hi e=>by have:=(HS.out.1.lt i e).1;omega),HS.out.2.2.eqO HX.out rfl⟩
              clear hO4 hm4 hat4
              go_wp2_with fail
              go_roundg (gk - 1)
              case measure=>omega
              case rel=>exact ⟨k+1,true,_,by omega,by go_num,rfl,HS4⟩
            | false =>
              go_wp2_with (at_builtin;refine wpl_app2 Tryz.elP encP_ok rfl _ _ rfl w.heap.size _ _ out [(xk,xv)] rfl rfl (HS.out.1.ext ((Mods.refl _ _).alloc _)) (Sl.one (F:=NoF) (heap_at (by simp)) (fun f=>f)) (by have:=HOL.out;simp only [List.length_cons,List.length_nil];omega) (by have:=HSZ.out;simp;omega) (fun f=>f) ?_;intro a4 c4 w4 hO4 hm4 hat4)
              have HS4:Hid (Own NoF w4 w.heap.size 40 2 encP _ _∧Ext w w4∧WthI xk value false l (k+1) true (out ++ [(xk,xv)])):=Lib.hid ⟨hO4,(HS.out.2.1.alloc _).trans' hm4 (fun i hi e=>by have:=(HS.out.1.lt i e).1;omega),HS.out.2.2.eqN HX.out rfl⟩
              clear hO4 hm4 hat4
              go_wp2_with fail
              go_roundg (gk - 1)
              case measure=>omega
              case rel=>exact ⟨k+1,true,_,by omega,by go_num,rfl,HS4⟩
          · have hk2:ltS key x.1=true:=(not_ltS HE.out).resolve_right hk
            have e2:Op.bytesLess key.toList x.1.toList=true:=hk2
            have e3:¬ x.1.toList=key.toList:=fun e=>hk (toList_inj e)
            have e4:¬ x.1=key:=hk
            have HK:=Lib.hid hk
            clear hk hk2
            go_wp2_with (first | (at_builtin;refine wpl_app2 Tryz.elP encP_ok rfl _ _ rfl w.heap.size _ _ out [(key,value)] rfl rfl (HS.out.1.ext ((Mods.refl _ _).alloc _)) (Sl.one (F:=NoF) (heap_at (by simp)) (fun f=>f)) (by have:=HOL.out;simp only [List.length_cons,List.length_nil];omega) (by have:=HSZ.out;simp;omega) (fun f=>f) ?_;intro a4 c4 w4 hO4 hm4 hat4;have y0:=cellM hm4 (cellE ((Mods.refl _ wr).alloc (.cells #[.string key,.string value] 40)) c0) (fun e=>by have:=(HS.out.1.lt _ e).1;omega);have y1:=cellM hm4 (cellE ((Mods.refl _ wr).alloc (.cells #[.string key,.string value] 40)) c1) (fun e=>by have:=(HS.out.1.lt _ e).1;omega)) | (at_builtin;refine wpl_app2 Tryz.elP encP_ok rfl _ _ rfl w.heap.size _ _ (out ++ [(key,value)]) [x] rfl rfl (hO4.ext ((Mods.refl _ _).alloc _)) (Sl.one (F:=NoF) (heap_at (by simp)) (fun f=>f)) (by have:=HOL.out;simp only [List.length_append,List.length_cons,List.length_nil];omega) (by have:=hm4.size;have:=HSZ.out;simp at *;omega) (fun f=>f) ?_;intro a5 c5 w5 hO5 hm5 hat5))
            have HS3:Hid (Own NoF w4 w.heap.size 40 2 encP _ (out ++ [(key,value)])∧Ext w w4):=Lib.hid ⟨hO4,(HS.out.2.1.alloc _).trans' hm4 (fun i hi e=>by have:=(HS.out.1.lt i e).1;omega)⟩
            have HS4:Hid (Own NoF w5 w.heap.size 40 2 encP (.slice a5 (out.length+1+1) c5) (out ++ [(key,value)] ++ [x])∧Ext w w5∧WthI key value over l (k+1) true (out ++ [(key,value)] ++ [x])):=Lib.hid ⟨by have e:=hO5;simp only [List.length_append,List.length_cons,List.length_nil,Nat.zero_add] at e;exact e,(HS3.out.2.alloc _).trans' hm5 (fun i hi e=>by have:=(HS3.out.1.lt i e).1;omega),HS.out.2.2.gt HX.out HE.out HK.out⟩
            clear hO5 hm5 hat5
            go_wp2_with fail
            go_roundg (gk - 1)
            case measure=>omega
            case rel=>exact ⟨k+1,true,_,by omega,by go_num,rfl,HS4⟩
    · have HLE:Hid (l.length≤k):=Lib.hid (by omega)
      have HSZ:Hid (w.heap.size≤wr.heap.size):=Lib.hid HS.out.2.1.size
      have HOL:Hid (out.length≤k+1):=Lib.hid (by have:=HS.out.2.2.1;omega)
      have hb:w.heap.size≤wr.heap.size:=HSZ.out
      cases dn with
      | true =>
        go_wp2_with fail
        go_ret
        exact ⟨_,rfl,by rw [← HS.out.2.2.done HLE.out];exact HS.out.1,HS.out.2.1⟩
      | false =>
        go_wp2_with (at_builtin;refine wpl_app2 Tryz.elP encP_ok rfl _ _ rfl w.heap.size _ _ out [(key,value)] rfl rfl (HS.out.1.ext ((Mods.refl _ _).alloc _)) (Sl.one (F:=NoF) (heap_at (by simp)) (fun f=>f)) (by have:=HOL.out;simp only [List.length_cons,List.length_nil];omega) (by have:=HSZ.out;simp;omega) (fun f=>f) ?_;intro a4 c4 w4 hO4 hm4 hat4)
        have HS4:Hid (Own NoF w4 w.heap.size 40 2 encP _ (withP key value over l)∧Ext w w4):=Lib.hid ⟨by rw [← HS.out.2.2.last HLE.out];exact hO4,(HS.out.2.1.alloc _).trans' hm4 (fun i hi e=>by have:=(HS.out.1.lt i e).1;omega)⟩
        clear hO4 hm4 hat4
        go_wp2_with fail
        go_ret
        exact ⟨_,rfl,HS4.out.1,HS4.out.2⟩
end
section
variable {F:Nat→Prop} {w w' wr w2:World}
set_option maxRecDepth 100000 in
set_option maxHeartbeats 2000000 in
theorem pairs_any (l:List PairS) (lv:Value) (hl:Sl F w 2 encP lv l) (hlen:l.length≤900) :
    Calls Tryz.prog 69 #[lv] w (PairsRes w (pairsP l)):=by
  obtain ⟨la,lc,rfl,h1,h2,h3,hll⟩:=hl
  unfold maxLen at h2
  have HLL:=Lib.hid hll
  clear hll
  go_enter Tryz.func69, Tryz.ntmps69
  go_wp2_with fail
  have HO0:Hid (Own NoF (w.alloc (.cells #[] 40)) w.heap.size 40 2 encP (.slice (some ⟨w.heap.size,0,none⟩) 0 0) []):=Lib.hid
    (Own.made (l:=([]:List PairS)) (cur:=#[]) (cap:=0) (heap_at (by simp)) (by omega) (fun f=>f) (Nat.le_refl _) (by simp [maxLen]) (by simp) (by simp) (fun _=>rfl))
  have HM0:Hid (Ext w (w.alloc (.cells #[] 40))):=Lib.hid ((Mods.refl _ w).alloc _)
  go_loopg [3,4] l.length (fun m v3 v4 wr=>∃ (k:Nat),k+m=l.length∧v4=.int .i64 (k:Int)∧Hid (Own NoF wr w.heap.size 40 2 encP v3 (pairsP (l.take k))∧Ext w wr))
  case atStart=>exact ⟨0,by omega,rfl,Lib.hid ⟨HO0.out,HM0.out⟩⟩
  case round =>
    obtain ⟨k,hkm,rfl,HS⟩:=hrel
    by_cases hlt:k < l.length
    · obtain ⟨b,off,rfl,hb,hF,hc⟩:=Sl.at HLL.out HS.out.2 (fun _ _ f=>f.elim) k hlt
      obtain ⟨x,hx⟩:∃ x,l[k]? = some x:=⟨_,List.getElem?_eq_getElem hlt⟩
      have hx':l[k]=x:=by rw [List.getElem?_eq_getElem hlt] at hx;exact Option.some.inj hx
      rw [hx'] at hc
      have c0:=hc 0 _ rfl
      simp only [Nat.add_zero] at c0
      have c1:=hc 1 _ rfl
      have HX:Hid (pairsP (l.take (k+1))=addP (pairsP (l.take k)) x):=Lib.hid (by rw [take_one l k x hx,pairsP_snoc])
      clear hc hx hx'
      have i1:(0:Int)≤(k:Int):=by omega
      have i2:(k:Int) < (l.length:Int):=by omega
      cases hkb:keyB x.1 with
      | false =>
        have HK:=Lib.hid (key07_t x.1 wr false hkb)
        have HA:Hid (pairsP (l.take (k+1))=pairsP (l.take k)):=Lib.hid (by rw [HX.out];unfold addP;rw [if_neg (by rw [hkb];simp)])
        clear hkb
        go_wp2_with fail
        refine (HK.out).mono ?_
        rintro e w1 ⟨rfl,rfl⟩
        go_wp2_with fail
        go_roundg (gk - 1)
        case measure=>omega
        case rel=>exact ⟨k+1,by omega,by go_num,Lib.hid (by rw [HA.out];exact HS.out)⟩
      | true =>
        have HK:=Lib.hid (key07_t x.1 wr true hkb)
        by_cases hv:x.2.size≤4096
        · have hvI:(x.2.size:Int)≤4096:=by omega
          have HA:Hid (pairsP (l.take (k+1))=withP x.1 x.2 false (pairsP (l.take k))):=Lib.hid (by rw [HX.out];unfold addP;rw [if_pos ⟨hkb,hv⟩])
          have HPL:Hid ((pairsP (l.take k)).length≤900):=Lib.hid (by have:=(pairsP_ok (l.take k)).2.2;rw [List.length_take] at this;omega)
          have HWC:=Lib.hid (with_any (F:=NoF) (w:=wr.drew) (pairsP (l.take k)) _ ((HS.out.1.ext (Mods.refl _ wr).drew).sl encP_ok.len (by have:=HPL.out;omega)) (by have:=HPL.out;omega) x.1 x.2 false)
          clear hkb hv
          go_wp2_with fail
          refine (HK.out).mono ?_
          rintro e w1 ⟨rfl,rfl⟩
          go_wp2_with fail
          go_region_held3 (fun w'=>w'.cell? ⟨b,off+k * 2,none⟩=some (.string x.1)∧w'.cell? ⟨b,off+k * 2+1,none⟩=some (.string x.2))
            (first | (with_reducible exact ⟨c0,c1⟩) | (with_reducible exact ⟨y0,y1⟩) | go_keep)
            (first
              | (go_at_call 30;(with_reducible refine (HWC.out).mono ?_);rintro e w4 ⟨v4,rfl,hO4,hm4⟩;have y0:=cellE (w:=wr.drew) hm4 c0;have y1:=cellE (w:=wr.drew) hm4 c1)
              | fail)
          have HS4:Hid (Own NoF w4 w.heap.size 40 2 encP v4 (pairsP (l.take (k+1)))∧Ext w w4):=Lib.hid ⟨by rw [HA.out];exact hO4.rebase HS.out.2.size,HS.out.2.drew.trans hm4⟩
          clear hO4 hm4 c0 c1 y0 y1
          go_wp2_with fail
          go_roundg (gk - 1)
          case measure=>omega
          case rel=>exact ⟨k+1,by omega,by go_num,HS4⟩
        · have hvI:¬ (x.2.size:Int)≤4096:=by omega
          have HA:Hid (pairsP (l.take (k+1))=pairsP (l.take k)):=Lib.hid (by rw [HX.out];unfold addP;rw [if_neg (fun h=>hv h.2)])
          clear hkb hv
          go_wp2_with fail
          refine (HK.out).mono ?_
          rintro e w1 ⟨rfl,rfl⟩
          go_wp2_with fail
          go_roundg (gk - 1)
          case measure=>omega
          case rel=>exact ⟨k+1,by omega,by go_num,Lib.hid (by rw [HA.out];exact HS.out)⟩
    · have HT:Hid (l.take k=l):=Lib.hid (List.take_of_length_le (by omega))
      go_wp2_with fail
      go_ret
      exact ⟨_,rfl,by have:=HS.out.1;rw [HT.out] at this;exact this,HS.out.2⟩
def FoundP (o:Option ByteArray) (w:World) (e:Ending) (w':World):Prop:=e=.returned (.tuple #[.string (o.getD e0),.bool o.isSome])∧w=w'
set_option maxRecDepth 100000 in
theorem find11_any (l:List PairS) (lv:Value) (hl:Sl F w 2 encP lv l) (hlen:l.length≤100000) (key:ByteArray) :
    Calls Tryz.prog 29 #[lv,.string key] w (FoundP (findP key l) w):=by
  obtain ⟨la,lc,rfl,h1,h2,h3,hll⟩:=hl
  unfold maxLen at h2
  have HLL:=Lib.hid hll
  clear hll
  go_enter Tryz.func29, Tryz.ntmps29
  go_wp2_with fail
  go_loopg [6] l.length (fun m v6 wr=>wr=w∧∃ (k:Nat),k+m=l.length∧v6=.int .i64 (k:Int)∧Hid (findP key (l.take k)=none))
  case atStart=>exact ⟨rfl,0,by omega,rfl,Lib.hid rfl⟩
  case round =>
    obtain ⟨rfl,k,hkm,rfl,HS⟩:=hrel
    by_cases hlt:k < l.length
    · obtain ⟨b,off,rfl,hb,hF,hc⟩:=Sl.at HLL.out (Mods.refl F wr) (fun _ _ f=>f) k hlt
      obtain ⟨x,hx⟩:∃ x,l[k]? = some x:=⟨_,List.getElem?_eq_getElem hlt⟩
      have hx':l[k]=x:=by rw [List.getElem?_eq_getElem hlt] at hx;exact Option.some.inj hx
      rw [hx'] at hc
      have c0:=hc 0 _ rfl
      simp only [Nat.add_zero] at c0
      have c1:=hc 1 _ rfl
      have HX:=Lib.hid hx
      clear hc hx hx'
      have i1:(0:Int)≤(k:Int):=by omega
      have i2:(k:Int) < (l.length:Int):=by omega
      by_cases hk:x.1=key
      · subst hk
        have HR:Hid (findP x.1 l=some x.2):=Lib.hid (by
          have e:l=l.take k ++ x :: l.drop (k+1):=by rw [← drop_of HX.out,List.take_append_drop]
          rw [e,findP_append,HS.out,findP_cons,if_pos rfl];rfl)
        go_wp2_with fail
        go_ret2
        exact ⟨by rw [HR.out];rfl,rfl⟩
      · have e3:(x.1.toList == key.toList)=false:=beq_eq_false_iff_ne.2 (fun e=>hk (toList_inj e))
        have HS2:Hid (findP key (l.take (k+1))=none):=Lib.hid (by rw [take_one l k x HX.out,findP_append,HS.out,findP_cons,if_neg hk];rfl)
        go_wp2_with fail
        go_roundg (gk - 1)
        case measure=>omega
        case rel=>exact ⟨rfl,k+1,by omega,by go_num,HS2⟩
    · have HT:Hid (findP key l=none):=Lib.hid (by have:=HS.out;rwa [List.take_of_length_le (by omega)] at this)
      go_wp2_with fail
      go_ret2
      exact ⟨by rw [HT.out];rfl,rfl⟩
end
set_option maxRecDepth 100000 in
set_option maxHeartbeats 1000000 in
theorem keys11_any {F:Nat→Prop} {w:World} (q:List PairS) (qv:Value) (hq:Sl F w 2 encP qv q) (hlen:q.length≤100000) :
    Calls Tryz.prog 43 #[qv] w fun e w'=>∃ kv,e=.returned kv∧Own (fun _=>False) w' w.heap.size 9 1 encS kv (q.map (·.1))∧Ext w w':=by
  have HQ:=Lib.hid hq
  obtain ⟨qa,qc,rfl,b1,b2,b3, -⟩:=hq
  unfold maxLen at b2
  have HO0:Hid (Own (fun _=>False) (w.alloc (.cells #[] 9)) w.heap.size 9 1 encS (.slice (some ⟨w.heap.size,0,none⟩) 0 0) (([]:List PairS).map (·.1))):=Lib.hid (Own.empty (fun k f=>f.elim) _ _ _ encS_ok.len)
  have HM0:Hid (Ext w (w.alloc (.cells #[] 9))):=Lib.hid ((Mods.refl _ w).alloc _)
  go_enter Tryz.func43, Tryz.ntmps43
  go_wp2_with fail
  go_loopg [3,4] q.length (fun m v3 v4 wr=>∃ (k:Nat) (kv:Value),k+m=q.length∧kv=v3∧v4=.int .i64 (k:Int)∧Hid (Own (fun _=>False) wr w.heap.size 9 1 encS kv ((q.take k).map (·.1))∧Ext w wr))
  case atStart=>exact ⟨0,_,by omega,rfl,rfl,Lib.hid ⟨HO0.out,HM0.out⟩⟩
  case round =>
    obtain ⟨k,v3,hk,rfl,rfl,HR⟩:=hrel
    by_cases hlt:k < q.length
    · obtain ⟨x,hx⟩:∃ x,x=q[k]:=⟨_,rfl⟩
      obtain ⟨pa,pc,hv, -, -⟩:=_root_.id HR.out.1.form
      have hl:((q.take k).map (·.1)).length=k:=by rw [List.length_map,List.length_take];omega
      rw [hl] at hv
      obtain ⟨qb,qoff,hqa,hc⟩:=HQ.out.elem hlt HR.out.2
      have d0:=hc 0 (.string x.1) (by rw [hx];rfl)
      simp only [Nat.add_zero] at d0
      have HX:Hid ((q.take (k+1)).map (·.1)=(q.take k).map (·.1) ++ [x.1]):=Lib.hid (by rw [take_one _ _ _ (List.getElem?_eq_getElem hlt),List.map_append,hx];rfl)
      have HLN:=Lib.hid hl
      have HOW:=Lib.hid (HR.out.1.ext ((Mods.refl _ wr).alloc (.cells #[.string x.1] 9)))
      have HSZ:=Lib.hid HR.out.2.size
      subst hv
      have i1:(0:Int)≤(k:Int):=by omega
      have i2:(k:Int) < (q.length:Int):=by omega
      subst hqa
      clear hc hx hl
      go_wp2_with (first
        | (at_builtin;refine wpl_app2 Tryz.elS encS_ok rfl _ _ rfl w.heap.size (.slice pa k pc) (.slice (some ⟨wr.heap.size,0,none⟩) 1 1) ((q.take k).map (·.1)) [x.1] rfl rfl HOW.out (Sl.one (F:=fun _=>False) (x:=x.1) (t := 9) (fz:=(0,0)) (heap_at rfl) (fun f=>f)) (by rw [HLN.out];simp only [List.length_cons,List.length_nil];omega) (Nat.le_trans HSZ.out (by simp)) (fun f=>f) ?_;intro a' c' w4 hown4 hmod4 hat4;rw [HLN.out] at hown4 ⊢;simp only [List.length_cons,List.length_nil,Nat.zero_add] at hown4 ⊢;have HO4:=Lib.hid hown4;have HM4:=Lib.hid hmod4;have HA4:=Lib.hid HR.out.1.lt;clear hown4 hmod4 hat4)
        | fail)
      go_roundg (gk - 1)
      case measure=>omega
      case rel =>
        refine ⟨k+1,_,by omega,rfl,by go_num,Lib.hid ⟨by rw [HX.out];exact HO4.out,(HR.out.2.alloc (.cells #[.string x.1] 9)).trans' HM4.out (fun i hi hg=>?_)⟩⟩
        have:=(HA4.out i hg).1
        omega
    · have hkq:k=q.length:=by omega
      have HF:Hid (Own (fun _=>False) wr w.heap.size 9 1 encS v3 (q.map (·.1))):=Lib.hid (by have:=HR.out.1;rw [hkq,List.take_length] at this;exact this)
      have HM:=Lib.hid HR.out.2
      clear hkq
      go_wp2_with fail
      go_ret
      exact ⟨_,rfl,HF.out,HM.out⟩
end Go.Proofs.YtphafjmdhmpkbaaGreatDoor
