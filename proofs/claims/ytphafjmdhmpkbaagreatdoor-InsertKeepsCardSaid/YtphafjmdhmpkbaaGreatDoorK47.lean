/- law13.grown. | InsertKeeps holds. -/
import Derived.Test.YtphafjmdhmpkbaaGreatDoorK42
import Derived.Test.YtphafjmdhmpkbaaGreatDoorK20
import Derived.Test.YtphafjmdhmpkbaaGreatDoorK39
import Derived.Test.YtphafjmdhmpkbaaGreatDoorK25
import Derived.Test.YtphafjmdhmpkbaaGreatDoorK38
import Derived.Test.YtphafjmdhmpkbaaGreatDoorK46
import Derived.Test.YtphafjmdhmpkbaaGreatDoorK05
import Derived.Deep.RegionHeld3
import Derived.Test.YtphafjmdhmpkbaaGreatDoorK45
namespace Go.Proofs.YtphafjmdhmpkbaaGreatDoor
open Go.RowKit
attribute [local go_sem ↓] Go.wp_at_zero Go.wp_at_succ
theorem results_row_tmp3 {P:Program} {fn:Func} {p u v x:Tmp} {ty:TypeId} (h:fn.results=#[.cell p ty,.tmp u,.tmp v,.tmp x]) (tmps:Array Value) (w:World) (g:Nat) (t:TypeId) (cs:Array Value) (d:TypeDesc)
    (hp:tmps.getD p undef=.pointer (some ⟨g,0,none⟩)) (hg:Blk w g cs t)
    (hu:P.underlying ty=some d) (hd:(match d with | .struct _ | .array _ _=>true | _=>false)=true) (hi:(P.info? ty).map (·.size)=some cs.size) :
    (results fn tmps).run P w=.ok (.tuple #[.agg cs,tmps.getD u undef,tmps.getD v undef,tmps.getD x undef]) w:=by
  have hg':w.heap[g]? = some (.cells cs t (0,0)):=hg
  have e1:=run_loadVar_row w g t ty cs (0,0) d hg' hu hd hi
  have e:(results fn tmps).run P w=((asAddr (tmps.getD p undef)).run P w).andThen fun a w₁=>((loadVar ty a).run P w₁).andThen fun y w₂=>.ok (.tuple #[y,tmps.getD u undef,tmps.getD v undef,tmps.getD x undef]) w₂:=by
    simp only [results,h]
    simp [Sem.run_bind,Result.andThen]
  rw [e,hp]
  simp [asAddr,e1]
structure GwS (ad:Nat→Addr) (w0 w:World) (R B c s gen:Nat) (P F:Nat→Prop) (G:GA) (l:List Nat):Prop where
  pg:PgR F w P c s G l
  nx:Nxt NoB P (fun k=>NoB k∨k=R) F ad w0 w
  box:Blk w B #[.pointer (some ⟨c,0,none⟩),.pointer (some ⟨s,0,none⟩),.int .u64 (gen:Int)] 45
  res:Blk w R #[.pointer none,.pointer none,.int .u64 0] 45
  nB:¬ P B
  nR:¬ P R
  fB:F B
  new:w0.heap.size≤B
section
variable {ad:Nat→Addr} {w0 w w':World} {R B c s gen:Nat} {P P' F F':Nat→Prop} {G G':GA} {l l':List Nat}
theorem GwS.env (h:GwS ad w0 w R B c s gen P F G l):Env F ad w:=h.nx.env
theorem GwS.sub (h:GwS ad w0 w R B c s gen P F G l):∀ k,P k→F k:=h.nx.sub
theorem GwS.step (h:GwS ad w0 w R B c s gen P F G l) (n:Nxt P P' F F' ad w w') (g:PgR F' w' P' c s G' l'):GwS ad w0 w' R B c s gen P' F' G' l' :=
  ⟨g,h.nx.trans n,n.blk h.box h.nB,n.blk h.res h.nR,n.not h.box.lt h.nB,n.not h.res.lt h.nR,n.grow B h.fB,h.new⟩
theorem GwS.ext (h:GwS ad w0 w R B c s gen P F G l) (m:Ext w w'):GwS ad w0 w' R B c s gen P F G l:=h.step (Nxt.ext h.env h.sub m) (h.pg.at m)
theorem GwS.ext0 (h:GwS ad w0 w R B c s gen P F G l):Ext w0 w:=h.nx.stp.mods
theorem GwS.c0 (h:GwS ad w0 w R B c s gen P F G l):w.cell? ⟨B,0,none⟩=some (.pointer (some ⟨c,0,none⟩)):=h.box.cell rfl
theorem GwS.c1 (h:GwS ad w0 w R B c s gen P F G l):w.cell? ⟨B,1,none⟩=some (.pointer (some ⟨s,0,none⟩)):=h.box.cell rfl
theorem GwS.c2 (h:GwS ad w0 w R B c s gen P F G l):w.cell? ⟨B,2,none⟩=some (.int .u64 (gen:Int)):=h.box.cell rfl
def GwL (ad:Nat→Addr) (w0 wr:World) (R B c s k root:Nat) (wv:Value):Prop :=
  ∃ (P F:Nat→Prop) (G:GA) (l:List Nat) (d:Nat) (ps:List PairS) (pgs:List Nat),GwS ad w0 wr R B c s 5 P F G l∧Lawn 250 G l root d ps pgs∧G.cost≤61 * k∧ps.length≤k∧Sl F wr 2 encP wv ps
def GrownR (ad:Nat→Addr) (w:World) (e:Ending) (w':World):Prop :=
  ∃ (c s:Nat) (P F:Nat→Prop) (G:GA) (l:List Nat) (root d:Nat) (ps:List PairS) (pgs:List Nat) (wv:Value),e=.returned (.tuple #[pgV c s 6,.int .i64 (root:Int),wv,.bool true])∧PgR F w' P c s G l∧Nxt NoB P NoB F ad w w'∧Held 250 G l root d ps pgs∧G.cost≤61 * 24∧ps.length≤24∧Sl F w' 2 encP wv ps
end
set_option maxRecDepth 100000 in
set_option maxHeartbeats 4000000 in
theorem grown13_any {ad:Nat→Addr} {w:World} (hL:Env NoB ad w) (m:List PairS) (mv:Value) (hm:Sl NoB w 2 encP mv m) :
    Calls Tryz.prog 36 #[.int .i64 250,mv] w (GrownR ad w):=by
  obtain ⟨w0,hw0⟩:∃ w0,w0=w.alloc (.cells #[.pointer none,.pointer none,.int .u64 0] 45):=⟨_,rfl⟩
  have m0:Ext w w0:=by rw [hw0];exact (Mods.refl _ w).alloc _
  have hz0:w0.heap.size=w.heap.size+1:=by rw [hw0];simp
  have HL:=Lib.hid (hL.withR m0 (by omega))
  have HR0:=Lib.hid (show Blk w0 w.heap.size #[.pointer none,.pointer none,.int .u64 0] 45 by rw [hw0];exact Blk.new w _ _)
  have HM:=Lib.hid (hm.ext m0)
  have HM0:=Lib.hid m0
  have HZ0:=Lib.hid hz0
  have HW0:=Lib.hid hw0
  obtain ⟨ma,mc,rfl,h1,h2,h3, -⟩:=hm
  unfold maxLen at h2
  clear hL m0 hw0 hz0
  go_enter Tryz.func36, Tryz.ntmps36
  go_wp2_with fail
  rw [← HW0.out]
  refine (pager13F_any HL.out 250 (by omega) (by omega)).mono ?_
  rintro e w1 ⟨c,s,P,F,rfl,hG,hN⟩
  obtain ⟨w2,hw2⟩:∃ w2,w2=w1.alloc (.cells #[.pointer (some ⟨c,0,none⟩),.pointer (some ⟨s,0,none⟩),.int .u64 5] 45):=⟨_,rfl⟩
  have m2:Ext w1 w2:=by rw [hw2];exact (Mods.refl _ w1).alloc _
  have hz2:w2.heap.size=w1.heap.size+1:=by rw [hw2];simp
  have hN2:=hN.trans (Nxt.new (Q:=fun k=>k=w1.heap.size) hN.env hN.sub m2 (fun k hk=>by omega) (fun k hk=>by omega))
  have HGW:Hid (GwS ad w0 w2 w.heap.size w1.heap.size c s 5 P (fun k=>F k∨k=w1.heap.size) (G0 250) (spNew 250)):=Lib.hid
    ⟨hG.plusNew hN.sub (Q:=fun k=>k=w1.heap.size) m2 (fun k hk=>by omega),hN2,by rw [hw2];exact Blk.new w1 _ _,hN2.blk HR0.out (fun f=>f),fun f=>by have:=hG.bd _ f;omega,fun f=>hN.stp.old w.heap.size (by have:=HZ0.out;omega) f |>.elim,.inr rfl,hN.stp.mods.size⟩
  have HW2:=Lib.hid hw2
  have HZ2:Hid (w.heap.size < w1.heap.size):=Lib.hid (by have:=hN.stp.mods.size;have:=HZ0.out;omega)
  rw [pgV5]
  clear hG hN m2 hN2 hw2 hz2
  go_wp2_with fail
  rw [← HW2.out]
  have HGW3:=Lib.hid (HGW.out.ext ((Mods.refl _ w2).alloc (.cells #[] 40)))
  go_loopg [10,11,12] 24 (fun z v10 v11 v12 wr=>∃ (k root:Nat) (wv:Value),k+z=24∧v10=.int .i64 (root:Int)∧wv=v11∧v12=.int .i64 (k:Int)∧Hid (GwL ad w0 wr w.heap.size w1.heap.size c s k root wv))
  case atStart=>exact ⟨0,0,_,by omega,rfl,rfl,rfl,Lib.hid ⟨P,_,_,_,0,[],[],HGW3.out,Lawn.new 250 (.inl rfl),by show (0:Nat)≤_;omega,by simp,⟨_,_,rfl,Nat.le_refl _,by simp [maxLen],by simp,.inl rfl⟩⟩⟩
  case round =>
    obtain ⟨k,root,wv,hk,rfl,rfl,rfl,HP⟩:=hrel
    by_cases hgo:k < m.length∧k < 24
    · obtain ⟨g1,g2⟩:=hgo
      obtain ⟨P1,F1,G1,l1,d1,ps1,pgs1,hS1,hW1,hc1,hl1,hs1⟩:=HP.out
      obtain ⟨x,hx⟩:∃ x,x=m[k]:=⟨_,rfl⟩
      obtain ⟨qb,qoff,hqa,hc⟩:=HM.out.elem g1 hS1.ext0
      have e0:=hc 0 (.string x.1) (by rw [hx];rfl)
      have e1:=hc 1 (.string x.2) (by rw [hx];rfl)
      simp only [Nat.add_zero] at e0
      have i1:(0:Int)≤(k:Int):=by omega
      have i2:(k:Int) < (m.length:Int):=by omega
      have i3:(k:Int) < 24:=by omega
      subst hqa
      have HSH:=Lib.hid (short13_any wr x.1 x.2)
      obtain ⟨key,v0⟩:=x
      obtain ⟨v,hv⟩:∃ v,v=shortV v0:=⟨_,rfl⟩
      have HVV:Hid (v.size≤400):=Lib.hid (by rw [hv];exact shortV_le v0)
      simp only at HSH e0 e1
      rw [← hv] at HSH
      clear hS1 hW1 hc1 hl1 hs1 hc hx hv
      go_wp2_with fail
      refine HSH.out.mono ?_
      rintro e w3 ⟨rfl,hm3⟩
      obtain ⟨P1,F1,G1,l1,d1,ps1,pgs1,hS1,hW1,hc1,hl1,hs1⟩:=HP.out
      have hS3:=(hS1.ext hm3).ext ((Mods.refl _ w3).alloc (.cells #[.string key,.string v] 40))
      have b0:=hS3.c0
      have b1:=hS3.c1
      have b2:_=some (Value.int .u64 5):=hS3.c2
      have HS3:=Lib.hid hS3
      have HSL3:=Lib.hid ((hs1.ext hm3).ext ((Mods.refl _ w3).alloc (.cells #[.string key,.string v] 40)))
      have HLW:=Lib.hid hW1
      have HCO:=Lib.hid hc1
      have HLN:=Lib.hid hl1
      have HK:=Lib.hid (fun W b h=>key07_t key W b h)
      have HXP:Hid (¬ P1 w3.heap.size):=Lib.hid (fun hp=>Nat.lt_irrefl _ ((hS1.ext hm3).pg.bd _ hp))
      have hX:=Blk.new w3 #[.string key,.string v] 40
      have x0:=hX.cell (o:=0) (v:=.string key) rfl
      have x1:=hX.cell (o:=1) (v:=.string v) rfl
      obtain ⟨w4,hw4⟩:∃ w4,w4=w3.alloc (.cells #[.string key,.string v] 40):=⟨_,rfl⟩
      rw [← hw4] at b0 b1 b2 HS3 HSL3 hX x0 x1
      have HX:=Lib.hid hX
      have HW4:=Lib.hid hw4
      clear hS1 hW1 hc1 hl1 hs1 hS3 hm3 hX hw4
      cases hkb:keyB key with
      | false =>
        have HK:=Lib.hid (HK.out w4 false hkb)
        clear hkb
        go_wp2_with fail
        rw [← HW4.out]
        refine HK.out.mono ?_
        rintro e w5 ⟨rfl,rfl⟩
        go_wp2_with fail
        go_roundg (gk - 1)
        case measure=>omega
        case rel=>exact ⟨k+1,root,_,by omega,rfl,rfl,by go_num,Lib.hid ⟨P1,F1,G1,l1,d1,ps1,pgs1,HS3.out,HLW.out,by have:=HCO.out;omega,by have:=HLN.out;omega,HSL3.out⟩⟩
      | true =>
        have HK:=Lib.hid (HK.out w4 true hkb)
        obtain ⟨G2,l2,root2,d2,pgs2,hpr,hlw2,hco2,hr2⟩:=HLW.out.fits (by have:=HLN.out;omega) hkb HVV.out
        have HPT:=insPutR_any (v:=v) (gen:=5) (w:=w4) HS3.out.env HS3.out.sub HS3.out.pg (by omega) HLW.out.ctx HLW.out.td HLW.out.use hkb (by have:=HVV.out;omega) (by have:=HCO.out;omega)
        rw [hpr,pgV5] at HPT
        have HPT:=Lib.hid HPT
        have HLW2:=Lib.hid hlw2
        have HCO2:=Lib.hid hco2
        clear hkb hpr hlw2 hco2 hr2
        go_wp2_with fail
        rw [← HW4.out]
        refine HK.out.mono ?_
        rintro e w5 ⟨rfl,rfl⟩
        go_wp2_with fail
        refine HPT.out.mono ?_
        rintro e w6 ⟨P4,F4,G4,l4,hG4,hN4,⟨i4,nw4,hr4,rfl⟩ | ⟨k4,f4,el4,hr4,_⟩⟩
        rotate_left
        · cases hr4
        simp only [Sum.inl.injEq,Prod.mk.injEq] at hr4
        obtain ⟨rfl,rfl,rfl,rfl⟩:=hr4
        have HS4:=Lib.hid (HS3.out.step hN4 hG4)
        have HSL4:=Lib.hid (hN4.sl HS3.out.sub HSL3.out)
        have HWT:=Lib.hid (with_any ps1 wv HSL4.out (by have:=HLN.out;omega) key v true)
        have hX:=HX.out.mods hN4.stp.mods HXP.out
        have x0:=hX.cell (o:=0) (v:=.string key) rfl
        have x1:=hX.cell (o:=1) (v:=.string v) rfl
        clear hG4 hN4 hX b0 b1 b2
        go_wp2_with fail
        refine (HWT.out).mono ?_
        rintro e w7 ⟨v5,rfl,hO5,hm5⟩
        have HS5:=Lib.hid (HS4.out.ext hm5)
        have HSL5:=Lib.hid (hO5.slF (F:=F4) (fun k hk=>HS4.out.env.lt k hk) encP_ok.len (by have:=withP_len key v true ps1;have:=HLN.out;omega))
        clear hO5 hm5
        go_wp2_with fail
        go_roundg (gk - 1)
        case measure=>omega
        case rel=>exact ⟨k+1,root2,_,by omega,rfl,rfl,by go_num,Lib.hid ⟨P4,F4,G2,l2,d2,_,pgs2,HS5.out,HLW2.out,by have:=HCO.out;have:=HCO2.out;omega,by have:=withP_len key v true ps1;have:=HLN.out;omega,HSL5.out⟩⟩
    · obtain ⟨P1,F1,G1,l1,d1,ps1,pgs1,hS1,hW1,hc1,hl1,hs1⟩:=HP.out
      have b0:=hS1.c0
      have HS1:=Lib.hid hS1
      have HHE:=Lib.hid (hW1.held hS1.pg)
      have HSL:=Lib.hid hs1
      have HCO:=Lib.hid (show G1.flushC.flushD.cost≤61 * 24 from by have:G1.flushC.flushD.cost=G1.cost:=rfl;omega)
      have HLN:=Lib.hid (show ps1.length≤24 by omega)
      have hend:¬ ((k:Int) < (m.length:Int))∨((k:Int) < (m.length:Int)∧¬ (k:Int) < 24):=by omega
      clear hS1 hW1 hc1 hl1 hs1 hgo
      rcases hend with hend | ⟨hend,hend2⟩
      all_goals
        go_wp2_with fail
        refine (pgFlush HS1.out.env HS1.out.sub HS1.out.pg).mono ?_
        rintro e w3 ⟨P3,F3,hG3,hN3,rfl⟩
        have HS3:=Lib.hid (HS1.out.step hN3 hG3)
        have HSL3:=Lib.hid (hN3.sl HS1.out.sub HSL.out)
        clear hG3 hN3 b0
        have b0:=HS3.out.c0
        obtain ⟨d,hd1,hd2⟩:=pgDiskFlush HS3.out.env HS3.out.sub HS3.out.pg
        have HD1:=Lib.hid hd1
        have HD2:=Lib.hid hd2
        clear hd1 hd2
        go_wp2_with fail
        refine (HD1.out).mono ?_
        rintro e w4 ⟨rfl,rfl⟩
        go_wp2_with fail
        refine (HD2.out _ (Mods.refl _ _)).mono ?_
        rintro e w4 ⟨P4,F4,hG4,hN4,rfl⟩
        have HS4:=Lib.hid (HS3.out.step hN4 hG4)
        have HSL4:=Lib.hid (hN4.sl HS3.out.sub HSL3.out)
        clear hG4 hN4 b0
        have b1:=HS4.out.c1
        go_wp2_with fail
        refine (pgCommit HS4.out.env HS4.out.sub HS4.out.pg).mono ?_
        rintro e w5 ⟨P5,F5,hG5,hN5,rfl⟩
        have hS5:=HS4.out.step hN5 hG5
        have HSL5:=Lib.hid (hN5.sl HS4.out.sub HSL4.out)
        clear hG5 hN5 b1
        have b0:=hS5.c0
        have b1:=hS5.c1
        have b2:=hS5.c2
        have bf:=hS5.box.frozen
        have r0:=hS5.res.cell (o:=0) rfl
        have r1:=hS5.res.cell (o:=1) rfl
        have r2:=hS5.res.cell (o:=2) rfl
        have rf:=hS5.res.frozen
        have HS5:=Lib.hid hS5
        clear hS5
        have hne:¬ w.heap.size=w1.heap.size:=by have:=HZ2.out;omega
        go_wp2_with fail
        have mB:Mods (fun k=>k=w1.heap.size) w5 (w5.setCell ⟨w1.heap.size,2,none⟩ (.int .u64 6)):=Mods.at _ _ _ _ _ rfl
        obtain ⟨wa,hwa⟩:∃ wa,wa=w5.setCell ⟨w1.heap.size,2,none⟩ (.int .u64 6):=⟨_,rfl⟩
        rw [← hwa] at mB ⊢
        have mR:Mods (fun k=>k=w.heap.size) wa (((wa.setCell ⟨w.heap.size,0,none⟩ (.pointer (some ⟨c,0,none⟩))).setCell ⟨w.heap.size,1,none⟩ (.pointer (some ⟨s,0,none⟩))).setCell ⟨w.heap.size,2,none⟩ (.int .u64 6)):=Mods.set3 (F:=fun k=>k=w.heap.size) (Mods.refl _ wa) (.inr rfl) _ _ _
        have hS5:=HS5.out
        have fR:F5 w.heap.size:=hS5.nx.grow _ (.inr rfl)
        have mF:Mods F5 w5 (((wa.setCell ⟨w.heap.size,0,none⟩ (.pointer (some ⟨c,0,none⟩))).setCell ⟨w.heap.size,1,none⟩ (.pointer (some ⟨s,0,none⟩))).setCell ⟨w.heap.size,2,none⟩ (.int .u64 6)):=(mB.mono (fun k e=>by rw [e];exact hS5.fB)).trans (mR.mono (fun k e=>by rw [e];exact fR))
        have hG1:=hS5.pg.plus (F':=F5) mB (fun k hk e=>hS5.nB (by rw [← e];exact hk)) (fun k e=>by rw [e];exact hS5.fB) (fun _ _ h=>h)
        have hG2:=hG1.plus (F':=F5) mR (fun k hk e=>hS5.nR (by rw [← e];exact hk)) (fun k e=>by rw [e];exact fR) (fun _ _ h=>h)
        have hBR:=(hS5.res.mods mB (by omega)).set3 (.pointer (some ⟨c,0,none⟩)) (.pointer (some ⟨s,0,none⟩)) (.int .u64 6)
        have hz0:=HZ0.out
        have hEx:Ext w wa:=by rw [hwa];exact (HM0.out.trans hS5.ext0).setCell (p:=⟨w1.heap.size,2,none⟩) (.inl (Nat.le_of_lt HZ2.out)) _
        have hN:Nxt NoB P5 NoB F5 ad w (((wa.setCell ⟨w.heap.size,0,none⟩ (.pointer (some ⟨c,0,none⟩))).setCell ⟨w.heap.size,1,none⟩ (.pointer (some ⟨s,0,none⟩))).setCell ⟨w.heap.size,2,none⟩ (.int .u64 6)) :=
          ⟨⟨Mods.set3 hEx (.inl (Nat.le_refl w.heap.size)) _ _ _,fun k hk hp=>hS5.nx.stp.old k (by omega) hp,fun k hp=>Nat.lt_of_lt_of_le (hS5.nx.stp.bd k hp) mF.size⟩,hS5.sub,fun _ h=>h.elim,fun k hk hf=>(hS5.nx.oldF k (by omega) hf).elim id (fun e=>by omega),hS5.env.mods mF⟩
        refine bodyPost_ret (results_row_tmp3 rfl _ _ w.heap.size 45 #[.pointer (some ⟨c,0,none⟩),.pointer (some ⟨s,0,none⟩),.int .u64 6] _ rfl hBR Tryz.underlying45 rfl Tryz.pagerSize) rfl ?_
        exact ⟨c,s,P5,F5,_,_,root,d1,ps1,pgs1,wv,rfl,hG2,hN,HHE.out,HCO.out,HLN.out,HSL5.out.step mF (fun _ _ h=>h)⟩
theorem pgV6 (c s:Nat):pgV c s 6=.agg #[.pointer (some ⟨c,0,none⟩),.pointer (some ⟨s,0,none⟩),.int .u64 6]:=rfl
theorem Held.few {n:Nat} {G:GA} {l:List Nat} {root d:Nat} {ps:List PairS} {pgs:List Nat} (h:Held n G l root d ps pgs) (hf:ps.length≤24):pgs.length≤95:=by
  have hcn:=h.td.count.1
  have h1:=chS_400 ps h.val
  rw [h.size] at hcn
  by_cases hp:ps=[]
  · subst hp;simp [chS] at hcn;rw [hcn];simp
  · rw [if_neg hp] at hcn;omega
def KpS (ad:Nat→Addr) (w wr:World) (B c s k now:Nat) (K:Int) (Gc:GA) (lc:List Nat) (ps:List PairS) (wv uv:Value):Prop :=
  ∃ (P F:Nat→Prop) (G:GA) (l:List Nat) (d:Nat) (ps':List PairS) (pgs:List Nat),LG ad w wr B c s 6 P F G l∧Grow K 6 Gc lc G l now d ps' pgs∧G.cost≤61 * (k+24)∧ps'.length≤k+24∧Sl F wr 2 encP wv ps∧Sl F wr 1 encI uv (usedTo lc lc.length)
set_option maxRecDepth 100000 in
set_option maxHeartbeats 4000000 in
theorem InsertKeeps_any {ad:Nat→Addr} {w:World} (hL:Env NoB ad w) (hfu:Full ad) (m0:List PairS) (m0v:Value) (hm0:Sl NoB w 2 encP m0v m0) (m:List PairS) (mv:Value) (hm:Sl NoB w 2 encP mv m) :
    Calls Tryz.prog 7 #[m0v,mv] w fun e w'=>e=.returned (.bool true)∧Ext w w':=by
  have HM:=Lib.hid hm
  have HL:=Lib.hid hL
  have HFU:=Lib.hid hfu
  have HGR:=Lib.hid (grown13_any hL m0 m0v hm0)
  obtain ⟨ma,mc,rfl,h1,h2,h3, -⟩:=hm
  unfold maxLen at h2
  clear hL hfu hm0
  go_enter Tryz.func7, Tryz.ntmps7
  go_wp2_with fail
  refine HGR.out.mono ?_
  rintro e w1 ⟨c,s,P,F,Gc,lc,root,d,ps,pgs,wv,rfl,hG,hN,hH,hco,hln,hsl⟩
  have hS:=LG.startZ (gen:=6) hG hN 6 rfl
  have t1:=hS.c1
  have HS:=Lib.hid hS
  have HSL:=Lib.hid (hsl.ext ((Mods.refl _ w1).alloc (.cells #[.pointer (some ⟨c,0,none⟩),.pointer (some ⟨s,0,none⟩),.int .u64 6] 45)))
  have HUS:=Lib.hid (pgUsed hS.pg)
  have HHE:=Lib.hid hH
  have HGW:=Lib.hid (hH.grow (gen:=6) (by omega))
  have HCO:=Lib.hid hco
  have HLN:=Lib.hid hln
  obtain ⟨K,hK⟩:∃ K,K=phiL lc+(pgs.length:Int):=⟨_,rfl⟩
  have HK:Hid (150 < K):=Lib.hid (by
    have h1:=hH.phi (by decide +kernel)
    have h2:=hH.few hln
    rw [hK];omega)
  rw [← hK] at HGW
  obtain ⟨wa,wc,rfl,k1,k2,k3, -⟩:=hsl
  rw [pgV6]
  clear hG hN hS hH hco hln hK
  go_wp2_with fail
  refine HUS.out.mono ?_
  rintro e w2 ⟨uv,rfl,hO2,hm2⟩
  have HS2:=Lib.hid (HS.out.ext hm2)
  have HSL2:=Lib.hid (HSL.out.ext hm2)
  have HUV:=Lib.hid (hO2.slF (F:=F) (fun k hk=>HS.out.env.lt k hk) encI_ok.len (by have:=usedTo_len lc lc.length;have:=HS.out.pg.lim;omega))
  clear hO2 hm2 t1
  go_wp2_with fail
  go_loopg [10,11] 12 (fun z v10 v11 wr=>∃ (k now:Nat),k+z=12∧v10=.int .i64 (now:Int)∧v11=.int .i64 (k:Int)∧Hid (KpS ad w wr w1.heap.size c s k now K Gc lc ps (.slice wa ps.length wc) uv))
  case atStart=>exact ⟨0,root,by omega,rfl,rfl,Lib.hid ⟨P,F,Gc,lc,d,ps,pgs,HS2.out,HGW.out,by have:=HCO.out;omega,by have:=HLN.out;omega,HSL2.out,HUV.out⟩⟩
  case round =>
    obtain ⟨k,now,hk,rfl,rfl,HP⟩:=hrel
    by_cases hgo:k < m.length∧k < 12
    · obtain ⟨g1,g2⟩:=hgo
      obtain ⟨P1,F1,G6,l6,d6,ps6,pgs6,hS1,hW1,hc1,hl1,hs1,hu1⟩:=HP.out
      obtain ⟨x,hx⟩:∃ x,x=m[k]:=⟨_,rfl⟩
      obtain ⟨qb,qoff,hqa,hc⟩:=HM.out.elem g1 hS1.ext0
      have e0:=hc 0 (.string x.1) (by rw [hx];rfl)
      have e1:=hc 1 (.string x.2) (by rw [hx];rfl)
      simp only [Nat.add_zero] at e0
      have i1:(0:Int)≤(k:Int):=by omega
      have i2:(k:Int) < (m.length:Int):=by omega
      have i3:(k:Int) < 12:=by omega
      subst hqa
      have HSH:=Lib.hid (short13_any wr x.1 x.2)
      obtain ⟨key,v0⟩:=x
      obtain ⟨v,hv⟩:∃ v,v=shortV v0:=⟨_,rfl⟩
      have HVV:Hid (v.size≤400):=Lib.hid (by rw [hv];exact shortV_le v0)
      simp only at HSH e0 e1
      rw [← hv] at HSH
      clear hS1 hW1 hc1 hl1 hs1 hu1 hc hx hv
      go_wp2_with fail
      refine HSH.out.mono ?_
      rintro e w6 ⟨rfl,hm6⟩
      obtain ⟨P1,F1,G6,l6,d6,ps6,pgs6,hS1,hW1,hc1,hl1,hs1,hu1⟩:=HP.out
      have hmx:=hm6.trans ((Mods.refl _ w6).alloc (.cells #[.string key,.string v] 40))
      have hS7:=hS1.ext hmx
      have b0:=hS7.c0
      have b1:=hS7.c1
      have b2:_=some (Value.int .u64 6):=hS7.c2
      have HS7:=Lib.hid hS7
      have HSL7:=Lib.hid (hs1.ext hmx)
      have HUV7:=Lib.hid (hu1.ext hmx)
      have HLW:=Lib.hid hW1
      have HC6:=Lib.hid hc1
      have HL6:=Lib.hid hl1
      have HPN:=Lib.hid (fun hkb:keyB key=false=>putNo_any (P:=P1) (c:=c) (s:=s) hS7.env 6 (now:Int) key v (.inl HFU.out) [-1] 2 (by unfold checkK;rw [if_pos hkb]))
      clear hS1 hW1 hc1 hl1 hs1 hu1 hm6 hS7 hmx
      go_wp2_with fail
      cases hkb:keyB key with
      | false =>
        have HPN:=Lib.hid (HPN.out hkb)
        rw [pgV6] at HPN
        clear hkb
        refine HPN.out.mono ?_
        rintro e w8 ⟨f,el,rfl,hE8,hm8⟩
        have HS8:=Lib.hid (HS7.out.ext hm8)
        have HSL8:=Lib.hid (HSL7.out.ext hm8)
        have HUV8:=Lib.hid (HUV7.out.ext hm8)
        have HE8:=Lib.hid hE8
        clear hE8 hm8
        go_wp2_with fail
        refine (tells13_k HS8.out.env HFU.out HE8.out 2 (by omega) rfl).mono ?_
        rintro e w9 ⟨rfl,rfl⟩
        go_wp2_with fail
        go_roundg (gk - 1)
        case measure=>omega
        case rel=>exact ⟨k+1,now,by omega,rfl,by go_num,Lib.hid ⟨P1,F1,G6,l6,d6,ps6,pgs6,HS8.out,HLW.out,by have:=HC6.out;omega,by have:=HL6.out;omega,HSL8.out,HUV8.out⟩⟩
      | true =>
        have HPT:=insPutR_any (v:=v) (gen:=6) (w:=w6.alloc (.cells #[.string key,.string v] 40)) HS7.out.env HS7.out.sub HS7.out.pg (by omega) HLW.out.ctx HLW.out.td HLW.out.use hkb (by have:=HVV.out;omega) (by have:=HC6.out;omega)
        obtain ⟨G9,l9,root9,d9,pgs9,a1,a2,a3,a4⟩:=HLW.out.fits (by have:=HL6.out;have:=HK.out;omega) hkb HVV.out
        rw [a1,pgV6] at HPT
        have HPT:=Lib.hid HPT
        have HA2:=Lib.hid a2
        have HA3:=Lib.hid a3
        clear hkb HPN a1 a2 a3 a4
        refine HPT.out.mono ?_
        rintro e w8 ⟨P8,F8,G8,l8,hG8,hN8,⟨i8,nw8,hr8,rfl⟩ | ⟨k8,f8,el8,hr8,_⟩⟩
        · simp only [Sum.inl.injEq,Prod.mk.injEq] at hr8
          obtain ⟨rfl,rfl,rfl,rfl⟩:=hr8
          have HS8:=Lib.hid (HS7.out.step hN8 hG8)
          have HSL8:=Lib.hid (hN8.sl HS7.out.sub HSL7.out)
          have HUV8:=Lib.hid (hN8.sl HS7.out.sub HUV7.out)
          clear hG8 hN8
          go_wp2_with fail
          go_roundg (gk - 1)
          case measure=>omega
          case rel=>exact ⟨k+1,root9,by omega,rfl,by go_num,Lib.hid ⟨P8,F8,G9,l9,d9,_,pgs9,HS8.out,HA2.out,by have:=HA3.out;have:=HC6.out;omega,by have:=withP_len key v true ps6;have:=HL6.out;omega,HSL8.out,HUV8.out⟩⟩
        · cases hr8
    · have HP2:=Lib.hid HP.out
      obtain ⟨P1,F1,G6,l6,d6,ps6,pgs6,hS1,hW1,hc1,hl1,hs1,hu1⟩:=HP.out
      have b0:=hS1.c0
      have b1:=hS1.c1
      have b2:_=some (Value.int .u64 6):=hS1.c2
      have HS1:=Lib.hid hS1
      have HFR:=Lib.hid hW1.fr
      have HUV1:=Lib.hid hu1
      have HSL1:=Lib.hid hs1
      have HTD:=HHE.out.seen hW1.fr
      have HPR:=pairs13_any hS1.env hS1.sub hS1.pg 6 HTD (by rw [HFR.out.sz,HHE.out.size];omega) (by rw [HFR.out.bl,HHE.out.blk];omega) ps _ hs1 (fun x hx=>⟨(HHE.out.td.ok x hx).1,findP_mem HHE.out.td.sorted x hx⟩)
      rw [pgV6] at HPR
      have HPR:=Lib.hid HPR
      have hend:¬ ((k:Int) < (m.length:Int))∨((k:Int) < (m.length:Int)∧¬ (k:Int) < 12):=by omega
      clear hS1 hW1 hc1 hl1 hs1 hu1 hgo HP HTD
      rcases hend with hend | ⟨hend,hend2⟩
      all_goals
        go_wp2_with fail
        refine HPR.out.mono ?_
        rintro e w2 ⟨P2,F2,hG2,hN2,rfl⟩
        have HS2:=Lib.hid (HS1.out.step hN2 hG2)
        have HSL2:=Lib.hid (hN2.sl HS1.out.sub HSL1.out)
        have HUV2:=Lib.hid (hN2.sl HS1.out.sub HUV1.out)
        clear hG2 hN2 b0 b1 b2
        have b1:=HS2.out.c1
        go_wp2_with fail
        refine (pgBack HS2.out.env HS2.out.sub HS2.out.pg).mono ?_
        rintro e w3 ⟨P3,F3,hG3,hN3,rfl⟩
        have HS3:=Lib.hid (HS2.out.step hN3 hG3)
        have HSL3:=Lib.hid (hN3.sl HS2.out.sub HSL2.out)
        have HUV3:=Lib.hid (hN3.sl HS2.out.sub HUV2.out)
        clear hG3 hN3 b1
        have b0:=HS3.out.c0
        go_wp2_with fail
        refine (pgForget HS3.out.env HS3.out.sub HS3.out.pg).mono ?_
        rintro e w4 ⟨P4,F4,hG4,hN4,rfl⟩
        have HS4:=Lib.hid (HS3.out.step hN4 hG4)
        have HSL4:=Lib.hid (hN4.sl HS3.out.sub HSL3.out)
        have HUV4:=Lib.hid (hN4.sl HS3.out.sub HUV3.out)
        have HHB:=Lib.hid (HHE.out.back HFR.out)
        clear hG4 hN4 b0
        have b0:=HS4.out.c0
        have b1:=HS4.out.c1
        have b2:_=some (Value.int .u64 6):=HS4.out.c2
        have HWK:=walkT_any HS4.out.env HS4.out.sub HS4.out.pg 6 HHB.out.td (by omega) (by rw [HHB.out.size];omega) (by rw [HHB.out.blk];omega)
        rw [pgV6] at HWK
        have HWK:=Lib.hid HWK
        go_wp2_with fail
        refine HWK.out.mono ?_
        rintro e w5 ⟨P5,F5,hG5,hN5,kpv,kkv,rfl,hsp,hsk⟩
        have HS5:=Lib.hid (HS4.out.step hN5 hG5)
        have HSL5:=Lib.hid (hN5.sl HS4.out.sub HSL4.out)
        have HUV5:=Lib.hid (hN5.sl HS4.out.sub HUV4.out)
        have HSK:=Lib.hid hsk
        obtain ⟨ra,rc,rfl, -, -, -, -⟩:=hsp
        obtain ⟨ka,kc,rfl, -, -, -, -⟩:=hsk
        simp only at HSK ⊢
        obtain ⟨nk,hnk⟩:∃ nk,nk=(ps.map (·.1)).length:=⟨_,rfl⟩
        rw [← hnk] at HSK ⊢
        obtain ⟨np,hnp⟩:∃ np,np=(iL pgs).length:=⟨_,rfl⟩
        rw [← hnp]
        have m6:Ext w5 (w5.alloc (.cells #[.slice ra np rc,.slice ka nk kc,.int .i64 (d:Int)] 78)):=(Mods.refl _ w5).alloc _
        have hRB:=Blk.new w5 #[.slice ra np rc,.slice ka nk kc,.int .i64 (d:Int)] 78
        have y1:=hRB.cell (o:=1) (v:=.slice ka nk kc) rfl
        obtain ⟨w6,hw6⟩:∃ w6,w6=w5.alloc (.cells #[.slice ra np rc,.slice ka nk kc,.int .i64 (d:Int)] 78):=⟨_,rfl⟩
        rw [← hw6] at m6 hRB y1
        have HRP:Hid (¬ P5 w5.heap.size):=Lib.hid (fun hp=>Nat.lt_irrefl _ (HS5.out.pg.bd _ hp))
        have HS6:=Lib.hid (HS5.out.ext m6)
        have hd:=(Mods.refl (fun _=>False) w6).drew
        have HX:=Lib.hid (HS6.out.ext hd)
        have HSL6:=Lib.hid ((HSL5.out.ext m6).ext hd)
        have HUV6:=Lib.hid ((HUV5.out.ext m6).ext hd)
        have HSK6:=Lib.hid ((HSK.out.ext m6).ext hd)
        have b0:=HS6.out.c0
        have b1:=HS6.out.c1
        have b2:_=some (Value.int .u64 6):=HS6.out.c2
        have HKY:=Lib.hid (keys11_any (w:=w6.drew) ps _ HSL6.out (by have:=HLN.out;omega))
        have HST:=Lib.hid (fun (w7:World) (kv7:Value) (hm:Ext w6.drew w7) (hO:Own (fun _=>False) w7 w6.drew.heap.size 9 1 encS kv7 (ps.map (·.1)))=>sameTexts_t (F:=F5) (G:=F5) (.slice ka nk kc) kv7 (ps.map (·.1)) (HSK6.out.ext hm) (hO.slF (fun k hk=>HX.out.env.lt k hk) encS_ok.len (by rw [List.length_map];have:=HLN.out;omega)))
        have HUS:=Lib.hid (fun (W:World) (hm:Ext w6.drew W)=>pgUsed (HX.out.pg.at hm))
        have HSI:=Lib.hid (fun (W1 W2:World) (u1:Value) (hm1:Ext w6.drew W1) (hm2:Ext W1 W2) (hO1:Own (fun _=>False) W2 W1.heap.size 3 1 encI u1 (usedTo lc lc.length))=>sameInts_t (F:=F5) (G:=F5) (w:=W2) u1 uv (usedTo lc lc.length) (hO1.slF (fun k hk=>Nat.lt_of_lt_of_le (HX.out.env.lt k hk) hm1.size) encI_ok.len (by have:=usedTo_len lc lc.length;have h8:=congrArg List.length HHE.out.lay;rw [markL_len] at h8;omega)) (HUV6.out.ext (hm1.trans hm2)))
        have HBL:=Lib.hid (HHE.out.backL HFR.out)
        have HPR2:=Lib.hid (fun (W:World) (hm:Ext w6.drew W)=>pairs13_any (w:=W) (HX.out.env.mods hm.ext) HX.out.sub (HX.out.pg.at hm) 6 HHB.out.td (by rw [HHB.out.size];omega) (by rw [HHB.out.blk];omega) ps _ (HSL6.out.ext hm) (fun x hx=>⟨(HHE.out.td.ok x hx).1,findP_mem HHE.out.td.sorted x hx⟩))
        rw [pgV6] at HPR2
        have HAW:=Lib.hid (fun (W:World) (F':Nat→Prop) (he:Env F' ad W)=>awake13_any (he.anti (Q:=NoB) (fun _ f=>f.elim)))
        have HW6:=Lib.hid hw6
        clear hnk hnp m6 hRB hw6 hd
        go_wp2_with fail
        rw [← HW6.out]
        go_region_held3 (fun w'=>w'.cell? ⟨w1.heap.size,0,none⟩=some (.pointer (some ⟨c,0,none⟩))∧w'.cell? ⟨w1.heap.size,1,none⟩=some (.pointer (some ⟨s,0,none⟩))∧w'.cell? ⟨w1.heap.size,2,none⟩=some (.int .u64 6)∧w'.cell? ⟨w5.heap.size,1,none⟩=some (.slice ka nk kc))
          (first | (with_reducible exact ⟨b0,b1,b2,y1⟩) | (with_reducible exact ⟨x0,x1,x2,x3⟩) | (with_reducible exact ⟨z0,z1,z2,z3⟩) | (with_reducible exact ⟨a0,a1,a2,a3⟩) | (with_reducible exact ⟨p0,p1,p2,p3⟩) | (with_reducible exact ⟨q0,q1,q2,q3⟩) | (with_reducible exact ⟨r0,r1,r2,r3⟩) | go_keep)
          (first
            | (go_at_call 43;(with_reducible refine (HKY.out).mono ?_);rintro x w7 ⟨kv7,rfl,hO7,hm7⟩;have x0:=cellE (w:=w6.drew) hm7 b0;have x1:=cellE (w:=w6.drew) hm7 b1;have x2:=cellE (w:=w6.drew) hm7 b2;have x3:=cellE (w:=w6.drew) hm7 y1)
            | (go_at_call 42;(with_reducible refine (HST.out _ _ hm7 hO7).mono ?_);rintro x w8 ⟨rfl,hm8⟩;have z0:=cellE hm8 x0;have z1:=cellE hm8 x1;have z2:=cellE hm8 x2;have z3:=cellE hm8 x3)
            | (go_at_call 37;(with_reducible refine (HUS.out _ (hm7.trans hm8)).mono ?_);rintro x w9 ⟨u9,rfl,hO9,hm9⟩;have a0:=cellE hm9 z0;have a1:=cellE hm9 z1;have a2:=cellE hm9 z2;have a3:=cellE hm9 z3)
            | (go_at_call 44;(with_reducible refine (HSI.out _ _ _ (hm7.trans hm8) hm9 (by rw [← HBL.out];exact hO9)).mono ?_);rintro x w10 ⟨rfl,hm10⟩;have p0:=cellE hm10 a0;have p1:=cellE hm10 a1;have p2:=cellE hm10 a2;have p3:=cellE hm10 a3)
            | (go_at_call 38;(with_reducible refine (HPR2.out _ (((hm7.trans hm8).trans hm9).trans hm10)).mono ?_);rintro x w11 ⟨P11,F11,hG11,hN11,rfl⟩;have q0:=cellP hN11.stp.mods p0 HX.out.nB;have q1:=cellP hN11.stp.mods p1 HX.out.nB;have q2:=cellP hN11.stp.mods p2 HX.out.nB;have q3:=cellP hN11.stp.mods p3 HRP.out)
            | (go_at_call 12;(with_reducible refine (HAW.out _ _ hN11.env).mono ?_);rintro x w12 ⟨rfl,hm12⟩;have r0:=cellE hm12 q0;have r1:=cellE hm12 q1;have r2:=cellE hm12 q2;have r3:=cellE hm12 q3)
            | fail)
        have HX2:=Lib.hid (((HX.out.ext (((hm7.trans hm8).trans hm9).trans hm10)).step hN11 hG11).ext0.trans hm12)
        go_wp2_with fail
        go_ret
        exact ⟨rfl,HX2.out⟩
end Go.Proofs.YtphafjmdhmpkbaaGreatDoor
