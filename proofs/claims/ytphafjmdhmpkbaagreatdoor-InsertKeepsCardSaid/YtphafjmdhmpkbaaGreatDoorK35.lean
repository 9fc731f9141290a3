/- insert.put: a node with a pair beneath it. -/
import Derived.Test.YtphafjmdhmpkbaaGreatDoorK34
import Derived.Test.YtphafjmdhmpkbaaGreatDoorK26
import Derived.IntWalk
namespace Go.Proofs.YtphafjmdhmpkbaaGreatDoor
open Go.RowKit
attribute [local go_sem ↓] Go.wp_at_zero Go.wp_at_succ
section
variable {P P0 P' F F0 F':Nat→Prop} {ad:Nat→Addr} {w0 w w':World} {c s:Nat} {G:GA} {l:List Nat}
theorem grow1 (hN:Nxt P0 P F0 F ad w0 w) (hG:PgR F w P c s G l) (cs:Array Value) (t:TypeId) (h0:w0.heap.size≤w.heap.size) :
    Nxt P P F (fun k=>F k∨k=w.heap.size) ad w (w.alloc (.cells cs t))∧PgR (fun k=>F k∨k=w.heap.size) (w.alloc (.cells cs t)) P c s G l∧VarR (fun k=>F k∨k=w.heap.size) P w0 (w.alloc (.cells cs t)) w.heap.size cs t:=by
  have m:=(Mods.refl (fun _=>False) w).alloc (.cells cs t)
  refine ⟨Nxt.new hN.env hN.sub (Q:=fun k=>k=w.heap.size) m (fun k hk=>by omega) (fun k hk=>by simp;omega),hG.plusNew hN.sub (Q:=fun k=>k=w.heap.size) m (fun k hk=>by omega),⟨Blk.new w _ _,.inr rfl,fun hp=>by have:=hG.bd _ hp;omega,h0⟩⟩
theorem OutP.q {r:StA OutA} {e:Ending} (h:OutP F P ad w c s G l r e w'):∃ (P' F':Nat→Prop) (G':GA) (l':List Nat) (o:OutA) (ev:Value),PgR F' w' P' c s G' l'∧Nxt P P' F F' ad w w'∧e=.returned (.tuple #[.agg #[.int .i64 (o.id0:Int),.int .i64 (o.id1:Int),.string o.key,.bool o.two,.bool o.news],ev]) ∧
    ((r=.inl (G',l',o)∧ev=.nilIface)∨(∃ k f el,r=.inr k∧FrG G l G' l'∧ev=faultV f∧ErrC F' ad w' (faultV f) el k)):=by
  obtain ⟨P',F',G',l',h1,h2,⟨o,h3,h4⟩ | ⟨k,o,f,el,h3,h4,h5,h6⟩⟩:=h
  · exact ⟨P',F',G',l',o,_,h1,h2,h4,.inl ⟨h3,rfl⟩⟩
  · exact ⟨P',F',G',l',o,_,h1,h2,h5,.inr ⟨k,f,el,h3,h4,rfl,h6⟩⟩
theorem Sl.two {α:Type} {sz:Nat} {enc:α→List Value} {x y:α} {b:Nat} {t:TypeId} {fz:Nat × Nat} (henc:∀ x,(enc x).length=sz) (h:w.heap[b]? = some (.cells (enc x ++ enc y).toArray t fz)) (hF:¬ F b):Sl F w sz enc (.slice (some ⟨b,0,none⟩) 2 2) [x,y]:=by
  refine ⟨_,2,rfl,Nat.le_refl _,by simp [maxLen],by simp,.inr ⟨b,0,rfl,(Array.getElem?_eq_some_iff.1 h).1,hF,fun i z hi j u hu=>?_⟩⟩
  rw [cells_of_block h]
  have hl:=flatMap_at henc [x,y] i z j u hi hu
  simpa using hl
theorem cellP {v:Value} {b o:Nat} (m:Mods P w w') (h:w.cell? ⟨b,o,none⟩=some v) (hn:¬ P b):w'.cell? ⟨b,o,none⟩=some v:=(m.cell (cell_lt h) hn).trans h
def PtSt (F P:Nat→Prop) (ad:Nat→Addr) (w:World) (c s gen D:Nat) (nd:Array Value) (n:NodeA) (ve vk vi:Value) (G:GA) (l:List Nat) (r:StA OutA) (X:Nat) (ev:Value) (wx:World):Prop :=
  ∃ (P' F':Nat→Prop) (G':GA) (l':List Nat) (o:OutA),PgR F' wx P' c s G' l'∧Nxt P P' F F' ad w wx∧VarR F' P' w wx w.heap.size #[.pointer (some ⟨c,0,none⟩),.pointer (some ⟨s,0,none⟩),.int .u64 (gen:Int)] 45 ∧ VarR F' P' w wx (w.heap.size+1) outZc 127 ∧ VarR F' P' w wx D nd 26 ∧
    VarR F' P' w wx X (outC o) 127 ∧ Sl F' wx 4 encE ve n.entries∧Sl F' wx 1 encS vk n.keys∧Sl F' wx 1 encI vi n.kids ∧
    ((r=.inl (G',l',o)∧ev=.nilIface)∨(∃ k f el,r=.inr k∧FrG G l G' l'∧ev=faultV f∧ErrC F' ad wx (faultV f) el k))
def JnSt (F P:Nat→Prop) (ad:Nat→Addr) (w:World) (c s gen D X:Nat) (n':NodeA) (o:OutA) (G':GA) (l':List Nat) (ve vk vi:Value) (wx:World):Prop :=
  ∃ (P' F':Nat→Prop),PgR F' wx P' c s G' l'∧Nxt P P' F F' ad w wx∧VarR F' P' w wx w.heap.size #[.pointer (some ⟨c,0,none⟩),.pointer (some ⟨s,0,none⟩),.int .u64 (gen:Int)] 45 ∧ VarR F' P' w wx (w.heap.size+1) outZc 127 ∧ VarR F' P' w wx D #[.bool false,ve,vk,vi] 26 ∧
    VarR F' P' w wx X (outC o) 127 ∧ Sl F' wx 4 encE ve n'.entries∧Sl F' wx 1 encS vk n'.keys∧Sl F' wx 1 encI vi n'.kids
set_option maxRecDepth 100000 in
set_option maxHeartbeats 8000000 in
theorem insPut_any {gen:Nat} (hgen:gen < 18446744073709551616) {key v:ByteArray} (hkb:keyB key=true) (hv:v.size≤4096):∀ (d f:Nat) {F P:Nat→Prop} {w:World} {G:GA} {l:List Nat} (id:Nat) (lo:ByteArray) (hi:Option ByteArray) (ps:List PairS) (pgs:List Nat) (dep:Nat),Env F ad w→(∀ k,P k→F k)→PgR F w P c s G l→CtxG G l→TrD G gen d lo hi id ps pgs→pgs.Nodup→UseL l (fun k=>k ∈ pgs)→inB lo hi key→d≤f→dep+f=17→f≤16→G.cost+300≤1000000 →
    Calls Tryz.prog 80 #[pgV c s gen,.int .i64 (id:Int),.int .i64 (dep:Int),.string key,.string v] w (OutP F P ad w c s G l (putA gen key v f G l id))
  | 0,_,_,_,_,_,_,_,_,_,_,_,_,_,_,_,_,h,_,_,_,_,_,_,_=>h.elim
  | d+1,0,_,_,_,_,_,_,_,_,_,_,_,_,_,_,_,_,_,_,_,h,_,_,_=>by omega
  | d+1,f+1,F,P,w,G,l,id,lo,hi,ps,pgs,dep,hL,hP,h,hc,hT,hn,hu,hk,hf,hdep,hf16,hco=>by
    obtain ⟨n,q,hp,hr,rfl,hb⟩:=hT
    obtain ⟨hload,hnode⟩:=pg_load hp
    have hkn:=(GA.node_load hnode).1
    have hid:id ∉ q∧q.Nodup:=List.nodup_cons.1 hn
    have hqid:id ≠ 0:=by have:=hp.lo;omega
    have huq:UseL l (fun k=>k ∈ q):=fun k hk=>hu k (List.mem_cons_of_mem _ hk)
    have hpl:PlaceOf l id:=.inr ⟨hp.lo,hu id List.mem_cons_self⟩
    have hd16:(dep:Int)≤16:=by omega
    obtain ⟨lf,hlf⟩:∃ lf,n.leaf=lf:=⟨_,rfl⟩
    have HLF:=Lib.hid hlf
    obtain ⟨w1,hw1⟩:∃ w1,w1=(w.alloc (.cells #[.pointer (some ⟨c,0,none⟩),.pointer (some ⟨s,0,none⟩),.int .u64 (gen:Int)] 45)).alloc (.cells outZc 127):=⟨_,rfl⟩
    have m0:Ext w w1:=by rw [hw1];exact ((Mods.refl _ w).alloc _).alloc _
    have hz:w1.heap.size=w.heap.size+2:=by rw [hw1];simp
    have hN:Nxt P P F (fun k=>F k∨(w.heap.size≤k∧k < w1.heap.size)) ad w w1:=Nxt.new hL hP (Q:=fun k=>w.heap.size≤k∧k < w1.heap.size) m0 (fun k hk=>hk.1) (fun k hk=>hk.2)
    have HB:=Lib.hid (show VarR (fun k=>F k∨(w.heap.size≤k∧k < w1.heap.size)) P w w1 w.heap.size #[.pointer (some ⟨c,0,none⟩),.pointer (some ⟨s,0,none⟩),.int .u64 (gen:Int)] 45 from ⟨by rw [hw1];exact (Blk.new w _ _).alloc _,.inr ⟨by omega,by omega⟩,fun hp=>by have:=h.bd _ hp;omega,by omega⟩)
    have HR:=Lib.hid (show VarR (fun k=>F k∨(w.heap.size≤k∧k < w1.heap.size)) P w w1 (w.heap.size+1) outZc 127 from ⟨by rw [hw1];exact heap_at (by simp),.inr ⟨by omega,by omega⟩,fun hp=>by have:=h.bd _ hp;omega,by omega⟩)
    have HG:=Lib.hid (h.plusNew hP (Q:=fun k=>w.heap.size≤k∧k < w1.heap.size) m0 (fun k hk=>hk.1))
    have HLD:=load_any hN.env hN.sub HG.out gen (id:Int) hkn
    rw [hload] at HLD
    unfold pgV at HLD
    have HLD:=Lib.hid HLD
    have HN:=Lib.hid hN
    have b0:=HB.out.blk.cell (o:=0) rfl
    have b1:=HB.out.blk.cell (o:=1) rfl
    have b2:=HB.out.blk.cell (o:=2) rfl
    have HW1:=Lib.hid hw1
    have HN0:=Lib.hid (And.intro hn (And.intro hid (And.intro hqid (And.intro huq (And.intro hpl hu)))))
    have HC:=Lib.hid hc
    have HK:=Lib.hid hk
    have HRI:=Lib.hid hr
    have HBD:=Lib.hid hb
    have HFIT:=Lib.hid hp.fit
    have HPG:=Lib.hid hp
    have HLO:=Lib.hid hload
    have HDEP:=Lib.hid (And.intro hf (And.intro hdep hf16))
    have HZ:=Lib.hid hz
    clear hL hP h m0 hN hw1 hn hid hqid huq hpl hu hc hk hr hb hp hload hkn hnode hf hdep hf16 hz
    unfold pgV
    go_enter Tryz.func80, Tryz.ntmps80
    go_wp2_with fail
    rw [← HW1.out]
    refine HLD.out.mono ?_
    rintro e w2 ⟨P2,F2,hG2,hN2,ve,vk,vi,rfl,hve,hvk,hvi⟩
    rw [HLF.out]
    obtain ⟨g1,g2,g3⟩:=grow1 (w0:=w) (HN.out.trans hN2) hG2 #[.bool lf,ve,vk,vi] 26 (by have:=hN2.size;have:=HZ.out;omega)
    obtain ⟨w3,hw3⟩:∃ w3,w3=w2.alloc (.cells #[.bool lf,ve,vk,vi] 26):=⟨_,rfl⟩
    obtain ⟨D,hD⟩:∃ D,D=w2.heap.size:=⟨_,rfl⟩
    obtain ⟨F3,hF3⟩:∃ F3:Nat→Prop,F3=fun k=>F2 k∨k=w2.heap.size:=⟨_,rfl⟩
    rw [← hF3,← hw3] at g1 g2 g3
    rw [← hD] at g3
    have hN3:=HN.out.trans (hN2.trans g1)
    have HB3:=Lib.hid ((HB.out.nxt hN2).nxt g1)
    have HR3:=Lib.hid ((HR.out.nxt hN2).nxt g1)
    have HG3:=Lib.hid g2
    have HD3:=Lib.hid g3
    have HVE:=Lib.hid (g1.sl hN2.sub (F:=F2) hve)
    have HVK:=Lib.hid (g1.sl hN2.sub (F:=F2) hvk)
    have HVI:=Lib.hid (g1.sl hN2.sub (F:=F2) hvi)
    have HN3:=Lib.hid hN3
    have HDZ:Hid (w.heap.size+2≤D∧D < w3.heap.size):=Lib.hid ⟨by rw [hD];have:=hN2.size;have:=HZ.out;omega,by rw [hD,hw3];simp⟩
    obtain ⟨ea,ec,rfl,he1, -, -, -⟩:=hve
    obtain ⟨ka,kc,rfl, -, -, -, -⟩:=hvk
    obtain ⟨ia,ic,rfl,hi1, -, -, -⟩:=hvi
    have b0:=HB3.out.blk.cell (o:=0) rfl
    have b1:=HB3.out.blk.cell (o:=1) rfl
    have b2:=HB3.out.blk.cell (o:=2) rfl
    have r0:=HR3.out.blk.cell (o:=0) rfl
    have r1:=HR3.out.blk.cell (o:=1) rfl
    have r2:=HR3.out.blk.cell (o:=2) rfl
    have r3:=HR3.out.blk.cell (o:=3) rfl
    have r4:=HR3.out.blk.cell (o:=4) rfl
    have rf:=HR3.out.blk.frozen
    have n0:=HD3.out.blk.cell (o:=0) rfl
    have n1:=HD3.out.blk.cell (o:=1) rfl
    have n2:=HD3.out.blk.cell (o:=2) rfl
    have n3:=HD3.out.blk.cell (o:=3) rfl
    have b0x:(w2.alloc (.cells #[.bool lf,.slice ea n.entries.length ec,.slice ka n.keys.length kc,.slice ia n.kids.length ic] 26)).cell? ⟨w.heap.size,0,none⟩=some (.pointer (some ⟨c,0,none⟩)):=by rw [← hw3];exact b0
    have b1x:(w2.alloc (.cells #[.bool lf,.slice ea n.entries.length ec,.slice ka n.keys.length kc,.slice ia n.kids.length ic] 26)).cell? ⟨w.heap.size,1,none⟩=some (.pointer (some ⟨s,0,none⟩)):=by rw [← hw3];exact b1
    have b2x:(w2.alloc (.cells #[.bool lf,.slice ea n.entries.length ec,.slice ka n.keys.length kc,.slice ia n.kids.length ic] 26)).cell? ⟨w.heap.size,2,none⟩=some (.int .u64 (gen:Int)):=by rw [← hw3];exact b2
    have HW3:=Lib.hid hw3
    have HDD:=Lib.hid hD
    clear g1 g2 g3 hN3 hG2 hN2 hw3 hD hF3 hlf
    cases lf with
    | true =>
      go_wp2_with fail
      rw [← HW3.out]
      obtain ⟨hn,hid,hqid,huq,hpl,hu⟩:=HN0.out
      have hlB:d=0∧Ents G gen n.entries ps q∧∀ x ∈ ps,inB lo hi x.1:=by
        rcases HBD.out with ⟨_,h2,_,h4,h5⟩ | ⟨h1,_⟩
        · exact ⟨h2,h4,h5⟩
        · rw [HLF.out] at h1;cases h1
      have hLO:=leafOk_of (gen:=gen) (old:=id) HC.out hpl HLF.out HRI.out HFIT.out hlB.2.1 hkb hv hid.2 huq (fun _=>hid.1) (by omega)
      have HLE:=insLeaf_any n key v HN3.out.env HN3.out.sub HG3.out gen id hgen _ _ _ HVE.out HVK.out HVI.out hLO
      unfold pgV at HLE
      have HPA:Hid (putA gen key v (f+1) G l id=leafA G l gen id n key v):=Lib.hid (by rw [putA,HLO.out];simp only;rw [if_pos HLF.out])
      have HLE:=Lib.hid HLE
      clear hn hid hqid huq hpl hu hlB hLO b0x b1x b2x
      refine HLE.out.mono ?_
      rintro e w7 ⟨P7,F7,G7,l7,hG7,hN7,hr⟩
      have HR7:=Lib.hid (HR3.out.nxt hN7)
      have HG7:=Lib.hid hG7
      have HN7:=Lib.hid (HN3.out.trans hN7)
      have q0:=HR7.out.blk.cell (o:=0) rfl
      have q1:=HR7.out.blk.cell (o:=1) rfl
      have q2:=HR7.out.blk.cell (o:=2) rfl
      have q3:=HR7.out.blk.cell (o:=3) rfl
      have q4:=HR7.out.blk.cell (o:=4) rfl
      have qf:=HR7.out.blk.frozen
      clear hG7 hN7
      rcases hr with ⟨o,hs,rfl⟩ | ⟨k,o,f2,el,hs,hfr,rfl,hE⟩
      · have HS:=Lib.hid hs
        clear hs
        unfold outC
        go_wp2_with fail
        have mR:=Mods.set5 (F:=fun k=>k=w.heap.size+1) (Mods.refl _ w7) (R:=w.heap.size+1) (.inr rfl) (.int .i64 (o.id0:Int)) (.int .i64 (o.id1:Int)) (.string o.key) (.bool o.two) (.bool o.news)
        have bR:=HR7.out.blk.set5 (.int .i64 (o.id0:Int)) (.int .i64 (o.id1:Int)) (.string o.key) (.bool o.two) (.bool o.news)
        refine bodyPost_ret (results_row_tmp rfl _ _ (w.heap.size+1) 127 _ _ rfl bR Tryz.underlying127 rfl Tryz.outSz) rfl ?_
        exact ⟨P7,F7,G7,l7,HG7.out.var HR7.out mR,HN7.out.var HR7.out mR,.inl ⟨o,by rw [HPA.out,HS.out],rfl⟩⟩
      · have HS:=Lib.hid hs
        have HE:=Lib.hid hE
        have HFR:=Lib.hid hfr
        clear hs hE hfr
        unfold outC
        go_wp2_with fail
        have mR:=Mods.set5 (F:=fun k=>k=w.heap.size+1) (Mods.refl _ w7) (R:=w.heap.size+1) (.inr rfl) (.int .i64 (o.id0:Int)) (.int .i64 (o.id1:Int)) (.string o.key) (.bool o.two) (.bool o.news)
        have bR:=HR7.out.blk.set5 (.int .i64 (o.id0:Int)) (.int .i64 (o.id1:Int)) (.string o.key) (.bool o.two) (.bool o.news)
        refine bodyPost_ret (results_row_tmp rfl _ _ (w.heap.size+1) 127 _ _ rfl bR Tryz.underlying127 rfl Tryz.outSz) rfl ?_
        exact ⟨P7,F7,G7,l7,HG7.out.var HR7.out mR,HN7.out.var HR7.out mR,.inr ⟨k,o,f2,el,by rw [HPA.out,HS.out],HFR.out,rfl,HE.out.mods (HR7.out.mF mR)⟩⟩
    | false =>
      obtain ⟨hn,hid,hqid,huq,hpl,hu⟩:=HN0.out
      have hkd:Kids (TrD G gen d) lo hi n.keys n.kids ps q:=by
        rcases HBD.out with ⟨h1,_⟩ | ⟨_,h2⟩
        · rw [HLF.out] at h1;cases h1
        · exact h2
      obtain ⟨k1,k2,c1,ck,c2,l1,lm,l2,q1,qm,q2,lo',hi',e1,e2,e3,e4,rfl,rfl,e7,e8, -, -, -⟩:=hkd.at_ (TrD.bounds d) HK.out
      obtain ⟨at_,hat⟩:∃ at_,at_=kidAt key n.keys:=⟨_,rfl⟩
      rw [← hat] at e4
      have hkat:n.kids[at_]? = some (ck:Int):=by rw [e4,e2,← e3];simp
      have hkd0:n.kids.getD at_ 0=(ck:Int):=by simp [List.getD,hkat]
      have hnd2:=List.nodup_append.1 (List.nodup_append.1 hid.2).2.1
      obtain ⟨hde1,hde2,hde3⟩:=HDEP.out
      have HIH:=Lib.hid (fun (F':Nat→Prop) (W:World) (hL:Env F' ad W) (hP:∀ k,P2 k→F' k) (h:PgR F' W P2 c s G l)=>insPut_any hgen hkb hv d f ck lo' hi' lm qm (dep+1) hL hP h HC.out e7 hnd2.1 (fun k hk=>huq k (by simp [hk])) e8 (by omega) (by omega) (by omega) (by omega))
      have HPA:Hid (putA gen key v (f+1) G l id=match putA gen key v f G l ck with
        | .inr k=>.inr k
        | .inl (G1,l1,o)=>match settleA G1 l1 gen id (joinA n at_ o) with
          | .inr k=>.inr k
          | .inl (G2,l2,o2)=>.inl (G2,l2,{ o2 with news:=o.news })):=Lib.hid (by
        rw [putA,HLO.out]
        simp only
        rw [if_neg (by rw [HLF.out];simp),← hat,hkd0,Int.toNat_natCast]
        rfl)
      have HMID:=Lib.hid (fun (G1:GA) (l1':List Nat) (o:OutA) (h:putA gen key v f G l ck=.inl (G1,l1',o))=>put_mid (f:=f) (G1:=G1) (l1':=l1') (o:=o) HC.out ⟨(TrD.ltq (G:=G) (gen:=gen) (d+1) lo hi id _ _ ⟨n,_,HPG.out,HRI.out,rfl,HBD.out⟩ id List.mem_cons_self).1,(TrD.ltq (G:=G) (gen:=gen) (d+1) lo hi id _ _ ⟨n,_,HPG.out,HRI.out,rfl,HBD.out⟩ id List.mem_cons_self).2,HPG.out.page,HFIT.out⟩ HRI.out HLF.out hkd hn hu HK.out (by omega) (by omega) hkb hv (by omega) (by rw [← hat,hkd0,Int.toNat_natCast];exact h))
      have halt:=(List.getElem?_eq_some_iff.1 hkat).1
      have hkl:n.kids.length=n.keys.length+1:=(rightN_inner HRI.out HLF.out).2.1
      have HFEW:=Lib.hid (right_few HRI.out (by have:=HFIT.out;have:=HC.out.s1024;omega))
      have HATL:Hid (at_≤n.keys.length∧at_ < n.kids.length):=Lib.hid ⟨by omega,halt⟩
      have i1:(0:Int)≤(at_:Int):=by omega
      have i2:(at_:Int) < (n.kids.length:Int):=by omega
      have hs1:IntKind.i64.wrap ((dep:Int)+1)=((dep+1:Nat):Int):=by rw [IntWalk.i64_in _ (by omega)];omega
      have HAT:=Lib.hid hat
      obtain ⟨kb,koff,rfl,hkb1,hkc⟩:=sl_ent HVI.out hkat
      have k0:w3.cell? ⟨kb,koff+at_,none⟩=some (.int .i64 (ck:Int)):=by have:=hkc 0 _ rfl;simpa using this
      have hkbP:¬ P2 kb:=fun hp=>by
        obtain ⟨a,cap,e,_,_,_,h4⟩:=HVI.out
        injection e with e _ _
        subst e
        rcases h4 with h4 | ⟨b,off,ha,_,hF,_⟩
        · rw [h4] at halt;simp at halt
        · injection ha with ha
          injection ha with ha _
          subst ha
          exact hF (HN3.out.sub _ hp)
      have HKBP:=Lib.hid hkbP
      have HFD:=findNode_any (w:=w3) n key _ _ (.slice (some ⟨kb,koff,none⟩) n.kids.length ic) HVE.out HVK.out
      rw [HLF.out,findN_inner HLF.out key,← hat] at HFD
      have HFD:=Lib.hid HFD
      clear hn hid hqid huq hpl hu hkd e1 e2 e3 e4 e7 e8 hkat hkd0 hnd2 hde1 hde2 hde3 halt hkl hat hkc hkbP
      go_wp2_with fail
      rw [← HW3.out,← HDD.out]
      refine HFD.out.mono ?_
      rintro e w4 ⟨rfl,hm4⟩
      have hN4:=HN3.out.trans (Nxt.ext HN3.out.env HN3.out.sub hm4)
      have hG4:=HG3.out.at hm4
      have HB4:=Lib.hid (HB3.out.ext hm4)
      have HR4:=Lib.hid (HR3.out.ext hm4)
      have HD4:=Lib.hid (HD3.out.ext hm4)
      have HE4:=Lib.hid (HVE.out.ext hm4)
      have HK4:=Lib.hid (HVK.out.ext hm4)
      have HI4:=Lib.hid (HVI.out.ext hm4)
      have b0:=cellE hm4 b0
      have b1:=cellE hm4 b1
      have b2:=cellE hm4 b2
      have n3:=cellE hm4 n3
      have k0:=cellE hm4 k0
      have hd4:=(Mods.refl (fun _=>False) w4).drew
      obtain ⟨g1,g2,g3⟩:=grow1 (w0:=w) hN4 hG4 outZc 127 hN4.size
      obtain ⟨F4,hF4⟩:∃ F4:Nat→Prop,F4=fun k=>F3 k∨k=w4.heap.size:=⟨_,rfl⟩
      rw [← hF4] at g1 g2 g3
      have HG1:=Lib.hid g1
      have HG3b:=Lib.hid g3
      have HIH1:=Lib.hid (HIH.out F3 w4.drew (hN4.env.mods hd4.ext) hN4.sub (hG4.at hd4))
      have hda:=(Mods.refl (fun _=>False) (w4.alloc (.cells outZc 127))).drew
      have HIH2:=Lib.hid (HIH.out F4 (w4.alloc (.cells outZc 127)).drew (g1.env.mods hda.ext) g1.sub (g2.at hda))
      have HN4:=Lib.hid hN4
      have b0a:=cell_alloc b0 (.cells outZc 127)
      have b1a:=cell_alloc b1 (.cells outZc 127)
      have b2a:=cell_alloc b2 (.cells outZc 127)
      have n3a:=cell_alloc n3 (.cells outZc 127)
      have k0a:=cell_alloc k0 (.cells outZc 127)
      have HD4Z:Hid (w.heap.size+2≤D∧D < w4.heap.size):=Lib.hid ⟨HDZ.out.1,by have:=HDZ.out.2;have:=hm4.size;omega⟩
      have ne0:=World.new_ne w4 _ b0
      have ne1:=World.new_ne w4 _ b1
      have ne2:=World.new_ne w4 _ b2
      have ne3:=World.new_ne w4 _ n3
      have ne4:=World.new_ne w4 _ k0
      unfold pgV at HIH1 HIH2
      clear hN4 hG4 g1 g2 g3 hF4 hd4 hda hm4 r0 r1 r2 r3 r4 rf n0 n1 n2 b0x b1x b2x
      go_wp2_with fail
      go_cut [13,16] (fun v13 v16 wx=>∃ X ev,v16=.pointer (some ⟨X,0,none⟩)∧v13=ev∧Hid (X < wx.heap.size∧D < X)∧Hid (PtSt F P ad w c s gen D #[.bool false,.slice ea n.entries.length ec,.slice ka n.keys.length kc,.slice (some ⟨kb,koff,none⟩) n.kids.length ic] n (.slice ea n.entries.length ec) (.slice ka n.keys.length kc) (.slice (some ⟨kb,koff,none⟩) n.kids.length ic) G l (putA gen key v f G l ck) X ev wx))
      case first =>
        go_region_held3 (fun w'=>w'.cell? ⟨w.heap.size,0,none⟩=some (.pointer (some ⟨c,0,none⟩))∧w'.cell? ⟨w.heap.size,1,none⟩=some (.pointer (some ⟨s,0,none⟩))∧w'.cell? ⟨w.heap.size,2,none⟩=some (.int .u64 (gen:Int))∧w'.cell? ⟨D,3,none⟩=some (.slice (some ⟨kb,koff,none⟩) n.kids.length ic)∧w'.cell? ⟨kb,koff+at_,none⟩=some (.int .i64 (ck:Int)))
          (first | (with_reducible exact ⟨b0,b1,b2,n3,k0⟩) | (with_reducible exact ⟨b0a,b1a,b2a,n3a,k0a⟩) | (with_reducible exact ⟨x0,x1,x2,x3,x4⟩) | go_keep)
          (first
            | (go_at_call 80;refine (HIH1.out).mono ?_;rintro e w9 hq;obtain ⟨P9,F9,G9,l9,o,ev,hG9,hN9,rfl,hr9⟩:=hq.q;have hB9:=(HB4.out.ext (Mods.refl _ w4).drew).nxt hN9;have hD9:=(HD4.out.ext (Mods.refl _ w4).drew).nxt hN9;have x0:=hB9.blk.cell (o:=0) rfl;have x1:=hB9.blk.cell (o:=1) rfl;have x2:=hB9.blk.cell (o:=2) rfl;have x3:=hD9.blk.cell (o:=3) rfl;have x4:=cellP (w:=w4.drew) hN9.stp.mods k0 HKBP.out)
            | (go_at_call 80;refine (HIH2.out).mono ?_;rintro e w9 hq;obtain ⟨P9,F9,G9,l9,o,ev,hG9,hN9,rfl,hr9⟩:=hq.q;have hB9:=(((HB4.out.nxt HG1.out)).ext (Mods.refl _ _).drew).nxt hN9;have hD9:=((HD4.out.nxt HG1.out).ext (Mods.refl _ _).drew).nxt hN9;have x0:=hB9.blk.cell (o:=0) rfl;have x1:=hB9.blk.cell (o:=1) rfl;have x2:=hB9.blk.cell (o:=2) rfl;have x3:=hD9.blk.cell (o:=3) rfl;have x4:=cellP (w:=(w4.alloc (.cells outZc 127)).drew) hN9.stp.mods k0a HKBP.out;have hX9:=(HG3b.out.ext (Mods.refl _ _).drew).nxt hN9;have y0:=hX9.blk.cell (o:=0) rfl;have y1:=hX9.blk.cell (o:=1) rfl;have y2:=hX9.blk.cell (o:=2) rfl;have y3:=hX9.blk.cell (o:=3) rfl;have y4:=hX9.blk.cell (o:=4) rfl;have yf:=hX9.blk.frozen)
            | fail)
        · go_wp2_with fail
          go_meet
          have hd4:=(Mods.refl (fun _=>False) w4).drew
          have hN4d:=HN4.out.trans (Nxt.ext HN4.out.env HN4.out.sub hd4)
          have hNN:=hN4d.trans hN9
          obtain ⟨j1,j2,j3⟩:=grow1 (w0:=w) hNN hG9 (outC o) 127 hNN.size
          have hR9:=(HR4.out.ext hd4).nxt hN9
          refine ⟨w9.heap.size,ev,rfl,rfl,Lib.hid ⟨by simp,by have:=hN9.size;have:=HD4Z.out;exact Nat.lt_of_lt_of_le this.2 hN9.size⟩,Lib.hid ⟨P9,_,G9,l9,o,j2,hNN.trans j1,hB9.nxt j1,hR9.nxt j1,hD9.nxt j1,j3,j1.sl hN9.sub (hN9.sl HN4.out.sub (HE4.out.ext hd4)),j1.sl hN9.sub (hN9.sl HN4.out.sub (HK4.out.ext hd4)),j1.sl hN9.sub (hN9.sl HN4.out.sub (HI4.out.ext hd4)),?_⟩⟩
          rcases hr9 with h9 | ⟨k,f9,el,h1,h2,h3,h4⟩
          · exact .inl h9
          · exact .inr ⟨k,f9,el,h1,h2,h3,j1.errc hN9.sub h4⟩
        · go_wp2_with fail
          go_meet
          have hda:=(Mods.refl (fun _=>False) (w4.alloc (.cells outZc 127))).drew
          have hNa:=HN4.out.trans HG1.out
          have hNN:=(hNa.trans (Nxt.ext hNa.env hNa.sub hda)).trans hN9
          have mX:=Mods.set5 (F:=fun k=>k=w4.heap.size) (Mods.refl _ w9) (R:=w4.heap.size) (.inr rfl) (.int .i64 (o.id0:Int)) (.int .i64 (o.id1:Int)) (.string o.key) (.bool o.two) (.bool o.news)
          have hR9:=((HR4.out.nxt HG1.out).ext hda).nxt hN9
          have hmF:=hX9.mF mX
          have hDZ:=HD4Z.out
          refine ⟨w4.heap.size,ev,rfl,rfl,Lib.hid ⟨Nat.lt_of_lt_of_le hX9.blk.lt mX.size,hDZ.2⟩,Lib.hid ⟨P9,F9,G9,l9,o,hG9.var hX9 mX,hNN.var hX9 mX,hB9.other mX (by omega),hR9.other mX (by omega),hD9.other mX (by omega),⟨hX9.blk.set5 _ _ _ _ _,hX9.f,hX9.p,hX9.new⟩,(hN9.sl HG1.out.sub ((HG1.out.sl HN4.out.sub HE4.out).ext hda)).mods hmF,(hN9.sl HG1.out.sub ((HG1.out.sl HN4.out.sub HK4.out).ext hda)).mods hmF,(hN9.sl HG1.out.sub ((HG1.out.sl HN4.out.sub HI4.out).ext hda)).mods hmF,?_⟩⟩
          rcases hr9 with h9 | ⟨k,f9,el,h1,h2,h3,h4⟩
          · exact .inl h9
          · exact .inr ⟨k,f9,el,h1,h2,h3,h4.mods hmF⟩
      obtain ⟨X,ev,rfl,rfl,HXZ,HPS⟩:=hcut
      obtain ⟨w5,hw5⟩:∃ w5,w5=wc:=⟨_,rfl⟩
      rw [← hw5] at HXZ HPS ⊢
      obtain ⟨P5,F5,G5,l5,o,hG5,hN5,hB5,hR5,hD5,hX5,hE5,hK5,hI5,hr⟩:=HPS.out
      have HG5:=Lib.hid hG5
      have HN5:=Lib.hid hN5
      have HB5:=Lib.hid hB5
      have HR5:=Lib.hid hR5
      have HD5:=Lib.hid hD5
      have HX5:=Lib.hid hX5
      have HE5:=Lib.hid hE5
      have HK5:=Lib.hid hK5
      have HI5:=Lib.hid hI5
      have hxz:=HXZ.out
      have hdz:=HDZ.out
      clear hG5 hN5 hB5 hR5 hD5 hX5 hE5 hK5 hI5 hw5 b0 b1 b2 n3 k0 b0a b1a b2a n3a k0a ne0 ne1 ne2 ne3 ne4 i1 i2
      rcases hr with ⟨hs,rfl⟩ | ⟨k,f5,el,hs,hfr,rfl,hE⟩
      · obtain ⟨hok,hfr⟩:=HMID.out _ _ _ hs
        have HS:=Lib.hid hs
        have HOK:=Lib.hid hok
        have HFR:=Lib.hid hfr
        obtain ⟨tw,htw⟩:∃ tw,o.two=tw:=⟨_,rfl⟩
        have x0:=HX5.out.blk.cell (o:=0) (v:=.int .i64 (o.id0:Int)) rfl
        have x1:=HX5.out.blk.cell (o:=1) (v:=.int .i64 (o.id1:Int)) rfl
        have x2:=HX5.out.blk.cell (o:=2) (v:=.string o.key) rfl
        have x3:=HX5.out.blk.cell (o:=3) (v:=.bool o.two) rfl
        rw [htw] at x3
        have n2:=HD5.out.blk.cell (o:=2) rfl
        have n3:=HD5.out.blk.cell (o:=3) rfl
        have nf:=HD5.out.blk.frozen
        have HTW:=Lib.hid htw
        obtain ⟨n',hn'⟩:∃ n',n'=joinA n at_ o:=⟨_,rfl⟩
        have HN':=Lib.hid hn'
        clear hs hok hfr htw hn'
        go_upto_if 69 with fail
        go_cut [] (fun wx=>∃ (ka':Option Addr) (kc':Nat) (ia':Option Addr) (ic':Nat),Hid (JnSt F P ad w c s gen D X n' o G5 l5 (.slice ea n.entries.length ec) (.slice ka' n'.keys.length kc') (.slice ia' n'.kids.length ic') wx))
        case first =>
          have hXD:X ≠ D:=by omega
          have hDX:D ≠ X:=by omega
          have HFL:=Lib.hid (fun k (hk:F5 k)=>HN5.out.env.lt k hk)
          cases tw with
          | true =>
            have hjt:n' = { n with kids:=n.kids.take at_ ++ [(o.id0:Int),(o.id1:Int)] ++ n.kids.drop (at_+1),keys:=n.keys.take at_ ++ [o.key] ++ n.keys.drop (at_+0) }:=by rw [HN'.out];unfold joinA;rw [if_pos HTW.out]
            have HJK:Hid (n.kids.take at_ ++ [(o.id0:Int),(o.id1:Int)] ++ n.kids.drop (at_+1)=n'.kids):=Lib.hid (by rw [hjt])
            have HJS:Hid (n.keys.take at_ ++ [o.key] ++ n.keys.drop (at_+0)=n'.keys):=Lib.hid (by rw [hjt])
            have HJE:Hid (n'.entries=n.entries):=Lib.hid (by rw [hjt])
            obtain ⟨w6,hw6⟩:∃ w6,w6=w5.alloc (.cells #[.int .i64 (o.id0:Int),.int .i64 (o.id1:Int)] 3):=⟨_,rfl⟩
            have m6:Ext w5 w6:=by rw [hw6];exact (Mods.refl _ _).alloc _
            have HLI:=Lib.hid (laidI_any (w:=w6) _ _ n.kids [(o.id0:Int),(o.id1:Int)] (HI5.out.ext m6) (Sl.two (F:=fun _=>False) (b:=w5.heap.size) (t := 3) (fz:=(0,0)) encI_ok.len (by rw [hw6];exact heap_at rfl) (fun f=>f)) at_ 1 (by have:=HATL.out;omega) (by have:=HFEW.out;omega) (by simp))
            have M6:=Lib.hid m6
            have HW6:=Lib.hid hw6
            clear hjt m6 hw6
            go_wp2_with fail
            rw [← HW6.out]
            refine HLI.out.mono ?_
            rintro e w7 ⟨v7,rfl,hO7,hm7⟩
            rw [HJK.out] at hO7
            obtain ⟨oa,oc,rfl, -, -⟩:=hO7.form
            have m7:Ext w5 w7:=M6.out.trans hm7
            have HO7:=Lib.hid (hO7.slF (F:=F5) (fun k hk=>Nat.lt_of_lt_of_le (HFL.out k hk) M6.out.size) encI_ok.len (by rw [← HJK.out];have:=HFEW.out;simp;omega))
            have hD7:=HD5.out.ext m7
            have hX7:=HX5.out.ext m7
            have n2:=hD7.blk.cell (o:=2) (v:=.slice ka n.keys.length kc) rfl
            have n3:=hD7.blk.cell (o:=3) (v:=.slice (some ⟨kb,koff,none⟩) n.kids.length ic) rfl
            have nf:=hD7.blk.frozen
            have x2:=hX7.blk.cell (o:=2) (v:=.string o.key) rfl
            have mD:Mods (fun k=>k=D) w7 (w7.setCell ⟨D,3,none⟩ (.slice oa n'.kids.length oc)):=Mods.at _ w7 _ 3 _ rfl
            have hmF:=hD7.mF mD
            obtain ⟨w8,hw8⟩:∃ w8,w8=(w7.setCell ⟨D,3,none⟩ (.slice oa n'.kids.length oc)).alloc (.cells #[.string o.key] 9):=⟨_,rfl⟩
            have m8:Ext (w7.setCell ⟨D,3,none⟩ (.slice oa n'.kids.length oc)) w8:=by rw [hw8];exact (Mods.refl _ _).alloc _
            have hsz8:(w7.setCell ⟨D,3,none⟩ (.slice oa n'.kids.length oc)).heap.size=w7.heap.size:=by simp [World.setCell]
            have HLS0:=laidS_any (w:=w8) _ _ n.keys [o.key] (((HK5.out.ext m7).mods hmF).ext m8) (Sl.one (F:=fun _=>False) (b:=(w7.setCell ⟨D,3,none⟩ (.slice oa n'.kids.length oc)).heap.size) (t := 9) (fz:=(0,0)) (by rw [hw8];exact heap_at rfl) (fun f=>f)) at_ 0 (by have:=HATL.out;omega) (by have:=HFEW.out;omega) (by simp)
            rw [hsz8,show ((0:Nat):Int)=0 from rfl] at HLS0
            have HLS:=Lib.hid HLS0
            have HDD7:Hid (VarR F5 P5 w (w7.setCell ⟨D,3,none⟩ (.slice oa n'.kids.length oc)) D #[.bool false,.slice ea n.entries.length ec,.slice ka n.keys.length kc,.slice oa n'.kids.length oc] 26):=Lib.hid (by simpa using hD7.put 3 (.slice oa n'.kids.length oc))
            have HG7:=Lib.hid ((HG5.out.at m7).var hD7 mD)
            have HN7:=Lib.hid ((HN5.out.trans (Nxt.ext HN5.out.env HN5.out.sub m7)).var hD7 mD)
            have HB7:=Lib.hid ((HB5.out.ext m7).other mD (by omega))
            have HR7:=Lib.hid ((HR5.out.ext m7).other mD (by omega))
            have HX7:=Lib.hid (hX7.other mD hXD)
            have HE7:=Lib.hid ((HE5.out.ext m7).mods hmF)
            have HI7:=Lib.hid (HO7.out.mods hmF)
            have M8:=Lib.hid m8
            have HW8:=Lib.hid hw8
            clear hO7 hm7 m7 hD7 hX7 mD hmF m8 hw8 HLS0 hsz8
            go_wp2_with fail
            rw [← HW8.out]
            refine HLS.out.mono ?_
            rintro e w9 ⟨v9,rfl,hO9,hm9⟩
            rw [HJS.out] at hO9
            obtain ⟨sa,sc,rfl, -, -⟩:=hO9.form
            have m9:=M8.out.trans hm9
            have HO9:=Lib.hid (hO9.slF (F:=F5) (fun k hk=>Nat.lt_of_lt_of_le (HN7.out.env.lt k hk) M8.out.size) encS_ok.len (by rw [← HJS.out];have:=HFEW.out;simp;omega))
            have hD9:=HDD7.out.ext m9
            have nf:=hD9.blk.frozen
            have n2:=hD9.blk.cell (o:=2) (v:=.slice ka n.keys.length kc) rfl
            have mD:Mods (fun k=>k=D) w9 (w9.setCell ⟨D,2,none⟩ (.slice sa n'.keys.length sc)):=Mods.at _ w9 _ 2 _ rfl
            have hmF:=hD9.mF mD
            have HDD9:Hid (VarR F5 P5 w (w9.setCell ⟨D,2,none⟩ (.slice sa n'.keys.length sc)) D #[.bool false,.slice ea n.entries.length ec,.slice sa n'.keys.length sc,.slice oa n'.kids.length oc] 26):=Lib.hid (by simpa using hD9.put 2 (.slice sa n'.keys.length sc))
            have HST:Hid (JnSt F P ad w c s gen D X n' o G5 l5 (.slice ea n.entries.length ec) (.slice sa n'.keys.length sc) (.slice oa n'.kids.length oc) (w9.setCell ⟨D,2,none⟩ (.slice sa n'.keys.length sc))):=Lib.hid (by
              refine ⟨P5,F5,(HG7.out.at m9).var hD9 mD,(HN7.out.trans (Nxt.ext HN7.out.env HN7.out.sub m9)).var hD9 mD,(HB7.out.ext m9).other mD (by omega),(HR7.out.ext m9).other mD (by omega),HDD9.out,(HX7.out.ext m9).other mD hXD,?_,HO9.out.mods hmF,(HI7.out.ext m9).mods hmF⟩
              rw [HJE.out];exact (HE7.out.ext m9).mods hmF)
            clear hO9 hm9 m9 hD9 mD hmF
            go_wp2_with fail
            go_meet
            exact ⟨sa,sc,oa,oc,HST⟩
          | false =>
            have hjt:n' = { n with kids:=n.kids.take at_ ++ [(o.id0:Int)] ++ n.kids.drop (at_+1) }:=by rw [HN'.out];unfold joinA;rw [if_neg (by rw [HTW.out];simp)]
            have HJK:Hid (n.kids.take at_ ++ [(o.id0:Int)] ++ n.kids.drop (at_+1)=n'.kids):=Lib.hid (by rw [hjt])
            have HJS:Hid (n'.keys=n.keys):=Lib.hid (by rw [hjt])
            have HJE:Hid (n'.entries=n.entries):=Lib.hid (by rw [hjt])
            obtain ⟨w6,hw6⟩:∃ w6,w6=w5.alloc (.cells #[.int .i64 (o.id0:Int)] 3):=⟨_,rfl⟩
            have m6:Ext w5 w6:=by rw [hw6];exact (Mods.refl _ _).alloc _
            have HLI:=Lib.hid (laidI_any (w:=w6) _ _ n.kids [(o.id0:Int)] (HI5.out.ext m6) (Sl.one (F:=fun _=>False) (b:=w5.heap.size) (t := 3) (fz:=(0,0)) (by rw [hw6];exact heap_at rfl) (fun f=>f)) at_ 1 (by have:=HATL.out;omega) (by have:=HFEW.out;omega) (by simp))
            have M6:=Lib.hid m6
            have HW6:=Lib.hid hw6
            clear hjt m6 hw6
            go_wp2_with fail
            rw [← HW6.out]
            refine HLI.out.mono ?_
            rintro e w7 ⟨v7,rfl,hO7,hm7⟩
            rw [HJK.out] at hO7
            obtain ⟨oa,oc,rfl, -, -⟩:=hO7.form
            have m7:Ext w5 w7:=M6.out.trans hm7
            have HO7:=Lib.hid (hO7.slF (F:=F5) (fun k hk=>Nat.lt_of_lt_of_le (HFL.out k hk) M6.out.size) encI_ok.len (by rw [← HJK.out];have:=HFEW.out;simp;omega))
            have hD7:=HD5.out.ext m7
            have n3:=hD7.blk.cell (o:=3) (v:=.slice (some ⟨kb,koff,none⟩) n.kids.length ic) rfl
            have nf:=hD7.blk.frozen
            have mD:Mods (fun k=>k=D) w7 (w7.setCell ⟨D,3,none⟩ (.slice oa n'.kids.length oc)):=Mods.at _ w7 _ 3 _ rfl
            have hmF:=hD7.mF mD
            have HDD7:Hid (VarR F5 P5 w (w7.setCell ⟨D,3,none⟩ (.slice oa n'.kids.length oc)) D #[.bool false,.slice ea n.entries.length ec,.slice ka n.keys.length kc,.slice oa n'.kids.length oc] 26):=Lib.hid (by simpa using hD7.put 3 (.slice oa n'.kids.length oc))
            have HST:Hid (JnSt F P ad w c s gen D X n' o G5 l5 (.slice ea n.entries.length ec) (.slice ka n'.keys.length kc) (.slice oa n'.kids.length oc) (w7.setCell ⟨D,3,none⟩ (.slice oa n'.kids.length oc))):=Lib.hid (by
              refine ⟨P5,F5,(HG5.out.at m7).var hD7 mD,(HN5.out.trans (Nxt.ext HN5.out.env HN5.out.sub m7)).var hD7 mD,(HB5.out.ext m7).other mD (by omega),(HR5.out.ext m7).other mD (by omega),?_,(HX5.out.ext m7).other mD hXD,?_,?_,HO7.out.mods hmF⟩
              · rw [HJS.out];exact HDD7.out
              · rw [HJE.out];exact (HE5.out.ext m7).mods hmF
              · rw [HJS.out];exact (HK5.out.ext m7).mods hmF)
            clear hO7 hm7 m7 hD7 mD hmF
            go_wp2_with fail
            go_meet
            exact ⟨ka,kc,oa,oc,HST⟩
        obtain ⟨sa,sc,oa,oc,HJS⟩:=hcut
        obtain ⟨w6,hw6⟩:∃ w6,w6=wc:=⟨_,rfl⟩
        rw [← hw6] at HJS ⊢
        obtain ⟨P6,F6,hG6,hN6,hB6,hR6,hD6,hX6,hE6,hK6,hI6⟩:=HJS.out
        have hnl:n'.leaf=false:=by
          rw [HN'.out]
          unfold joinA
          split <;> exact HLF.out
        have hokn:SetOk G5 l5 id n':=by rw [HN'.out];have:=HOK.out;rw [← HAT.out] at this;exact this
        have HELN:Hid (n'.entries=n.entries):=Lib.hid (by
          rw [HN'.out]
          unfold joinA
          split <;> rfl)
        have HST:=settle_any n' hN6.env hN6.sub hG6 gen id hgen _ _ _ hE6 hK6 hI6 hokn
        rw [hnl] at HST
        unfold pgV at HST
        have HST:=Lib.hid HST
        have b0:=hB6.blk.cell (o:=0) rfl
        have b1:=hB6.blk.cell (o:=1) rfl
        have b2:=hB6.blk.cell (o:=2) rfl
        have n0:=hD6.blk.cell (o:=0) rfl
        have n1:=hD6.blk.cell (o:=1) rfl
        have n2:=hD6.blk.cell (o:=2) rfl
        have n3:=hD6.blk.cell (o:=3) rfl
        have HN6:=Lib.hid hN6
        have HR6:=Lib.hid hR6
        have HX6:=Lib.hid hX6
        clear hG6 hN6 hB6 hR6 hD6 hX6 hE6 hK6 hI6 hnl hokn hw6 x0 x1 x2 x3 nf
        go_wp2_with fail
        refine HST.out.mono ?_
        rintro e w7 hq
        obtain ⟨P7,F7,G7,l7,o2,ev2,hG7,hN7,rfl,hr⟩:=hq.q
        have hR7:=HR6.out.nxt hN7
        have hX7:=HX6.out.nxt hN7
        have HG7:=Lib.hid hG7
        have HN7:=Lib.hid (HN6.out.trans hN7)
        have hRlt:w.heap.size+1 < w7.heap.size:=hR7.blk.lt
        have hXlt:X < w7.heap.size:=hX7.blk.lt
        have q0:=hR7.blk.cell (o:=0) rfl
        have q1:=hR7.blk.cell (o:=1) rfl
        have q2:=hR7.blk.cell (o:=2) rfl
        have q3:=hR7.blk.cell (o:=3) rfl
        have q4:=hR7.blk.cell (o:=4) rfl
        have qf:=hR7.blk.frozen
        have x4:=hX7.blk.cell (o:=4) (v:=.bool o.news) rfl
        have x4c:=cell_alloc x4 (.cells #[.int .i64 (o2.id0:Int),.int .i64 (o2.id1:Int),.string o2.key,.bool o2.two,.bool o2.news] 127)
        have hne7:w7.heap.size ≠ w.heap.size+1:=by omega
        have hnX7:w7.heap.size ≠ X:=by omega
        have HR7:=Lib.hid hR7
        clear hq hG7 hN7 hR7 hX7 b0 b1 b2 n0 n1 n2 n3
        rcases hr with ⟨hs,rfl⟩ | ⟨k,f7,el,hs,hfr,rfl,hE⟩
        · have HS7:Hid (putA gen key v (f+1) G l id=.inl (G7,l7,{ o2 with news:=o.news })):=Lib.hid (by rw [HPA.out,HS.out];simp only;rw [← HN'.out,hs])
          clear hs
          go_wp2_with fail
          have mR:=Mods.set5 (F:=fun k=>k=w.heap.size+1) (Mods.refl _ w7) (R:=w.heap.size+1) (.inr rfl) (.int .i64 (o2.id0:Int)) (.int .i64 (o2.id1:Int)) (.string o2.key) (.bool o2.two) (.bool o.news)
          have bR:=HR7.out.blk.set5 (.int .i64 (o2.id0:Int)) (.int .i64 (o2.id1:Int)) (.string o2.key) (.bool o2.two) (.bool o.news)
          have gR:=HG7.out.var HR7.out mR
          have nR:=HN7.out.var HR7.out mR
          have mA:=(Mods.refl (fun _=>False) (((((w7.setCell ⟨w.heap.size+1,0,none⟩ (.int .i64 (o2.id0:Int))).setCell ⟨w.heap.size+1,1,none⟩ (.int .i64 (o2.id1:Int))).setCell ⟨w.heap.size+1,2,none⟩ (.string o2.key)).setCell ⟨w.heap.size+1,3,none⟩ (.bool o2.two)).setCell ⟨w.heap.size+1,4,none⟩ (.bool o.news))).alloc (.cells #[.int .i64 (o2.id0:Int),.int .i64 (o2.id1:Int),.string o2.key,.bool o2.two,.bool o.news] 127)
          refine bodyPost_ret (results_row_tmp rfl _ _ (w.heap.size+1) 127 _ _ rfl (bR.ext mA) Tryz.underlying127 rfl Tryz.outSz) rfl ?_
          exact ⟨P7,F7,G7,l7,gR.at mA,nR.trans (Nxt.ext nR.env nR.sub mA),.inl ⟨{ o2 with news:=o.news },HS7.out,rfl⟩⟩
        · have HS7:Hid (putA gen key v (f+1) G l id=.inr k):=Lib.hid (by rw [HPA.out,HS.out];simp only;rw [← HN'.out,hs])
          have HFR7:=Lib.hid (HFR.out.trans hfr)
          have HE7:=Lib.hid hE
          clear hs hfr hE
          go_wp2_with fail
          have mR:=Mods.set5 (F:=fun k=>k=w.heap.size+1) (Mods.refl _ w7) (R:=w.heap.size+1) (.inr rfl) (.int .i64 (o2.id0:Int)) (.int .i64 (o2.id1:Int)) (.string o2.key) (.bool o2.two) (.bool o.news)
          have bR:=HR7.out.blk.set5 (.int .i64 (o2.id0:Int)) (.int .i64 (o2.id1:Int)) (.string o2.key) (.bool o2.two) (.bool o.news)
          have gR:=HG7.out.var HR7.out mR
          have nR:=HN7.out.var HR7.out mR
          have mA:=(Mods.refl (fun _=>False) (((((w7.setCell ⟨w.heap.size+1,0,none⟩ (.int .i64 (o2.id0:Int))).setCell ⟨w.heap.size+1,1,none⟩ (.int .i64 (o2.id1:Int))).setCell ⟨w.heap.size+1,2,none⟩ (.string o2.key)).setCell ⟨w.heap.size+1,3,none⟩ (.bool o2.two)).setCell ⟨w.heap.size+1,4,none⟩ (.bool o.news))).alloc (.cells #[.int .i64 (o2.id0:Int),.int .i64 (o2.id1:Int),.string o2.key,.bool o2.two,.bool o.news] 127)
          refine bodyPost_ret (results_row_tmp rfl _ _ (w.heap.size+1) 127 _ _ rfl (bR.ext mA) Tryz.underlying127 rfl Tryz.outSz) rfl ?_
          exact ⟨P7,F7,G7,l7,gR.at mA,nR.trans (Nxt.ext nR.env nR.sub mA),.inr ⟨k,{ o2 with news:=o.news },f7,el,HS7.out,HFR7.out,rfl,(HE7.out.mods (HR7.out.mF mR)).mods mA.ext⟩⟩
      · have HS7:Hid (putA gen key v (f+1) G l id=.inr k):=Lib.hid (by rw [HPA.out,hs])
        have HFR7:=Lib.hid hfr
        have HE7:=Lib.hid hE
        have q0:=HR5.out.blk.cell (o:=0) rfl
        have q1:=HR5.out.blk.cell (o:=1) rfl
        have q2:=HR5.out.blk.cell (o:=2) rfl
        have q3:=HR5.out.blk.cell (o:=3) rfl
        have q4:=HR5.out.blk.cell (o:=4) rfl
        have qf:=HR5.out.blk.frozen
        clear hs hfr hE
        go_wp2_with fail
        have mR:=Mods.set5 (F:=fun k=>k=w.heap.size+1) (Mods.refl _ w5) (R:=w.heap.size+1) (.inr rfl) (.int .i64 0) (.int .i64 0) (.string ⟨#[]⟩) (.bool false) (.bool false)
        have bR:=HR5.out.blk.set5 (.int .i64 0) (.int .i64 0) (.string ⟨#[]⟩) (.bool false) (.bool false)
        refine bodyPost_ret (results_row_tmp rfl _ _ (w.heap.size+1) 127 _ _ rfl bR Tryz.underlying127 rfl Tryz.outSz) rfl ?_
        exact ⟨P5,F5,G5,l5,HG5.out.var HR5.out mR,HN5.out.var HR5.out mR,.inr ⟨k,out0,f5,el,HS7.out,HFR7.out,rfl,HE7.out.mods (HR5.out.mF mR)⟩⟩
end
end Go.Proofs.YtphafjmdhmpkbaaGreatDoor
