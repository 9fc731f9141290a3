/- insert.leaf of a new key with a short value, in a leaf where it fits. | insert.leaf: a leaf with a pair. | What the walks of insert.leaf, put and settle ask, of trees. Plain. -/
import Derived.Test.YtphafjmdhmpkbaaGreatDoorK33
import Derived.Test.YtphafjmdhmpkbaaGreatDoorK30
namespace Go.Proofs.YtphafjmdhmpkbaaGreatDoor
open Go.RowKit
attribute [local go_sem ↓] Go.wp_at_zero Go.wp_at_succ
section
variable {P P' F F':Nat→Prop} {ad:Nat→Addr} {w w':World} {c s:Nat} {G:GA} {l:List Nat}
def newsA (b:Bool):StA OutA→StA OutA
  | .inr k=>.inr k
  | .inl (G2,l2,o)=>.inl (G2,l2,{ o with news:=b })
theorem withE_new {n:NodeA} {key:ByteArray} (hno:entIs key n.entries=false) (e:EntryA):(withE n key e).entries=n.entries.take (entAt key n.entries) ++ [e] ++ n.entries.drop (entAt key n.entries+0):=by
  unfold withE;rw [hno];rfl
theorem entAt_le (key:ByteArray) (es:List EntryA):entAt key es≤es.length:=List.findIdx_le_length
set_option maxRecDepth 100000 in
set_option maxHeartbeats 4000000 in
theorem leafS_any (n:NodeA) (hlf:n.leaf=true) (key v:ByteArray) (hno:entIs key n.entries=false) (hv:v.size≤24) (hF:weightN (withE n key ⟨key,v,0,0⟩)≤(G.size:Int) - 24) (hL:Env F ad w) (hP:∀ k,P k→F k) (h:PgR F w P c s G l) (gen old:Nat) (hgen:gen < 18446744073709551616) (ve vk vi:Value) (hve:Sl F w 4 encE ve n.entries) (hvk:Sl F w 1 encS vk n.keys) (hvi:Sl F w 1 encI vi n.kids) (hfew:n.entries.length≤100000) (hok:SetOk G l old (withE n key ⟨key,v,0,0⟩)) :
    Calls Tryz.prog 79 #[pgV c s gen,.int .i64 (old:Int),.agg #[.bool true,ve,vk,vi],.string key,.string v] w (OutP F P ad w c s G l (newsA true (settleA G l gen old (withE n key ⟨key,v,0,0⟩)))):=by
  obtain ⟨w1,hw1⟩:∃ w1,w1=((w.alloc (.cells #[.pointer (some ⟨c,0,none⟩),.pointer (some ⟨s,0,none⟩),.int .u64 (gen:Int)] 45)).alloc (.cells #[.bool true,ve,vk,vi] 26)).alloc (.cells outZc 127):=⟨_,rfl⟩
  have m0:Ext w w1:=by rw [hw1];exact (((Mods.refl _ w).alloc _).alloc _).alloc _
  have hz:w1.heap.size=w.heap.size+3:=by rw [hw1];simp
  have hN:Nxt P P F (fun k=>F k∨(w.heap.size≤k∧k < w1.heap.size)) ad w w1:=Nxt.new hL hP (Q:=fun k=>w.heap.size≤k∧k < w1.heap.size) m0 (fun k hk=>hk.1) (fun k hk=>hk.2)
  have HB:=Lib.hid (show VarR (fun k=>F k∨(w.heap.size≤k∧k < w1.heap.size)) P w w1 w.heap.size #[.pointer (some ⟨c,0,none⟩),.pointer (some ⟨s,0,none⟩),.int .u64 (gen:Int)] 45 from ⟨by rw [hw1];exact ((Blk.new w _ _).alloc _).alloc _,.inr ⟨by omega,by omega⟩,fun hp=>by have:=h.bd _ hp;omega,by omega⟩)
  have HD:=Lib.hid (show VarR (fun k=>F k∨(w.heap.size≤k∧k < w1.heap.size)) P w w1 (w.heap.size+1) #[.bool true,ve,vk,vi] 26 from ⟨by rw [hw1];exact (show Blk ((w.alloc _).alloc (.cells #[.bool true,ve,vk,vi] 26)) (w.heap.size+1) #[.bool true,ve,vk,vi] 26 from heap_at (by simp)).alloc _,.inr ⟨by omega,by omega⟩,fun hp=>by have:=h.bd _ hp;omega,by omega⟩)
  have HR:=Lib.hid (show VarR (fun k=>F k∨(w.heap.size≤k∧k < w1.heap.size)) P w w1 (w.heap.size+1+1) outZc 127 from ⟨by rw [hw1];exact heap_at (by simp),.inr ⟨by omega,by omega⟩,fun hp=>by have:=h.bd _ hp;omega,by omega⟩)
  have HG:=Lib.hid (h.plusNew hP (Q:=fun k=>w.heap.size≤k∧k < w1.heap.size) m0 (fun k hk=>hk.1))
  have HVE:=Lib.hid (hN.sl hP hve)
  have HVK:=Lib.hid (hN.sl hP hvk)
  have HVI:=Lib.hid (hN.sl hP hvi)
  have HN:=Lib.hid hN
  have HOK:=Lib.hid hok
  have HFIT:=Lib.hid hF
  have HFN:=Lib.hid (findN_leaf hlf key)
  have HNO:=Lib.hid hno
  have HLF:=Lib.hid hlf
  obtain ⟨ea,ec,rfl,_,_,_,_⟩:=hve
  obtain ⟨ka,kc,rfl,_,_,_,_⟩:=hvk
  obtain ⟨ia,ic,rfl,_,_,_,_⟩:=hvi
  obtain ⟨at_,hat⟩:∃ at_,at_=entAt key n.entries:=⟨_,rfl⟩
  have hal:at_≤n.entries.length:=by rw [hat];exact entAt_le _ _
  have HAT:=Lib.hid hat
  have b0:=HB.out.blk.cell (o:=0) rfl
  have b1:=HB.out.blk.cell (o:=1) rfl
  have b2:=HB.out.blk.cell (o:=2) rfl
  have n0:=HD.out.blk.cell (o:=0) rfl
  have n1:=HD.out.blk.cell (o:=1) rfl
  have n2:=HD.out.blk.cell (o:=2) rfl
  have n3:=HD.out.blk.cell (o:=3) rfl
  have HW1:=Lib.hid hw1
  have HFD:=findNode_any n key _ _ (.slice ia n.kids.length ic) HVE.out HVK.out
  rw [hlf,findN_leaf hlf key,hno,← hat] at HFD
  have HFD:=Lib.hid HFD
  have HEN:=Lib.hid (fun W=>entryS_any (c:=c) (s:=s) (w:=W) gen key v hv)
  clear hL hP h m0 hN hok hw1 hF hlf hno hv hat
  unfold pgV at HEN ⊢
  go_enter Tryz.func79, Tryz.ntmps79
  go_wp2_with fail
  rw [← HW1.out]
  refine HFD.out.mono ?_
  rintro e w2 ⟨rfl,hm2⟩
  have HX2:=Lib.hid hm2
  have b0:=cellE hm2 b0
  have b1:=cellE hm2 b1
  have b2:=cellE hm2 b2
  clear hm2
  go_wp2_with fail
  refine (HEN.out _).mono ?_
  rintro e w3 ⟨rfl,hm3⟩
  obtain ⟨w4,hw4⟩:∃ w4,w4=(w3.alloc (.cells #[.string key,.string v,.int .i64 0,.int .i64 0] 107)).alloc (.cells #[.string key,.string v,.int .i64 0,.int .i64 0] 107):=⟨_,rfl⟩
  have hm4:Ext w1 w4:=by rw [hw4];exact ((HX2.out.trans hm3).alloc _).alloc _
  have HX4:=Lib.hid hm4
  have n1:=(HD.out.ext (HX2.out.trans hm3)).blk.cell (o:=1) rfl
  have n1c:=cell_alloc n1 (.cells #[.string key,.string v,.int .i64 0,.int .i64 0] 107)
  have HSL1:Hid (Sl (fun k=>F k∨(w.heap.size≤k∧k < w1.heap.size)) w4 4 encE (.slice (some ⟨w3.heap.size+1,0,none⟩) 1 1) [(⟨key,v,0,0⟩:EntryA)]):=Lib.hid (Sl.one (by rw [hw4];exact heap_at (by simp)) (fun f=>by
    rcases f with f | f
    · have:=HN.out.env.lt _ (.inl f);have:=(HX2.out.trans hm3).size;omega
    · have:=(HX2.out.trans hm3).size;omega))
  have n1b:w4.cell? ⟨w.heap.size+1,1,none⟩=some (.slice ea n.entries.length ec):=(HD.out.ext hm4).blk.cell (o:=1) rfl
  have HW4:=Lib.hid hw4
  clear hm3 hm4 hw4
  go_wp2_with fail
  rw [← HW4.out]
  refine (laidE_any _ _ n.entries [(⟨key,v,0,0⟩:EntryA)] (HVE.out.ext HX4.out) HSL1.out at_ 0 (by omega) (by omega) (by simp)).mono ?_
  rintro e w5 ⟨ev,rfl,hO5,hm5⟩
  obtain ⟨oa,oc,rfl,_,_⟩:=hO5.form
  have HL5:Hid ((n.entries.take at_ ++ [(⟨key,v,0,0⟩:EntryA)] ++ n.entries.drop (at_+0))=(withE n key ⟨key,v,0,0⟩).entries):=Lib.hid (by rw [withE_new HNO.out,HAT.out])
  rw [HL5.out] at hO5 ⊢
  have HX5:=Lib.hid (HX4.out.trans hm5)
  have hD5:=HD.out.ext HX5.out
  have HO5:=Lib.hid (hO5.rebase (base':=w1.heap.size) HX4.out.size)
  have d0:=hD5.blk.cell (o:=0) (v:=.bool true) rfl
  have d1:=hD5.blk.cell (o:=1) (v:=.slice ea n.entries.length ec) rfl
  have d2:=hD5.blk.cell (o:=2) (v:=.slice ka n.keys.length kc) rfl
  have d3:=hD5.blk.cell (o:=3) (v:=.slice ia n.kids.length ic) rfl
  have df:=hD5.blk.frozen
  have b0:=(HB.out.ext HX5.out).blk.cell (o:=0) rfl
  have b1:=(HB.out.ext HX5.out).blk.cell (o:=1) rfl
  have b2:=(HB.out.ext HX5.out).blk.cell (o:=2) rfl
  obtain ⟨n',hn'⟩:∃ n',n'=withE n key ⟨key,v,0,0⟩:=⟨_,rfl⟩
  have HN':Hid (n'.leaf=true∧n'.keys=n.keys∧n'.kids=n.kids):=Lib.hid (by rw [hn'];exact ⟨HLF.out,rfl,rfl⟩)
  rw [← hn'] at HO5 HOK HFIT HL5 ⊢
  have mD:Mods (fun k=>k=w.heap.size+1) w5 (w5.setCell ⟨w.heap.size+1,1,none⟩ (.slice oa n'.entries.length oc)):=Mods.at _ w5 _ 1 _ rfl
  have HGD:=Lib.hid ((HG.out.at HX5.out).var hD5 mD)
  have HND:=Lib.hid ((HN.out.trans (Nxt.ext HN.out.env HN.out.sub HX5.out)).var hD5 mD)
  have HRD:=Lib.hid ((HR.out.ext HX5.out).other mD (by omega))
  have hmF:=hD5.mF mD
  have HSE:Hid (Sl (fun k=>F k∨(w.heap.size≤k∧k < w1.heap.size)) (w5.setCell ⟨w.heap.size+1,1,none⟩ (.slice oa n'.entries.length oc)) 4 encE (.slice oa n'.entries.length oc) n'.entries):=Lib.hid ((HO5.out.slF (fun k hk=>by
    rcases hk with hk | hk
    · exact HN.out.env.lt k (.inl hk)
    · exact hk.2) encE_ok.len (by have:=HOK.out.few.1;omega)).mods hmF)
  have HSK:=Lib.hid (((HVK.out.ext HX5.out).mods hmF))
  have HSI:=Lib.hid (((HVI.out.ext HX5.out).mods hmF))
  have HST:=settleF_any n' HFIT.out HND.out.env HND.out.sub HGD.out gen old hgen _ _ _ HSE.out (by rw [HN'.out.2.1];exact HSK.out) (by rw [HN'.out.2.2];exact HSI.out) HOK.out
  rw [HN'.out.1] at HST
  unfold pgV at HST
  have HST:=Lib.hid HST
  have HNN:=Lib.hid hn'
  clear hO5 hm5 hD5 mD hmF hn'
  go_wp2_with fail
  refine HST.out.mono ?_
  rintro e w6 ⟨P6,F6,G6,l6,hG6,hN6,hr⟩
  have HR6:=Lib.hid (HRD.out.nxt hN6)
  have HG6:=Lib.hid hG6
  have HN6:=Lib.hid (HND.out.trans hN6)
  have hlt6:w.heap.size+1+1 < w6.heap.size:=HR6.out.blk.lt
  have hne6:w6.heap.size ≠ w.heap.size+1+1:=by omega
  clear hG6 hN6
  rcases hr with ⟨o,hs,rfl⟩ | ⟨k,o,f,el,hs,hfr,rfl,hE⟩
  · have HS:=Lib.hid hs
    clear hs
    unfold outC
    have q0:=HR6.out.blk.cell (o:=0) rfl
    have q1:=HR6.out.blk.cell (o:=1) rfl
    have q2:=HR6.out.blk.cell (o:=2) rfl
    have q3:=HR6.out.blk.cell (o:=3) rfl
    have q4:=HR6.out.blk.cell (o:=4) rfl
    have qf:=HR6.out.blk.frozen
    go_wp2_with fail
    have mR:=Mods.set5 (F:=fun k=>k=w.heap.size+1+1) (Mods.refl _ w6) (R:=w.heap.size+1+1) (.inr rfl) (.int .i64 (o.id0:Int)) (.int .i64 (o.id1:Int)) (.string o.key) (.bool o.two) (.bool true)
    have bR:=HR6.out.blk.set5 (.int .i64 (o.id0:Int)) (.int .i64 (o.id1:Int)) (.string o.key) (.bool o.two) (.bool true)
    have gR:=HG6.out.var HR6.out mR
    have nR:=HN6.out.var HR6.out mR
    have mA:=(Mods.refl (fun _=>False) (((((w6.setCell ⟨w.heap.size+1+1,0,none⟩ (.int .i64 (o.id0:Int))).setCell ⟨w.heap.size+1+1,1,none⟩ (.int .i64 (o.id1:Int))).setCell ⟨w.heap.size+1+1,2,none⟩ (.string o.key)).setCell ⟨w.heap.size+1+1,3,none⟩ (.bool o.two)).setCell ⟨w.heap.size+1+1,4,none⟩ (.bool true))).alloc (.cells #[.int .i64 (o.id0:Int),.int .i64 (o.id1:Int),.string o.key,.bool o.two,.bool true] 127)
    refine bodyPost_ret (results_row_tmp rfl _ _ (w.heap.size+1+1) 127 _ _ rfl (bR.ext mA) Tryz.underlying127 rfl Tryz.outSz) rfl ?_
    exact ⟨P6,F6,G6,l6,gR.at mA,nR.trans (Nxt.ext nR.env nR.sub mA),.inl ⟨{ o with news:=true },by rw [← HNN.out,HS.out];rfl,rfl⟩⟩
  · have HS:=Lib.hid hs
    have HE:=Lib.hid hE
    clear hs hE
    unfold outC
    have q0:=HR6.out.blk.cell (o:=0) rfl
    have q1:=HR6.out.blk.cell (o:=1) rfl
    have q2:=HR6.out.blk.cell (o:=2) rfl
    have q3:=HR6.out.blk.cell (o:=3) rfl
    have q4:=HR6.out.blk.cell (o:=4) rfl
    have qf:=HR6.out.blk.frozen
    go_wp2_with fail
    have mR:=Mods.set5 (F:=fun k=>k=w.heap.size+1+1) (Mods.refl _ w6) (R:=w.heap.size+1+1) (.inr rfl) (.int .i64 (o.id0:Int)) (.int .i64 (o.id1:Int)) (.string o.key) (.bool o.two) (.bool true)
    have bR:=HR6.out.blk.set5 (.int .i64 (o.id0:Int)) (.int .i64 (o.id1:Int)) (.string o.key) (.bool o.two) (.bool true)
    have gR:=HG6.out.var HR6.out mR
    have nR:=HN6.out.var HR6.out mR
    have mA:=(Mods.refl (fun _=>False) (((((w6.setCell ⟨w.heap.size+1+1,0,none⟩ (.int .i64 (o.id0:Int))).setCell ⟨w.heap.size+1+1,1,none⟩ (.int .i64 (o.id1:Int))).setCell ⟨w.heap.size+1+1,2,none⟩ (.string o.key)).setCell ⟨w.heap.size+1+1,3,none⟩ (.bool o.two)).setCell ⟨w.heap.size+1+1,4,none⟩ (.bool true))).alloc (.cells #[.int .i64 (o.id0:Int),.int .i64 (o.id1:Int),.string o.key,.bool o.two,.bool true] 127)
    refine bodyPost_ret (results_row_tmp rfl _ _ (w.heap.size+1+1) 127 _ _ rfl (bR.ext mA) Tryz.underlying127 rfl Tryz.outSz) rfl ?_
    exact ⟨P6,F6,G6,l6,gR.at mA,nR.trans (Nxt.ext nR.env nR.sub mA),.inr ⟨k,{ o with news:=true },f,el,by rw [← HNN.out,HS.out];rfl,hfr,rfl,(HE.out.mods (HR6.out.mF mR)).mods mA.ext⟩⟩
end
structure LeafOk (G:GA) (l:List Nat) (gen old:Nat) (n:NodeA) (key v:ByteArray):Prop where
  leaf:n.leaf=true
  nk:n.keys=[]∧n.kids=[]
  few:n.entries.length≤100000
  erase:∀ e,n.entries[entAt key n.entries]? = some e→entIs key n.entries=true→e.chain ≠ 0→walkOk G e.size.toNat e.chain e.size∧chErr G e.chain e.size=none∧(walkA G e.size.toNat e.chain e.size).1.map (·.1)=(oldIds G n key).map (fun k:Nat=>(k:Int))∧giveOk l (oldIds G n key)∧0≤e.chain∧e.chain < 256∧25≤e.size∧e.size≤4096
  fr:FrG G l (giveG G (oldIds G n key)) (giveL l (oldIds G n key))
  low:LowL l
  len:l.length=G.blocks
  cost:G.cost+200≤1000000
  v4096:v.size≤4096
  ent:∀ G1 l1 e,entryP (giveG G (oldIds G n key)) (giveL l (oldIds G n key)) gen key v=.inl (G1,l1,e)→SetOk G1 l1 old (withE n key e)∧FrG G l G1 l1∧G1.cost≤G.cost+20
def manyA (key:ByteArray) (n:NodeA):Nat:=if entIs key n.entries=true then 1 else 0
def LfSt (F P:Nat→Prop) (ad:Nat→Addr) (w:World) (c s gen:Nat) (nd:Array Value) (ev:Value) (es:List EntryA) (G:GA) (l:List Nat) (wx:World):Prop :=
  ∃ P' F',PgR F' wx P' c s G l∧Nxt P P' F F' ad w wx∧VarR F' P' w wx w.heap.size #[.pointer (some ⟨c,0,none⟩),.pointer (some ⟨s,0,none⟩),.int .u64 (gen:Int)] 45 ∧ VarR F' P' w wx (w.heap.size+1) nd 26 ∧ VarR F' P' w wx (w.heap.size+1+1) outZc 127 ∧ Sl F' wx 4 encE ev es∧(∀ k,F' k→k < wx.heap.size)
section
variable {P P' F F':Nat→Prop} {ad:Nat→Addr} {w w':World} {c s:Nat} {G:GA} {l:List Nat}
theorem Sl.void {α:Type} {F G:Nat→Prop} {w w':World} {sz:Nat} {enc:α→List Value} {v:Value} {l:List α} (h:Sl F w sz enc v l) (hl:l=[]):Sl G w' sz enc v l:=by
  obtain ⟨a,cap,e,h1,h2,h3,_⟩:=h
  exact ⟨a,cap,e,h1,h2,h3,.inl hl⟩
theorem sl_ent {α:Type} {sz:Nat} {enc:α→List Value} {ea:Option Addr} {n ec:Nat} {es:List α} (h:Sl F w sz enc (.slice ea n ec) es) {i:Nat} {x:α} (hx:es[i]? = some x):∃ b off,ea=some ⟨b,off,none⟩∧b < w.heap.size∧∀ j u,(enc x)[j]? = some u→w.cell? ⟨b,off+i * sz+j,none⟩=some u:=by
  obtain ⟨a,cap,e,_,_,_,h4⟩:=h
  injection e with e1 e2 e3
  subst e1
  rcases h4 with h4 | ⟨b,off,ha,hb,_,hc⟩
  · rw [h4] at hx;simp at hx
  · exact ⟨b,off,ha,hb,fun j u hu=>hc i x hx j u hu⟩
set_option maxRecDepth 100000 in
set_option maxHeartbeats 4000000 in
theorem insLeaf_any (n:NodeA) (key v:ByteArray) (hL:Env F ad w) (hP:∀ k,P k→F k) (h:PgR F w P c s G l) (gen old:Nat) (hgen:gen < 18446744073709551616) (ve vk vi:Value) (hve:Sl F w 4 encE ve n.entries) (hvk:Sl F w 1 encS vk n.keys) (hvi:Sl F w 1 encI vi n.kids) (hok:LeafOk G l gen old n key v) :
    Calls Tryz.prog 79 #[pgV c s gen,.int .i64 (old:Int),.agg #[.bool true,ve,vk,vi],.string key,.string v] w (OutP F P ad w c s G l (leafA G l gen old n key v)):=by
  obtain ⟨w1,hw1⟩:∃ w1,w1=((w.alloc (.cells #[.pointer (some ⟨c,0,none⟩),.pointer (some ⟨s,0,none⟩),.int .u64 (gen:Int)] 45)).alloc (.cells #[.bool true,ve,vk,vi] 26)).alloc (.cells outZc 127):=⟨_,rfl⟩
  have m0:Ext w w1:=by rw [hw1];exact (((Mods.refl _ w).alloc _).alloc _).alloc _
  have hz:w1.heap.size=w.heap.size+3:=by rw [hw1];simp
  have hN:Nxt P P F (fun k=>F k∨(w.heap.size≤k∧k < w1.heap.size)) ad w w1:=Nxt.new hL hP (Q:=fun k=>w.heap.size≤k∧k < w1.heap.size) m0 (fun k hk=>hk.1) (fun k hk=>hk.2)
  have HB:=Lib.hid (show VarR (fun k=>F k∨(w.heap.size≤k∧k < w1.heap.size)) P w w1 w.heap.size #[.pointer (some ⟨c,0,none⟩),.pointer (some ⟨s,0,none⟩),.int .u64 (gen:Int)] 45 from ⟨by rw [hw1];exact ((Blk.new w _ _).alloc _).alloc _,.inr ⟨by omega,by omega⟩,fun hp=>by have:=h.bd _ hp;omega,by omega⟩)
  have HD:=Lib.hid (show VarR (fun k=>F k∨(w.heap.size≤k∧k < w1.heap.size)) P w w1 (w.heap.size+1) #[.bool true,ve,vk,vi] 26 from ⟨by rw [hw1];exact (show Blk ((w.alloc _).alloc (.cells #[.bool true,ve,vk,vi] 26)) (w.heap.size+1) #[.bool true,ve,vk,vi] 26 from heap_at (by simp)).alloc _,.inr ⟨by omega,by omega⟩,fun hp=>by have:=h.bd _ hp;omega,by omega⟩)
  have HR:=Lib.hid (show VarR (fun k=>F k∨(w.heap.size≤k∧k < w1.heap.size)) P w w1 (w.heap.size+1+1) outZc 127 from ⟨by rw [hw1];exact heap_at (by simp),.inr ⟨by omega,by omega⟩,fun hp=>by have:=h.bd _ hp;omega,by omega⟩)
  have HG:=Lib.hid (h.plusNew hP (Q:=fun k=>w.heap.size≤k∧k < w1.heap.size) m0 (fun k hk=>hk.1))
  have HVE:=Lib.hid (hN.sl hP hve)
  have HVK:=Lib.hid (hN.sl hP hvk)
  have HVI:=Lib.hid (hN.sl hP hvi)
  have HN:=Lib.hid hN
  have HOK:=Lib.hid hok
  have HLF:=Lib.hid hok.leaf
  obtain ⟨ea,ec,rfl,he1, -, -, -⟩:=hve
  obtain ⟨ka,kc,rfl, -, -, -, -⟩:=hvk
  obtain ⟨ia,ic,rfl, -, -, -, -⟩:=hvi
  obtain ⟨at_,hat⟩:∃ at_,at_=entAt key n.entries:=⟨_,rfl⟩
  obtain ⟨is_,his⟩:∃ is_,is_=entIs key n.entries:=⟨_,rfl⟩
  have hal:at_≤n.entries.length:=by rw [hat];exact entAt_le _ _
  have HAT:=Lib.hid hat
  have HIS:=Lib.hid his
  have b0:=HB.out.blk.cell (o:=0) rfl
  have b1:=HB.out.blk.cell (o:=1) rfl
  have b2:=HB.out.blk.cell (o:=2) rfl
  have n0:=HD.out.blk.cell (o:=0) rfl
  have n1:=HD.out.blk.cell (o:=1) rfl
  have n2:=HD.out.blk.cell (o:=2) rfl
  have n3:=HD.out.blk.cell (o:=3) rfl
  have HW1:=Lib.hid hw1
  have HFD:=findNode_any n key _ _ (.slice ia n.kids.length ic) HVE.out HVK.out
  rw [hok.leaf,findN_leaf hok.leaf key,← his,← hat] at HFD
  have HFD:=Lib.hid HFD
  have HFEW:=Lib.hid hok.few
  clear hL hP h m0 hN hok hw1 hat his
  unfold pgV
  go_enter Tryz.func79, Tryz.ntmps79
  go_wp2_with fail
  rw [← HW1.out]
  refine HFD.out.mono ?_
  rintro e w2 ⟨rfl,hm2⟩
  have HX2:=Lib.hid hm2
  have HB2:=Lib.hid (HB.out.ext hm2)
  have HD2:=Lib.hid (HD.out.ext hm2)
  have HR2:=Lib.hid (HR.out.ext hm2)
  have HG2:=Lib.hid (HG.out.at hm2)
  have HN2:=Lib.hid (HN.out.trans (Nxt.ext HN.out.env HN.out.sub hm2))
  have HVE2:=Lib.hid (HVE.out.ext hm2)
  have b0:=cellE hm2 b0
  have b1:=cellE hm2 b1
  have b2:=cellE hm2 b2
  have n1:=cellE hm2 n1
  clear hm2 n0 n2 n3
  go_upto_if 26 with fail
  go_cut [14] (fun v14 wx=>v14=.int .i64 ((manyA key n:Nat):Int)∧Hid (LfSt F P ad w c s gen #[.bool true,.slice ea n.entries.length ec,.slice ka n.keys.length kc,.slice ia n.kids.length ic] (.slice ea n.entries.length ec) n.entries (giveG G (oldIds G n key)) (giveL l (oldIds G n key)) wx))
  case first =>
    have HST:Hid (∀ W,Ext w2 W→oldIds G n key=[]→LfSt F P ad w c s gen #[.bool true,.slice ea n.entries.length ec,.slice ka n.keys.length kc,.slice ia n.kids.length ic] (.slice ea n.entries.length ec) n.entries (giveG G (oldIds G n key)) (giveL l (oldIds G n key)) W):=Lib.hid (fun W m h0=>by
      rw [h0]
      have hNW:=HN2.out.trans (Nxt.ext HN2.out.env HN2.out.sub m)
      exact ⟨P,_,HG2.out.at m,hNW,HB2.out.ext m,HD2.out.ext m,HR2.out.ext m,HVE2.out.ext m,hNW.env.lt⟩)
    cases is_ with
    | false =>
      have HMA:Hid ((manyA key n:Nat)=0):=Lib.hid (by unfold manyA;rw [← HIS.out];rfl)
      have HO0:Hid (oldIds G n key=[]):=Lib.hid (by
        unfold oldIds
        rw [← HIS.out]
        split
        · rfl
        · simp)
      go_wp2_with fail
      go_meet
      exact ⟨by rw [HMA.out];rfl,Lib.hid (HST.out _ (Mods.refl _ _) HO0.out)⟩
    | true =>
      have HMA:Hid ((manyA key n:Nat)=1):=Lib.hid (by unfold manyA;rw [← HIS.out];rfl)
      have HIT:Hid (entIs key n.entries=true):=Lib.hid HIS.out.symm
      obtain ⟨x,hx⟩:∃ x,n.entries[at_]? = some x:=by
        have h1:=HIT.out
        unfold entIs at h1
        rw [← HAT.out] at h1
        cases hq:n.entries[at_]? with
        | none=>rw [hq] at h1;cases h1
        | some x=>exact ⟨x,rfl⟩
      have hlt:=(List.getElem?_eq_some_iff.1 hx).1
      have i1:(0:Int)≤(at_:Int):=by omega
      have i2:(at_:Int) < (n.entries.length:Int):=by omega
      obtain ⟨bb,off,rfl,hbb,hc⟩:=sl_ent HVE2.out hx
      have c0:w2.cell? ⟨bb,off+at_ * 4,none⟩=some (.string x.key):=hc 0 _ rfl
      have c1:w2.cell? ⟨bb,off+at_ * 4+1,none⟩=some (.string x.value):=hc 1 _ rfl
      have c2:w2.cell? ⟨bb,off+at_ * 4+2,none⟩=some (.int .i64 x.chain):=hc 2 _ rfl
      have c3:w2.cell? ⟨bb,off+at_ * 4+3,none⟩=some (.int .i64 x.size):=hc 3 _ rfl
      have HX:=Lib.hid hx
      clear hc hx
      by_cases hch:x.chain=0
      · have HO0:Hid (oldIds G n key=[]):=Lib.hid (by
          unfold oldIds
          rw [← HAT.out,HX.out]
          simp [hch])
        go_wp2_with fail
        go_meet
        exact ⟨by rw [HMA.out];rfl,Lib.hid (HST.out _ ((Mods.refl _ _).alloc _) HO0.out)⟩
      · have HER:=HOK.out.erase x (by rw [← HAT.out];exact HX.out) HIT.out hch
        have mA:Ext w2 (w2.alloc (.cells (entC x) 107)):=(Mods.refl _ _).alloc _
        have hNA:=HN2.out.trans (Nxt.ext HN2.out.env HN2.out.sub mA)
        have HEC:=Lib.hid (chErase_any hNA.env hNA.sub (HG2.out.at mA) gen x.chain x.size (by omega) (fun _ _=>HER.1) (oldIds G n key) (fun _=>⟨HER.2.2.1,HER.2.2.2.1⟩))
        have HCE:=Lib.hid HER.2.1
        have HNA:=Lib.hid hNA
        have HMA2:=Lib.hid mA
        unfold pgV at HEC
        have b0c:=cell_alloc b0 (.cells (entC x) 107)
        have b1c:=cell_alloc b1 (.cells (entC x) 107)
        have b2c:=cell_alloc b2 (.cells (entC x) 107)
        clear HER mA hNA
        go_wp2_with fail
        refine HEC.out.mono ?_
        rintro e w3 ⟨P3,F3,G3,l3,hG3,hN3,⟨_,rfl,rfl,rfl⟩ | ⟨er,f,he,_⟩⟩
        · have HS3:Hid (LfSt F P ad w c s gen #[.bool true,.slice (some ⟨bb,off,none⟩) n.entries.length ec,.slice ka n.keys.length kc,.slice ia n.kids.length ic] (.slice (some ⟨bb,off,none⟩) n.entries.length ec) n.entries (giveG G (oldIds G n key)) (giveL l (oldIds G n key)) w3):=Lib.hid (by
            exact ⟨P3,F3,hG3,HNA.out.trans hN3,(HB2.out.ext HMA2.out).nxt hN3,(HD2.out.ext HMA2.out).nxt hN3,(HR2.out.ext HMA2.out).nxt hN3,hN3.sl HNA.out.sub (HVE2.out.ext HMA2.out),hN3.env.lt⟩)
          clear hG3 hN3
          go_wp2_with fail
          go_meet
          exact ⟨by rw [HMA.out];rfl,HS3⟩
        · rw [HCE.out] at he;cases he
  obtain ⟨rfl,HLS⟩:=hcut
  obtain ⟨P3,F3,hG3,hN3,hB3,hD3,hR3,hE3,hlt3⟩:=HLS.out
  obtain ⟨w3,hw3⟩:∃ w3,w3=wc:=⟨_,rfl⟩
  rw [← hw3] at hG3 hN3 hB3 hD3 hR3 hE3 hlt3 ⊢
  have b0:=hB3.blk.cell (o:=0) rfl
  have b1:=hB3.blk.cell (o:=1) rfl
  have b2:=hB3.blk.cell (o:=2) rfl
  have HLW:=Lib.hid (HOK.out.fr.lowL HOK.out.low)
  have HENT:=entry_any hN3.env hN3.sub hG3 gen hgen key v HOK.out.v4096 HLW.out (by rw [HOK.out.fr.len,HOK.out.fr.bl];exact HOK.out.len) (by have:=(giveG_same (oldIds G n key) G).2.2.1;have:=HOK.out.cost;omega)
  unfold pgV at HENT
  have HENT:=Lib.hid HENT
  have HG3:=Lib.hid hG3
  have HN3:=Lib.hid hN3
  have HB3:=Lib.hid hB3
  have HD3:=Lib.hid hD3
  have HR3:=Lib.hid hR3
  have HE3:=Lib.hid hE3
  clear hG3 hN3 hB3 hD3 hR3 hE3 hlt3 hw3 n1
  go_wp2_with fail
  refine HENT.out.mono ?_
  rintro e w4 ⟨P4,F4,G4,l4,hG4,hN4,hr⟩
  have HG4:=Lib.hid hG4
  have HN4:=Lib.hid (HN3.out.trans hN4)
  have HB4:=Lib.hid (HB3.out.nxt hN4)
  have HD4:=Lib.hid (HD3.out.nxt hN4)
  have HR4:=Lib.hid (HR3.out.nxt hN4)
  have HE4:=Lib.hid (hN4.sl HN3.out.sub HE3.out)
  clear hG4 hN4
  rcases hr with ⟨en,hs,rfl⟩ | ⟨k,en,f,el,hs,hfr,hco,rfl,hE⟩
  · have HS:=Lib.hid hs
    have HLA:Hid (leafA G l gen old n key v=newsA (!is_) (settleA G4 l4 gen old (withE n key en))):=Lib.hid (by
      unfold leafA newsA
      rw [hs]
      simp only
      rw [HIS.out]
      cases settleA G4 l4 gen old (withE n key en) <;> rfl)
    obtain ⟨S1,S2, -⟩:=HOK.out.ent _ _ _ hs
    have HS1:=Lib.hid S1
    have HS2:=Lib.hid S2
    obtain ⟨w5,hw5⟩:∃ w5,w5=(w4.alloc (.cells (entC en) 107)).alloc (.cells (entC en) 107):=⟨_,rfl⟩
    have hm5:Ext w4 w5:=by rw [hw5];exact ((Mods.refl _ _).alloc _).alloc _
    have HM5:=Lib.hid hm5
    have n1:=HD4.out.blk.cell (o:=1) rfl
    have n1c:=cell_alloc n1 (.cells (entC en) 107)
    have n1b:w5.cell? ⟨w.heap.size+1,1,none⟩=some (.slice ea n.entries.length ec):=(HD4.out.ext hm5).blk.cell (o:=1) rfl
    have HSL1:Hid (Sl F4 w5 4 encE (.slice (some ⟨w4.heap.size+1,0,none⟩) 1 1) [en]):=Lib.hid (Sl.one (by rw [hw5];exact heap_at (by simp)) (fun f=>by
      have:=HN4.out.env.lt _ f;omega))
    have ham:at_+manyA key n≤n.entries.length:=by
      unfold manyA
      split
      · rename_i h1
        unfold entIs at h1
        cases hq:n.entries[entAt key n.entries]? with
        | none=>rw [hq] at h1;cases h1
        | some x =>
          have:=(List.getElem?_eq_some_iff.1 hq).1
          rw [HAT.out];omega
      · omega
    have HW5:=Lib.hid hw5
    clear hs hm5 hw5 S1 S2
    go_wp2_with fail
    rw [← HW5.out]
    refine (laidE_any _ _ n.entries [en] (HE4.out.ext HM5.out) HSL1.out at_ (manyA key n) ham (by have:=HFEW.out;omega) (by simp)).mono ?_
    rintro e w6 ⟨ev,rfl,hO6,hm6⟩
    obtain ⟨oa,oc,rfl, -, -⟩:=hO6.form
    have HL6:Hid ((n.entries.take at_ ++ [en] ++ n.entries.drop (at_+manyA key n))=(withE n key en).entries):=Lib.hid (by rw [HAT.out];rfl)
    rw [HL6.out] at hO6 ⊢
    have HM6:=Lib.hid (HM5.out.trans hm6)
    have HO6:=Lib.hid (hO6.rebase (base':=w4.heap.size) HM5.out.size)
    have hD6:=HD4.out.ext HM6.out
    have d0:=hD6.blk.cell (o:=0) (v:=.bool true) rfl
    have d1:=hD6.blk.cell (o:=1) (v:=.slice ea n.entries.length ec) rfl
    have d2:=hD6.blk.cell (o:=2) (v:=.slice ka n.keys.length kc) rfl
    have d3:=hD6.blk.cell (o:=3) (v:=.slice ia n.kids.length ic) rfl
    have df:=hD6.blk.frozen
    have b0:=(HB4.out.ext HM6.out).blk.cell (o:=0) rfl
    have b1:=(HB4.out.ext HM6.out).blk.cell (o:=1) rfl
    have b2:=(HB4.out.ext HM6.out).blk.cell (o:=2) rfl
    obtain ⟨n',hn'⟩:∃ n',n'=withE n key en:=⟨_,rfl⟩
    have HN':Hid (n'.leaf=true∧n'.keys=n.keys∧n'.kids=n.kids):=Lib.hid (by rw [hn'];exact ⟨HLF.out,rfl,rfl⟩)
    rw [← hn'] at HO6 HS1 HL6 HLA ⊢
    have mD:Mods (fun k=>k=w.heap.size+1) w6 (w6.setCell ⟨w.heap.size+1,1,none⟩ (.slice oa n'.entries.length oc)):=Mods.at _ w6 _ 1 _ rfl
    have HGD:=Lib.hid ((HG4.out.at HM6.out).var hD6 mD)
    have HND:=Lib.hid ((HN4.out.trans (Nxt.ext HN4.out.env HN4.out.sub HM6.out)).var hD6 mD)
    have HRD:=Lib.hid ((HR4.out.ext HM6.out).other mD (by omega))
    have hmF:=hD6.mF mD
    have HSE:Hid (Sl F4 (w6.setCell ⟨w.heap.size+1,1,none⟩ (.slice oa n'.entries.length oc)) 4 encE (.slice oa n'.entries.length oc) n'.entries):=Lib.hid ((HO6.out.slF (fun k hk=>HN4.out.env.lt k hk) encE_ok.len (by have:=HS1.out.few.1;omega)).mods hmF)
    have HSK:Hid (Sl F4 (w6.setCell ⟨w.heap.size+1,1,none⟩ (.slice oa n'.entries.length oc)) 1 encS (.slice ka n.keys.length kc) n'.keys):=Lib.hid (by rw [HN'.out.2.1];exact HVK.out.void HOK.out.nk.1)
    have HSI:Hid (Sl F4 (w6.setCell ⟨w.heap.size+1,1,none⟩ (.slice oa n'.entries.length oc)) 1 encI (.slice ia n.kids.length ic) n'.kids):=Lib.hid (by rw [HN'.out.2.2];exact HVI.out.void HOK.out.nk.2)
    have HST:=settle_any n' HND.out.env HND.out.sub HGD.out gen old hgen _ _ _ HSE.out HSK.out HSI.out HS1.out
    rw [HN'.out.1] at HST
    unfold pgV at HST
    have HST:=Lib.hid HST
    have HNN:=Lib.hid hn'
    clear hO6 hm6 hD6 mD hmF hn' n1 n1c n1b
    go_wp2_with fail
    refine HST.out.mono ?_
    rintro e w7 ⟨P7,F7,G7,l7,hG7,hN7,hr⟩
    have HR7:=Lib.hid (HRD.out.nxt hN7)
    have HG7:=Lib.hid hG7
    have HN7:=Lib.hid (HND.out.trans hN7)
    have hlt7:w.heap.size+1+1 < w7.heap.size:=HR7.out.blk.lt
    have hne7:w7.heap.size ≠ w.heap.size+1+1:=by omega
    clear hG7 hN7
    rcases hr with ⟨o,hs,rfl⟩ | ⟨k,o,f,el,hs,hfr,rfl,hE⟩
    · have HS:=Lib.hid hs
      clear hs
      unfold outC
      have q0:=HR7.out.blk.cell (o:=0) rfl
      have q1:=HR7.out.blk.cell (o:=1) rfl
      have q2:=HR7.out.blk.cell (o:=2) rfl
      have q3:=HR7.out.blk.cell (o:=3) rfl
      have q4:=HR7.out.blk.cell (o:=4) rfl
      have qf:=HR7.out.blk.frozen
      go_wp2_with fail
      have mR:=Mods.set5 (F:=fun k=>k=w.heap.size+1+1) (Mods.refl _ w7) (R:=w.heap.size+1+1) (.inr rfl) (.int .i64 (o.id0:Int)) (.int .i64 (o.id1:Int)) (.string o.key) (.bool o.two) (.bool (!is_))
      have bR:=HR7.out.blk.set5 (.int .i64 (o.id0:Int)) (.int .i64 (o.id1:Int)) (.string o.key) (.bool o.two) (.bool (!is_))
      have gR:=HG7.out.var HR7.out mR
      have nR:=HN7.out.var HR7.out mR
      have mA:=(Mods.refl (fun _=>False) (((((w7.setCell ⟨w.heap.size+1+1,0,none⟩ (.int .i64 (o.id0:Int))).setCell ⟨w.heap.size+1+1,1,none⟩ (.int .i64 (o.id1:Int))).setCell ⟨w.heap.size+1+1,2,none⟩ (.string o.key)).setCell ⟨w.heap.size+1+1,3,none⟩ (.bool o.two)).setCell ⟨w.heap.size+1+1,4,none⟩ (.bool (!is_)))).alloc (.cells #[.int .i64 (o.id0:Int),.int .i64 (o.id1:Int),.string o.key,.bool o.two,.bool (!is_)] 127)
      refine bodyPost_ret (results_row_tmp rfl _ _ (w.heap.size+1+1) 127 _ _ rfl (bR.ext mA) Tryz.underlying127 rfl Tryz.outSz) rfl ?_
      exact ⟨P7,F7,G7,l7,gR.at mA,nR.trans (Nxt.ext nR.env nR.sub mA),.inl ⟨{ o with news:=!is_ },by rw [HLA.out,HS.out];rfl,rfl⟩⟩
    · have HS:=Lib.hid hs
      have HE:=Lib.hid hE
      have HFR:=Lib.hid (HS2.out.trans hfr)
      clear hs hE hfr
      unfold outC
      have q0:=HR7.out.blk.cell (o:=0) rfl
      have q1:=HR7.out.blk.cell (o:=1) rfl
      have q2:=HR7.out.blk.cell (o:=2) rfl
      have q3:=HR7.out.blk.cell (o:=3) rfl
      have q4:=HR7.out.blk.cell (o:=4) rfl
      have qf:=HR7.out.blk.frozen
      go_wp2_with fail
      have mR:=Mods.set5 (F:=fun k=>k=w.heap.size+1+1) (Mods.refl _ w7) (R:=w.heap.size+1+1) (.inr rfl) (.int .i64 (o.id0:Int)) (.int .i64 (o.id1:Int)) (.string o.key) (.bool o.two) (.bool (!is_))
      have bR:=HR7.out.blk.set5 (.int .i64 (o.id0:Int)) (.int .i64 (o.id1:Int)) (.string o.key) (.bool o.two) (.bool (!is_))
      have gR:=HG7.out.var HR7.out mR
      have nR:=HN7.out.var HR7.out mR
      have mA:=(Mods.refl (fun _=>False) (((((w7.setCell ⟨w.heap.size+1+1,0,none⟩ (.int .i64 (o.id0:Int))).setCell ⟨w.heap.size+1+1,1,none⟩ (.int .i64 (o.id1:Int))).setCell ⟨w.heap.size+1+1,2,none⟩ (.string o.key)).setCell ⟨w.heap.size+1+1,3,none⟩ (.bool o.two)).setCell ⟨w.heap.size+1+1,4,none⟩ (.bool (!is_)))).alloc (.cells #[.int .i64 (o.id0:Int),.int .i64 (o.id1:Int),.string o.key,.bool o.two,.bool (!is_)] 127)
      refine bodyPost_ret (results_row_tmp rfl _ _ (w.heap.size+1+1) 127 _ _ rfl (bR.ext mA) Tryz.underlying127 rfl Tryz.outSz) rfl ?_
      exact ⟨P7,F7,G7,l7,gR.at mA,nR.trans (Nxt.ext nR.env nR.sub mA),.inr ⟨k,{ o with news:=!is_ },f,el,by rw [HLA.out,HS.out];rfl,HFR.out,rfl,(HE.out.mods (HR7.out.mF mR)).mods mA.ext⟩⟩
  · have HLA:Hid (leafA G l gen old n key v=.inr k):=Lib.hid (by unfold leafA;rw [hs])
    have HFR:=Lib.hid (HOK.out.fr.trans hfr)
    have HE:=Lib.hid hE
    have r0:=HR4.out.blk.cell (o:=0) rfl
    have r1:=HR4.out.blk.cell (o:=1) rfl
    have r2:=HR4.out.blk.cell (o:=2) rfl
    have r3:=HR4.out.blk.cell (o:=3) rfl
    have r4:=HR4.out.blk.cell (o:=4) rfl
    have rf:=HR4.out.blk.frozen
    have hlt4:w.heap.size+1+1 < w4.heap.size:=HR4.out.blk.lt
    have hne4:w4.heap.size ≠ w.heap.size+1+1:=by omega
    clear hs hfr hE
    go_wp2_with fail
    have mR:=Mods.set5 (F:=fun k=>k=w.heap.size+1+1) (Mods.refl _ w4) (R:=w.heap.size+1+1) (.inr rfl) (.int .i64 0) (.int .i64 0) (.string ⟨#[]⟩) (.bool false) (.bool false)
    have bR:=HR4.out.blk.set5 (.int .i64 0) (.int .i64 0) (.string ⟨#[]⟩) (.bool false) (.bool false)
    have gR:=HG4.out.var HR4.out mR
    have nR:=HN4.out.var HR4.out mR
    have mA:=(Mods.refl (fun _=>False) (((((w4.setCell ⟨w.heap.size+1+1,0,none⟩ (.int .i64 0)).setCell ⟨w.heap.size+1+1,1,none⟩ (.int .i64 0)).setCell ⟨w.heap.size+1+1,2,none⟩ (.string ⟨#[]⟩)).setCell ⟨w.heap.size+1+1,3,none⟩ (.bool false)).setCell ⟨w.heap.size+1+1,4,none⟩ (.bool false))).alloc (.cells (entC en) 107)
    trace_state
    refine bodyPost_ret (results_row_tmp rfl _ _ (w.heap.size+1+1) 127 _ _ rfl (bR.ext mA) Tryz.underlying127 rfl Tryz.outSz) rfl ?_
    exact ⟨P4,F4,G4,l4,gR.at mA,nR.trans (Nxt.ext nR.env nR.sub mA),.inr ⟨k,out0,f,el,HLA.out,HFR.out,rfl,(HE.out.mods (HR4.out.mF mR)).mods mA.ext⟩⟩
end
end Go.Proofs.YtphafjmdhmpkbaaGreatDoor
namespace Go.Proofs.YtphafjmdhmpkbaaGreatDoor
open Go.RowKit
section
variable {G G' G1:GA} {l l' l1:List Nat} {gen:Nat} {lo:ByteArray} {hi:Option ByteArray} {ps:List PairS} {q:List Nat}
theorem sumK_len:∀ es:List ByteArray,5 * (es.length:Int)≤sumK es
  | []=>by simp [sumK]
  | e :: es=>by
    have h2:=sumK_len es
    rw [sumK,List.length_cons]
    omega
theorem right_few {n:NodeA} (hr:rightN n=true) (hw:weightN n≤2000):n.entries.length≤1000∧n.keys.length≤1000∧n.kids.length≤1000:=by
  have h1:=sumE_len n.entries
  have h2:=sumK_len n.keys
  have h3:=sumE_nonneg n.entries
  have h4:=sumK_nonneg n.keys
  have hf:=form_right hr
  unfold formN at hf
  unfold weightN at hw
  cases hl:n.leaf with
  | true =>
    rw [if_pos hl] at hf
    rw [hl] at hw
    simp only [if_true] at hw
    rw [hf.2]
    simp only [List.length_nil]
    omega
  | false =>
    rw [if_neg (by rw [hl];simp)] at hf
    rw [hl] at hw
    simp only [Bool.false_eq_true,if_false] at hw
    omega
theorem setOk_of {old:Nat} {n:NodeA} (hc:CtxG G l) (ho:PlaceOf l old) (hr:rightN n=true) (hw:weightN n≤(G.size:Int) - 24+77) (hco:G.cost+10≤1000000):SetOk G l old n:=by
  have hs:=hc.s1024
  have hs2:=hc.s256
  have hf:=right_few hr (by omega)
  refine ⟨ho,hc.low,Nat.le_of_eq hc.len,hco,by omega,fun _=>?_,fun hn=>?_,by omega⟩
  · have:=weight_len (form_right hr);omega
  · obtain ⟨a,_,h2,h3,h4⟩:=cut_fit hr (W:=(G.size:Int) - 24) (by omega) (by omega) (by omega)
    exact ⟨_,_,_,h2,h3,h4⟩
theorem Ents.nth {es:List EntryA} (h:Ents G gen es ps q):∀ (i:Nat) (e:EntryA),es[i]? = some e→∃ v ids,EntC G gen e v ids∧ids.Sublist q:=by
  induction h with
  | nil=>intro i e he;simp at he
  | @cons e x ids es l q h1 h2 _ ih =>
    intro i f hf
    match i,hf with
    | 0,hf =>
      simp at hf
      subst hf
      exact ⟨_,_,h2,List.sublist_append_left _ _⟩
    | i+1,hf =>
      obtain ⟨v,ids',a1,a2⟩:=ih i f (by simpa using hf)
      exact ⟨v,ids',a1,a2.trans (List.sublist_append_right _ _)⟩
theorem leaf_mid {old:Nat} {n:NodeA} {key v:ByteArray} (hc:CtxG G l) (ho:PlaceOf l old) (hl:n.leaf=true) (hr:rightN n=true) (hw:weightN n≤(G.size:Int) - 24) (he:Ents G gen n.entries ps q) (hkb:keyB key=true) (hv:v.size≤4096)
    (hq:q.Nodup) (hu:UseL l (fun k=>k ∈ q)) (hoq:old ≠ 0→old ∉ q):FrG G l (giveG G (oldIds G n key)) (giveL l (oldIds G n key))∧∀ Gw lw e,entryP (giveG G (oldIds G n key)) (giveL l (oldIds G n key)) gen key v=.inl (Gw,lw,e) →
      CtxG Gw lw∧PlaceOf lw old∧rightN (withE n key e)=true∧weightN (withE n key e)≤(Gw.size:Int) - 24+77∧FrG G l Gw lw∧Gw.cost≤G.cost+18:=by
  have hpw:=rightN_leaf hr hl
  have h2q:∀ i ∈ q,2≤i:=fun i hi=>(he.lt i hi).1
  obtain ⟨l1,lm,l2,q1,qm,q2,e1,e2,rfl,rfl,hlow,hhigh,his,hlm,hold,hsum⟩:=he.at_ hpw key hc.s256 hc.b256
  have hsort:SortedP (l1 ++ (lm ++ l2)):=by
    rw [he.keys] at hpw
    exact List.pairwise_map.1 hpw
  have hnd:=List.nodup_append.1 hq
  have hnd2:=List.nodup_append.1 hnd.2.1
  have hum:UseL l (fun k=>k ∈ qm):=fun k hk=>hu k (by simp [hk])
  obtain ⟨u1,u2,u3⟩:=upd_erase (G:=G) qm l hnd2.1 (fun i hi=>h2q i (by simp [hi])) hum
  have hA2:∀ k,k ∈ qm→2≤k:=fun k hk=>h2q k (by simp [hk])
  have hcg:=hc.upd u1 hA2
  rw [hold n rfl]
  have hszg:(giveG G qm).size=G.size:=u1.sz
  refine ⟨u1.fr hA2,fun Gw lw e hE=>?_⟩
  rcases entry_tr (gen:=gen) hcg hkb hv with ⟨f1,f2⟩ | ⟨Gw',lw',e',ids,f1,f2,f3,f4,f5,f6,f7,f8⟩
  · rw [f1] at hE;cases hE
  · rw [f1] at hE
    injection hE with hE
    injection hE with hE1 hE2
    injection hE2 with hE2 hE3
    subst hE1 hE2 hE3
    have u4:=u1.trans f2 hum
    have hcw:=hc.upd u4 hA2
    have how:=place_stays u4 ho (fun hz hm=>hoq hz (by simp [hm]))
    have hszw:Gw'.size=G.size:=u4.sz
    have hd1:∀ k ∈ q1 ++ q2,¬ (k ∈ qm):=fun k hk hm=>by
      rcases List.mem_append.1 hk with hk | hk
      · exact hnd.2.2 k hk k (by simp [hm]) rfl
      · exact hnd2.2.2 k hm k hk rfl
    obtain ⟨z1,z2⟩:=u4.views hd1 (fun k hk=>hu k (by rcases List.mem_append.1 hk with hk | hk <;> simp [hk]))
    have hE:Ents Gw' gen (n.entries.take (entAt key n.entries) ++ [e'] ++ n.entries.drop (entAt key n.entries+if entIs key n.entries=true then 1 else 0)) (l1 ++ ([(key,v)] ++ l2)) (q1 ++ (ids ++ q2)):=by
      rw [List.append_assoc]
      exact (e1.mono (Nat.le_refl _) u4.bl hszw (fun i hi=>(z1 i (by simp [hi])).1)).append ((Ents.one f5 f6).append (e2.mono (Nat.le_refl _) u4.bl hszw (fun i hi=>(z1 i (by simp [hi])).1)))
    obtain ⟨n',hn'⟩:∃ n',n'=withE n key e':=⟨_,rfl⟩
    have hent':n'.entries=n.entries.take (entAt key n.entries) ++ [e'] ++ n.entries.drop (entAt key n.entries+if entIs key n.entries=true then 1 else 0):=by rw [hn'];rfl
    have hform:=form_right hr
    unfold formN at hform
    rw [if_pos hl] at hform
    have hleaf':n'.leaf=true:=by rw [hn'];exact hl
    have hkeys':n'.keys=[]:=by rw [hn'];exact hform.1
    have hkids':n'.kids=[]:=by rw [hn'];exact hform.2
    have hse':sumE n'.entries≤sumE n.entries+59:=by
      rw [hent',sumE_append,sumE_append]
      have:=rightE_wt f7
      simp only [sumE]
      omega
    have hwt:weightN n=2+sumE n.entries:=by unfold weightN;rw [hl,hform.1];simp [sumK]
    have hwt':weightN n'=2+sumE n'.entries:=by unfold weightN;rw [hleaf',hkeys'];simp [sumK]
    have hwp:withP key v true (l1 ++ (lm ++ l2))=l1 ++ ([(key,v)] ++ l2):=by
      rw [withP_low _ hlow,withP_high hhigh]
      congr 1
      congr 1
      rcases hlm with rfl | ⟨ov,rfl⟩
      · rfl
      · simp [withP,ltS_irrefl]
    have hsort':SortedP (l1 ++ ([(key,v)] ++ l2)):=by rw [← hwp];exact sorted_withP hsort
    have hr':rightN n'=true:=by
      have e:n'=⟨true,n'.entries,[],[]⟩:=by rw [← hleaf',← hkeys',← hkids']
      rw [e]
      refine right_leafI (fun x hx=>?_) ?_ ?_
      · rw [hent'] at hx
        rcases List.mem_append.1 hx with hx | hx
        · rcases List.mem_append.1 hx with hx | hx
          · exact rightN_ents hr x (List.mem_of_mem_take hx)
          · rw [List.mem_singleton.1 hx];exact f7
        · exact rightN_ents hr x (List.mem_of_mem_drop hx)
      · rw [hent',hE.keys]
        exact List.pairwise_map.2 hsort'
      · have:=sumE_len n'.entries
        have:=hc.s1024
        omega
    rw [← hn']
    refine ⟨hcw,how,hr',by rw [hszw,hwt'];omega,u4.fr hA2,?_⟩
    have hgc:(giveG G qm).cost=G.cost:=(giveG_same qm G).2.2.1
    unfold entryP at f1
    split at f1
    · injection f1 with f1
      injection f1 with f1 _
      rw [← f1];omega
    · split at f1
      · rename_i ids2 l2' ht
        injection f1 with f1
        injection f1 with f1 _
        rw [← f1,(chPuts_same _ _ _ _ _ _).2.2,hgc]
        have h1:=(takeA_taken _ _ _ _ ht).len
        have h2:=ndS_need (giveG G qm).size v.size (by omega) hcg.s256 hcg.s1024
        have h3:=ndS_le (giveG G qm).size v.size hv hcg.s256
        rw [h2,Int.toNat_natCast] at h1
        omega
      · cases f1
theorem leafOk_of {old:Nat} {n:NodeA} {key v:ByteArray} (hc:CtxG G l) (ho:PlaceOf l old) (hl:n.leaf=true) (hr:rightN n=true) (hw:weightN n≤(G.size:Int) - 24) (he:Ents G gen n.entries ps q) (hkb:keyB key=true) (hv:v.size≤4096)
    (hq:q.Nodup) (hu:UseL l (fun k=>k ∈ q)) (hoq:old ≠ 0→old ∉ q) (hco:G.cost+200≤1000000):LeafOk G l gen old n key v:=by
  obtain ⟨m1,m2⟩:=leaf_mid hc ho hl hr hw he hkb hv hq hu hoq
  have hs:=hc.s1024
  have hf:=right_few hr (by omega)
  have hform:=form_right hr
  unfold formN at hform
  rw [if_pos hl] at hform
  refine ⟨hl,hform,by omega,fun e hea his hce=>?_,m1,hc.low,hc.len,hco,hv,fun G1 l1 e hE=>?_⟩
  · obtain ⟨x,ids,h1,h2⟩:=he.nth _ e hea
    rcases h1 with ⟨h1,_⟩ | ⟨_,h1⟩
    · exact absurd h1 hce
    · obtain ⟨w1,w2,w3,_⟩:=h1.walk hc.s256 hc.b256
      have hold:oldIds G n key=ids:=by
        unfold oldIds
        rw [hea]
        simp only
        rw [if_pos ⟨his,hce⟩]
        have:=congrArg (List.map Int.toNat) w3
        simp only [List.map_map] at this
        rw [show (fun x:Int × List UInt8=>x.1.toNat)=Int.toNat ∘ (·.1) from rfl,this]
        rw [show (Int.toNat ∘ fun k:Nat=>(k:Int))=id from funext fun k=>Int.toNat_natCast k,List.map_id]
      have hids:∀ i ∈ ids,i ∈ q:=fun i hi=>h2.subset hi
      obtain ⟨_,u2,_⟩:=upd_erase (G:=G) ids l (hq.sublist h2) (fun i hi=>(h1.lt i hi).1) (fun i hi=>hu i (hids i hi))
      have hlo:=h1.lo
      have hhi:=h1.hi
      have hsz:=h1.size
      have hpos:0 < ids.length:=by rw [h1.len];exact Nat.succ_pos _
      have hin:=h1.lt _ (getD_in hpos)
      have hb:=hc.b256
      have hfst:=h1.first
      rw [hold]
      exact ⟨w2,w1,w3,u2,by omega,by omega,by omega,by omega⟩
  · obtain ⟨a1,a2,a3,a4,a5,a6⟩:=m2 G1 l1 e hE
    exact ⟨setOk_of a1 a2 a3 a4 (by omega),a5,by omega⟩
/-! ### costs -/
theorem settle_cost {old:Nat} {n:NodeA} {o:OutA} (h:settleA G l gen old n=.inl (G',l',o)):G'.cost≤G.cost+2:=by
  unfold settleA at h
  split at h
  · split at h
    · injection h with h;injection h with h _;rw [← h]
      have:=(downG_lim G l gen old n).2.2;omega
    · cases h
  · split at h
    · cases h
    · rename_i a k b _
      split at h
      · split at h
        · cases h
        · split at h
          · cases h
          · injection h with h;injection h with h _;rw [← h]
            have:=(downG_lim G l gen old a).2.2
            have:=(downG_lim (downG G l gen old a) (downL G l old a) gen 0 b).2.2
            omega
      · cases h
theorem entry_cost {key v:ByteArray} {e:EntryA} (hv:v.size≤4096) (h1:256≤G.size) (h2:G.size≤1024) (h:entryP G l gen key v=.inl (G',l',e)):G'.cost≤G.cost+18:=by
  unfold entryP at h
  split at h
  · injection h with h;injection h with h _;rw [← h];omega
  · split at h
    · rename_i ids2 l2' ht
      injection h with h
      injection h with h _
      rw [← h,(chPuts_same _ _ _ _ _ _).2.2]
      have h3:=(takeA_taken _ _ _ _ ht).len
      have h4:=ndS_need G.size v.size (by omega) h1 h2
      have h5:=ndS_le G.size v.size hv h1
      rw [h4,Int.toNat_natCast] at h3
      omega
    · cases h
theorem leaf_cost {old:Nat} {n:NodeA} {key v:ByteArray} {o:OutA} (hv:v.size≤4096) (h1:256≤G.size) (h2:G.size≤1024) (h:leafA G l gen old n key v=.inl (G',l',o)):G'.cost≤G.cost+20:=by
  unfold leafA at h
  split at h
  · cases h
  · rename_i G1 l1 e hE
    obtain ⟨s1,s2,s3,_⟩:=giveG_same (oldIds G n key) G
    have h3:=entry_cost hv (by rw [s2];exact h1) (by rw [s2];exact h2) hE
    split at h
    · cases h
    · rename_i G2 l2 o2 hS
      injection h with h;injection h with h _;rw [← h]
      have:=settle_cost hS
      omega
theorem put_cost {key v:ByteArray} (hv:v.size≤4096):∀ (f:Nat) (G:GA) (l:List Nat) (id:Nat) {G':GA} {l':List Nat} {o:OutA},256≤G.size→G.size≤1024→putA gen key v f G l id=.inl (G',l',o)→G'.cost≤G.cost+20+2 * f
  | 0,_,_,_,_,_,_,_,_,h=>by cases h
  | f+1,G,l,id,G',l',o,h1,h2,h=>by
    rw [putA] at h
    split at h
    · cases h
    · rename_i n hn
      split at h
      · have:=leaf_cost hv h1 h2 h;omega
      · split at h
        · cases h
        · rename_i G1 l1 o1 hP
          have h3:=put_cost hv f G l _ h1 h2 hP
          split at h
          · cases h
          · rename_i G2 l2 o2 hS
            injection h with h;injection h with h _;rw [← h]
            have:=settle_cost hS
            omega
end
section
variable {G G' G1:GA} {l l' l1:List Nat} {gen:Nat} {lo:ByteArray} {hi:Option ByteArray} {ps:List PairS} {q:List Nat}
theorem put_mid {d f id:Nat} {n:NodeA} {key v:ByteArray} (hc:CtxG G l) (hp:PgN G gen id n) (hr:rightN n=true) (hl:n.leaf=false) (hkd:Kids (TrD G gen d) lo hi n.keys n.kids ps q) (hn:(id :: q).Nodup) (hu:UseL l (fun k=>k ∈ id :: q)) (hk:inB lo hi key) (hd:d≤f) (hf16:f≤16) (hkb:keyB key=true) (hv:v.size≤4096) (hco:G.cost+200≤1000000) {G1:GA} {l1':List Nat} {o:OutA}
    (hP:putA gen key v f G l (n.kids.getD (kidAt key n.keys) 0).toNat=.inl (G1,l1',o)):SetOk G1 l1' id (joinA n (kidAt key n.keys) o)∧FrG G l G1 l1':=by
  have hid:id ∉ q∧q.Nodup:=List.nodup_cons.1 hn
  have hqid:id ≠ 0:=by have:=hp.lo;omega
  have huq:UseL l (fun k=>k ∈ q):=fun k hk=>hu k (List.mem_cons_of_mem _ hk)
  have hpl:PlaceOf l id:=.inr ⟨hp.lo,hu id List.mem_cons_self⟩
  obtain ⟨k1,k2,c1,c,c2,l1,lm,l2,q1,qm,q2,lo',hi',e1,e2,e3,e4,rfl,rfl,e7,e8,e9,e10,e11⟩:=hkd.at_ (TrD.bounds d) hk
  have hkd0:n.kids.getD (kidAt key n.keys) 0=(c:Int):=by
    rw [e4,e2,← e3];simp [List.getD]
  rw [hkd0,Int.toNat_natCast] at hP
  have hnd:=List.nodup_append.1 hid.2
  have hnd2:=List.nodup_append.1 hnd.2.1
  have hum:UseL l (fun k=>k ∈ qm):=fun k hk=>huq k (by simp [hk])
  have hcost:=put_cost hv f G l c hc.s256 hc.s1024 hP
  rcases put_tr (gen:=gen) hkb hv d f G l c lo' hi' lm qm hc e7 hnd2.1 hum e8 hd with ⟨a1,_⟩ | ⟨G1',l1'',o',qm',a1,a2,a3,a4⟩
  · rw [a1] at hP;cases hP
  · rw [a1] at hP
    injection hP with hP
    injection hP with hE1 hE2
    injection hE2 with hE2 hE3
    subst hE1 hE2 hE3
    have u4:=a3.upd
    have hA2:∀ k,k ∈ qm→2≤k:=fun k hk=>(e7 |> TrD.ltq d lo' hi' c lm qm) k hk |>.1
    have hd1:∀ k ∈ q1 ++ q2,¬ (k ∈ qm):=fun k hk hm=>by
      rcases List.mem_append.1 hk with hk | hk
      · exact hnd.2.2 k hk k (by simp [hm]) rfl
      · exact hnd2.2.2 k hm k hk rfl
    obtain ⟨z1,z2⟩:=u4.views hd1 (fun k hk=>huq k (by rcases List.mem_append.1 hk with hk | hk <;> simp [hk]))
    have how:=place_stays u4 hpl (fun _ hm=>hid.1 (by simp [hm]))
    obtain ⟨n',hn'⟩:∃ n',n'=joinA n (kidAt key n.keys) o':=⟨_,rfl⟩
    have hK:=e11 (TrD G1' gen d) _ _ _ _ a3.kids (fun lo hi c l p hp h=>TrD.mono (Nat.le_refl _) u4.bl u4.sz d lo hi c l p (fun i hi=>(z1 i (by rcases hp i hi with h | h <;> simp [h])).1) h)
    have hj:n' = { n with kids:=c1 ++ (outKids o' ++ c2),keys:=k1 ++ (outKeys o' ++ k2) }:=by
      rw [hn',joinA_eq,e1,e2,show kidAt key (k1 ++ k2)=k1.length by rw [← e1];exact e4]
      have t1:(c1 ++ (c:Int) :: c2).take k1.length=c1:=by rw [← e3];simp
      have t2:(c1 ++ (c:Int) :: c2).drop (k1.length+1)=c2:=by rw [← e3];simp
      rw [t1,t2]
      simp
    have hleaf':n'.leaf=false:=by rw [hj];exact hl
    have hents':n'.entries=n.entries:=by rw [hj]
    have hform:=form_right hr
    unfold formN at hform
    rw [if_neg (by rw [hl];simp)] at hform
    have hkeys':n'.keys=k1 ++ (outKeys o' ++ k2):=by rw [hj]
    have hkids':n'.kids=c1 ++ (outKids o' ++ c2):=by rw [hj]
    have hsk:sumK n'.keys≤sumK n.keys+37:=by
      rw [hkeys',e1,sumK_append,sumK_append,sumK_append]
      have:sumK (outKeys o')≤37:=by
        unfold outKeys
        split
        · rename_i h2
          have:=a3.keys o'.key (by unfold outKeys;rw [if_pos h2];simp)
          have:=(keyB_iff _).1 this
          simp [sumK];omega
        · simp [sumK]
      omega
    have hwt:weightN n=6+sumK n.keys:=by unfold weightN;rw [hl,hform.1];simp [sumE]
    have hwt':weightN n'=6+sumK n'.keys:=by unfold weightN;rw [hleaf',hents',hform.1];simp [sumE]
    have hd2:∀ i ∈ qm',i ∉ q1 ++ q2∧i ≠ id:=fun i hi=>by
      refine ⟨fun hm=>(z1 i hm).2.2 hi,fun e=>?_⟩
      subst e
      exact (u4.view (i:=i) (fun hm=>hid.1 (by simp [hm])) (hu.ne0 List.mem_cons_self)).2.2 hi
    have hq':(q1 ++ (qm' ++ q2)).Nodup:=by
      refine List.nodup_append.2 ⟨hnd.1,List.nodup_append.2 ⟨a3.nodup,hnd2.2.1,fun a ha b hb e=>?_⟩,fun a ha b hb e=>?_⟩
      · subst e;exact (hd2 a ha).1 (by simp [hb])
      · subst e
        rcases List.mem_append.1 hb with hb | hb
        · exact (hd2 a hb).1 (by simp [ha])
        · exact hnd.2.2 a ha a (by simp [hb]) rfl
    have hr':rightN n'=true:=by
      have e:n'=⟨false,[],n'.keys,n'.kids⟩:=by rw [hj];simp [hl,hform.1]
      rw [e,hkeys',hkids']
      refine hK.right hq' (fun s hs=>?_) ?_ a3.ctx.b256
      · rcases List.mem_append.1 hs with hs | hs
        · exact rightN_keyB hr s (by rw [e1];simp [hs])
        · rcases List.mem_append.1 hs with hs | hs
          · exact a3.keys s hs
          · exact rightN_keyB hr s (by rw [e1];simp [hs])
      · have h2:2≤n.kids.length:=(rightN_sz hr).2.2 hl
        rw [e2] at h2
        have:1≤(outKids o').length:=by unfold outKids;split <;> simp
        simp at h2 ⊢;omega
    rw [← hn']
    exact ⟨setOk_of a3.ctx how hr' (by rw [u4.sz,hwt'];have:=hp.fit;omega) (by omega),u4.fr hA2⟩
end
end Go.Proofs.YtphafjmdhmpkbaaGreatDoor
