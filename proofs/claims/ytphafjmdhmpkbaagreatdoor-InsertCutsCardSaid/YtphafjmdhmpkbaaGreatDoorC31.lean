/- insert.entry of a short value; insert.leaf of a new key with a short value in a node that fits. | insert.leaf of a new key with a short value, in a leaf where it fits. | insert.check; insert.Put of a short pair into an empty tree. | insert.Put of a short pair into an empty tree. | lookup.find, walked. | lookup.Path, Value, Get. -/
import Derived.Test.YtphafjmdhmpkbaaGreatDoorC30
import Derived.Test.YtphafjmdhmpkbaaGreatDoorC18
import Derived.BigQuiet
import Derived.Test.YtphafjmdhmpkbaaGreatDoorC25
import Derived.Test.YtphafjmdhmpkbaaGreatDoorC16
namespace Go.Proofs.YtphafjmdhmpkbaaGreatDoor
open Go.RowKit
attribute [local go_sem ↓] Go.wp_at_zero Go.wp_at_succ
theorem Tryz.entSz:(Tryz.prog.info? 107).map (·.size)=some 4:=by kernel_rfl
section
variable {P P' F F':Nat→Prop} {ad:Nat→Addr} {w w':World} {c s:Nat} {G:GA} {l:List Nat}
set_option maxRecDepth 100000 in
theorem entryS_any (gen:Nat) (key v:ByteArray) (hv:v.size≤24) :
    Calls Tryz.prog 122 #[pgV c s gen,.string key,.string v] w fun e w'=>e=.returned (.tuple #[.agg #[.string key,.string v,.int .i64 0,.int .i64 0],.nilIface])∧Ext w w':=by
  have hv2:(v.size:Int)≤24:=by omega
  have HB:Hid (Blk ((w.alloc (.cells #[.pointer (some ⟨c,0,none⟩),.pointer (some ⟨s,0,none⟩),.int .u64 (gen:Int)] 45)).alloc (.cells #[.string key,.string v,.int .i64 0,.int .i64 0] 107)) (w.heap.size+1) #[.string key,.string v,.int .i64 0,.int .i64 0] 107):=Lib.hid (heap_at (by simp))
  have HM:Hid (Ext w ((w.alloc (.cells #[.pointer (some ⟨c,0,none⟩),.pointer (some ⟨s,0,none⟩),.int .u64 (gen:Int)] 45)).alloc (.cells #[.string key,.string v,.int .i64 0,.int .i64 0] 107))):=Lib.hid (((Mods.refl _ w).alloc _).alloc _)
  clear hv
  unfold pgV
  go_enter Tryz.func122, Tryz.ntmps122
  go_wp2_with fail
  refine bodyPost_ret (results_row_tmp rfl _ _ (w.heap.size+1) 107 _ _ rfl HB.out Tryz.underlying107 rfl Tryz.entSz) rfl ?_
  exact ⟨rfl,HM.out⟩
end
section
variable {P P' F F':Nat→Prop} {ad:Nat→Addr} {w w':World} {c s:Nat} {G:GA} {l:List Nat}
def newsA (b:Bool):StA OutA→StA OutA
  | .inr k=>.inr k
  | .inl (G2,l2,o)=>.inl (G2,l2,{ o with news:=b })
theorem withE_new {n:NodeA} {key:ByteArray} (hno:entIs key n.entries=false) (e:EntryA):(withE n key e).entries=n.entries.take (entAt key n.entries) ++ [e] ++ n.entries.drop (entAt key n.entries+0):=by
  unfold withE;rw [hno];rfl
theorem entAt_le (key:ByteArray) (es:List EntryA):entAt key es≤es.length:=List.findIdx_le_length
set_option maxRecDepth 100000 in
set_option maxHeartbeats 4000000 in
theorem leafS_any (n:NodeA) (hlf:n.leaf=true) (key v:ByteArray) (hno:entIs key n.entries=false) (hv:v.size≤24) (hF:weightN (withE n key ⟨key,v,0,0⟩)≤(G.size:Int) - 24) (hL:Env F ad w) (hP:∀ k,P k→F k) (h:PgR F w P c s G l) (gen old:Nat) (hgen:gen < 18446744073709551616) (ve vk vi:Value) (hve:Sl F w 4 encE ve n.entries) (hvk:Sl F w 1 encS vk n.keys) (hvi:Sl F w 1 encI vi n.kids) (hfew:n.entries.length≤100000) (hok:SetOk G l old (withE n key ⟨key,v,0,0⟩)) :
    Calls Tryz.prog 79 #[pgV c s gen,.int .i64 (old:Int),.agg #[.bool true,ve,vk,vi],.string key,.string v] w (OutP F P ad w c s G l (newsA true (settleA G l gen old (withE n key ⟨key,v,0,0⟩)))):=by
  obtain ⟨w1,hw1⟩:∃ w1,w1=((w.alloc (.cells #[.pointer (some ⟨c,0,none⟩),.pointer (some ⟨s,0,none⟩),.int .u64 (gen:Int)] 45)).alloc (.cells #[.bool true,ve,vk,vi] 26)).alloc (.cells outZc 127):=⟨_,rfl⟩
  have m0:Ext w w1:=by rw [hw1];exact (((Mods.refl _ w).alloc _).alloc _).alloc _
  have hz:w1.heap.size=w.heap.size+3:=by rw [hw1];simp
  have hN:Nxt P P F (fun k=>F k∨(w.heap.size≤k∧k < w1.heap.size)) ad w w1:=Nxt.new hL hP (Q:=fun k=>w.heap.size≤k∧k < w1.heap.size) m0 (fun k hk=>hk.1) (fun k hk=>hk.2)
  have HB:=Lib.hid (show VarR (fun k=>F k∨(w.heap.size≤k∧k < w1.heap.size)) P w w1 w.heap.size #[.pointer (some ⟨c,0,none⟩),.pointer (some ⟨s,0,none⟩),.int .u64 (gen:Int)] 45 from ⟨by rw [hw1];exact ((Blk.new w _ _).alloc _).alloc _,.inr ⟨by omega,by omega⟩,fun hp=>by have:=h.bd _ hp;omega,by omega⟩)
  have HD:=Lib.hid (show VarR (fun k=>F k∨(w.heap.size≤k∧k < w1.heap.size)) P w w1 (w.heap.size+1) #[.bool true,ve,vk,vi] 26 from ⟨by rw [hw1];exact (show Blk ((w.alloc _).alloc (.cells #[.bool true,ve,vk,vi] 26)) (w.heap.size+1) #[.bool true,ve,vk,vi] 26 from heap_at (by simp)).alloc _,.inr ⟨by omega,by omega⟩,fun hp=>by have:=h.bd _ hp;omega,by omega⟩)
  have HR:=Lib.hid (show VarR (fun k=>F k∨(w.heap.size≤k∧k < w1.heap.size)) P w w1 (w.heap.size+1+1) outZc 127 from ⟨by rw [hw1];exact heap_at (by simp),.inr ⟨by omega,by omega⟩,fun hp=>by have:=h.bd _ hp;omega,by omega⟩)
  have HG:=Lib.hid (h.plusNew hP (Q:=fun k=>w.heap.size≤k∧k < w1.heap.size) m0 (fun k hk=>hk.1))
  have HVE:=Lib.hid (hN.sl hP hve)
  have HVK:=Lib.hid (hN.sl hP hvk)
  have HVI:=Lib.hid (hN.sl hP hvi)
  have HN:=Lib.hid hN
  have HOK:=Lib.hid hok
  have HFIT:=Lib.hid hF
  have HFN:=Lib.hid (findN_leaf hlf key)
  have HNO:=Lib.hid hno
  have HLF:=Lib.hid hlf
  obtain ⟨ea,ec,rfl,_,_,_,_⟩:=hve
  obtain ⟨ka,kc,rfl,_,_,_,_⟩:=hvk
  obtain ⟨ia,ic,rfl,_,_,_,_⟩:=hvi
  obtain ⟨at_,hat⟩:∃ at_,at_=entAt key n.entries:=⟨_,rfl⟩
  have hal:at_≤n.entries.length:=by rw [hat];exact entAt_le _ _
  have HAT:=Lib.hid hat
  have b0:=HB.out.blk.cell (o:=0) rfl
  have b1:=HB.out.blk.cell (o:=1) rfl
  have b2:=HB.out.blk.cell (o:=2) rfl
  have n0:=HD.out.blk.cell (o:=0) rfl
  have n1:=HD.out.blk.cell (o:=1) rfl
  have n2:=HD.out.blk.cell (o:=2) rfl
  have n3:=HD.out.blk.cell (o:=3) rfl
  have HW1:=Lib.hid hw1
  have HFD:=findNode_any n key _ _ (.slice ia n.kids.length ic) HVE.out HVK.out
  rw [hlf,findN_leaf hlf key,hno,← hat] at HFD
  have HFD:=Lib.hid HFD
  have HEN:=Lib.hid (fun W=>entryS_any (c:=c) (s:=s) (w:=W) gen key v hv)
  clear hL hP h m0 hN hok hw1 hF hlf hno hv hat
  unfold pgV at HEN ⊢
  go_enter Tryz.func79, Tryz.ntmps79
  go_wp2_with fail
  rw [← HW1.out]
  refine HFD.out.mono ?_
  rintro e w2 ⟨rfl,hm2⟩
  have HX2:=Lib.hid hm2
  have b0:=cellE hm2 b0
  have b1:=cellE hm2 b1
  have b2:=cellE hm2 b2
  clear hm2
  go_wp2_with fail
  refine (HEN.out _).mono ?_
  rintro e w3 ⟨rfl,hm3⟩
  obtain ⟨w4,hw4⟩:∃ w4,w4=(w3.alloc (.cells #[.string key,.string v,.int .i64 0,.int .i64 0] 107)).alloc (.cells #[.string key,.string v,.int .i64 0,.int .i64 0] 107):=⟨_,rfl⟩
  have hm4:Ext w1 w4:=by rw [hw4];exact ((HX2.out.trans hm3).alloc _).alloc _
  have HX4:=Lib.hid hm4
  have n1:=(HD.out.ext (HX2.out.trans hm3)).blk.cell (o:=1) rfl
  have n1c:=cell_alloc n1 (.cells #[.string key,.string v,.int .i64 0,.int .i64 0] 107)
  have HSL1:Hid (Sl (fun k=>F k∨(w.heap.size≤k∧k < w1.heap.size)) w4 4 encE (.slice (some ⟨w3.heap.size+1,0,none⟩) 1 1) [(⟨key,v,0,0⟩:EntryA)]):=Lib.hid (Sl.one (by rw [hw4];exact heap_at (by simp)) (fun f=>by
    rcases f with f | f
    · have:=HN.out.env.lt _ (.inl f);have:=(HX2.out.trans hm3).size;omega
    · have:=(HX2.out.trans hm3).size;omega))
  have n1b:w4.cell? ⟨w.heap.size+1,1,none⟩=some (.slice ea n.entries.length ec):=(HD.out.ext hm4).blk.cell (o:=1) rfl
  have HW4:=Lib.hid hw4
  clear hm3 hm4 hw4
  go_wp2_with fail
  rw [← HW4.out]
  refine (laidE_any _ _ n.entries [(⟨key,v,0,0⟩:EntryA)] (HVE.out.ext HX4.out) HSL1.out at_ 0 (by omega) (by omega) (by simp)).mono ?_
  rintro e w5 ⟨ev,rfl,hO5,hm5⟩
  obtain ⟨oa,oc,rfl,_,_⟩:=hO5.form
  have HL5:Hid ((n.entries.take at_ ++ [(⟨key,v,0,0⟩:EntryA)] ++ n.entries.drop (at_+0))=(withE n key ⟨key,v,0,0⟩).entries):=Lib.hid (by rw [withE_new HNO.out,HAT.out])
  rw [HL5.out] at hO5 ⊢
  have HX5:=Lib.hid (HX4.out.trans hm5)
  have hD5:=HD.out.ext HX5.out
  have HO5:=Lib.hid (hO5.rebase (base':=w1.heap.size) HX4.out.size)
  have d0:=hD5.blk.cell (o:=0) (v:=.bool true) rfl
  have d1:=hD5.blk.cell (o:=1) (v:=.slice ea n.entries.length ec) rfl
  have d2:=hD5.blk.cell (o:=2) (v:=.slice ka n.keys.length kc) rfl
  have d3:=hD5.blk.cell (o:=3) (v:=.slice ia n.kids.length ic) rfl
  have df:=hD5.blk.frozen
  have b0:=(HB.out.ext HX5.out).blk.cell (o:=0) rfl
  have b1:=(HB.out.ext HX5.out).blk.cell (o:=1) rfl
  have b2:=(HB.out.ext HX5.out).blk.cell (o:=2) rfl
  obtain ⟨n',hn'⟩:∃ n',n'=withE n key ⟨key,v,0,0⟩:=⟨_,rfl⟩
  have HN':Hid (n'.leaf=true∧n'.keys=n.keys∧n'.kids=n.kids):=Lib.hid (by rw [hn'];exact ⟨HLF.out,rfl,rfl⟩)
  rw [← hn'] at HO5 HOK HFIT HL5 ⊢
  have mD:Mods (fun k=>k=w.heap.size+1) w5 (w5.setCell ⟨w.heap.size+1,1,none⟩ (.slice oa n'.entries.length oc)):=Mods.at _ w5 _ 1 _ rfl
  have HGD:=Lib.hid ((HG.out.at HX5.out).var hD5 mD)
  have HND:=Lib.hid ((HN.out.trans (Nxt.ext HN.out.env HN.out.sub HX5.out)).var hD5 mD)
  have HRD:=Lib.hid ((HR.out.ext HX5.out).other mD (by omega))
  have hmF:=hD5.mF mD
  have HSE:Hid (Sl (fun k=>F k∨(w.heap.size≤k∧k < w1.heap.size)) (w5.setCell ⟨w.heap.size+1,1,none⟩ (.slice oa n'.entries.length oc)) 4 encE (.slice oa n'.entries.length oc) n'.entries):=Lib.hid ((HO5.out.slF (fun k hk=>by
    rcases hk with hk | hk
    · exact HN.out.env.lt k (.inl hk)
    · exact hk.2) encE_ok.len (by have:=HOK.out.few.1;omega)).mods hmF)
  have HSK:=Lib.hid (((HVK.out.ext HX5.out).mods hmF))
  have HSI:=Lib.hid (((HVI.out.ext HX5.out).mods hmF))
  have HST:=settleF_any n' HFIT.out HND.out.env HND.out.sub HGD.out gen old hgen _ _ _ HSE.out (by rw [HN'.out.2.1];exact HSK.out) (by rw [HN'.out.2.2];exact HSI.out) HOK.out
  rw [HN'.out.1] at HST
  unfold pgV at HST
  have HST:=Lib.hid HST
  have HNN:=Lib.hid hn'
  clear hO5 hm5 hD5 mD hmF hn'
  go_wp2_with fail
  refine HST.out.mono ?_
  rintro e w6 ⟨P6,F6,G6,l6,hG6,hN6,hr⟩
  have HR6:=Lib.hid (HRD.out.nxt hN6)
  have HG6:=Lib.hid hG6
  have HN6:=Lib.hid (HND.out.trans hN6)
  have hlt6:w.heap.size+1+1 < w6.heap.size:=HR6.out.blk.lt
  have hne6:w6.heap.size ≠ w.heap.size+1+1:=by omega
  clear hG6 hN6
  rcases hr with ⟨o,hs,rfl⟩ | ⟨k,o,f,el,hs,hfr,rfl,hE⟩
  · have HS:=Lib.hid hs
    clear hs
    unfold outC
    have q0:=HR6.out.blk.cell (o:=0) rfl
    have q1:=HR6.out.blk.cell (o:=1) rfl
    have q2:=HR6.out.blk.cell (o:=2) rfl
    have q3:=HR6.out.blk.cell (o:=3) rfl
    have q4:=HR6.out.blk.cell (o:=4) rfl
    have qf:=HR6.out.blk.frozen
    go_wp2_with fail
    have mR:=Mods.set5 (F:=fun k=>k=w.heap.size+1+1) (Mods.refl _ w6) (R:=w.heap.size+1+1) (.inr rfl) (.int .i64 (o.id0:Int)) (.int .i64 (o.id1:Int)) (.string o.key) (.bool o.two) (.bool true)
    have bR:=HR6.out.blk.set5 (.int .i64 (o.id0:Int)) (.int .i64 (o.id1:Int)) (.string o.key) (.bool o.two) (.bool true)
    have gR:=HG6.out.var HR6.out mR
    have nR:=HN6.out.var HR6.out mR
    have mA:=(Mods.refl (fun _=>False) (((((w6.setCell ⟨w.heap.size+1+1,0,none⟩ (.int .i64 (o.id0:Int))).setCell ⟨w.heap.size+1+1,1,none⟩ (.int .i64 (o.id1:Int))).setCell ⟨w.heap.size+1+1,2,none⟩ (.string o.key)).setCell ⟨w.heap.size+1+1,3,none⟩ (.bool o.two)).setCell ⟨w.heap.size+1+1,4,none⟩ (.bool true))).alloc (.cells #[.int .i64 (o.id0:Int),.int .i64 (o.id1:Int),.string o.key,.bool o.two,.bool true] 127)
    refine bodyPost_ret (results_row_tmp rfl _ _ (w.heap.size+1+1) 127 _ _ rfl (bR.ext mA) Tryz.underlying127 rfl Tryz.outSz) rfl ?_
    exact ⟨P6,F6,G6,l6,gR.at mA,nR.trans (Nxt.ext nR.env nR.sub mA),.inl ⟨{ o with news:=true },by rw [← HNN.out,HS.out];rfl,rfl⟩⟩
  · have HS:=Lib.hid hs
    have HE:=Lib.hid hE
    clear hs hE
    unfold outC
    have q0:=HR6.out.blk.cell (o:=0) rfl
    have q1:=HR6.out.blk.cell (o:=1) rfl
    have q2:=HR6.out.blk.cell (o:=2) rfl
    have q3:=HR6.out.blk.cell (o:=3) rfl
    have q4:=HR6.out.blk.cell (o:=4) rfl
    have qf:=HR6.out.blk.frozen
    go_wp2_with fail
    have mR:=Mods.set5 (F:=fun k=>k=w.heap.size+1+1) (Mods.refl _ w6) (R:=w.heap.size+1+1) (.inr rfl) (.int .i64 (o.id0:Int)) (.int .i64 (o.id1:Int)) (.string o.key) (.bool o.two) (.bool true)
    have bR:=HR6.out.blk.set5 (.int .i64 (o.id0:Int)) (.int .i64 (o.id1:Int)) (.string o.key) (.bool o.two) (.bool true)
    have gR:=HG6.out.var HR6.out mR
    have nR:=HN6.out.var HR6.out mR
    have mA:=(Mods.refl (fun _=>False) (((((w6.setCell ⟨w.heap.size+1+1,0,none⟩ (.int .i64 (o.id0:Int))).setCell ⟨w.heap.size+1+1,1,none⟩ (.int .i64 (o.id1:Int))).setCell ⟨w.heap.size+1+1,2,none⟩ (.string o.key)).setCell ⟨w.heap.size+1+1,3,none⟩ (.bool o.two)).setCell ⟨w.heap.size+1+1,4,none⟩ (.bool true))).alloc (.cells #[.int .i64 (o.id0:Int),.int .i64 (o.id1:Int),.string o.key,.bool o.two,.bool true] 127)
    refine bodyPost_ret (results_row_tmp rfl _ _ (w.heap.size+1+1) 127 _ _ rfl (bR.ext mA) Tryz.underlying127 rfl Tryz.outSz) rfl ?_
    exact ⟨P6,F6,G6,l6,gR.at mA,nR.trans (Nxt.ext nR.env nR.sub mA),.inr ⟨k,{ o with news:=true },f,el,by rw [← HNN.out,HS.out];rfl,hfr,rfl,(HE.out.mods (HR6.out.mF mR)).mods mA.ext⟩⟩
end
def checkK (key v:ByteArray):Option Err:=if keyB key=false then some ([-1],2) else if 4096 < v.size then some ([-1],8) else none
section
variable {P P' F F':Nat→Prop} {ad:Nat→Addr} {w w':World} {c s:Nat} {G:GA} {l:List Nat}
set_option maxRecDepth 100000 in
theorem inCheck_any (hL:Env F ad w) (gen:Nat) (key v:ByteArray) (hfu:Full ad∨v.size≤4096) :
    Calls Tryz.prog 78 #[pgV c s gen,.string key,.string v] w fun e w'=>∃ ev,e=.returned ev∧ErrR F ad w' ev (checkK key v)∧Ext w w':=by
  unfold pgV
  have m0:Ext w (w.alloc (.cells #[.pointer (some ⟨c,0,none⟩),.pointer (some ⟨s,0,none⟩),.int .u64 (gen:Int)] 45)):=(Mods.refl _ w).alloc _
  have hL0:=hL.mods m0.ext
  have g2:=hL0.c2
  have HL:=Lib.hid hL0
  have M0:=Lib.hid m0
  have HFU:=Lib.hid hfu
  clear hL hL0 m0 hfu
  cases hk:keyB key with
  | false =>
    have HR:Hid (checkK key v=some ([-1],2)):=Lib.hid (by unfold checkK;rw [if_pos hk])
    have HK:=Lib.hid (key_any key)
    rw [hk] at HK
    clear hk
    go_enter Tryz.func78, Tryz.ntmps78
    go_wp2_with fail
    refine (HK.out _).mono ?_
    rintro e w1 ⟨rfl,rfl⟩
    go_wp2_with fail
    refine (new_any HL.out _ _ [] 2 (.sent 2 (by decide) (by decide))).mono ?_
    rintro e w1 ⟨f,rfl,hE,hm⟩
    have HE:=Lib.hid hE
    have HM:=Lib.hid hm
    clear hE hm
    go_wp2_with fail
    go_ret
    exact ⟨_,rfl,by rw [HR.out];exact ⟨f,rfl,HE.out⟩,M0.out.trans HM.out⟩
  | true =>
    have HK:=Lib.hid (key_any key)
    rw [hk] at HK
    by_cases hv:4096 < v.size
    · have HR:Hid (checkK key v=some ([-1],8)):=Lib.hid (by unfold checkK;rw [if_neg (by rw [hk];simp),if_pos hv])
      have hv2:(4096:Int) < (v.size:Int):=by omega
      have g8:=HL.out.c8 (HFU.out.resolve_right (by omega))
      clear hk hv
      go_enter Tryz.func78, Tryz.ntmps78
      go_wp2_with fail
      refine (HK.out _).mono ?_
      rintro e w1 ⟨rfl,rfl⟩
      go_wp2_with fail
      refine (new_any HL.out _ _ [] 8 (.sent 8 (by decide) (by decide))).mono ?_
      rintro e w1 ⟨f,rfl,hE,hm⟩
      have HE:=Lib.hid hE
      have HM:=Lib.hid hm
      clear hE hm
      go_wp2_with fail
      go_ret
      exact ⟨_,rfl,by rw [HR.out];exact ⟨f,rfl,HE.out⟩,M0.out.trans HM.out⟩
    · have HR:Hid (checkK key v=none):=Lib.hid (by unfold checkK;rw [if_neg (by rw [hk];simp),if_neg hv])
      have hv2:¬ (4096:Int) < (v.size:Int):=by omega
      clear hk hv
      go_enter Tryz.func78, Tryz.ntmps78
      go_wp2_with fail
      refine (HK.out _).mono ?_
      rintro e w1 ⟨rfl,rfl⟩
      go_wp2_with fail
      go_ret
      exact ⟨_,rfl,by rw [HR.out];rfl,M0.out⟩
end
def leaf1 (key v:ByteArray):NodeA:=⟨true,[⟨key,v,0,0⟩],[],[]⟩
theorem leaf1_right {key v:ByteArray} (hk:keyB key=true) (hv:v.size≤24):rightN (leaf1 key v)=true:=by
  unfold rightN leaf1 rightE
  simp [hk,hv,risingS]
theorem leaf1_wt {key v:ByteArray} (hk:keyB key=true) (hv:v.size≤24):weightN (leaf1 key v)≤61:=by
  have:=(keyB_iff key).1 hk
  unfold weightN leaf1
  simp [sumE,sumK,weightE]
  omega
theorem leaf1_with (key v:ByteArray):withE leaf0 key ⟨key,v,0,0⟩=leaf1 key v:=rfl
theorem leaf1_ok {G:GA} {l:List Nat} {key v:ByteArray} (hk:keyB key=true) (hv:v.size≤24) (hl:LowL l) (hlen:l.length≤G.blocks) (hco:G.cost+10≤1000000) (hs:256≤G.size):SetOk G l 0 (leaf1 key v):=by
  have h1:=leaf1_wt hk hv
  have h2:=leaf1_right hk hv
  refine ⟨.inl rfl,hl,hlen,hco,by omega,fun _=>?_,fun hn=>by omega,by simp [leaf1]⟩
  have:=weight_len (form_right h2)
  omega
def Put0P (F P:Nat→Prop) (ad:Nat→Addr) (w:World) (c s gen:Nat) (G:GA) (l:List Nat) (key v:ByteArray) (i:Nat) (e:Ending) (w':World):Prop :=
  ∃ P' F',PgR F' w' P' c s (downG G l gen 0 (leaf1 key v)) (downL G l 0 (leaf1 key v))∧Nxt P P' F F' ad w w'∧e=.returned (.tuple #[.int .i64 (i:Int),.bool true,.nilIface])
section
variable {P P' F F':Nat→Prop} {ad:Nat→Addr} {w w':World} {c s:Nat} {G:GA} {l:List Nat}
set_option maxRecDepth 100000 in
set_option maxHeartbeats 2000000 in
theorem put0_any (hL:Env F ad w) (hP:∀ k,P k→F k) (h:PgR F w P c s G l) (gen:Nat) (hgen:gen < 18446744073709551616) (key v:ByteArray) (hk:keyB key=true) (hv:v.size≤24) (hl:LowL l) (hlen:l.length≤G.blocks) (hco:G.cost+10≤1000000) (i:Nat) (hi:spFree l=some i) :
    Calls Tryz.prog 26 #[pgV c s gen,.int .i64 0,.string key,.string v] w (Put0P F P ad w c s gen G l key v i):=by
  have m0:Ext w (w.alloc (.cells #[.pointer (some ⟨c,0,none⟩),.pointer (some ⟨s,0,none⟩),.int .u64 (gen:Int)] 45)):=(Mods.refl _ w).alloc _
  have HB0:=Lib.hid (Blk.new w #[.pointer (some ⟨c,0,none⟩),.pointer (some ⟨s,0,none⟩),.int .u64 (gen:Int)] 45)
  have HC:=inCheck_any (c:=c) (s:=s) (hL.mods m0.ext) gen key v (.inr (by omega))
  rw [show checkK key v=none by unfold checkK;rw [if_neg (by rw [hk];simp),if_neg (by omega)]] at HC
  have hlim:=h.lim
  have hst:settleA G l gen 0 (leaf1 key v)=.inl (downG G l gen 0 (leaf1 key v),downL G l 0 (leaf1 key v),⟨i,0,e0,false,false⟩):=by
    have h1:=leaf1_wt hk hv
    have hd:downI G l 0 (leaf1 key v)=some i:=by
      unfold downI
      rw [if_pos ⟨leaf1_right hk hv,by omega⟩]
      unfold placeI
      rw [if_neg (by simp)]
      exact hi
    unfold settleA
    rw [if_pos (by omega),hd]
  have HST:=Lib.hid hst
  have HOK:=Lib.hid (leaf1_ok hk hv hl hlen hco hlim.2.2.1)
  have HFT:Hid (weightN (leaf1 key v)≤(G.size:Int) - 24):=Lib.hid (by have:=leaf1_wt hk hv;omega)
  have HV:=Lib.hid hv
  have HG:=Lib.hid h
  have HP:=Lib.hid hP
  have HL:=Lib.hid hL
  have M0:=Lib.hid m0
  have HC:=Lib.hid HC
  have HBP:Hid (¬ P w.heap.size):=Lib.hid (fun hp=>by have:=h.bd _ hp;omega)
  unfold pgV at HC ⊢
  clear hL hP h m0 hk hv hl hlen hco hi hlim hst
  go_enter Tryz.func26, Tryz.ntmps26
  go_wp2_with fail
  refine HC.out.mono ?_
  rintro e w1 ⟨ev,rfl,hE,hm1⟩
  cases hE
  have M1:=Lib.hid (M0.out.trans hm1)
  have HB1:=Lib.hid (HB0.out.ext hm1)
  obtain ⟨w2,hw2⟩:∃ w2,w2=w1.alloc (.cells outZc 127):=⟨_,rfl⟩
  have m2:Ext w w2:=by rw [hw2];exact M1.out.alloc _
  have hz:w2.heap.size=w1.heap.size+1:=by rw [hw2];simp
  have hz1:w.heap.size < w1.heap.size:=HB1.out.lt
  have HN2:Hid (Nxt P P F (fun k=>F k∨k=w1.heap.size) ad w w2):=Lib.hid (Nxt.new HL.out HP.out (Q:=fun k=>k=w1.heap.size) m2 (fun k hk=>by omega) (fun k hk=>by omega))
  have HG2:=Lib.hid (HG.out.plusNew HP.out (Q:=fun k=>k=w1.heap.size) m2 (fun k hk=>by omega))
  have HO:=Lib.hid (show VarR (fun k=>F k∨k=w1.heap.size) P w w2 w1.heap.size outZc 127 from ⟨by rw [hw2];exact Blk.new _ _ _,.inr rfl,fun hp=>by have:=HG.out.bd _ hp;omega,by omega⟩)
  have b0:=cell_alloc (HB1.out.cell (o:=0) (v:=.pointer (some ⟨c,0,none⟩)) rfl) (.cells outZc 127)
  have b1:=cell_alloc (HB1.out.cell (o:=1) (v:=.pointer (some ⟨s,0,none⟩)) rfl) (.cells outZc 127)
  have b2:=cell_alloc (HB1.out.cell (o:=2) (v:=.int .u64 (gen:Int)) rfl) (.cells outZc 127)
  have HLF:=leafS_any (w:=w2) leaf0 rfl key v rfl HV.out (by rw [leaf1_with];exact HFT.out) HN2.out.env HN2.out.sub HG2.out gen 0 hgen (.slice none 0 0) (.slice none 0 0) (.slice none 0 0) (Sl.nil _ _ _ _) (Sl.nil _ _ _ _) (Sl.nil _ _ _ _) (by simp [leaf0]) (by rw [leaf1_with];exact HOK.out)
  rw [leaf1_with,HST.out] at HLF
  unfold pgV at HLF
  have HLF:=Lib.hid HLF
  have HW2:=Lib.hid hw2
  clear hm1 m2 hw2
  go_wp2_with fail
  rw [← HW2.out]
  refine HLF.out.mono ?_
  rintro e w3 ⟨P3,F3,G3,l3,hG3,hN3,⟨o,ho,rfl⟩ | ⟨k,o,f,el,ho,_⟩⟩
  · simp only [newsA,Sum.inl.injEq,Prod.mk.injEq] at ho
    obtain ⟨rfl,rfl,rfl⟩:=ho
    have HO3:=Lib.hid (HO.out.nxt hN3)
    have HG3:=Lib.hid hG3
    have HN3:=Lib.hid (HN2.out.trans hN3)
    have q0:=HO3.out.blk.cell (o:=0) rfl
    have q1:=HO3.out.blk.cell (o:=1) rfl
    have q2:=HO3.out.blk.cell (o:=2) rfl
    have q3:=HO3.out.blk.cell (o:=3) rfl
    have q4:=HO3.out.blk.cell (o:=4) rfl
    have qf:=HO3.out.blk.frozen
    have mR:=Mods.set5 (F:=fun k=>k=w1.heap.size) (Mods.refl _ w3) (R:=w1.heap.size) (.inr rfl) (.int .i64 (i:Int)) (.int .i64 0) (.string e0) (.bool false) (.bool true)
    have HGR:=Lib.hid (HG3.out.var HO3.out mR)
    have HNR:=Lib.hid (HN3.out.var HO3.out mR)
    have HBR:=Lib.hid (HO3.out.blk.set5 (.int .i64 (i:Int)) (.int .i64 0) (.string e0) (.bool false) (.bool true))
    unfold outC
    clear hG3 hN3 mR
    go_wp2_with fail
    have q0:=HBR.out.cell (o:=0) rfl
    have q4:=HBR.out.cell (o:=4) rfl
    go_quiet (fail)
    go_wp2_with fail
    refine bodyPost_ret (v:=.tuple #[.int .i64 (i:Int),.bool true,.nilIface]) (by simp [results,Tryz.results26,go_sem]) rfl ?_
    exact ⟨P3,F3,HGR.out.at ((Mods.refl _ _).drewN _),HNR.out.trans (Nxt.ext HNR.out.env HNR.out.sub ((Mods.refl _ _).drewN _)),rfl⟩
  · cases ho
end
section
variable {P P' P1 P2 F F' F1 F2 Q:Nat→Prop} {ad:Nat→Addr} {w w' wr w2:World} {c s:Nat} {G:GA} {l:List Nat} {v v':Value} {gen:Nat}
set_option maxRecDepth 100000 in
set_option maxHeartbeats 4000000 in
theorem find_any (hL:Env F ad w) (hP:∀ k,P k→F k) (h:PgR F w P c s G l) (gen:Nat) (root:Int) (key:ByteArray) (hk:findOk G key 16 root) :
    Calls Tryz.prog 101 #[pgV c s gen,.int .i64 root,.string key] w (PgDone F P ad w c s G l (fun F' w' e=>FindRes F' ad w' (findA G key 16 [] root) e)):=by
  have m0:Ext w ((w.alloc (.cells #[.pointer (some ⟨c,0,none⟩),.pointer (some ⟨s,0,none⟩),.int .u64 (gen:Int)] 45)).alloc (.cells #[.bool false,.slice none 0 0,.slice none 0 0,.slice none 0 0] 26)):=((Mods.refl _ w).alloc _).alloc _
  have HF0:Hid (FiS F P ad w c s gen G l (fun k=>F k∨k=w.heap.size+1) P ((w.alloc (.cells #[.pointer (some ⟨c,0,none⟩),.pointer (some ⟨s,0,none⟩),.int .u64 (gen:Int)] 45)).alloc (.cells #[.bool false,.slice none 0 0,.slice none 0 0,.slice none 0 0] 26)) (.slice none 0 0) []):=Lib.hid
    ⟨h.plusNew hP m0 (fun k hk=>by omega),Nxt.new hL hP m0 (fun k hk=>by omega) (fun k hk=>by simp;omega),LocR.nil _ _ _ _ _ _ _,(Blk.new w _ _).alloc _,fun hp=>by have:=h.bd _ hp;omega,heap_at (by simp),fun hp=>by have:=h.bd _ hp;omega,.inr rfl⟩
  have HK:=Lib.hid hk
  have HFL:=Lib.hid hL.lt
  clear hL hP h hk m0
  have HLD:=fun (F1 P1:Nat→Prop) (wr:World) (h1:Env F1 ad wr) (h2:∀ k,P1 k→F1 k) (h3:PgR F1 wr P1 c s G l) (id:Int) (h4:G.knows id)=>load_any h1 h2 h3 gen id h4
  unfold pgV at HLD ⊢
  have HLD:=Lib.hid HLD
  go_enter Tryz.func101, Tryz.ntmps101
  go_wp2_with fail
  go_loopg [9,10] 16 (fun m v9 v10 wr=>∃ (F1 P1:Nat→Prop) (st:List (Int × Nat)) (id:Int),st.length+m=16∧v10=.int .i64 id∧Hid (FiS F P ad w c s gen G l F1 P1 wr v9 st∧findA G key m st id=findA G key 16 [] root∧findOk G key m id))
  case atStart=>exact ⟨_,P,[],root,rfl,rfl,Lib.hid ⟨HF0.out,rfl,HK.out⟩⟩
  case round =>
    obtain ⟨F1,P1,st,id,hm,rfl,HW⟩:=hrel
    obtain ⟨va,vc,rfl,hv1,hv2⟩:=HW.out.1.row.1.form
    unfold maxLen at hv2
    have hbb:=HW.out.1.box.lt
    have hrr:=HW.out.1.res.lt
    by_cases hlt:0 < gk
    · obtain ⟨m,rfl⟩:∃ m,gk=m+1:=⟨gk - 1,by omega⟩
      have hb0:=HW.out.1.box.cell (o:=0) (v:=.pointer (some ⟨c,0,none⟩)) rfl
      have hb1:=HW.out.1.box.cell (o:=1) (v:=.pointer (some ⟨s,0,none⟩)) rfl
      have hb2:=HW.out.1.box.cell (o:=2) (v:=.int .u64 (gen:Int)) rfl
      have hlen:(st.length:Int) < 16:=by omega
      go_wp2_with fail
      refine (HLD.out F1 P1 _ HW.out.1.nx.env HW.out.1.nx.sub HW.out.1.pg id HW.out.2.2.1).mono ?_
      rintro e w2 ⟨P2,F2,hG2,hN2,hres⟩
      have HW2:=Lib.hid (HW.out.1.nxt hN2 hG2)
      have HM2:=Lib.hid (hN2.subP HW.out.1.nx.sub)
      clear hG2 hN2 hb0 hb1 hb2
      generalize hld:G.load id=r at hres
      rcases r with n | ⟨el,ek⟩
      · obtain ⟨ve,vk,vi,rfl,hse,hsk,hsi⟩:=hres
        have hrn:=GA.load_right hld
        obtain ⟨ea,ec,rfl,_,_,_,_⟩:=_root_.id hse
        obtain ⟨ka,kc,rfl,_,_,_,_⟩:=_root_.id hsk
        obtain ⟨ia,ic,rfl,_,hic,_,hii⟩:=_root_.id hsi
        unfold maxLen at hic
        obtain ⟨at_,isb,hfn⟩:∃ a b,findN n key=(a,b):=⟨_,_,rfl⟩
        have HLD2:=Lib.hid hld
        have HFN:=Lib.hid hfn
        have HRN:=Lib.hid hrn
        have HII:=Lib.hid hii
        have m2:Ext w2 (w2.alloc (.cells #[.bool n.leaf,.slice ea n.entries.length ec,.slice ka n.keys.length kc,.slice ia n.kids.length ic] 26)):=(Mods.refl _ w2).alloc _
        have HFD:=Lib.hid (findNode_any n key _ _ (.slice ia n.kids.length ic) (hse.ext m2) (hsk.ext m2))
        have HX2:=Lib.hid (Blk.new w2 #[.bool n.leaf,.slice ea n.entries.length ec,.slice ka n.keys.length kc,.slice ia n.kids.length ic] 26)
        have HSE:=Lib.hid hse
        have HSK:=Lib.hid hsk
        have HSI:=Lib.hid hsi
        have HM2':=Lib.hid m2
        clear hld hfn hrn hii hse hsk hsi m2
        go_wp2_with fail
        refine (HFD.out).mono ?_
        rintro e w3 ⟨rfl,hm3⟩
        rw [HFN.out]
        have HW3:=Lib.hid (HW2.out.ext (HM2'.out.trans hm3))
        have HX3:=Lib.hid (HX2.out.ext hm3)
        have HM3:=Lib.hid (HM2'.out.trans hm3)
        have hb3:=HW3.out.box.lt
        clear hm3
        cases hlf:n.leaf
        · have HLF:=Lib.hid hlf
          have hlt2:at_ < n.kids.length:=by have:=findN_lt HRN.out hlf key;rw [HFN.out] at this;exact this
          have HLT2:=Lib.hid hlt2
          rw [hlf] at HX3
          clear hlf
          obtain ⟨kb,koff,rfl,_,_,_⟩:=Sl.at HII.out (Mods.refl F2 w2) (fun k _ h=>h) at_ hlt2
          obtain ⟨kid,hkid⟩:∃ kid,kid=n.kids[at_]:=⟨_,rfl⟩
          have HKID:=Lib.hid hkid
          clear hkid
          go_wp2_with (at_builtin;refine wpl_app2 Tryz.elSt encSt_ok rfl _ _ rfl w.heap.size _ _ st [(id,at_)] rfl rfl (HW3.out.row.1.ext ((Mods.refl _ _).alloc _)) (Sl.one (F:=fun _=>False) (heap_at (by simp)) (fun f=>f)) (by simp only [List.length_cons,List.length_nil];omega) (by simp;omega) (fun f=>f) ?_;simp only [List.length_cons,List.length_nil,Nat.zero_add];intro a4 c4 w4 hO4 hm4 hat4;have hX4:=(HX3.out.alloc (.cells #[.int .i64 id,.int .i64 (at_:Int)] 237)).mods hm4 (fun e=>Own.notB HW3.out.row.1 HX3.out (by decide) _ e rfl);have x0:=hX4.cell (o:=0) (v:=.bool false) rfl;have x3:=hX4.cell (o:=3) (v:=.slice (some ⟨kb,koff,none⟩) n.kids.length ic) rfl;have hM4:Mods F2 w2 w4:=((HM3.out.alloc _).ext).trans (hm4.mono (fun k hk=>(HW3.out.row.2 k hk).1));have d0:w4.cell? ⟨kb,koff+at_,none⟩=some (.int .i64 kid):=kid_cell HII.out hM4 HLT2.out HKID.out)
          have HW4:=Lib.hid ((HW3.out.ext ((Mods.refl _ w3).alloc (.cells #[.int .i64 id,.int .i64 (at_:Int)] 237))).app hO4 hm4 hat4)
          have HX4:=Lib.hid hX4
          have HM4:Hid (Mods F2 w2 w4):=Lib.hid (((HM3.out.alloc _).ext).trans (hm4.mono (fun k hk=>(HW3.out.row.2 k hk).1)))
          have HO4:=Lib.hid hO4
          clear hX4 hO4 hm4 hat4 hM4 d0 x0 x3
          have HFA:Hid (findA G key m (st ++ [(id,at_)]) kid=findA G key 16 [] root):=Lib.hid (by
            have h1:=HW.out.2.1
            rw [findA,HLD2.out] at h1
            simp only [HLF.out,Bool.false_eq_true,if_false,HFN.out] at h1
            rw [kids_at (List.getElem?_eq_getElem HLT2.out)] at h1
            rw [HKID.out]
            exact h1)
          have HOK:Hid (findOk G key m kid):=Lib.hid (by
            have h1:=HW.out.2.2.2 n HLD2.out HLF.out
            rw [HFN.out] at h1
            simp only [kids_at (List.getElem?_eq_getElem HLT2.out)] at h1
            rw [HKID.out];exact h1)
          go_wp2_with fail
          go_roundg m
          case measure=>omega
          case rel=>exact ⟨_,P2,st ++ [(id,at_)],kid,by rw [List.length_append,List.length_cons,List.length_nil];omega,rfl,Lib.hid ⟨HW4.out,HFA.out,HOK.out⟩⟩
        · have HLF:=Lib.hid hlf
          rw [hlf] at HX3
          clear hlf
          go_wp2_with (at_builtin;refine wpl_app2 Tryz.elSt encSt_ok rfl _ _ rfl w.heap.size _ _ st [(id,at_)] rfl rfl (HW3.out.row.1.ext ((Mods.refl _ _).alloc _)) (Sl.one (F:=fun _=>False) (heap_at (by simp)) (fun f=>f)) (by simp only [List.length_cons,List.length_nil];omega) (by simp;omega) (fun f=>f) ?_;simp only [List.length_cons,List.length_nil,Nat.zero_add];intro a4 c4 w4 hO4 hm4 hat4;have hX4:=(HX3.out.alloc (.cells #[.int .i64 id,.int .i64 (at_:Int)] 237)).mods hm4 (fun e=>Own.notB HW3.out.row.1 HX3.out (by decide) _ e rfl);have x0:=hX4.cell (o:=0) (v:=.bool true) rfl;have x1:=hX4.cell (o:=1) (v:=.slice ea n.entries.length ec) rfl;have x2:=hX4.cell (o:=2) (v:=.slice ka n.keys.length kc) rfl;have x3:=hX4.cell (o:=3) (v:=.slice ia n.kids.length ic) rfl;have hR:=(HW3.out.res.alloc (.cells #[.int .i64 id,.int .i64 (at_:Int)] 237)).mods hm4 (fun e=>Own.notB HW3.out.row.1 HW3.out.res (by decide) _ e rfl);have r0:=hR.cell (o:=0) (v:=.bool false) rfl;have r1:=hR.cell (o:=1) (v:=.slice none 0 0) rfl;have r2:=hR.cell (o:=2) (v:=.slice none 0 0) rfl;have r3:=hR.cell (o:=3) (v:=.slice none 0 0) rfl;have rf:=hR.frozen)
          have HW4:=Lib.hid ((HW3.out.ext ((Mods.refl _ w3).alloc (.cells #[.int .i64 id,.int .i64 (at_:Int)] 237))).app hO4 hm4 hat4)
          have HX4:=Lib.hid hX4
          have HM4:Hid (Mods F2 w2 w4):=Lib.hid (((HM3.out.alloc _).ext).trans (hm4.mono (fun k hk=>(HW3.out.row.2 k hk).1)))
          have HO4:=Lib.hid hO4
          have hne:w2.heap.size ≠ w.heap.size+1:=by have:=HW2.out.res.lt;omega
          have hne2:w.heap.size+1 ≠ w2.heap.size:=fun e=>hne e.symm
          clear hX4 hO4 hm4 hat4 hR
          go_wp2_with fail
          go_region_held3 (fun w'=>w'.cell? ⟨w2.heap.size,0,none⟩=some (.bool true)∧w'.cell? ⟨w2.heap.size,1,none⟩=some (.slice ea n.entries.length ec)∧w'.cell? ⟨w2.heap.size,2,none⟩=some (.slice ka n.keys.length kc)∧w'.cell? ⟨w2.heap.size,3,none⟩=some (.slice ia n.kids.length ic))
            (first | (with_reducible exact ⟨x0,x1,x2,x3⟩) | go_keep)
            (fail)
          have HFA:Hid (findA G key 16 [] root=.inl (st ++ [(id,at_)],n)):=Lib.hid (by
            rw [← HW.out.2.1,findA,HLD2.out]
            simp only [HLF.out,if_true,HFN.out])
          have HRB:=Lib.hid ((HW4.out.res.set4 (.bool true) (.slice ea n.entries.length ec) (.slice ka n.keys.length kc) (.slice ia n.kids.length ic)).drew)
          have HMR:=Lib.hid ((Mods.set4 (F:=fun k=>k=w.heap.size+1) (Mods.refl _ w4) (R:=w.heap.size+1) (.inr rfl) (.bool true) (.slice ea n.entries.length ec) (.slice ka n.keys.length kc) (.slice ia n.kids.length ic)).drew)
          clear x0 x1 x2 x3 r0 r1 r2 r3 rf hne hne2
          go_wp2_with fail
          refine bodyPost_ret (results_tmp_row_tmp rfl _ _ (w.heap.size+1) 26 #[.bool true,.slice ea n.entries.length ec,.slice ka n.keys.length kc,.slice ia n.kids.length ic] _ rfl HRB.out Tryz.underlying26 rfl Tryz.nodeSize) rfl ?_
          have HM5:=HM4.out.trans (HMR.out.mono (G:=F2) (fun k hk=>hk ▸ HW2.out.resF))
          have hn5:=HW4.out.nx.resD HMR.out (R:=w.heap.size+1) (by omega) HW4.out.resF
          have hq:∀ k,(F k∨P2 k)→F2 k:=fun k hk=>hk.elim (HW2.out.nx.grow k) (HW2.out.nx.sub k)
          refine ⟨P2,fun k=>F k∨P2 k,(HW4.out.pg.res HMR.out HW4.out.resP HW4.out.resF).anti (fun k hk=>.inl (hq k hk)),hn5.least,?_⟩
          rw [HFA.out]
          refine ⟨_,_,_,_,by rw [HLF.out];rfl,?_,(HSE.out.mods HM5).anti' hq,(HSK.out.mods HM5).anti' hq,(HSI.out.mods HM5).anti' hq⟩
          have ho:=HW4.out.row.1.mods HMR.out (fun g hg e=>Own.notB HW4.out.row.1 HW4.out.res (by decide) g hg e)
          have hs:Sl (fun k=>F k∨P2 k) _ 2 encSt _ (st ++ [(id,at_)]):=Own.sl (F:=fun k=>F k∨P2 k) ⟨ho.1,fun g hg hf=>hf.elim (fun hf=>by have h1:=(HW4.out.row.1.lt g hg).1;have h2:=HFL.out g hf;omega) (fun hp=>(HW4.out.row.2 g hg).2 hp)⟩ encSt_ok.len (by simp;omega)
          simpa using hs
      · obtain ⟨f,rfl,hE⟩:=hres
        have HE:=Lib.hid hE
        have HFA:Hid (findA G key 16 [] root=.inr (el,ek)):=Lib.hid (by rw [← HW.out.2.1,findA,hld])
        clear hld hE
        have hR:=HW2.out.res.alloc (.cells #[.bool false,.slice none 0 0,.slice none 0 0,.slice none 0 0] 26)
        have r0:=hR.cell (o:=0) (v:=.bool false) rfl
        have r1:=hR.cell (o:=1) (v:=.slice none 0 0) rfl
        have r2:=hR.cell (o:=2) (v:=.slice none 0 0) rfl
        have r3:=hR.cell (o:=3) (v:=.slice none 0 0) rfl
        have rf:=hR.frozen
        have HRB:=Lib.hid (hR.set4 (.bool false) (.slice none 0 0) (.slice none 0 0) (.slice none 0 0))
        have HMR:=Lib.hid (Mods.set4 (F:=fun k=>k=w.heap.size+1) (Mods.refl _ (w2.alloc (.cells #[.bool false,.slice none 0 0,.slice none 0 0,.slice none 0 0] 26))) (R:=w.heap.size+1) (.inr rfl) (.bool false) (.slice none 0 0) (.slice none 0 0) (.slice none 0 0))
        clear hR
        go_wp2_with fail
        refine bodyPost_ret (results_tmp_row_tmp rfl _ _ (w.heap.size+1) 26 #[.bool false,.slice none 0 0,.slice none 0 0,.slice none 0 0] _ rfl HRB.out Tryz.underlying26 rfl Tryz.nodeSize) rfl ?_
        refine ⟨P2,F2,((HW2.out.pg.at ((Mods.refl _ w2).alloc _))).res HMR.out HW2.out.resP HW2.out.resF,(HW2.out.nx.trans (Nxt.ext HW2.out.nx.env HW2.out.nx.sub ((Mods.refl _ w2).alloc _))).resD HMR.out (by omega) HW2.out.resF,?_⟩
        rw [HFA.out]
        exact ⟨f,rfl,(HE.out.mods ((Mods.refl _ w2).alloc _)).mods (HMR.out.mono (fun k hk=>hk ▸ HW2.out.resF))⟩
    · obtain rfl:gk=0:=by omega
      have hlen:st.length=16:=by omega
      have g5:=HW.out.1.nx.env.c5
      have HFA:Hid (findA G key 16 [] root=.inr ([pgOf id],5)):=Lib.hid (by rw [← HW.out.2.1];rfl)
      rw [hlen] at HW hv1 ⊢
      have HL16:=Lib.hid hlen
      clear hlen
      go_wp2_with fail
      refine (at_any HW.out.1.nx.env _ id _ [] 5 (.sent 5 (by decide) (by decide))).mono ?_
      rintro e w2 ⟨f,rfl,hE,hm2⟩
      have HE:=Lib.hid hE
      have HW2:=Lib.hid (HW.out.1.ext hm2)
      have hR:=HW2.out.res
      have r0:=hR.cell (o:=0) (v:=.bool false) rfl
      have r1:=hR.cell (o:=1) (v:=.slice none 0 0) rfl
      have r2:=hR.cell (o:=2) (v:=.slice none 0 0) rfl
      have r3:=hR.cell (o:=3) (v:=.slice none 0 0) rfl
      have rf:=hR.frozen
      have HRB:=Lib.hid (hR.set4 (.bool false) (.slice none 0 0) (.slice none 0 0) (.slice none 0 0))
      have HMR:=Lib.hid (Mods.set4 (F:=fun k=>k=w.heap.size+1) (Mods.refl _ w2) (R:=w.heap.size+1) (.inr rfl) (.bool false) (.slice none 0 0) (.slice none 0 0) (.slice none 0 0))
      clear hR hE hm2
      go_wp2_with fail
      refine bodyPost_ret (results_tmp_row_tmp rfl _ _ (w.heap.size+1) 26 #[.bool false,.slice none 0 0,.slice none 0 0,.slice none 0 0] _ rfl HRB.out Tryz.underlying26 rfl Tryz.nodeSize) rfl ?_
      refine ⟨P1,F1,HW2.out.pg.res HMR.out HW2.out.resP HW2.out.resF,HW2.out.nx.resD HMR.out (by omega) HW2.out.resF,?_⟩
      rw [HFA.out]
      exact ⟨f,rfl,HE.out.mods (HMR.out.mono (fun k hk=>hk ▸ HW2.out.resF))⟩
end
def ValRes (F:Nat→Prop) (ad:Nat→Addr) (w':World) (r:ByteArray ⊕ Err) (e:Ending):Prop :=
  match r with
  | .inl v=>e=.returned (.tuple #[.string v,.nilIface])
  | .inr (l,k)=>∃ f,e=.returned (.tuple #[.string ⟨#[]⟩,faultV f])∧ErrC F ad w' (faultV f) l k
def LookRes (F:Nat→Prop) (ad:Nat→Addr) (w':World) (r:Option ByteArray ⊕ Err) (e:Ending):Prop :=
  match r with
  | .inl (some v)=>e=.returned (.tuple #[.string v,.bool true,.nilIface])
  | .inl none=>e=.returned (.tuple #[.string ⟨#[]⟩,.bool false,.nilIface])
  | .inr (l,k)=>∃ f,e=.returned (.tuple #[.string ⟨#[]⟩,.bool false,faultV f])∧ErrC F ad w' (faultV f) l k
section
variable {P P' P1 P2 F F' F1 F2 Q:Nat→Prop} {ad:Nat→Addr} {w w' wr w2:World} {c s:Nat} {G:GA} {l:List Nat} {v v':Value} {gen:Nat}
set_option maxRecDepth 100000 in
theorem value_any (hL:Env F ad w) (hP:∀ k,P k→F k) (h:PgR F w P c s G l) (gen:Nat) (e:EntryA) (hid : -9223372036854775808≤e.chain∧e.chain≤9223372036854775807) (hok:valueOk G e) :
    Calls Tryz.prog 103 #[pgV c s gen,.agg #[.string e.key,.string e.value,.int .i64 e.chain,.int .i64 e.size]] w (PgDone F P ad w c s G l (fun F' w' ed=>ValRes F' ad w' (valueA G e) ed)):=by
  obtain ⟨key,value,chain,size⟩:=e
  simp only at hid
  have m0:Ext w ((w.alloc (.cells #[.pointer (some ⟨c,0,none⟩),.pointer (some ⟨s,0,none⟩),.int .u64 (gen:Int)] 45)).alloc (.cells #[.string key,.string value,.int .i64 chain,.int .i64 size] 107)):=((Mods.refl _ w).alloc _).alloc _
  have HN0:=Lib.hid (Nxt.ext hL hP m0)
  have HG0:=Lib.hid (h.at m0)
  have HOK:=Lib.hid hok
  by_cases hz:chain=0
  · have hzb:(chain == 0)=true:=beq_iff_eq.2 hz
    have HV:Hid (valueA G ⟨key,value,chain,size⟩=.inl value):=Lib.hid (by unfold valueA;rw [if_pos hz])
    clear hL hP h m0 hok hz
    unfold pgV
    go_enter Tryz.func103, Tryz.ntmps103
    go_wp2_with fail
    go_ret2
    exact ⟨P,F,HG0.out,HN0.out,by rw [HV.out];rfl⟩
  · have hzb:(chain == 0)=false:=beq_eq_false_iff_ne.2 hz
    have HRD:=Lib.hid (chRead_any HN0.out.env HN0.out.sub HG0.out gen chain size hid (hok hz))
    have HV:Hid (valueA G ⟨key,value,chain,size⟩=match chErr G chain size with | none=>.inl ⟨((walkA G size.toNat chain size).1.flatMap (·.2)).toArray⟩ | some (l,k)=>.inr (-1 :: l,k)):=Lib.hid (by unfold valueA;rw [if_neg hz];rfl)
    clear hL hP h m0 hok hz
    unfold pgV at HRD ⊢
    go_enter Tryz.func103, Tryz.ntmps103
    go_wp2_with fail
    refine (HRD.out).mono ?_
    rintro e w2 ⟨P2,F2,hG2,hN2,⟨hc,rfl⟩ | ⟨⟨el,ek⟩,f,hc,rfl,hE⟩⟩
    · have HG2:=Lib.hid hG2
      have HN2:=Lib.hid hN2
      have HC:=Lib.hid hc
      clear hG2 hN2 hc
      go_wp2_with fail
      refine (wrap_nil _ _).mono ?_
      rintro e w3 ⟨rfl,rfl⟩
      go_wp2_with fail
      go_ret2
      exact ⟨P2,F2,HG2.out,HN0.out.trans HN2.out,by rw [HV.out,HC.out];rfl⟩
    · have HG2:=Lib.hid hG2
      have HN2:=Lib.hid hN2
      have HC:=Lib.hid hc
      have HE:=Lib.hid hE
      clear hG2 hN2 hc hE
      go_wp2_with fail
      refine (wrap_any HN2.out.env _ _ _ _ HE.out).mono ?_
      rintro e w3 ⟨f3,rfl,hE3,hm3⟩
      have HE3:=Lib.hid hE3
      have HM3:=Lib.hid hm3
      clear hE3 hm3
      go_wp2_with fail
      go_ret2
      exact ⟨P2,F2,HG2.out.at HM3.out,(HN0.out.trans HN2.out).trans (Nxt.ext HN2.out.env HN2.out.sub HM3.out),by rw [HV.out,HC.out];exact ⟨f3,rfl,HE3.out⟩⟩
end
end Go.Proofs.YtphafjmdhmpkbaaGreatDoor
