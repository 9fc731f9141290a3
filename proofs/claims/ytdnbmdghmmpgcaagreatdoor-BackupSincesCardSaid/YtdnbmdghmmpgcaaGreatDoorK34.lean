import Derived.Test.YtdnbmdghmmpgcaaGreatDoorK33
import Derived.BigQuiet
import Derived.Test.YtdnbmdghmmpgcaaGreatDoorK31
namespace Go.Proofs.YtdnbmdghmmpgcaaGreatDoor
open Lib renaming hid→oh
set_option maxHeartbeats 4000000
set_option maxRecDepth 100000
section
open Go.RowKit
attribute [local go_sem ↓] Go.wp_at_zero Go.wp_at_succ
theorem Tryz.entSz:(Tryz.prog.info? 281).map (·.size)=some 4:=by kernel_rfl
section
variable {P P' F F':Nat→Prop}{ad:Nat→Addr}{w w':World}{c s:Nat}{G:GA}{l:List Nat}
theorem entryS_any(gen:Nat)(key v:ByteArray)(hv:v.size≤24) :
  Calls Tryz.prog 225 #[pgV c s gen,.string key,.string v] w λe w'=>e=.returned (.tuple #[.agg #[.string key,.string v,.int .i64 0,.int .i64 0],.nilIface])∧Ext w w':=by
 have hv2:(v.size:Int)≤24:=by omega
 have HB:Hid (Blk ((w.alloc (.cells #[.pointer (some ⟨c,0,none⟩),.pointer (some ⟨s,0,none⟩),.int .u64 (gen:Int)] 142)).alloc (.cells #[.string key,.string v,.int .i64 0,.int .i64 0] 281)) (w.heap.size+1) #[.string key,.string v,.int .i64 0,.int .i64 0] 281):=oh (heap_at (by simp));have HM:Hid (Ext w ((w.alloc (.cells #[.pointer (some ⟨c,0,none⟩),.pointer (some ⟨s,0,none⟩),.int .u64 (gen:Int)] 142)).alloc (.cells #[.string key,.string v,.int .i64 0,.int .i64 0] 281))):=oh (((Mods.refl _ w).alloc _).alloc _);clear hv;unfold pgV
 go_enter Tryz.func225, Tryz.ntmps225
 go_wp2_with fail;refine bodyPost_ret (results_row_tmp rfl _ _ (w.heap.size+1) 281 _ _ rfl HB.out Tryz.underlying281 rfl Tryz.entSz) rfl ?_;exact⟨rfl,HM.out⟩
end
section
variable {P P' F F':Nat→Prop}{ad:Nat→Addr}{w w':World}{c s:Nat}{G:GA}{l:List Nat}
def newsA(b:Bool):StA OutA→StA OutA
 | .inr k=>.inr k
 | .inl (G2,l2,o)=>.inl (G2,l2,{ o with news:=b })
theorem withE_new{n:NodeA}{key:ByteArray}(hno:entIs key n.entries=false)(e:EntryA):(withE n key e).entries=n.entries.take (entAt key n.entries)++[e]++n.entries.drop (entAt key n.entries+0):=by
 unfold withE;rw[hno];rfl
theorem entAt_le(key:ByteArray)(es:List EntryA):entAt key es≤es.length:=List.findIdx_le_length
theorem leafS_any(n:NodeA)(hlf:n.leaf=true)(key v:ByteArray)(hno:entIs key n.entries=false)(hv:v.size≤24)(hF:weightN (withE n key ⟨key,v,0,0⟩)≤(G.size:Int)-24)(hL:Env F ad w)(hP:∀k,P k→F k)(h:PgR F w P c s G l)(gen old:Nat)(hgen:gen<18446744073709551616)(ve vk vi:Value)(hve:Sl F w 4 encE ve n.entries)(hvk:Sl F w 1 encS vk n.keys)(hvi:Sl F w 1 encI vi n.kids)(hfew:n.entries.length≤100000)(hok:SetOk G l old (withE n key ⟨key,v,0,0⟩)) :
  Calls Tryz.prog 169 #[pgV c s gen,.int .i64 (old:Int),.agg #[.bool true,ve,vk,vi],.string key,.string v] w (OutP F P ad w c s G l (newsA true (settleA G l gen old (withE n key ⟨key,v,0,0⟩)))):=by
 obtain⟨w1,hw1⟩:∃w1,w1=((w.alloc (.cells #[.pointer (some ⟨c,0,none⟩),.pointer (some ⟨s,0,none⟩),.int .u64 (gen:Int)] 142)).alloc (.cells #[.bool true,ve,vk,vi] 272)).alloc (.cells outZc 267):=⟨_,rfl⟩;have m0:Ext w w1:=by rw[hw1];exact (((Mods.refl _ w).alloc _).alloc _).alloc _
 have hz:w1.heap.size=w.heap.size+3:=by rw[hw1];simp
 have hN:Nxt P P F (λk=>F k∨(w.heap.size≤k∧k<w1.heap.size)) ad w w1:=Nxt.new hL hP (Q:=λk=>w.heap.size≤k∧k<w1.heap.size) m0 (λk hk=>hk.1) (λk hk=>hk.2);have HB:=oh (show VarR (λk=>F k∨(w.heap.size≤k∧k<w1.heap.size)) P w w1 w.heap.size #[.pointer (some ⟨c,0,none⟩),.pointer (some ⟨s,0,none⟩),.int .u64 (gen:Int)] 142 from ⟨by rw[hw1];exact ((Blk.new w _ _).alloc _).alloc _,.inr ⟨by omega,by omega⟩,λhp=>by have:=h.bd _ hp;omega,by omega⟩);have HD:=oh (show VarR (λk=>F k∨(w.heap.size≤k∧k<w1.heap.size)) P w w1 (w.heap.size+1) #[.bool true,ve,vk,vi] 272 from ⟨by rw[hw1];exact (show Blk ((w.alloc _).alloc (.cells #[.bool true,ve,vk,vi] 272)) (w.heap.size+1) #[.bool true,ve,vk,vi] 272 from heap_at (by simp)).alloc _,.inr ⟨by omega,by omega⟩,λhp=>by have:=h.bd _ hp;omega,by omega⟩);have HR:=oh (show VarR (λk=>F k∨(w.heap.size≤k∧k<w1.heap.size)) P w w1 (w.heap.size+1+1) outZc 267 from ⟨by rw[hw1];exact heap_at (by simp),.inr ⟨by omega,by omega⟩,λhp=>by have:=h.bd _ hp;omega,by omega⟩);have HG:=oh (h.plusNew hP (Q:=λk=>w.heap.size≤k∧k<w1.heap.size) m0 (λk hk=>hk.1));have HVE:=oh (hN.sl hP hve);have HVK:=oh (hN.sl hP hvk);have HVI:=oh (hN.sl hP hvi);have HN:=oh hN;have HOK:=oh hok;have HFIT:=oh hF;have HFN:=oh (findN_leaf hlf key);have HNO:=oh hno;have HLF:=oh hlf;obtain⟨ea,ec,rfl,_,_,_,_⟩:=hve;obtain⟨ka,kc,rfl,_,_,_,_⟩:=hvk;obtain⟨ia,ic,rfl,_,_,_,_⟩:=hvi;obtain⟨at_,hat⟩:∃at_,at_=entAt key n.entries:=⟨_,rfl⟩
 have hal:at_≤n.entries.length:=by rw[hat];exact entAt_le _ _
 have HAT:=oh hat;have b0:=HB.out.blk.cell (o:=0) rfl;have b1:=HB.out.blk.cell (o:=1) rfl;have b2:=HB.out.blk.cell (o:=2) rfl;have n0:=HD.out.blk.cell (o:=0) rfl;have n1:=HD.out.blk.cell (o:=1) rfl;have n2:=HD.out.blk.cell (o:=2) rfl;have n3:=HD.out.blk.cell (o:=3) rfl;have HW1:=oh hw1;have HFD:=findNode_any n key _ _ (.slice ia n.kids.length ic) HVE.out HVK.out;rw[hlf,findN_leaf hlf key,hno,← hat] at HFD;have HFD:=oh HFD;have HEN:=oh (λW=>entryS_any (c:=c) (s:=s) (w:=W) gen key v hv);clear hL hP h m0 hN hok hw1 hF hlf hno hv hat;unfold pgV at HEN ⊢
 go_enter Tryz.func169, Tryz.ntmps169
 go_wp2_with fail;rw[← HW1.out];refine HFD.out.mono ?_;rintro e w2 ⟨rfl,hm2⟩;have HX2:=oh hm2;have b0:=cellE hm2 b0;have b1:=cellE hm2 b1;have b2:=cellE hm2 b2;clear hm2;go_wp2_with fail;refine (HEN.out _).mono ?_;rintro e w3 ⟨rfl,hm3⟩;obtain⟨w4,hw4⟩:∃w4,w4=(w3.alloc (.cells #[.string key,.string v,.int .i64 0,.int .i64 0] 281)).alloc (.cells #[.string key,.string v,.int .i64 0,.int .i64 0] 281):=⟨_,rfl⟩;have hm4:Ext w1 w4:=by rw[hw4];exact ((HX2.out.trans hm3).alloc _).alloc _
 have HX4:=oh hm4;have n1:=(HD.out.ext (HX2.out.trans hm3)).blk.cell (o:=1) rfl;have n1c:=cell_alloc n1 (.cells #[.string key,.string v,.int .i64 0,.int .i64 0] 281);have HSL1:Hid (Sl (λk=>F k∨(w.heap.size≤k∧k<w1.heap.size)) w4 4 encE (.slice (some ⟨w3.heap.size+1,0,none⟩) 1 1) [(⟨key,v,0,0⟩:EntryA)]):=oh (Sl.one (by rw[hw4];exact heap_at (by simp)) (λf=>by
  rcases f with f|f
  ·have:=HN.out.env.lt _ (.inl f);have:=(HX2.out.trans hm3).size;omega
  ·have:=(HX2.out.trans hm3).size;omega))
 have n1b:w4.cell? ⟨w.heap.size+1,1,none⟩=some (.slice ea n.entries.length ec):=(HD.out.ext hm4).blk.cell (o:=1) rfl;have HW4:=oh hw4;clear hm3 hm4 hw4;go_wp2_with fail;rw[← HW4.out];refine (laidE_any _ _ n.entries [(⟨key,v,0,0⟩:EntryA)] (HVE.out.ext HX4.out) HSL1.out at_ 0 (by omega) (by omega) (by simp)).mono ?_;rintro e w5 ⟨ev,rfl,hO5,hm5⟩;obtain⟨oa,oc,rfl,_,_⟩:=hO5.form;have HL5:Hid ((n.entries.take at_++[(⟨key,v,0,0⟩:EntryA)]++n.entries.drop (at_+0))=(withE n key ⟨key,v,0,0⟩).entries):=oh (by rw[withE_new HNO.out,HAT.out]);rw[HL5.out] at hO5 ⊢;have HX5:=oh (HX4.out.trans hm5);have hD5:=HD.out.ext HX5.out;have HO5:=oh (hO5.rebase (base':=w1.heap.size) HX4.out.size);have d0:=hD5.blk.cell (o:=0) (v:=.bool true) rfl;have d1:=hD5.blk.cell (o:=1) (v:=.slice ea n.entries.length ec) rfl;have d2:=hD5.blk.cell (o:=2) (v:=.slice ka n.keys.length kc) rfl;have d3:=hD5.blk.cell (o:=3) (v:=.slice ia n.kids.length ic) rfl;have df:=hD5.blk.frozen;have b0:=(HB.out.ext HX5.out).blk.cell (o:=0) rfl;have b1:=(HB.out.ext HX5.out).blk.cell (o:=1) rfl;have b2:=(HB.out.ext HX5.out).blk.cell (o:=2) rfl;obtain⟨n',hn'⟩:∃n',n'=withE n key ⟨key,v,0,0⟩:=⟨_,rfl⟩;have HN':Hid (n'.leaf=true∧n'.keys=n.keys∧n'.kids=n.kids):=oh (by rw[hn'];exact⟨HLF.out,rfl,rfl⟩);rw[← hn'] at HO5 HOK HFIT HL5 ⊢;have mD:Mods (λk=>k=w.heap.size+1) w5 (w5.setCell ⟨w.heap.size+1,1,none⟩ (.slice oa n'.entries.length oc)):=Mods.at _ w5 _ 1 _ rfl;have HGD:=oh ((HG.out.at HX5.out).var hD5 mD);have HND:=oh ((HN.out.trans (Nxt.ext HN.out.env HN.out.sub HX5.out)).var hD5 mD);have HRD:=oh ((HR.out.ext HX5.out).other mD (by omega));have hmF:=hD5.mF mD;have HSE:Hid (Sl (λk=>F k∨(w.heap.size≤k∧k<w1.heap.size)) (w5.setCell ⟨w.heap.size+1,1,none⟩ (.slice oa n'.entries.length oc)) 4 encE (.slice oa n'.entries.length oc) n'.entries):=oh ((HO5.out.slF (λk hk=>by
  rcases hk with hk|hk
  ·exact HN.out.env.lt k (.inl hk)
  ·exact hk.2) encE_ok.len (by have:=HOK.out.few.1;omega)).mods hmF)
 have HSK:=oh (((HVK.out.ext HX5.out).mods hmF));have HSI:=oh (((HVI.out.ext HX5.out).mods hmF));have HST:=settleF_any n' HFIT.out HND.out.env HND.out.sub HGD.out gen old hgen _ _ _ HSE.out (by rw[HN'.out.2.1];exact HSK.out) (by rw[HN'.out.2.2];exact HSI.out) HOK.out;rw[HN'.out.1] at HST;unfold pgV at HST;have HST:=oh HST;have HNN:=oh hn';clear hO5 hm5 hD5 mD hmF hn';go_wp2_with fail;refine HST.out.mono ?_;rintro e w6 ⟨P6,F6,G6,l6,hG6,hN6,hr⟩;have HR6:=oh (HRD.out.nxt hN6);have HG6:=oh hG6;have HN6:=oh (HND.out.trans hN6);have hlt6:w.heap.size+1+1<w6.heap.size:=HR6.out.blk.lt;have hne6:w6.heap.size≠w.heap.size+1+1:=by omega
 clear hG6 hN6;rcases hr with ⟨o,hs,rfl⟩|⟨k,o,f,el,hs,hfr,rfl,hE⟩
 ·have HS:=oh hs;clear hs;unfold outC;have q0:=HR6.out.blk.cell (o:=0) rfl;have q1:=HR6.out.blk.cell (o:=1) rfl;have q2:=HR6.out.blk.cell (o:=2) rfl;have q3:=HR6.out.blk.cell (o:=3) rfl;have q4:=HR6.out.blk.cell (o:=4) rfl;have qf:=HR6.out.blk.frozen;go_wp2_with fail;have mR:=Mods.set5 (F:=λk=>k=w.heap.size+1+1) (Mods.refl _ w6) (R:=w.heap.size+1+1) (.inr rfl) (.int .i64 (o.id0:Int)) (.int .i64 (o.id1:Int)) (.string o.key) (.bool o.two) (.bool true);have bR:=HR6.out.blk.set5 (.int .i64 (o.id0:Int)) (.int .i64 (o.id1:Int)) (.string o.key) (.bool o.two) (.bool true);have gR:=HG6.out.var HR6.out mR;have nR:=HN6.out.var HR6.out mR;have mA:=(Mods.refl (λ_=>False) (((((w6.setCell ⟨w.heap.size+1+1,0,none⟩ (.int .i64 (o.id0:Int))).setCell ⟨w.heap.size+1+1,1,none⟩ (.int .i64 (o.id1:Int))).setCell ⟨w.heap.size+1+1,2,none⟩ (.string o.key)).setCell ⟨w.heap.size+1+1,3,none⟩ (.bool o.two)).setCell ⟨w.heap.size+1+1,4,none⟩ (.bool true))).alloc (.cells #[.int .i64 (o.id0:Int),.int .i64 (o.id1:Int),.string o.key,.bool o.two,.bool true] 267);refine bodyPost_ret (results_row_tmp rfl _ _ (w.heap.size+1+1) 267 _ _ rfl (bR.ext mA) Tryz.underlying267 rfl Tryz.outSz) rfl ?_;exact⟨P6,F6,G6,l6,gR.at mA,nR.trans (Nxt.ext nR.env nR.sub mA),.inl ⟨{ o with news:=true },by rw[← HNN.out,HS.out];rfl,rfl⟩⟩
 ·have HS:=oh hs;have HE:=oh hE;clear hs hE;unfold outC;have q0:=HR6.out.blk.cell (o:=0) rfl;have q1:=HR6.out.blk.cell (o:=1) rfl;have q2:=HR6.out.blk.cell (o:=2) rfl;have q3:=HR6.out.blk.cell (o:=3) rfl;have q4:=HR6.out.blk.cell (o:=4) rfl;have qf:=HR6.out.blk.frozen;go_wp2_with fail;have mR:=Mods.set5 (F:=λk=>k=w.heap.size+1+1) (Mods.refl _ w6) (R:=w.heap.size+1+1) (.inr rfl) (.int .i64 (o.id0:Int)) (.int .i64 (o.id1:Int)) (.string o.key) (.bool o.two) (.bool true);have bR:=HR6.out.blk.set5 (.int .i64 (o.id0:Int)) (.int .i64 (o.id1:Int)) (.string o.key) (.bool o.two) (.bool true);have gR:=HG6.out.var HR6.out mR;have nR:=HN6.out.var HR6.out mR;have mA:=(Mods.refl (λ_=>False) (((((w6.setCell ⟨w.heap.size+1+1,0,none⟩ (.int .i64 (o.id0:Int))).setCell ⟨w.heap.size+1+1,1,none⟩ (.int .i64 (o.id1:Int))).setCell ⟨w.heap.size+1+1,2,none⟩ (.string o.key)).setCell ⟨w.heap.size+1+1,3,none⟩ (.bool o.two)).setCell ⟨w.heap.size+1+1,4,none⟩ (.bool true))).alloc (.cells #[.int .i64 (o.id0:Int),.int .i64 (o.id1:Int),.string o.key,.bool o.two,.bool true] 267);refine bodyPost_ret (results_row_tmp rfl _ _ (w.heap.size+1+1) 267 _ _ rfl (bR.ext mA) Tryz.underlying267 rfl Tryz.outSz) rfl ?_;exact⟨P6,F6,G6,l6,gR.at mA,nR.trans (Nxt.ext nR.env nR.sub mA),.inr ⟨k,{ o with news:=true },f,el,by rw[← HNN.out,HS.out];rfl,hfr,rfl,(HE.out.mods (HR6.out.mF mR)).mods mA.ext⟩⟩
end
def checkK(key v:ByteArray):Option Err:=if keyB key=false then some ([-1],2) else if 4096<v.size then some ([-1],8) else none
section
variable {P P' F F':Nat→Prop}{ad:Nat→Addr}{w w':World}{c s:Nat}{G:GA}{l:List Nat}
theorem inCheck_any(hL:Env F ad w)(gen:Nat)(key v:ByteArray)(hfu:Full ad∨v.size≤4096) :
  Calls Tryz.prog 168 #[pgV c s gen,.string key,.string v] w λe w'=>∃ev,e=.returned ev∧ErrR F ad w' ev (checkK key v)∧Ext w w':=by
 unfold pgV;have m0:Ext w (w.alloc (.cells #[.pointer (some ⟨c,0,none⟩),.pointer (some ⟨s,0,none⟩),.int .u64 (gen:Int)] 142)):=(Mods.refl _ w).alloc _;have hL0:=hL.mods m0.ext;have g2:=hL0.c2;have HL:=oh hL0;have M0:=oh m0;have HFU:=oh hfu;clear hL hL0 m0 hfu;cases hk:keyB key with
 | false =>
  have HR:Hid (checkK key v=some ([-1],2)):=oh (by unfold checkK;rw[if_pos hk]);have HK:=oh (key_any key);rw[hk] at HK;clear hk
  go_enter Tryz.func168, Tryz.ntmps168
  go_wp2_with fail;refine (HK.out _).mono ?_;rintro e w1 ⟨rfl,rfl⟩;go_wp2_with fail;refine (new_any HL.out _ _ [] 2 (.sent 2 (by decide) (by decide))).mono ?_;rintro e w1 ⟨f,rfl,hE,hm⟩;have HE:=oh hE;have HM:=oh hm;clear hE hm;go_wp2_with fail;go_ret;exact⟨_,rfl,by rw[HR.out];exact⟨f,rfl,HE.out⟩,M0.out.trans HM.out⟩
 | true =>
  have HK:=oh (key_any key);rw[hk] at HK;by_cases hv:4096<v.size
  ·have HR:Hid (checkK key v=some ([-1],8)):=oh (by unfold checkK;rw[if_neg (by rw[hk];simp),if_pos hv]);have hv2:(4096:Int)<(v.size:Int):=by omega
   have g8:=HL.out.c8 (HFU.out.resolve_right (by omega));clear hk hv
   go_enter Tryz.func168, Tryz.ntmps168
   go_wp2_with fail;refine (HK.out _).mono ?_;rintro e w1 ⟨rfl,rfl⟩;go_wp2_with fail;refine (new_any HL.out _ _ [] 8 (.sent 8 (by decide) (by decide))).mono ?_;rintro e w1 ⟨f,rfl,hE,hm⟩;have HE:=oh hE;have HM:=oh hm;clear hE hm;go_wp2_with fail;go_ret;exact⟨_,rfl,by rw[HR.out];exact⟨f,rfl,HE.out⟩,M0.out.trans HM.out⟩
  ·have HR:Hid (checkK key v=none):=oh (by unfold checkK;rw[if_neg (by rw[hk];simp),if_neg hv]);have hv2:¬ (4096:Int)<(v.size:Int):=by omega
   clear hk hv
   go_enter Tryz.func168, Tryz.ntmps168
   go_wp2_with fail;refine (HK.out _).mono ?_;rintro e w1 ⟨rfl,rfl⟩;go_wp2_with fail;go_ret;exact⟨_,rfl,by rw[HR.out];rfl,M0.out⟩
end
def leaf1(key v:ByteArray):NodeA:=⟨true,[⟨key,v,0,0⟩],[],[]⟩
theorem leaf1_right{key v:ByteArray}(hk:keyB key=true)(hv:v.size≤24):rightN (leaf1 key v)=true:=by
 unfold rightN leaf1 rightE;simp[hk,hv,risingS]
theorem leaf1_wt{key v:ByteArray}(hk:keyB key=true)(hv:v.size≤24):weightN (leaf1 key v)≤61:=by
 have:=(keyB_iff key).1 hk;unfold weightN leaf1;simp[sumE,sumK,weightE];omega
theorem leaf1_with(key v:ByteArray):withE leaf0 key ⟨key,v,0,0⟩=leaf1 key v:=rfl
theorem leaf1_ok{G:GA}{l:List Nat}{key v:ByteArray}(hk:keyB key=true)(hv:v.size≤24)(hl:LowL l)(hlen:l.length≤G.blocks)(hco:G.cost+10≤1000000)(hs:256≤G.size):SetOk G l 0 (leaf1 key v):=by
 have h1:=leaf1_wt hk hv;have h2:=leaf1_right hk hv;refine⟨.inl rfl,hl,hlen,hco,by omega,λ_=>?_,λhn=>by omega,by simp[leaf1]⟩;have:=weight_len (form_right h2);omega
def Put0P(F P:Nat→Prop)(ad:Nat→Addr)(w:World)(c s gen:Nat)(G:GA)(l:List Nat)(key v:ByteArray)(i:Nat)(e:Ending)(w':World):Prop :=
 ∃P' F',PgR F' w' P' c s (downG G l gen 0 (leaf1 key v)) (downL G l 0 (leaf1 key v))∧Nxt P P' F F' ad w w'∧e=.returned (.tuple #[.int .i64 (i:Int),.bool true,.nilIface])
section
variable {P P' F F':Nat→Prop}{ad:Nat→Addr}{w w':World}{c s:Nat}{G:GA}{l:List Nat}
theorem put0_any(hL:Env F ad w)(hP:∀k,P k→F k)(h:PgR F w P c s G l)(gen:Nat)(hgen:gen<18446744073709551616)(key v:ByteArray)(hk:keyB key=true)(hv:v.size≤24)(hl:LowL l)(hlen:l.length≤G.blocks)(hco:G.cost+10≤1000000)(i:Nat)(hi:spFree l=some i) :
  Calls Tryz.prog 114 #[pgV c s gen,.int .i64 0,.string key,.string v] w (Put0P F P ad w c s gen G l key v i):=by
 have m0:Ext w (w.alloc (.cells #[.pointer (some ⟨c,0,none⟩),.pointer (some ⟨s,0,none⟩),.int .u64 (gen:Int)] 142)):=(Mods.refl _ w).alloc _;have HB0:=oh (Blk.new w #[.pointer (some ⟨c,0,none⟩),.pointer (some ⟨s,0,none⟩),.int .u64 (gen:Int)] 142);have HC:=inCheck_any (c:=c) (s:=s) (hL.mods m0.ext) gen key v (.inr (by omega));rw[show checkK key v=none by unfold checkK;rw[if_neg (by rw[hk];simp),if_neg (by omega)]] at HC;have hlim:=h.lim;have hst:settleA G l gen 0 (leaf1 key v)=.inl (downG G l gen 0 (leaf1 key v),downL G l 0 (leaf1 key v),⟨i,0,e0,false,false⟩):=by
  have h1:=leaf1_wt hk hv;have hd:downI G l 0 (leaf1 key v)=some i:=by
   unfold downI;rw[if_pos ⟨leaf1_right hk hv,by omega⟩];unfold placeI;rw[if_neg (by simp)];exact hi
  unfold settleA;rw[if_pos (by omega),hd]
 have HST:=oh hst;have HOK:=oh (leaf1_ok hk hv hl hlen hco hlim.2.2.1);have HFT:Hid (weightN (leaf1 key v)≤(G.size:Int)-24):=oh (by have:=leaf1_wt hk hv;omega);have HV:=oh hv;have HG:=oh h;have HP:=oh hP;have HL:=oh hL;have M0:=oh m0;have HC:=oh HC;have HBP:Hid (¬ P w.heap.size):=oh (λhp=>by have:=h.bd _ hp;omega);unfold pgV at HC ⊢;clear hL hP h m0 hk hv hl hlen hco hi hlim hst
 go_enter Tryz.func114, Tryz.ntmps114
 go_wp2_with fail;refine HC.out.mono ?_;rintro e w1 ⟨ev,rfl,hE,hm1⟩;cases hE
 have M1:=oh (M0.out.trans hm1);have HB1:=oh (HB0.out.ext hm1);obtain⟨w2,hw2⟩:∃w2,w2=w1.alloc (.cells outZc 267):=⟨_,rfl⟩;have m2:Ext w w2:=by rw[hw2];exact M1.out.alloc _
 have hz:w2.heap.size=w1.heap.size+1:=by rw[hw2];simp
 have hz1:w.heap.size<w1.heap.size:=HB1.out.lt;have HN2:Hid (Nxt P P F (λk=>F k∨k=w1.heap.size) ad w w2):=oh (Nxt.new HL.out HP.out (Q:=λk=>k=w1.heap.size) m2 (λk hk=>by omega) (λk hk=>by omega));have HG2:=oh (HG.out.plusNew HP.out (Q:=λk=>k=w1.heap.size) m2 (λk hk=>by omega));have HO:=oh (show VarR (λk=>F k∨k=w1.heap.size) P w w2 w1.heap.size outZc 267 from ⟨by rw[hw2];exact Blk.new _ _ _,.inr rfl,λhp=>by have:=HG.out.bd _ hp;omega,by omega⟩);have b0:=cell_alloc (HB1.out.cell (o:=0) (v:=.pointer (some ⟨c,0,none⟩)) rfl) (.cells outZc 267);have b1:=cell_alloc (HB1.out.cell (o:=1) (v:=.pointer (some ⟨s,0,none⟩)) rfl) (.cells outZc 267);have b2:=cell_alloc (HB1.out.cell (o:=2) (v:=.int .u64 (gen:Int)) rfl) (.cells outZc 267);have HLF:=leafS_any (w:=w2) leaf0 rfl key v rfl HV.out (by rw[leaf1_with];exact HFT.out) HN2.out.env HN2.out.sub HG2.out gen 0 hgen (.slice none 0 0) (.slice none 0 0) (.slice none 0 0) (Sl.nil _ _ _ _) (Sl.nil _ _ _ _) (Sl.nil _ _ _ _) (by simp[leaf0]) (by rw[leaf1_with];exact HOK.out);rw[leaf1_with,HST.out] at HLF;unfold pgV at HLF;have HLF:=oh HLF;have HW2:=oh hw2;clear hm1 m2 hw2;go_wp2_with fail;rw[← HW2.out];refine HLF.out.mono ?_;rintro e w3 ⟨P3,F3,G3,l3,hG3,hN3,⟨o,ho,rfl⟩|⟨k,o,f,el,ho,_⟩⟩
 ·simp only[newsA,Sum.inl.injEq,Prod.mk.injEq] at ho;obtain⟨rfl,rfl,rfl⟩:=ho;have HO3:=oh (HO.out.nxt hN3);have HG3:=oh hG3;have HN3:=oh (HN2.out.trans hN3);have q0:=HO3.out.blk.cell (o:=0) rfl;have q1:=HO3.out.blk.cell (o:=1) rfl;have q2:=HO3.out.blk.cell (o:=2) rfl;have q3:=HO3.out.blk.cell (o:=3) rfl;have q4:=HO3.out.blk.cell (o:=4) rfl;have qf:=HO3.out.blk.frozen;have mR:=Mods.set5 (F:=λk=>k=w1.heap.size) (Mods.refl _ w3) (R:=w1.heap.size) (.inr rfl) (.int .i64 (i:Int)) (.int .i64 0) (.string e0) (.bool false) (.bool true);have HGR:=oh (HG3.out.var HO3.out mR);have HNR:=oh (HN3.out.var HO3.out mR);have HBR:=oh (HO3.out.blk.set5 (.int .i64 (i:Int)) (.int .i64 0) (.string e0) (.bool false) (.bool true));unfold outC;clear hG3 hN3 mR;go_wp2_with fail;have q0:=HBR.out.cell (o:=0) rfl;have q4:=HBR.out.cell (o:=4) rfl;go_quiet (fail)
  go_wp2_with fail;refine bodyPost_ret (v:=.tuple #[.int .i64 (i:Int),.bool true,.nilIface]) (by simp[results,Tryz.results114,go_sem]) rfl ?_;exact⟨P3,F3,HGR.out.at ((Mods.refl _ _).drewN _),HNR.out.trans (Nxt.ext HNR.out.env HNR.out.sub ((Mods.refl _ _).drewN _)),rfl⟩
 ·cases ho
end
section
variable {P P' F F':Nat→Prop}{ad:Nat→Addr}{w w':World}{S d c sp:Nat}{s:SupA}{home root keys:Int}{G G':GA}{l l':List Nat}
theorem StR.at(h:StR F w P S d c sp s home root keys G l)(m:Ext w w'):StR F w' P S d c sp s home root keys G l:=by
 obtain⟨h1,⟨a,cc,h2⟩,h3,h4⟩:=h;exact⟨h1.at m,⟨a,cc,h2.ext m⟩,h3,h4⟩
theorem StR.nxt(h:StR F w P S d c sp s home root keys G l)(n:Nxt P P' F F' ad w w')(hG:PgR F' w' P' c sp G' l'):StR F' w' P' S d c sp s home root keys G' l':=by
 obtain⟨h1,⟨a,cc,h2⟩,h3,h4⟩:=h;exact⟨hG,⟨a,cc,n.blk h2 h3⟩,n.not h2.lt h3,n.grow S h4⟩
theorem StR.set(h:StR F w P S d c sp s home root keys G l)(r k:Int):StR F ((w.setCell ⟨S,9,none⟩ (.int .i64 r)).setCell ⟨S,10,none⟩ (.int .i64 k)) P S d c sp s home r k G l:=by
 obtain⟨h1,⟨a,cc,h2⟩,h3,h4⟩:=h;have m:Mods (λj=>j=S) w ((w.setCell ⟨S,9,none⟩ (.int .i64 r)).setCell ⟨S,10,none⟩ (.int .i64 k)):=Mods.setCell (F:=λj=>j=S) (Mods.setCell (F:=λj=>j=S) (Mods.refl _ w) (p:=⟨S,9,none⟩) (.inr rfl) _) (p:=⟨S,10,none⟩) (.inr rfl) _;exact⟨h1.plus m (λk hk e=>by have e':k=S:=e;exact h3 (e' ▸ hk)) (λk e=>by have e':k=S:=e;rw[e'];exact h4) (λ_ _ h=>h),⟨a,cc,by simpa[stC] using (h2.set 9 (.int .i64 r)).set 10 (.int .i64 k)⟩,h3,h4⟩
theorem Nxt.withS(n:Nxt P P' F F' ad w w'){w2:World}(hS:S<w.heap.size)(hF:F' S)(m:Mods (λj=>j=S) w' w2):Nxt (plusR P S) (plusR P' S) F F' ad w w2 :=
 ⟨⟨(n.stp.mods.mono (λj h=>.inl h)).trans' m (λi _ h=>.inr h),λk hk h=>h.elim (λh=>.inl (n.stp.old k hk h)) .inr,λk h=>h.elim (λh=>Nat.lt_of_lt_of_le (n.stp.bd k h) m.size) (λe=>by rw[e];exact Nat.lt_of_lt_of_le hS (Nat.le_trans n.stp.mods.size m.size))⟩,
  λk h=>h.elim (λh=>n.sub k h) (λe=>by rw[e];exact hF),n.grow,n.oldF,n.env.mods (m.mono (λj h=>by have h':j=S:=h;rw[h'];exact hF))⟩
theorem StR.lt(h:StR F w P S d c sp s home root keys G l):S<w.heap.size:=by
 obtain⟨_,⟨a,cc,h2⟩,_,_⟩:=h;exact h2.lt
theorem set2_mods(r k:Int):Mods (λj=>j=S) w ((w.setCell ⟨S,9,none⟩ (.int .i64 r)).setCell ⟨S,10,none⟩ (.int .i64 k)):=Mods.setCell (F:=λj=>j=S) (Mods.setCell (F:=λj=>j=S) (Mods.refl _ w) (p:=⟨S,9,none⟩) (.inr rfl) _) (p:=⟨S,10,none⟩) (.inr rfl) _
theorem stAlive(h:StR F w P S d c sp s home root keys G l)(op:ByteArray) : Calls Tryz.prog 76 #[.pointer (some ⟨S,0,none⟩),.string op] w λe w'=>e=.returned .nilIface∧w=w':=by
 obtain⟨h1,⟨a,cc,h2⟩,h3,h4⟩:=h;have c12:=h2.cell (o:=12) (v:=.bool false) rfl;clear h1 h2 h3 h4
 go_enter Tryz.func76, Tryz.ntmps76
 go_wp2_with fail;go_ret;exact⟨rfl,rfl⟩
theorem stGen(h:StR F w P S d c sp s home root keys G l) : Calls Tryz.prog 29 #[.pointer (some ⟨S,0,none⟩)] w λe w'=>e=.returned (.int .u64 (s.gen:Int))∧w=w':=by
 obtain⟨h1,⟨a,cc,h2⟩,h3,h4⟩:=h;have c3:=h2.cell (o:=3) (v:=.int .u64 (s.gen:Int)) rfl;clear h1 h2 h3 h4
 go_enter Tryz.func29, Tryz.ntmps29
 go_wp2_with fail;go_ret;exact⟨rfl,rfl⟩
theorem Tryz.stPgSize:(Tryz.prog.info? 142).map (·.size)=some 3:=by kernel_rfl
theorem stPager(h:StR F w P S d c sp s home root keys G l)(hg:s.gen+1<18446744073709551616) : Calls Tryz.prog 78 #[.pointer (some ⟨S,0,none⟩)] w λe w'=>e=.returned (pgV c sp (s.gen+1))∧Ext w w':=by
 obtain⟨h1,⟨a,cc,h2⟩,h3,h4⟩:=h;have c1:=h2.cell (o:=1) (v:=.pointer (some ⟨c,0,none⟩)) rfl;have c2:=h2.cell (o:=2) (v:=.pointer (some ⟨sp,0,none⟩)) rfl;have c3:=h2.cell (o:=3) (v:=.int .u64 (s.gen:Int)) rfl;have hS:=h2.lt;have HB0:=oh (Blk.new w #[.pointer none,.pointer none,.int .u64 0] 142);have hne:S≠w.heap.size:=λe=>by omega
 obtain⟨g,hgg⟩:∃g,g=s.gen:=⟨_,rfl⟩;have HPV:Hid (pgV c sp (s.gen+1)=.agg #[.pointer (some ⟨c,0,none⟩),.pointer (some ⟨sp,0,none⟩),.int .u64 ((g:Int)+1)]):=oh (by rw[hgg];rfl);rw[← hgg] at c3 hg;clear h1 h2 h3 h4 hgg
 go_enter Tryz.func78, Tryz.ntmps78
 go_wp2_with fail;go_region
 go_wp2_with fail;refine bodyPost_ret (results_cell_row rfl _ _ w.heap.size 142 #[.pointer (some ⟨c,0,none⟩),.pointer (some ⟨sp,0,none⟩),.int .u64 ((g:Int)+1)] (0,0) _ rfl (Blk.drew (Blk.new w _ _)) Tryz.underlying142 rfl Tryz.stPgSize) rfl ?_;exact⟨by rw[HPV.out],((Mods.refl _ w).alloc _).drew⟩
def StPut0(F P:Nat→Prop)(ad:Nat→Addr)(w:World)(S d c sp:Nat)(s:SupA)(home keys:Int)(G:GA)(l:List Nat)(key v:ByteArray)(i:Nat)(e:Ending)(w':World):Prop :=
 ∃P' F',e=.returned (.tuple #[.bool true,.nilIface])∧StR F' w' P' S d c sp s home (i:Int) (keys+1) (downG G l (s.gen+1) 0 (leaf1 key v)) (downL G l 0 (leaf1 key v))∧Nxt (plusR P S) (plusR P' S) F F' ad w w'
theorem stPut0(hL:Env F ad w)(hP:∀k,P k→F k)(h:StR F w P S d c sp s home 0 keys G l)(hg:s.gen+1<18446744073709551616)(hkk:0≤keys∧keys<1000000)(key v:ByteArray)(hk:keyB key=true)(hv:v.size≤24)(hl:LowL l)(hlen:l.length≤G.blocks)(hco:G.cost+10≤1000000)(i:Nat)(hi:spFree l=some i) :
  Calls Tryz.prog 63 #[.pointer (some ⟨S,0,none⟩),.string key,.string v] w (StPut0 F P ad w S d c sp s home keys G l key v i):=by
 have HAL:=oh (λop=>stAlive h op);have HPG:=oh (λW (m:Ext w W)=>stPager (h.at m) hg);have HPU:=oh (λW (m:Ext w W)=>put0_any (hL.mods m.ext) hP (h.at m).1 (s.gen+1) hg key v hk hv hl hlen hco i hi);have HST:=oh h;have HN:=oh (λW (m:Ext w W)=>Nxt.ext hL hP m);have c9:Hid (∀W,Ext w W→W.cell? ⟨S,9,none⟩=some (.int .i64 0)):=oh (λW m=>by obtain⟨_,⟨a,cc,h2⟩,_,_⟩:=h.at m;exact h2.cell rfl);have HKK:=oh hkk;clear hL hP h hg hk hv hl hlen hco hi hkk;obtain⟨pg,hpg⟩:∃pg,pg=pgV c sp (s.gen+1):=⟨_,rfl⟩;rw[← hpg] at HPG HPU;clear hpg
 go_enter Tryz.func63, Tryz.ntmps63
 go_wp2_with fail;refine (HAL.out _).mono ?_;rintro e w1 ⟨rfl,rfl⟩;have zd:=c9.out _ (Mods.refl _ w).drew;go_wp2_with fail;go_region_held3 (λw'=>w'.cell? ⟨S,9,none⟩=some (.int .i64 0))
  (first|(with_reducible exact zd)|(with_reducible exact z5)|(with_reducible exact z6)|fail)
  (first
   | (go_at_call 78;(with_reducible refine (HPG.out _ (Mods.refl _ w).drew).mono ?_);rintro e w5 ⟨rfl,m5⟩;have x5:=(Mods.refl _ w).drew.trans m5;have z5:=c9.out _ x5)
   | (go_at_call 114;((with_reducible refine (HPU.out _ x5).mono ?_);rintro e w6 ⟨P6,F6,hG6,n6,rfl⟩;have h6:=(HST.out.at x5).nxt n6 hG6;have n06:=(HN.out _ x5).trans n6;have z6:w6.cell? ⟨S,9,none⟩=some (.int .i64 0):=(by obtain⟨_,⟨a,cc,h2⟩,_,_⟩:=h6;exact h2.cell rfl)))
   | fail)
 obtain⟨h7,⟨a,cc,hB6⟩,hn6,hf6⟩:=_root_.id h6;have s9:=hB6.cell (o:=9) (v:=.int .i64 0) rfl;have s10:=hB6.cell (o:=10) (v:=.int .i64 keys) rfl;have sf:=hB6.frozen;have H6:=oh h6;have N06:=oh n06;have HSW:=oh HST.out.lt;obtain⟨k1,k2⟩:=HKK.out;clear h7 hB6 hn6 hf6 h6 n06 n6 hG6 z5 z6 zd x5 m5;go_wp2_with fail;go_ret2
 exact⟨P6,F6,rfl,H6.out.set (i:Int) (keys+1),N06.out.withS HSW.out H6.out.2.2.2 (set2_mods _ _)⟩
end
def ValRes(F:Nat→Prop)(ad:Nat→Addr)(w':World)(r:ByteArray ⊕ Err)(e:Ending):Prop :=
 match r with
 | .inl v=>e=.returned (.tuple #[.string v,.nilIface])
 | .inr (l,k)=>∃f,e=.returned (.tuple #[.string ⟨#[]⟩,faultV f])∧ErrC F ad w' (faultV f) l k
section
variable {P P' P1 P2 F F' F1 F2 Q:Nat→Prop}{ad:Nat→Addr}{w w' wr w2:World}{c s:Nat}{G:GA}{l:List Nat}{v v':Value}{gen:Nat}
theorem value_any(hL:Env F ad w)(hP:∀k,P k→F k)(h:PgR F w P c s G l)(gen:Nat)(e:EntryA)(hid : -9223372036854775808≤e.chain∧e.chain≤9223372036854775807)(hok:valueOk G e) :
  Calls Tryz.prog 187 #[pgV c s gen,.agg #[.string e.key,.string e.value,.int .i64 e.chain,.int .i64 e.size]] w (PgDone F P ad w c s G l (λF' w' ed=>ValRes F' ad w' (valueA G e) ed)):=by
 obtain⟨key,value,chain,size⟩:=e;simp only at hid;have m0:Ext w ((w.alloc (.cells #[.pointer (some ⟨c,0,none⟩),.pointer (some ⟨s,0,none⟩),.int .u64 (gen:Int)] 142)).alloc (.cells #[.string key,.string value,.int .i64 chain,.int .i64 size] 281)):=((Mods.refl _ w).alloc _).alloc _;have HN0:=oh (Nxt.ext hL hP m0);have HG0:=oh (h.at m0);have HOK:=oh hok;by_cases hz:chain=0
 ·have hzb:(chain == 0)=true:=beq_iff_eq.2 hz;have HV:Hid (valueA G ⟨key,value,chain,size⟩=.inl value):=oh (by unfold valueA;rw[if_pos hz]);clear hL hP h m0 hok hz;unfold pgV
  go_enter Tryz.func187, Tryz.ntmps187
  go_wp2_with fail;go_ret2
  exact⟨P,F,HG0.out,HN0.out,by rw[HV.out];rfl⟩
 ·have hzb:(chain == 0)=false:=beq_eq_false_iff_ne.2 hz;have HRD:=oh (chRead_any HN0.out.env HN0.out.sub HG0.out gen chain size hid (hok hz));have HV:Hid (valueA G ⟨key,value,chain,size⟩=match chErr G chain size with|none=>.inl ⟨((walkA G size.toNat chain size).1.flatMap (·.2)).toArray⟩|some (l,k)=>.inr (-1 :: l,k)):=oh (by unfold valueA;rw[if_neg hz];rfl);clear hL hP h m0 hok hz;unfold pgV at HRD ⊢
  go_enter Tryz.func187, Tryz.ntmps187
  go_wp2_with fail;refine (HRD.out).mono ?_;rintro e w2 ⟨P2,F2,hG2,hN2,⟨hc,rfl⟩|⟨⟨el,ek⟩,f,hc,rfl,hE⟩⟩
  ·have HG2:=oh hG2;have HN2:=oh hN2;have HC:=oh hc;clear hG2 hN2 hc;go_wp2_with fail;refine (wrap_nil _ _).mono ?_;rintro e w3 ⟨rfl,rfl⟩;go_wp2_with fail;go_ret2
   exact⟨P2,F2,HG2.out,HN0.out.trans HN2.out,by rw[HV.out,HC.out];rfl⟩
  ·have HG2:=oh hG2;have HN2:=oh hN2;have HC:=oh hc;have HE:=oh hE;clear hG2 hN2 hc hE;go_wp2_with fail;refine (wrap_any HN2.out.env _ _ _ _ HE.out).mono ?_;rintro e w3 ⟨f3,rfl,hE3,hm3⟩;have HE3:=oh hE3;have HM3:=oh hm3;clear hE3 hm3;go_wp2_with fail;go_ret2
   exact⟨P2,F2,HG2.out.at HM3.out,(HN0.out.trans HN2.out).trans (Nxt.ext HN2.out.env HN2.out.sub HM3.out),by rw[HV.out,HC.out];exact⟨f3,rfl,HE3.out⟩⟩
end
end
section
open Go.RowKit
theorem down_total{G:GA}(h:G.total)(l:List Nat)(gen:Nat)(n:NodeA):(downG G l gen 0 n).total:=by
 unfold downG;split
 ·exact h
 ·unfold placeG;rw[if_pos (.inl rfl)];exact put_total h _
theorem down_node{G:GA}{l:List Nat}{gen i:Nat}{n:NodeA}(hd:downI G l 0 n=some i)(hi:i<G.blocks):(downG G l gen 0 n).node i=some n:=by
 have hr:=(downI_ok hd).1;have hv:(downG G l gen 0 n).view i=some (.inl ⟨kindA n,(i:Int),gen,bytesN n⟩):=by
  unfold downG;rw[hd];simp only;rw[put_view,if_pos (by simp)]
 unfold GA.node;rw[(downG_lim G l gen 0 n).2.1,if_pos hi,hv];simp only;have hdec:decodeA ⟨kindA n,(i:Int),gen,bytesN n⟩=.inl n:=by
  unfold decodeA kindA;cases hl:n.leaf with
  | true =>
   have:=(getN_iff true (bytesN n) n).2 ⟨hr,hl,rfl⟩;simp[this]
  | false =>
   have:=(getN_iff false (bytesN n) n).2 ⟨hr,hl,rfl⟩;simp[this]
 rw[hdec]
theorem down0_some{G:GA}{l:List Nat}{i:Nat}{key v:ByteArray}(hk:keyB key=true)(hv:v.size≤24)(hs:256≤G.size)(hi:spFree l=some i):downI G l 0 (leaf1 key v)=some i:=by
 have h1:=leaf1_wt hk hv;unfold downI;rw[if_pos ⟨leaf1_right hk hv,by omega⟩];unfold placeI;rw[if_neg (by simp)];exact hi
abbrev PgE:=PageA × (Option Addr × Nat × Nat)
theorem flat_set{α:Type}{enc:α→List Value}{sz:Nat}(henc:∀x,(enc x).length=sz):∀(l:List α) (i:Nat) (x x':α) (j:Nat) (u:Value),l[i]? = some x→j<sz→(enc x).set j u=enc x'→(l.set i x').flatMap enc=(l.flatMap enc).set (i * sz+j) u
 | [],i,x,x',j,u,h,_,_=>by simp at h
 | y :: l,0,x,x',j,u,h,hj,he=>by
  simp at h;subst h;rw[List.set_cons_zero,List.flatMap_cons,List.flatMap_cons,Nat.zero_mul,Nat.zero_add,← he,List.set_append_left _ _ (by rw[henc];exact hj)]
 | y :: l,i+1,x,x',j,u,h,hj,he=>by
  rw[List.set_cons_succ,List.flatMap_cons,List.flatMap_cons,flat_set henc l i x x' j u (by simpa using h) hj he,List.set_append_right _ _ (by rw[henc,Nat.add_mul];omega),henc];congr 2
  rw[Nat.add_mul];omega
theorem Own.set{α:Type}{F:Nat→Prop}{w:World}{base:Nat}{e:TypeId}{sz:Nat}{enc:α→List Value}{g n c:Nat}{l:List α}(h:Own F w base e sz enc (.slice (some ⟨g,0,none⟩) n c) l)(henc:∀x,(enc x).length=sz){i j:Nat}{x x':α}{u:Value}(hx:l[i]? = some x)(hj:j<sz)(he:(enc x).set j u=enc x') :
  Own F (w.setCell ⟨g,i * sz+j,none⟩ u) base e sz enc (.slice (some ⟨g,0,none⟩) n c) (l.set i x'):=by
 refine⟨?_,h.2⟩;rcases h.1.2 with ⟨h0,_⟩|⟨g',cap,cur,h0,hb,hg,h1,h2,h3,h4⟩
 ·cases h0
 ·injection h0 with h0 h0n h0c;injection h0 with h0;injection h0 with h0;subst h0 h0c h0n;refine⟨by rw[flatMap_len henc],.inr ⟨g,c,cur.setIfInBounds (i * sz+j) u,by rw[List.length_set],hb,heap_setCell_same w g _ cur e u hg,by rw[List.length_set];exact h1,h2,by simpa using h3,?_⟩⟩;rw[flat_set henc l i x x' j u hx hj he,← h4,List.length_set];simp[List.take_set]
end
end Go.Proofs.YtdnbmdghmmpgcaaGreatDoor
