/- insert.Put of a short pair into an empty tree. | law13.awake. | InsertRefuses holds. -/
import Derived.Test.YtphafjmdhmpkbaaGreatDoorK36
import Derived.BigQuiet
import Derived.Test.YtphafjmdhmpkbaaGreatDoorK20
import Derived.Test.YtphafjmdhmpkbaaGreatDoorK37
import Derived.Test.YtphafjmdhmpkbaaGreatDoorK38
import Derived.Test.YtphafjmdhmpkbaaGreatDoorK22
import Derived.Deep.RegionHeld3
namespace Go.Proofs.YtphafjmdhmpkbaaGreatDoor
open Go.RowKit
attribute [local go_sem ↓] Go.wp_at_zero Go.wp_at_succ
def leaf1 (key v:ByteArray):NodeA:=⟨true,[⟨key,v,0,0⟩],[],[]⟩
theorem leaf1_right {key v:ByteArray} (hk:keyB key=true) (hv:v.size≤24):rightN (leaf1 key v)=true:=by
  unfold rightN leaf1 rightE
  simp [hk,hv,risingS]
theorem leaf1_wt {key v:ByteArray} (hk:keyB key=true) (hv:v.size≤24):weightN (leaf1 key v)≤61:=by
  have:=(keyB_iff key).1 hk
  unfold weightN leaf1
  simp [sumE,sumK,weightE]
  omega
theorem leaf1_with (key v:ByteArray):withE leaf0 key ⟨key,v,0,0⟩=leaf1 key v:=rfl
theorem leaf1_ok {G:GA} {l:List Nat} {key v:ByteArray} (hk:keyB key=true) (hv:v.size≤24) (hl:LowL l) (hlen:l.length≤G.blocks) (hco:G.cost+10≤1000000) (hs:256≤G.size):SetOk G l 0 (leaf1 key v):=by
  have h1:=leaf1_wt hk hv
  have h2:=leaf1_right hk hv
  refine ⟨.inl rfl,hl,hlen,hco,by omega,fun _=>?_,fun hn=>by omega,by simp [leaf1]⟩
  have:=weight_len (form_right h2)
  omega
def Put0P (F P:Nat→Prop) (ad:Nat→Addr) (w:World) (c s gen:Nat) (G:GA) (l:List Nat) (key v:ByteArray) (i:Nat) (e:Ending) (w':World):Prop :=
  ∃ P' F',PgR F' w' P' c s (downG G l gen 0 (leaf1 key v)) (downL G l 0 (leaf1 key v))∧Nxt P P' F F' ad w w'∧e=.returned (.tuple #[.int .i64 (i:Int),.bool true,.nilIface])
section
variable {P P' F F':Nat→Prop} {ad:Nat→Addr} {w w':World} {c s:Nat} {G:GA} {l:List Nat}
set_option maxRecDepth 100000 in
set_option maxHeartbeats 2000000 in
theorem put0_any (hL:Env F ad w) (hP:∀ k,P k→F k) (h:PgR F w P c s G l) (gen:Nat) (hgen:gen < 18446744073709551616) (key v:ByteArray) (hk:keyB key=true) (hv:v.size≤24) (hl:LowL l) (hlen:l.length≤G.blocks) (hco:G.cost+10≤1000000) (i:Nat) (hi:spFree l=some i) :
    Calls Tryz.prog 26 #[pgV c s gen,.int .i64 0,.string key,.string v] w (Put0P F P ad w c s gen G l key v i):=by
  have m0:Ext w (w.alloc (.cells #[.pointer (some ⟨c,0,none⟩),.pointer (some ⟨s,0,none⟩),.int .u64 (gen:Int)] 45)):=(Mods.refl _ w).alloc _
  have HB0:=Lib.hid (Blk.new w #[.pointer (some ⟨c,0,none⟩),.pointer (some ⟨s,0,none⟩),.int .u64 (gen:Int)] 45)
  have HC:=inCheck_any (c:=c) (s:=s) (hL.mods m0.ext) gen key v (.inr (by omega))
  rw [show checkK key v=none by unfold checkK;rw [if_neg (by rw [hk];simp),if_neg (by omega)]] at HC
  have hlim:=h.lim
  have hst:settleA G l gen 0 (leaf1 key v)=.inl (downG G l gen 0 (leaf1 key v),downL G l 0 (leaf1 key v),⟨i,0,e0,false,false⟩):=by
    have h1:=leaf1_wt hk hv
    have hd:downI G l 0 (leaf1 key v)=some i:=by
      unfold downI
      rw [if_pos ⟨leaf1_right hk hv,by omega⟩]
      unfold placeI
      rw [if_neg (by simp)]
      exact hi
    unfold settleA
    rw [if_pos (by omega),hd]
  have HST:=Lib.hid hst
  have HOK:=Lib.hid (leaf1_ok hk hv hl hlen hco hlim.2.2.1)
  have HFT:Hid (weightN (leaf1 key v)≤(G.size:Int) - 24):=Lib.hid (by have:=leaf1_wt hk hv;omega)
  have HV:=Lib.hid hv
  have HG:=Lib.hid h
  have HP:=Lib.hid hP
  have HL:=Lib.hid hL
  have M0:=Lib.hid m0
  have HC:=Lib.hid HC
  have HBP:Hid (¬ P w.heap.size):=Lib.hid (fun hp=>by have:=h.bd _ hp;omega)
  unfold pgV at HC ⊢
  clear hL hP h m0 hk hv hl hlen hco hi hlim hst
  go_enter Tryz.func26, Tryz.ntmps26
  go_wp2_with fail
  refine HC.out.mono ?_
  rintro e w1 ⟨ev,rfl,hE,hm1⟩
  cases hE
  have M1:=Lib.hid (M0.out.trans hm1)
  have HB1:=Lib.hid (HB0.out.ext hm1)
  obtain ⟨w2,hw2⟩:∃ w2,w2=w1.alloc (.cells outZc 127):=⟨_,rfl⟩
  have m2:Ext w w2:=by rw [hw2];exact M1.out.alloc _
  have hz:w2.heap.size=w1.heap.size+1:=by rw [hw2];simp
  have hz1:w.heap.size < w1.heap.size:=HB1.out.lt
  have HN2:Hid (Nxt P P F (fun k=>F k∨k=w1.heap.size) ad w w2):=Lib.hid (Nxt.new HL.out HP.out (Q:=fun k=>k=w1.heap.size) m2 (fun k hk=>by omega) (fun k hk=>by omega))
  have HG2:=Lib.hid (HG.out.plusNew HP.out (Q:=fun k=>k=w1.heap.size) m2 (fun k hk=>by omega))
  have HO:=Lib.hid (show VarR (fun k=>F k∨k=w1.heap.size) P w w2 w1.heap.size outZc 127 from ⟨by rw [hw2];exact Blk.new _ _ _,.inr rfl,fun hp=>by have:=HG.out.bd _ hp;omega,by omega⟩)
  have b0:=cell_alloc (HB1.out.cell (o:=0) (v:=.pointer (some ⟨c,0,none⟩)) rfl) (.cells outZc 127)
  have b1:=cell_alloc (HB1.out.cell (o:=1) (v:=.pointer (some ⟨s,0,none⟩)) rfl) (.cells outZc 127)
  have b2:=cell_alloc (HB1.out.cell (o:=2) (v:=.int .u64 (gen:Int)) rfl) (.cells outZc 127)
  have HLF:=leafS_any (w:=w2) leaf0 rfl key v rfl HV.out (by rw [leaf1_with];exact HFT.out) HN2.out.env HN2.out.sub HG2.out gen 0 hgen (.slice none 0 0) (.slice none 0 0) (.slice none 0 0) (Sl.nil _ _ _ _) (Sl.nil _ _ _ _) (Sl.nil _ _ _ _) (by simp [leaf0]) (by rw [leaf1_with];exact HOK.out)
  rw [leaf1_with,HST.out] at HLF
  unfold pgV at HLF
  have HLF:=Lib.hid HLF
  have HW2:=Lib.hid hw2
  clear hm1 m2 hw2
  go_wp2_with fail
  rw [← HW2.out]
  refine HLF.out.mono ?_
  rintro e w3 ⟨P3,F3,G3,l3,hG3,hN3,⟨o,ho,rfl⟩ | ⟨k,o,f,el,ho,_⟩⟩
  · simp only [newsA,Sum.inl.injEq,Prod.mk.injEq] at ho
    obtain ⟨rfl,rfl,rfl⟩:=ho
    have HO3:=Lib.hid (HO.out.nxt hN3)
    have HG3:=Lib.hid hG3
    have HN3:=Lib.hid (HN2.out.trans hN3)
    have q0:=HO3.out.blk.cell (o:=0) rfl
    have q1:=HO3.out.blk.cell (o:=1) rfl
    have q2:=HO3.out.blk.cell (o:=2) rfl
    have q3:=HO3.out.blk.cell (o:=3) rfl
    have q4:=HO3.out.blk.cell (o:=4) rfl
    have qf:=HO3.out.blk.frozen
    have mR:=Mods.set5 (F:=fun k=>k=w1.heap.size) (Mods.refl _ w3) (R:=w1.heap.size) (.inr rfl) (.int .i64 (i:Int)) (.int .i64 0) (.string e0) (.bool false) (.bool true)
    have HGR:=Lib.hid (HG3.out.var HO3.out mR)
    have HNR:=Lib.hid (HN3.out.var HO3.out mR)
    have HBR:=Lib.hid (HO3.out.blk.set5 (.int .i64 (i:Int)) (.int .i64 0) (.string e0) (.bool false) (.bool true))
    unfold outC
    clear hG3 hN3 mR
    go_wp2_with fail
    have q0:=HBR.out.cell (o:=0) rfl
    have q4:=HBR.out.cell (o:=4) rfl
    go_quiet (fail)
    go_wp2_with fail
    refine bodyPost_ret (v:=.tuple #[.int .i64 (i:Int),.bool true,.nilIface]) (by simp [results,Tryz.results26,go_sem]) rfl ?_
    exact ⟨P3,F3,HGR.out.at ((Mods.refl _ _).drewN _),HNR.out.trans (Nxt.ext HNR.out.env HNR.out.sub ((Mods.refl _ _).drewN _)),rfl⟩
  · cases ho
end
theorem low_new (n:Nat) (h:8≤n):LowL (spNew n):=by
  rw [spK_zero n (by omega)]
  exact ⟨by rw [spK_get n 0 0 (by omega)];rfl,by rw [spK_get n 0 1 (by omega)];rfl⟩
theorem free_new (n:Nat) (h:8≤n):spFree (spNew n)=some 2:=by
  rw [spK_zero n (by omega),spK_free n 0 (by omega),if_pos (by omega)]
theorem len_new (n:Nat) (h:8≤n):(spNew n).length=n:=by
  rw [spK_zero n (by omega),spK_len n 0 (by omega)]
theorem down_total {G:GA} (h:G.total) (l:List Nat) (gen:Nat) (n:NodeA):(downG G l gen 0 n).total:=by
  unfold downG
  split
  · exact h
  · unfold placeG
    rw [if_pos (.inl rfl)]
    exact put_total h _
theorem down_node {G:GA} {l:List Nat} {gen i:Nat} {n:NodeA} (hd:downI G l 0 n=some i) (hi:i < G.blocks):(downG G l gen 0 n).node i=some n:=by
  have hr:=(downI_ok hd).1
  have hv:(downG G l gen 0 n).view i=some (.inl ⟨kindA n,(i:Int),gen,bytesN n⟩):=by
    unfold downG
    rw [hd]
    simp only
    rw [put_view,if_pos (by simp)]
  unfold GA.node
  rw [(downG_lim G l gen 0 n).2.1,if_pos hi,hv]
  simp only
  have hdec:decodeA ⟨kindA n,(i:Int),gen,bytesN n⟩=.inl n:=by
    unfold decodeA kindA
    cases hl:n.leaf with
    | true =>
      have:=(getN_iff true (bytesN n) n).2 ⟨hr,hl,rfl⟩
      simp [this]
    | false =>
      have:=(getN_iff false (bytesN n) n).2 ⟨hr,hl,rfl⟩
      simp [this]
  rw [hdec]
theorem down0_some {G:GA} {l:List Nat} {i:Nat} {key v:ByteArray} (hk:keyB key=true) (hv:v.size≤24) (hs:256≤G.size) (hi:spFree l=some i):downI G l 0 (leaf1 key v)=some i:=by
  have h1:=leaf1_wt hk hv
  unfold downI
  rw [if_pos ⟨leaf1_right hk hv,by omega⟩]
  unfold placeI
  rw [if_neg (by simp)]
  exact hi
theorem tree_one {n gen:Nat} (h8:8≤n) (h256:n≤256) {key v:ByteArray} (hk:keyB key=true) (hv:v.size≤24):TreeG (downG (G0 n) (spNew n) gen 0 (leaf1 key v)) 2 1 [(key,v)]:=by
  have hd:=down0_some (G:=G0 n) hk hv (Nat.le_refl 256) (free_new n h8)
  refine .inr ⟨by omega,by omega,by omega,.leaf (n:=leaf1 key v) (down_node hd (by show 2 < n;omega)) rfl (leaf1_right hk hv) rfl (fun i e x he hx=>?_) (fun x _=>inB_all _)⟩
  match i,he,hx with
  | 0,he,hx =>
    simp [leaf1] at he hx
    subst he hx
    exact ⟨rfl,rfl⟩
  | i+1,he,_=>simp [leaf1] at he
set_option maxRecDepth 100000 in
set_option maxHeartbeats 2000000 in
theorem awake13_any {ad:Nat→Addr} {w:World} (hL:Env NoB ad w) : Calls Tryz.prog 12 #[] w fun e w'=>e=.returned (.bool true)∧Ext w w':=by
  have HL:=Lib.hid hL
  clear hL
  go_enter Tryz.func12, Tryz.ntmps12
  go_wp2_with fail
  refine (pager13_any HL.out 16 (by omega) (by omega)).mono ?_
  rintro e w1 ⟨c,s,P,F,rfl,hG,hN⟩
  have hS:=LG.startZ (gen:=5) hG hN 5 rfl
  have t0:=hS.c0
  have t1:=hS.c1
  have t2:_=some (Value.int .u64 5):=hS.c2
  have HPU:=Lib.hid (put0_any hS.env hS.sub hS.pg 5 (by omega) ⟨#[97]⟩ ⟨#[120]⟩ (by decide) (by decide) (low_new 16 (by omega)) (by rw [len_new 16 (by omega)];exact Nat.le_refl 16) (by show 0+10≤1000000;omega) 2 (free_new 16 (by omega)))
  have HS:=Lib.hid hS
  rw [pgV5] at HPU ⊢
  clear hG hN hS
  go_wp2_with fail
  refine HPU.out.mono ?_
  rintro e w2 ⟨P2,F2,hG2,hN2,rfl⟩
  have hS2:=HS.out.step hN2 hG2
  have t0:=hS2.c0
  have t1:=hS2.c1
  have t2:_=some (Value.int .u64 5):=hS2.c2
  have HT:=tree_one (n:=16) (gen:=5) (by omega) (by omega) (key:=⟨#[97]⟩) (v:=⟨#[120]⟩) (by decide) (by decide)
  have HLK:Hid (lookA (downG (G0 16) (spNew 16) 5 0 (leaf1 ⟨#[97]⟩ ⟨#[120]⟩)) ((2:Nat):Int) ⟨#[97]⟩=.inl (some ⟨#[120]⟩)):=Lib.hid (by rw [HT.look (by decide)];rfl)
  have HGT:=Lib.hid (look_any hS2.env hS2.sub hS2.pg 5 ((2:Nat):Int) ⟨#[97]⟩ ((down_total (G0_total 16) _ _ _).look _ _))
  have HS2:=Lib.hid hS2
  rw [pgV5] at HGT
  clear hG2 hN2 hS2 HT
  go_wp2_with fail
  refine HGT.out.mono ?_
  rintro e w3 hd
  rw [HLK.out] at hd
  obtain ⟨P3,F3,hS3,rfl⟩:=HS2.out.done hd
  have HX:=Lib.hid hS3.ext0
  clear hd hS3 t0 t1 t2
  go_wp2_with fail
  go_ret
  exact ⟨rfl,HX.out⟩
section
variable {F:Nat→Prop} {ad:Nat→Addr} {w w':World}
theorem tells13_k (hL:Env F ad w) (hfu:Full ad) {f:Nat} {el:List Int} {k:Nat} (he:ErrC F ad w (faultV f) el k) (q:Nat) (hq:q < 100) (hk:k=q) : Calls Tryz.prog 28 #[faultV f,.int .i64 (q:Int)] w fun e w'=>e=.returned (.bool true)∧w=w':=by
  refine (tells13_any hL hfu (faultV f) (some (el,k)) ⟨f,rfl,he⟩ q hq).mono ?_
  rintro e w' ⟨rfl,h⟩
  refine ⟨?_,h⟩
  have:decide (codeO (some (el,k))=q)=true:=decide_eq_true hk
  rw [this]
end
end Go.Proofs.YtphafjmdhmpkbaaGreatDoor
