/- insert.Cut of a node that is not right. | insert.Down: a node is put down. | A step of a pager by which some pages come in the place of others: what it leaves alone. Plain. | Chains on any pages: what is written is read, and what they take and give back. Plain. | insert.Put, as plain Lean, and what a step of it leaves alone though it fails. | insert.settle: a node that fits is put down. -/
import Derived.Test.YtphafjmdhmpkbaaGreatDoorC28
import Derived.Test.YtphafjmdhmpkbaaGreatDoorC23
import Derived.Test.YtphafjmdhmpkbaaGreatDoorC25
import Derived.Test.YtphafjmdhmpkbaaGreatDoorC24
import Derived.Test.YtphafjmdhmpkbaaGreatDoorC16
namespace Go.Proofs.YtphafjmdhmpkbaaGreatDoor
open Go.RowKit
attribute [local go_sem ↓] Go.wp_at_zero Go.wp_at_succ
section
variable {F:Nat→Prop} {ad:Nat→Addr} {w w':World}
set_option maxRecDepth 100000 in
set_option maxHeartbeats 4000000 in
theorem cutF_any (hL:Env F ad w) (n:NodeA) (ve vk vi:Value) (hve:Sl F w 4 encE ve n.entries) (hvk:Sl F w 1 encS vk n.keys) (hvi:Sl F w 1 encI vi n.kids) (hnr:rightN n=false) (hb1:n.entries.length≤100000) (hb2:n.kids.length≤100000) :
    Calls Tryz.prog 13 #[.agg #[.bool n.leaf,ve,vk,vi]] w (CutR w n):=by
  have HCK:=Lib.hid (fun W (m:Ext w W)=>nodeCheck_any (hL.mods m.ext) n ve vk vi (hve.ext m) (hvk.ext m) (hvi.ext m))
  have HVE:=Lib.hid hve
  have HVK:=Lib.hid hvk
  have HVI:=Lib.hid hvi
  obtain ⟨ea,ec,rfl,he1,he2,he3,_⟩:=hve
  obtain ⟨ka,kc,rfl,_,_,_,_⟩:=hvk
  obtain ⟨ia,ic,rfl,hi1,hi2,hi3,_⟩:=hvi
  unfold maxLen at he2 hi2
  obtain ⟨fr,hfr⟩:∃ fr,fr=cutFrom n:=⟨_,rfl⟩
  obtain ⟨M,hM⟩:∃ M,M=cutMany n:=⟨_,rfl⟩
  have HFR:=Lib.hid hfr
  have HM:=Lib.hid hM
  have HNR:=Lib.hid hnr
  obtain ⟨lf,hlf⟩:∃ lf,n.leaf=lf:=⟨_,rfl⟩
  rw [hlf] at HCK ⊢
  have HLF:=Lib.hid hlf
  obtain ⟨w0,hw0⟩:∃ w0,w0=((w.alloc (.cells #[.bool lf,.slice ea n.entries.length ec,.slice ka n.keys.length kc,.slice ia n.kids.length ic] 26)).alloc (.cells nodeZc 26)).alloc (.cells nodeZc 26):=⟨_,rfl⟩
  have HM0:Hid (Ext w w0):=Lib.hid (by rw [hw0];exact (((Mods.refl _ w).alloc _).alloc _).alloc _)
  have HB0:Hid (Blk w0 w.heap.size #[.bool lf,.slice ea n.entries.length ec,.slice ka n.keys.length kc,.slice ia n.kids.length ic] 26):=Lib.hid (by rw [hw0];exact ((Blk.new w _ _).alloc _).alloc _)
  have HR1:Hid (Blk w0 (w.heap.size+1) nodeZc 26):=Lib.hid (by rw [hw0];exact (show Blk ((w.alloc _).alloc (.cells nodeZc 26)) (w.heap.size+1) nodeZc 26 from heap_at (by simp)).alloc _)
  have HR2:Hid (Blk w0 (w.heap.size+1+1) nodeZc 26):=Lib.hid (by rw [hw0];exact heap_at (by simp))
  have HFM:Hid ((lf=true→fr=1∧M=n.entries.length - 1)∧(lf=false→fr=2∧M=n.kids.length - 3)):=Lib.hid (by
    rw [hfr,hM];unfold cutFrom cutMany;rw [hlf]
    exact ⟨fun h=>by rw [h];exact ⟨rfl,rfl⟩,fun h=>by rw [h];exact ⟨rfl,rfl⟩⟩)
  have b0:=HB0.out.cell (o:=0) rfl
  have b1:=HB0.out.cell (o:=1) rfl
  have b2:=HB0.out.cell (o:=2) rfl
  have b3:=HB0.out.cell (o:=3) rfl
  have u1:IntKind.i64.wrap ((n.entries.length:Int) - 1)=(n.entries.length:Int) - 1:=by rw [IntWalk.i64_in _ (by omega)]
  have u2:IntKind.i64.wrap ((n.kids.length:Int) - 2)=(n.kids.length:Int) - 2:=by rw [IntWalk.i64_in _ (by omega)]
  have HW0:=Lib.hid hw0
  clear hfr hM hnr hL hlf hw0
  obtain ⟨T,hT⟩:∃ T:Int,(M=0→T < (fr:Int))∧(0 < M→T=(fr:Int)+(M:Int) - 1)∧T=(if lf=true then (n.entries.length:Int) - 1 else (n.kids.length:Int) - 2):=⟨_,by
    have:=HFM.out
    cases lf
    · obtain ⟨h1,h2⟩:=this.2 rfl;simp only [Bool.false_eq_true,if_false];omega
    · obtain ⟨h1,h2⟩:=this.1 rfl;simp only [if_true];omega,by
    have:=HFM.out
    cases lf
    · obtain ⟨h1,h2⟩:=this.2 rfl;simp only [Bool.false_eq_true,if_false];omega
    · obtain ⟨h1,h2⟩:=this.1 rfl;simp only [if_true];omega,rfl⟩
  have HT:=Lib.hid hT
  clear hT
  go_enter Tryz.func13, Tryz.ntmps13
  go_wp2_with fail
  rw [← HW0.out]
  go_quiet (fail)
  go_upto_if 24 with fail
  go_cut [6,7] (fun v6 v7 wx=>v6=.int .i64 (fr:Int)∧v7=.int .i64 T∧Hid (Ext w0 wx))
  case first =>
    cases lf
    · have HTT:=HT.out.2.2
      have HF:=HFM.out.2 rfl
      simp only [Bool.false_eq_true,if_false] at HTT
      go_wp2_with fail
      go_quiet (fail)
      go_wp2_with fail
      go_meet
      exact ⟨by rw [HF.1];rfl,by rw [HTT],Lib.hid (((Mods.refl _ _).drewN _).drewN _)⟩
    · have HTT:=HT.out.2.2
      have HF:=HFM.out.1 rfl
      simp only [if_true] at HTT
      go_wp2_with fail
      go_meet
      exact ⟨by rw [HF.1];rfl,by rw [HTT],Lib.hid ((Mods.refl _ _).drewN _)⟩
  obtain ⟨rfl,rfl,HX⟩:=hcut
  have b0:=(HB0.out.ext HX.out).cell (o:=0) rfl
  have b1:=(HB0.out.ext HX.out).cell (o:=1) rfl
  have b2:=(HB0.out.ext HX.out).cell (o:=2) rfl
  have b3:=(HB0.out.ext HX.out).cell (o:=3) rfl
  go_wp2_with fail
  refine (HCK.out _ (HM0.out.trans HX.out)).mono ?_
  rintro e w1 ⟨ev,rfl,hE,hm1⟩
  have HX1:=Lib.hid (HX.out.trans hm1)
  have hR1:=HR1.out.ext HX1.out
  have hR2:=HR2.out.ext HX1.out
  clear hm1 b0 b1 b2 b3
  have HN:Hid (cutA n=none):=Lib.hid (cutA_none (fun h=>by rw [HNR.out] at h;cases h.1))
  have r0:=hR1.cell (o:=0) rfl
  have r1:=hR1.cell (o:=1) rfl
  have r2:=hR1.cell (o:=2) rfl
  have r3:=hR1.cell (o:=3) rfl
  have rf:=hR1.frozen
  have s0:=hR2.cell (o:=0) rfl
  have s1:=hR2.cell (o:=1) rfl
  have s2:=hR2.cell (o:=2) rfl
  have s3:=hR2.cell (o:=3) rfl
  have sf:=hR2.frozen
  have hA:=hR1.set4 (.bool false) (.slice none 0 0) (.slice none 0 0) (.slice none 0 0)
  have mA:=Mods.set4 (F:=fun k=>k=w.heap.size+1) (Mods.refl _ w1) (R:=w.heap.size+1) (.inr rfl) (.bool false) (.slice none 0 0) (.slice none 0 0) (.slice none 0 0)
  have hB:=(hR2.mods mA (by omega)).set4 (.bool false) (.slice none 0 0) (.slice none 0 0) (.slice none 0 0)
  have mB:=Mods.set4 (F:=fun k=>k=w.heap.size+1+1) (Mods.refl _ ((((w1.setCell ⟨w.heap.size+1,0,none⟩ (.bool false)).setCell ⟨w.heap.size+1,1,none⟩ (.slice none 0 0)).setCell ⟨w.heap.size+1,2,none⟩ (.slice none 0 0)).setCell ⟨w.heap.size+1,3,none⟩ (.slice none 0 0))) (R:=w.heap.size+1+1) (.inr rfl) (.bool false) (.slice none 0 0) (.slice none 0 0) (.slice none 0 0)
  have HA2:=Lib.hid (hA.mods mB (by omega))
  have HB2:=Lib.hid hB
  have HX2:=Lib.hid (Mods.set4 (Mods.set4 (HM0.out.trans HX1.out) (R:=w.heap.size+1) (.inl (by omega)) (.bool false) (.slice none 0 0) (.slice none 0 0) (.slice none 0 0)) (R:=w.heap.size+1+1) (.inl (by omega)) (.bool false) (.slice none 0 0) (.slice none 0 0) (.slice none 0 0))
  clear hR1 hR2 hA mA hB mB
  have hev:nodeCk n=some ([-1],1):=by unfold nodeCk;rw [if_neg (by rw [HNR.out];simp)]
  rw [hev] at hE
  obtain ⟨fb,rfl,_⟩:=hE
  clear hev
  go_wp2_with fail
  refine bodyPost_ret (results_row_tmp_row_tmp rfl _ _ (w.heap.size+1) (w.heap.size+1+1) 26 26 _ _ _ rfl HA2.out rfl HB2.out rfl Tryz.underlying26 rfl Tryz.nodeSz rfl) rfl ?_
  exact ⟨HX2.out,.inr ⟨HN.out,rfl⟩⟩
end
def kindA (n:NodeA):Int:=if n.leaf=true then 3 else 2
def downOk (n:NodeA) (size:Nat):Prop:=rightN n=true∧weightN n≤(size:Int) - 24
instance (n:NodeA) (size:Nat):Decidable (downOk n size):=by unfold downOk;exact inferInstance
def downI (G:GA) (l:List Nat) (old:Nat) (n:NodeA):Option Nat:=if downOk n G.size then placeI l old else none
def downG (G:GA) (l:List Nat) (gen old:Nat) (n:NodeA):GA:=match downI G l old n with
  | none=>G
  | some i=>(placeG G l old).put ⟨kindA n,(i:Int),gen,bytesN n⟩
def downL (G:GA) (l:List Nat) (old:Nat) (n:NodeA):List Nat:=if downOk n G.size then placeL l old else l
def downK (G:GA) (n:NodeA):Nat:=if downOk n G.size then 3 else 1
def DownP (ad:Nat→Addr) (o:Option Nat) (k:Nat) (F':Nat→Prop) (w':World) (e:Ending):Prop :=
  (∃ i,o=some i∧e=.returned (.tuple #[.int .i64 (i:Int),.nilIface]))∨(o=none∧∃ f el,e=.returned (.tuple #[.int .i64 0,faultV f])∧ErrC F' ad w' (faultV f) el k)
theorem placeI_lt {l:List Nat} {old i:Nat} (h:placeI l old=some i):i < l.length:=by
  unfold placeI at h
  split at h
  · rename_i h1
    injection h with h
    subst h
    have:=h1.2
    unfold spFresh at this
    simp only [Bool.and_eq_true,decide_eq_true_eq,Int.toNat_natCast] at this
    exact (List.getElem?_eq_some_iff.1 this.2).1
  · exact (spFree_at h).2
theorem placeG_none {G:GA} {l:List Nat} {old:Nat} (h:placeI l old=none):placeG G l old=G:=by
  unfold placeI at h
  unfold placeG
  split at h
  · cases h
  · rw [if_pos h];split <;> rfl
theorem placeG_lim (G:GA) (l:List Nat) (old:Nat):(placeG G l old).size=G.size∧(placeG G l old).blocks=G.blocks∧(placeG G l old).cost=G.cost:=by
  unfold placeG
  split
  · exact ⟨rfl,rfl,rfl⟩
  · split <;> exact ⟨rfl,rfl,rfl⟩
section
variable {P P' F F':Nat→Prop} {ad:Nat→Addr} {w w':World} {c s:Nat} {G:GA} {l:List Nat}
set_option maxRecDepth 100000 in
set_option maxHeartbeats 1000000 in
theorem down_any (hL:Env F ad w) (hP:∀ k,P k→F k) (h:PgR F w P c s G l) (gen old:Nat) (hgen:gen < 18446744073709551616) (n:NodeA) (ve vk vi:Value) (hve:Sl F w 4 encE ve n.entries) (hvk:Sl F w 1 encS vk n.keys) (hvi:Sl F w 1 encI vi n.kids)
    (hlen:rightN n=true→(bytesN n).length≤100000) (hok:placeOk l old) (ho2:old=0∨2≤old) (hob:old < 256) (hll:l.length≤G.blocks) (hco:G.cost < 1000000) :
    Calls Tryz.prog 81 #[pgV c s gen,.int .i64 (old:Int),.agg #[.bool n.leaf,ve,vk,vi]] w (PgDone F P ad w c s (downG G l gen old n) (downL G l old n) (DownP ad (downI G l old n) (downK G n))):=by
  have m0:Ext w ((w.alloc (.cells #[.pointer (some ⟨c,0,none⟩),.pointer (some ⟨s,0,none⟩),.int .u64 (gen:Int)] 45)).alloc (.cells #[.bool n.leaf,ve,vk,vi] 26)):=((Mods.refl _ w).alloc _).alloc _
  have HB0:=Lib.hid ((Blk.new w #[.pointer (some ⟨c,0,none⟩),.pointer (some ⟨s,0,none⟩),.int .u64 (gen:Int)] 45).alloc (.cells #[.bool n.leaf,ve,vk,vi] 26))
  have HN0:Hid (Blk ((w.alloc (.cells #[.pointer (some ⟨c,0,none⟩),.pointer (some ⟨s,0,none⟩),.int .u64 (gen:Int)] 45)).alloc (.cells #[.bool n.leaf,ve,vk,vi] 26)) (w.heap.size+1) #[.bool n.leaf,ve,vk,vi] 26):=Lib.hid (heap_at (by simp))
  have hx:=hL.mods m0.ext
  have HPUT:=Lib.hid (nodePut_any hx n ve vk vi (hve.ext m0) (hvk.ext m0) (hvi.ext m0) hlen)
  have HM0:=Lib.hid m0
  have HP:=Lib.hid hP
  have HG:=Lib.hid (h.at m0)
  have HL:=Lib.hid hx
  have HLW:=Lib.hid hL
  have HX0:Hid (Nxt P P F F ad w _):=Lib.hid (Nxt.ext hL hP m0)
  have HBP:Hid (¬ P w.heap.size∧¬ P (w.heap.size+1)):=Lib.hid ⟨fun hp=>by have:=h.bd _ hp;omega,fun hp=>by have:=h.bd _ hp;omega⟩
  have HOK:=Lib.hid hok
  have HLIM:=Lib.hid h.lim
  have HLEN:=Lib.hid hlen
  have HFT:Hid (rightN n=true→∀ W,Ext w W → Calls Tryz.prog 16 #[.agg #[.bool n.leaf,ve,vk,vi],.int .i64 (G.size:Int)] W fun e w'=>e=.returned (.bool (decide (weightN n≤(G.size:Int) - 24)))∧Ext W w'):=Lib.hid (fun hr W m=>fits_any n ve vk vi W (hve.ext m) (hvk.ext m) (by
    rw [weight_len (form_right hr)];have:=hlen hr;omega) _ (by omega) (by have:=h.lim;omega))
  have HSZ:=Lib.hid (fun W (m:Ext w W)=>inSize_any (h.at m) gen)
  obtain ⟨ea,ec,rfl,_,_,_,_⟩:=hve
  obtain ⟨ka,kc,rfl,_,_,_,_⟩:=hvk
  obtain ⟨ia,ic,rfl,_,_,_,_⟩:=hvi
  clear hL hP h m0 hok hlen hx
  unfold pgV at HSZ ⊢
  go_enter Tryz.func81, Tryz.ntmps81
  go_wp2_with fail
  refine HPUT.out.mono ?_
  rintro e w1 ⟨hm1,⟨hr,a,cc,rfl,hO⟩ | ⟨hr,f,rfl,hE⟩⟩
  · have HM1:=Lib.hid (HM0.out.trans hm1)
    have HR:=Lib.hid hr
    have HO:=Lib.hid hO
    have HB1:=Lib.hid (HB0.out.ext hm1)
    have HN1:=Lib.hid (HN0.out.ext hm1)
    have HX1:=Lib.hid (HX0.out.trans (Nxt.ext HL.out HP.out hm1))
    have HG1:=Lib.hid (HG.out.at hm1)
    have b0:=HB1.out.cell (o:=0) rfl
    have b1:=HB1.out.cell (o:=1) rfl
    have b2:=HB1.out.cell (o:=2) rfl
    have n0:=HN1.out.cell (o:=0) rfl
    have n1:=HN1.out.cell (o:=1) rfl
    have n2:=HN1.out.cell (o:=2) rfl
    have n3:=HN1.out.cell (o:=3) rfl
    clear hm1 hr hO
    go_wp2_with fail
    go_region_held3 (fun w'=>w'.cell? ⟨w.heap.size+1,0,none⟩=some (.bool n.leaf)∧w'.cell? ⟨w.heap.size+1,1,none⟩=some (.slice ea n.entries.length ec)∧w'.cell? ⟨w.heap.size+1,2,none⟩=some (.slice ka n.keys.length kc)∧w'.cell? ⟨w.heap.size+1,3,none⟩=some (.slice ia n.kids.length ic) ∧
        w'.cell? ⟨w.heap.size,0,none⟩=some (.pointer (some ⟨c,0,none⟩))∧w'.cell? ⟨w.heap.size,1,none⟩=some (.pointer (some ⟨s,0,none⟩))∧w'.cell? ⟨w.heap.size,2,none⟩=some (.int .u64 (gen:Int)))
      (first | (with_reducible exact ⟨n0,n1,n2,n3,b0,b1,b2⟩) | (with_reducible exact ⟨y0,y1,y2,y3,d0,d1,d2⟩) | (with_reducible exact ⟨z0,z1,z2,z3,f0,f1,f2⟩) | go_keep)
      (first
        | (go_at_call 125;(with_reducible refine (HSZ.out _ HM1.out.drew).mono ?_);rintro e w2 ⟨rfl,hm2⟩;have y0:=cellE hm2 n0;have y1:=cellE hm2 n1;have y2:=cellE hm2 n2;have y3:=cellE hm2 n3;have d0:=cellE hm2 b0;have d1:=cellE hm2 b1;have d2:=cellE hm2 b2)
        | (go_at_call 16;refine (HFT.out HR.out _ (HM1.out.drew.trans hm2)).mono ?_;rintro e w3 ⟨rfl,hm3⟩;have z0:=cellE hm3 y0;have z1:=cellE hm3 y1;have z2:=cellE hm3 y2;have z3:=cellE hm3 y3;have f0:=cellE hm3 d0;have f1:=cellE hm3 d1;have f2:=cellE hm3 d2)
        | fail)
    have HM2:Hid (Ext w1 w2):=Lib.hid ((Mods.refl _ w1).drew.trans hm2)
    have HM3:=Lib.hid (HM2.out.trans hm3)
    have HB3:=Lib.hid (HB1.out.ext (HM2.out.trans hm3))
    have HN3:=Lib.hid (HN1.out.ext (HM2.out.trans hm3))
    have HX3:=Lib.hid (HX1.out.trans (Nxt.ext HX1.out.env HX1.out.sub (HM2.out.trans hm3)))
    have HG3:=Lib.hid (HG1.out.at (HM2.out.trans hm3))
    have b0:=HB3.out.cell (o:=0) rfl
    have b1:=HB3.out.cell (o:=1) rfl
    have b2:=HB3.out.cell (o:=2) rfl
    have g1:=HX3.out.env.c1
    clear hm3
    cases hfit:decide (weightN n≤(G.size:Int) - 24) with
    | false =>
      have HD:Hid (¬ downOk n G.size):=Lib.hid (fun hd=>by rw [decide_eq_true hd.2] at hfit;cases hfit)
      clear hfit
      go_wp2_with fail
      refine (at_any HX3.out.env _ (old:Int) _ [] 1 (.sent 1 (by decide) (by decide))).mono ?_
      rintro e w4 ⟨f,rfl,hE,hm4⟩
      have HE:=Lib.hid hE
      have HM4:=Lib.hid hm4
      clear hE hm4
      go_wp2_with fail
      go_ret2
      refine ⟨P,F,?_,HX3.out.trans (Nxt.ext HX3.out.env HX3.out.sub HM4.out),?_⟩
      · have e1:downG G l gen old n=G:=by unfold downG downI;rw [if_neg HD.out]
        have e2:downL G l old n=l:=by unfold downL;rw [if_neg HD.out]
        rw [e1,e2];exact HG3.out.at HM4.out
      · have e1:downI G l old n=none:=by unfold downI;rw [if_neg HD.out]
        have e2:downK G n=1:=by unfold downK;rw [if_neg HD.out]
        rw [e1,e2];exact .inr ⟨rfl,f,_,rfl,HE.out⟩
    | true =>
      have HD:Hid (downOk n G.size):=Lib.hid ⟨HR.out,of_decide_eq_true hfit⟩
      have HPL:=place_any HX3.out.env HX3.out.sub HG3.out gen old HOK.out ho2 hob
      unfold pgV at HPL
      have HPC:=Lib.hid HPL
      clear hfit HPL
      go_wp2_with fail
      refine HPC.out.mono ?_
      rintro e w4 ⟨P4,F4,hG4,hN4,hr4⟩
      have HG4:=Lib.hid hG4
      have HX4:=Lib.hid (HX3.out.trans hN4)
      have hp3:¬ P w.heap.size∧¬ P (w.heap.size+1):=HBP.out
      have HB4:=Lib.hid (hN4.blk HB3.out hp3.1)
      have HN4:=Lib.hid (hN4.blk HN3.out hp3.2)
      have HSB:Hid (Sl F4 w4 1 encB (.slice a (bytesN n).length cc) (bytesN n)):=Lib.hid (hN4.sl HX3.out.sub (((HO.out.blocks (G:=F) (fun g hg=>by
        have:=(HO.out.lt g hg).1
        have hlt:=HLW.out.lt g
        intro hf
        have:=hlt hf
        simp at *
        omega)).sl encB_ok.len (by have:=HLEN.out HR.out;omega)).ext HM3.out))
      clear hG4 hN4 hp3
      rcases hr4 with ⟨i,hi,rfl⟩ | ⟨hi,f,rfl,hE⟩
      · have hil:=placeI_lt hi
        have HI:=Lib.hid hi
        have HIL:Hid (i < G.blocks∧i < 256):=Lib.hid (by have:=HLIM.out;omega)
        have b0:=HB4.out.cell (o:=0) rfl
        have b2:=HB4.out.cell (o:=2) rfl
        have n0:=HN4.out.cell (o:=0) (v:=.bool n.leaf) rfl
        have HDI:Hid (downI G l old n=some i):=Lib.hid (by unfold downI;rw [if_pos HD.out,HI.out])
        have HDG:Hid (downG G l gen old n=(placeG G l old).put ⟨kindA n,(i:Int),gen,bytesN n⟩):=Lib.hid (by unfold downG;rw [HDI.out])
        have HDL:Hid (downL G l old n=placeL l old):=Lib.hid (by unfold downL;rw [if_pos HD.out])
        have hwl:((bytesN n).length:Int)+24≤(G.size:Int):=by
          have:=HD.out.2
          rw [weight_len (form_right HR.out)] at this
          omega
        have HPC:Hid (pgCheck ⟨kindA n,(i:Int),gen,bytesN n⟩ ((placeG G l old).size:Int)=none):=Lib.hid (by
          rw [(placeG_lim G l old).1]
          unfold pgCheck
          have:=HLIM.out
          rw [if_neg (by unfold sizedB;simp;omega),if_neg]
          have hk:kindB (kindA n)=true:=by unfold kindA;split <;> rfl
          have:=HIL.out
          simp only [hk]
          simp
          omega)
        clear hi hil hwl
        cases hlf:n.leaf
        all_goals
          rw [hlf] at n0
          have HK:Hid (kindA n=_):=Lib.hid (by unfold kindA;rw [hlf])
          simp only [Bool.false_eq_true,if_false,if_true] at HK
          have HPT:=Lib.hid (fun W (m:Ext w4 W)=>pgPut (HX4.out.env.mods m.ext) HX4.out.sub (HG4.out.at m) ⟨kindA n,(i:Int),gen,bytesN n⟩ _ (HSB.out.ext m) hgen ⟨by simp,by rw [(placeG_lim G l old).2.1];have:=HIL.out;simp;omega⟩ HPC.out (by rw [(placeG_lim G l old).2.2];exact hco))
          unfold pageV at HPT
          simp only [HK.out] at HPT
          clear hlf
          go_wp2_with fail
          refine (HPT.out _ ?_).mono ?_
          · first | exact Mods.refl _ _ | exact (Mods.refl _ _).alloc _
          rintro e w5 ⟨P5,F5,hG5,hN5,rfl⟩
          have HG5:=Lib.hid hG5
          have HX5:=Lib.hid ((HX4.out.trans (Nxt.ext HX4.out.env HX4.out.sub (by first | exact Mods.refl _ _ | exact (Mods.refl _ _).alloc _))).trans hN5)
          clear hG5 hN5
          go_wp2_with fail
          go_ret2
          refine ⟨P5,F5,?_,HX5.out,?_⟩
          · rw [HDG.out,HDL.out,HK.out];exact HG5.out
          · rw [HDI.out];exact .inl ⟨i,rfl,rfl⟩
      · have HDI:Hid (downI G l old n=none):=Lib.hid (by unfold downI;rw [if_pos HD.out,hi])
        have HDG:Hid (downG G l gen old n=placeG G l old):=Lib.hid (by unfold downG;rw [HDI.out,placeG_none hi])
        have HDL:Hid (downL G l old n=placeL l old):=Lib.hid (by unfold downL;rw [if_pos HD.out])
        have HDK:Hid (downK G n=3):=Lib.hid (by unfold downK;rw [if_pos HD.out])
        have HE:=Lib.hid hE
        clear hi hE
        go_wp2_with fail
        refine (wrap_any HX4.out.env _ _ _ _ HE.out).mono ?_
        rintro e w5 ⟨f5,rfl,hE5,hm5⟩
        have HE5:=Lib.hid hE5
        have HM5:=Lib.hid hm5
        clear hE5 hm5
        go_wp2_with fail
        go_ret2
        refine ⟨P4,F4,?_,HX4.out.trans (Nxt.ext HX4.out.env HX4.out.sub HM5.out),?_⟩
        · rw [HDG.out,HDL.out];exact HG4.out.at HM5.out
        · rw [HDI.out,HDK.out];exact .inr ⟨rfl,f5,_,rfl,HE5.out⟩
  · have HD:Hid (¬ downOk n G.size):=Lib.hid (fun hd=>by rw [hd.1] at hr;cases hr)
    have HE:=Lib.hid hE
    have HX1:=Lib.hid (HX0.out.trans (Nxt.ext HL.out HP.out hm1))
    have HG1:=Lib.hid (HG.out.at hm1)
    clear hE hm1 hr
    go_wp2_with fail
    refine (wrap_any HX1.out.env _ _ _ _ HE.out).mono ?_
    rintro e w5 ⟨f5,rfl,hE5,hm5⟩
    have HE5:=Lib.hid hE5
    have HM5:=Lib.hid hm5
    clear hE5 hm5
    go_wp2_with fail
    go_ret2
    refine ⟨P,F,?_,HX1.out.trans (Nxt.ext HX1.out.env HX1.out.sub HM5.out),?_⟩
    · have e1:downG G l gen old n=G:=by unfold downG downI;rw [if_neg HD.out]
      have e2:downL G l old n=l:=by unfold downL;rw [if_neg HD.out]
      rw [e1,e2];exact HG1.out.at HM5.out
    · have e1:downI G l old n=none:=by unfold downI;rw [if_neg HD.out]
      have e2:downK G n=1:=by unfold downK;rw [if_neg HD.out]
      rw [e1,e2];exact .inr ⟨rfl,f5,_,rfl,HE5.out⟩
end
end Go.Proofs.YtphafjmdhmpkbaaGreatDoor
namespace Go.Proofs.YtphafjmdhmpkbaaGreatDoor
open Go.RowKit
structure Upd (G:GA) (l:List Nat) (A:Nat→Prop) (G':GA) (l':List Nat) (A':Nat→Prop):Prop where
  sz:G'.size=G.size
  bl:G'.blocks=G.blocks
  len:l'.length=l.length
  inn:∀ i,A' i→(A i∧l'[i]? = l[i]?)∨(l[i]? = some 0∧l'[i]? = some 2)
  gone:∀ i,A i→¬ A' i→(l[i]? = some 2∧l'[i]? = some 0)∨(l[i]? = some 1∧l'[i]? = some 3)
  rest:∀ i,¬ A i→¬ A' i→l'[i]? = l[i]? ∧ (l[i]? ≠ some 0→G'.view i=G.view i)
  keep:∀ i,l[i]? = some 1∨l[i]? = some 3→G'.look i=G.look i∧(G'.view i=G.view i∨G'.view i=openO (G.look i) i)
section
variable {G G1 G2:GA} {l l1 l2:List Nat} {A A1 A2 B:Nat→Prop}
theorem Upd.iff {A' A1':Nat→Prop} (h:Upd G l A G1 l1 A1) (h1:∀ i,A' i ↔ A i) (h2:∀ i,A1' i ↔ A1 i):Upd G l A' G1 l1 A1' :=
  ⟨h.sz,h.bl,h.len,fun i hi=>(h.inn i ((h2 i).1 hi)).imp (fun x=>⟨(h1 i).2 x.1,x.2⟩) id,fun i hi hn=>h.gone i ((h1 i).1 hi) (fun x=>hn ((h2 i).2 x)),fun i hi hn=>h.rest i (fun x=>hi ((h1 i).2 x)) (fun x=>hn ((h2 i).2 x)),h.keep⟩
end
def phiL (l:List Nat):Int:=(l.countP (· == 0):Int) - (l.countP (· == 1):Int)
theorem phi_set {l:List Nat} {i x y:Nat} (h:l[i]? = some x):phiL (l.set i y)=phiL l+((if y=0 then 1 else 0) - (if y=1 then 1 else 0)) - ((if x=0 then 1 else 0) - (if x=1 then 1 else 0)):=by
  unfold phiL
  have h0:=countP_set (· == 0) l i y x h
  have h1:=countP_set (· == 1) l i y x h
  simp only [beq_iff_eq] at h0 h1
  have e:∀ (p:Prop) [Decidable p],(if p then (1:Int) else 0)=((if p then (1:Nat) else 0:Nat):Int):=fun p _=>by split <;> rfl
  simp only [e]
  omega
/-! ### the steps -/
section
variable {G:GA} {l:List Nat}
theorem put_view (G:GA) (p:PageA) (i:Nat):(G.put p).view i=if i=p.id.toNat then some (.inl p) else G.view i:=by
  show upd G.view p.id.toNat (some (.inl p)) i=_
  unfold upd;rfl
theorem put_look (G:GA) (p:PageA) {i:Nat} (h:i ≠ p.id.toNat):(G.put p).look i=G.look i:=upd_ne _ _ h
theorem drop_view (G:GA) (k i:Nat):(G.drop k).view i=if i=k then openO (G.look k) k else G.view i:=by
  show upd G.view k (openO (G.look k) k) i=_
  unfold upd;rfl
theorem upd_take {i:Nat} (hi:spFree l=some i) (p:PageA) (hp:p.id=(i:Int)):Upd G l (fun _=>False) (G.put p) (l.set i 2) (fun k=>k=i):=by
  have h0:=spFree_at hi
  have hpi:p.id.toNat=i:=by omega
  refine ⟨rfl,rfl,by simp,fun k hk=>?_,fun _ f=>f.elim,fun k _ hk=>?_,fun k hk=>?_⟩
  · subst hk;exact .inr ⟨h0.1,List.getElem?_set_self h0.2⟩
  · exact ⟨List.getElem?_set_ne (fun e=>hk e.symm),fun _=>by rw [put_view,hpi,if_neg hk]⟩
  · have hne:k ≠ i:=fun e=>by rw [e,h0.1] at hk;simp at hk
    exact ⟨put_look G p (by rw [hpi];exact hne),.inl (by rw [put_view,hpi,if_neg hne])⟩
theorem upd_again {i:Nat} (hi:l[i]? = some 2) (p:PageA) (hp:p.id=(i:Int)):Upd G l (fun k=>k=i) (G.put p) l (fun k=>k=i):=by
  have hpi:p.id.toNat=i:=by omega
  refine ⟨rfl,rfl,rfl,fun k hk=>.inl ⟨hk,rfl⟩,fun k hk hn=>absurd hk hn,fun k hk _=>⟨rfl,fun _=>by rw [put_view,hpi,if_neg hk]⟩,fun k hk=>?_⟩
  have hne:k ≠ i:=fun e=>by rw [e,hi] at hk;simp at hk
  exact ⟨put_look G p (by rw [hpi];exact hne),.inl (by rw [put_view,hpi,if_neg hne])⟩
theorem give_last {l:List Nat} {i:Nat} (h2:2≤i) (hi:l[i]? = some 1):spGive l (i:Int)=(l.set i 3,none):=by
  have hlt:=(List.getElem?_eq_some_iff.1 hi).1
  unfold spGive spCheck
  rw [if_neg (by omega)]
  simp only [Int.toNat_natCast,hi]
  simp
theorem upd_place {old i:Nat} (ho:old=0∨(2≤old∧(l[old]? = some 1∨l[old]? = some 2))) (hi:placeI l old=some i) (p:PageA) (hp:p.id=(i:Int)) (h0:l[0]? ≠ some 0) :
    Upd G l (fun k=>k=old∧old ≠ 0) ((placeG G l old).put p) (placeL l old) (fun k=>k=i)∧phiL l - (if old=0 then 1 else 0)≤phiL (placeL l old)∧1≤i:=by
  rcases ho with rfl | ⟨h2,ho⟩
  · have e1:placeG G l 0=G:=by unfold placeG;rw [if_pos (.inl rfl)]
    have hf:spFree l=some i:=by unfold placeI at hi;rw [if_neg (by simp)] at hi;exact hi
    have e2:placeL l 0=l.set i 2:=by unfold placeL spTake;rw [if_pos rfl,hf]
    rw [e1,e2]
    refine ⟨(upd_take hf p hp).iff (fun k=>by simp) (fun k=>Iff.rfl),?_,?_⟩
    · rw [phi_set (spFree_at hf).1];simp
    · rcases Nat.eq_zero_or_pos i with e | e
      · rw [e] at hf;exact absurd (spFree_at hf).1 h0
      · exact e
  · have hz:old ≠ 0:=by omega
    rcases ho with ho | ho
    · have hfr:spFresh l (old:Int)=false:=by unfold spFresh;rw [Int.toNat_natCast,ho];simp
      have hf:spFree l=some i:=by unfold placeI at hi;rw [if_neg (by rw [hfr];simp)] at hi;exact hi
      have hne:i ≠ old:=fun e=>by have:=(spFree_at hf).1;rw [e,ho] at this;simp at this
      have e1:placeG G l old=G.drop old:=by unfold placeG;rw [if_neg (by rw [hfr];simp [hz]),if_neg (by rw [hf];simp)]
      have ho2:(l.set i 2)[old]? = some 1:=by rw [List.getElem?_set_ne hne];exact ho
      have e2:placeL l old=(l.set i 2).set old 3:=by
        unfold placeL
        rw [if_neg hz,if_neg (by rw [hfr];simp),hf]
        simp only
        rw [give_last h2 ho2]
      have h0f:=spFree_at hf
      have hol:=(List.getElem?_eq_some_iff.1 ho).1
      have hpi:p.id.toNat=i:=by omega
      rw [e1,e2]
      refine ⟨⟨rfl,rfl,by simp,fun k hk=>?_,fun k hk _=>?_,fun k hk hn=>?_,fun k hk=>?_⟩,?_,?_⟩
      · subst hk
        exact .inr ⟨h0f.1,by rw [List.getElem?_set_ne hne.symm];exact List.getElem?_set_self h0f.2⟩
      · obtain ⟨rfl,_⟩:=hk
        exact .inr ⟨ho,List.getElem?_set_self (by simpa using hol)⟩
      · have hk2:k ≠ old:=fun e=>hk ⟨e,hz⟩
        refine ⟨by rw [List.getElem?_set_ne hk2.symm,List.getElem?_set_ne (fun e=>hn e.symm)],fun _=>?_⟩
        rw [put_view,hpi,if_neg hn,drop_view,if_neg hk2]
      · have hki:k ≠ i:=fun e=>by rw [e,h0f.1] at hk;simp at hk
        refine ⟨put_look (G.drop old) p (by rw [hpi];exact hki),?_⟩
        rw [put_view,hpi,if_neg hki,drop_view]
        by_cases e:k=old
        · subst e;rw [if_pos rfl];exact .inr rfl
        · rw [if_neg e];exact .inl rfl
      · rw [phi_set ho2,phi_set h0f.1];simp [hz]
      · rcases Nat.eq_zero_or_pos i with e | e
        · rw [e] at hf;exact absurd (spFree_at hf).1 h0
        · exact e
    · have hfr:spFresh l (old:Int)=true:=by unfold spFresh;rw [Int.toNat_natCast,ho];simp
      have hio:old=i:=by unfold placeI at hi;rw [if_pos ⟨hz,hfr⟩] at hi;exact Option.some.inj hi
      subst hio
      have e1:placeG G l old=G:=by unfold placeG;rw [if_pos (.inr hfr)]
      have e2:placeL l old=l:=by unfold placeL;rw [if_neg hz,if_pos hfr]
      rw [e1,e2]
      exact ⟨(upd_again ho p hp).iff (fun k=>by simp [hz]) (fun k=>Iff.rfl),by simp [hz],by omega⟩
end
section
variable {G G':GA} {gen:Nat} {c s:Int} {v:ByteArray} {ids:List Nat}
/-! ### what a chain takes -/
end
structure OutA where
  id0:Nat
  id1:Nat
  key:ByteArray
  two:Bool
  news:Bool
abbrev StA (α:Type):=(GA × List Nat × α) ⊕ Nat
def settleA (G:GA) (l:List Nat) (gen old:Nat) (n:NodeA):StA OutA :=
  if weightN n≤(G.size:Int) - 24 then (match downI G l old n with
    | some i=>.inl (downG G l gen old n,downL G l old n,⟨i,0,e0,false,false⟩)
    | none=>.inr (downK G n))
  else match cutA n with
    | none=>.inr 8
    | some (a,k,b)=>if weightN a≤(G.size:Int) - 24∧weightN b≤(G.size:Int) - 24 then (match downI G l old a with
        | none=>.inr (downK G a)
        | some i=>match downI (downG G l gen old a) (downL G l old a) 0 b with
          | none=>.inr (downK (downG G l gen old a) b)
          | some j=>.inl (downG (downG G l gen old a) (downL G l old a) gen 0 b,downL (downG G l gen old a) (downL G l old a) 0 b,⟨i,j,k,true,false⟩))
      else .inr 8
def withE (n:NodeA) (key:ByteArray) (e:EntryA):NodeA :=
  { n with entries:=n.entries.take (entAt key n.entries) ++ [e] ++ n.entries.drop (entAt key n.entries+if entIs key n.entries=true then 1 else 0) }
def leaf0:NodeA:=⟨true,[],[],[]⟩
/-! ### what holds whatever comes -/
structure FrG (G:GA) (l:List Nat) (G':GA) (l':List Nat):Prop where
  sz:G'.size=G.size
  bl:G'.blocks=G.blocks
  len:l'.length=l.length
  keep:∀ i,l[i]? = some 1∨l[i]? = some 3→(l'[i]? = some 1∨l'[i]? = some 3)∧G'.look i=G.look i∧(G'.view i=G.view i∨G'.view i=openO (G.look i) i)
  low:∀ i,i < 2→l[i]? = some 1→l'[i]? = some 1
  other:∀ i:Nat,l[i]? = some 0∨l[i]? = some 2→l'[i]? = some 0∨l'[i]? = some 2
section
variable {G G1 G2:GA} {l l1 l2:List Nat}
theorem FrG.refl (G:GA) (l:List Nat):FrG G l G l:=⟨rfl,rfl,rfl,fun _ h=>⟨h,rfl,.inl rfl⟩,fun _ _ h=>h,fun _ h=>h⟩
def LowL (l:List Nat):Prop:=l[0]? = some 1∧l[1]? = some 1
theorem Upd.fr {A A1:Nat→Prop} (h:Upd G l A G1 l1 A1) (hA:∀ i,A i→2≤i):FrG G l G1 l1:=by
  refine ⟨h.sz,h.bl,h.len,fun i hi=>⟨?_,h.keep i hi⟩,fun i hi h1=>?_,fun i hi=>?_⟩
  · by_cases h1:A1 i
    · rcases h.inn i h1 with ⟨_,h2⟩ | ⟨h2,_⟩
      · rw [h2];exact hi
      · rcases hi with e | e <;> rw [h2] at e <;> simp at e
    · by_cases ha:A i
      · rcases h.gone i ha h1 with ⟨h2,_⟩ | ⟨_,h2⟩
        · rcases hi with e | e <;> rw [h2] at e <;> simp at e
        · exact .inr h2
      · rw [(h.rest i ha h1).1];exact hi
  · have ha:¬ A i:=fun ha=>by have:=hA i ha;omega
    have hn:¬ A1 i:=fun h2=>by
      rcases h.inn i h2 with ⟨h3,_⟩ | ⟨h3,_⟩
      · exact ha h3
      · rw [h3] at h1;simp at h1
    rw [(h.rest i ha hn).1];exact h1
  · by_cases h1:A1 i
    · rcases h.inn i h1 with ⟨_,h2⟩ | ⟨_,h2⟩
      · rw [h2];exact hi
      · exact .inr h2
    · by_cases ha:A i
      · rcases h.gone i ha h1 with ⟨_,h2⟩ | ⟨h2,_⟩
        · exact .inl h2
        · rcases hi with e | e <;> rw [h2] at e <;> simp at e
      · rw [(h.rest i ha h1).1];exact hi
theorem downL_none {G:GA} {l:List Nat} {old:Nat} {n:NodeA} (h:downI G l old n=none) (_ho:old=0∨(2≤old∧(l[old]? = some 1∨l[old]? = some 2))):downL G l old n=l:=by
  unfold downI at h
  unfold downL
  split at h
  · rename_i hd
    rw [if_pos hd]
    unfold placeI at h
    unfold placeL
    split at h
    · cases h
    · rename_i hf
      by_cases hz:old=0
      · rw [if_pos hz];unfold spTake;rw [h]
      · rw [if_neg hz,if_neg (fun hf2=>hf ⟨hz,hf2⟩),h]
  · rename_i hd;rw [if_neg hd]
theorem downG_none {gen old:Nat} {n:NodeA} (h:downI G l old n=none):downG G l gen old n=G:=by unfold downG;rw [h]
def PlaceOf (l:List Nat) (old:Nat):Prop:=old=0∨(2≤old∧(l[old]? = some 1∨l[old]? = some 2))
theorem PlaceOf.ok {old:Nat} (h:PlaceOf l old):placeOk l old:=h.imp id (fun h=>h.2)
theorem PlaceOf.two {old:Nat} (h:PlaceOf l old):old=0∨2≤old:=h.imp id (fun h=>h.1)
theorem PlaceOf.lt {old:Nat} (h:PlaceOf l old) (hl:l.length≤256):old < 256:=by
  rcases h with rfl | ⟨_,h | h⟩
  · omega
  · have:=(List.getElem?_eq_some_iff.1 h).1;omega
  · have:=(List.getElem?_eq_some_iff.1 h).1;omega
theorem upd_down {gen old i:Nat} {n:NodeA} (ho:PlaceOf l old) (hi:downI G l old n=some i) (h0:l[0]? ≠ some 0) :
    Upd G l (fun k=>k=old∧old ≠ 0) (downG G l gen old n) (downL G l old n) (fun k=>k=i)∧phiL l - (if old=0 then 1 else 0)≤phiL (downL G l old n)∧1≤i∧i < l.length∧(downG G l gen old n).view i=some (.inl ⟨kindA n,(i:Int),gen,bytesN n⟩)∧downOk n G.size:=by
  have hd:downOk n G.size:=by
    unfold downI at hi
    split at hi
    · rename_i h;exact h
    · cases hi
  have hp:placeI l old=some i:=by unfold downI at hi;rw [if_pos hd] at hi;exact hi
  have e1:downG G l gen old n=(placeG G l old).put ⟨kindA n,(i:Int),gen,bytesN n⟩:=by unfold downG;rw [hi]
  have e2:downL G l old n=placeL l old:=by unfold downL;rw [if_pos hd]
  obtain ⟨u1,u2,u3⟩:=upd_place (G:=G) ho hp ⟨kindA n,(i:Int),gen,bytesN n⟩ rfl h0
  rw [e1,e2]
  exact ⟨u1,u2,u3,placeI_lt hp,by rw [put_view];simp,hd⟩
theorem fr_down {gen old:Nat} {n:NodeA} (ho:PlaceOf l old) (h0:l[0]? ≠ some 0):FrG G l (downG G l gen old n) (downL G l old n):=by
  cases hi:downI G l old n with
  | none=>rw [downG_none hi,downL_none hi ho];exact FrG.refl G l
  | some i=>exact (upd_down ho hi h0).1.fr (fun k hk=>by
      obtain ⟨rfl,hz⟩:=hk
      rcases ho with h | h
      · exact absurd h hz
      · exact h.1)
end
end Go.Proofs.YtphafjmdhmpkbaaGreatDoor
namespace Go.Proofs.YtphafjmdhmpkbaaGreatDoor
open Go.RowKit
attribute [local go_sem ↓] Go.wp_at_zero Go.wp_at_succ
structure VarR (F P:Nat→Prop) (w0 wr:World) (b:Nat) (c:Array Value) (t:TypeId):Prop where
  blk:Blk wr b c t
  f:F b
  p:¬ P b
  new:w0.heap.size≤b
section
variable {P P' F F':Nat→Prop} {ad:Nat→Addr} {w0 w w':World} {b b2:Nat} {c c2:Array Value} {t t2:TypeId}
theorem VarR.nxt (h:VarR F P w0 w b c t) (n:Nxt P P' F F' ad w w'):VarR F' P' w0 w' b c t:=⟨n.blk h.blk h.p,n.grow b h.f,n.not h.blk.lt h.p,h.new⟩
theorem VarR.ext (h:VarR F P w0 w b c t) (m:Ext w w'):VarR F P w0 w' b c t:=⟨h.blk.ext m,h.f,h.p,h.new⟩
theorem VarR.other (h:VarR F P w0 w b c t) {b2:Nat} (m:Mods (fun k=>k=b2) w w') (hb:b ≠ b2):VarR F P w0 w' b c t:=⟨h.blk.mods m hb,h.f,h.p,h.new⟩
end
section
variable {P P0 F F0:Nat→Prop} {ad:Nat→Addr} {w0 w w':World} {b:Nat} {cc:Array Value} {t:TypeId} {c s:Nat} {G:GA} {l:List Nat}
theorem PgR.var (h:PgR F w P c s G l) (v:VarR F P w0 w b cc t) (m:Mods (fun k=>k=b) w w'):PgR F w' P c s G l:=h.res m v.p v.f
theorem Nxt.var (n:Nxt P0 P F0 F ad w0 w) (v:VarR F P w0 w b cc t) (m:Mods (fun k=>k=b) w w'):Nxt P0 P F0 F ad w0 w':=n.resD m v.new v.f
theorem VarR.mF (v:VarR F P w0 w b cc t) (m:Mods (fun k=>k=b) w w'):Mods F w w':=m.mono (fun _ hk=>hk ▸ v.f)
end
def outC (o:OutA):Array Value:=#[.int .i64 (o.id0:Int),.int .i64 (o.id1:Int),.string o.key,.bool o.two,.bool o.news]
def out0:OutA:=⟨0,0,e0,false,false⟩
abbrev outZc:Array Value:=#[.int .i64 0,.int .i64 0,.string ⟨#[]⟩,.bool false,.bool false]
def OutP (F P:Nat→Prop) (ad:Nat→Addr) (w:World) (c s:Nat) (G:GA) (l:List Nat) (r:StA OutA) (e:Ending) (w':World):Prop :=
  ∃ (P' F':Nat→Prop) (G':GA) (l':List Nat),PgR F' w' P' c s G' l'∧Nxt P P' F F' ad w w' ∧
    ((∃ o, r = .inl (G', l', o) ∧ e = .returned (.tuple #[.agg (outC o), .nilIface])) ∨
     (∃ k o f el,r=.inr k∧FrG G l G' l'∧e=.returned (.tuple #[.agg (outC o),faultV f])∧ErrC F' ad w' (faultV f) el k))
theorem Tryz.outSz:(Tryz.prog.info? 127).map (·.size)=some 5:=by kernel_rfl
theorem downI_ok {G:GA} {l:List Nat} {old i:Nat} {n:NodeA} (h:downI G l old n=some i):downOk n G.size:=by
  unfold downI at h
  split at h
  · rename_i hd;exact hd
  · cases h
theorem downG_lim (G:GA) (l:List Nat) (gen old:Nat) (n:NodeA):(downG G l gen old n).size=G.size∧(downG G l gen old n).blocks=G.blocks∧(downG G l gen old n).cost≤G.cost+1:=by
  unfold downG
  split
  · exact ⟨rfl,rfl,by omega⟩
  · obtain ⟨h1,h2,h3⟩:=placeG_lim G l old
    exact ⟨h1,h2,by show (placeG G l old).cost+1≤_;omega⟩
structure SetOk (G:GA) (l:List Nat) (old:Nat) (n:NodeA):Prop where
  place:PlaceOf l old
  low:LowL l
  len:l.length≤G.blocks
  cost:G.cost+10≤1000000
  wt:weightN n≤100000
  bytes:rightN n=true→(bytesN n).length≤100000
  cut:¬ weightN n≤(G.size:Int) - 24→∃ a k b,cutA n=some (a,k,b)∧weightN a≤(G.size:Int) - 24∧weightN b≤(G.size:Int) - 24
  few:n.entries.length≤100000∧n.keys.length≤100000∧n.kids.length≤100000
section
variable {P P' F F':Nat→Prop} {ad:Nat→Addr} {w w':World} {c s:Nat} {G:GA} {l:List Nat}
set_option maxRecDepth 100000 in
set_option maxHeartbeats 4000000 in
theorem settleF_any (n:NodeA) (hF:weightN n≤(G.size:Int) - 24) (hL:Env F ad w) (hP:∀ k,P k→F k) (h:PgR F w P c s G l) (gen old:Nat) (hgen:gen < 18446744073709551616) (ve vk vi:Value) (hve:Sl F w 4 encE ve n.entries) (hvk:Sl F w 1 encS vk n.keys) (hvi:Sl F w 1 encI vi n.kids) (hok:SetOk G l old n) :
    Calls Tryz.prog 123 #[pgV c s gen,.int .i64 (old:Int),.agg #[.bool n.leaf,ve,vk,vi]] w (OutP F P ad w c s G l (settleA G l gen old n)):=by
  have HFF:=Lib.hid hF
  clear hF
  obtain ⟨w1,hw1⟩:∃ w1,w1=(((w.alloc (.cells #[.pointer (some ⟨c,0,none⟩),.pointer (some ⟨s,0,none⟩),.int .u64 (gen:Int)] 45)).alloc (.cells #[.bool n.leaf,ve,vk,vi] 26)).alloc (.cells outZc 127)).alloc (.cells outZc 127):=⟨_,rfl⟩
  have m0:Ext w w1:=by rw [hw1];exact ((((Mods.refl _ w).alloc _).alloc _).alloc _).alloc _
  have hz:w1.heap.size=w.heap.size+4:=by rw [hw1];simp
  have hN:Nxt P P F (fun k=>F k∨(w.heap.size≤k∧k < w1.heap.size)) ad w w1:=Nxt.new hL hP (Q:=fun k=>w.heap.size≤k∧k < w1.heap.size) m0 (fun k hk=>hk.1) (fun k hk=>hk.2)
  have HB:=Lib.hid (show VarR (fun k=>F k∨(w.heap.size≤k∧k < w1.heap.size)) P w w1 w.heap.size #[.pointer (some ⟨c,0,none⟩),.pointer (some ⟨s,0,none⟩),.int .u64 (gen:Int)] 45 from ⟨by rw [hw1];exact (((Blk.new w _ _).alloc _).alloc _).alloc _,.inr ⟨by omega,by omega⟩,fun hp=>by have:=h.bd _ hp;omega,by omega⟩)
  have HD:=Lib.hid (show VarR (fun k=>F k∨(w.heap.size≤k∧k < w1.heap.size)) P w w1 (w.heap.size+1) #[.bool n.leaf,ve,vk,vi] 26 from ⟨by rw [hw1];exact ((show Blk ((w.alloc _).alloc (.cells #[.bool n.leaf,ve,vk,vi] 26)) (w.heap.size+1) #[.bool n.leaf,ve,vk,vi] 26 from heap_at (by simp)).alloc _).alloc _,.inr ⟨by omega,by omega⟩,fun hp=>by have:=h.bd _ hp;omega,by omega⟩)
  have HR:=Lib.hid (show VarR (fun k=>F k∨(w.heap.size≤k∧k < w1.heap.size)) P w w1 (w.heap.size+1+1) outZc 127 from ⟨by rw [hw1];exact (show Blk (((w.alloc _).alloc _).alloc (.cells outZc 127)) (w.heap.size+1+1) outZc 127 from heap_at (by simp)).alloc _,.inr ⟨by omega,by omega⟩,fun hp=>by have:=h.bd _ hp;omega,by omega⟩)
  have HO:=Lib.hid (show VarR (fun k=>F k∨(w.heap.size≤k∧k < w1.heap.size)) P w w1 (w.heap.size+1+1+1) outZc 127 from ⟨by rw [hw1];exact heap_at (by simp),.inr ⟨by omega,by omega⟩,fun hp=>by have:=h.bd _ hp;omega,by omega⟩)
  have HG:=Lib.hid (h.plusNew hP (Q:=fun k=>w.heap.size≤k∧k < w1.heap.size) m0 (fun k hk=>hk.1))
  have HVE:=Lib.hid (hN.sl hP hve)
  have HVK:=Lib.hid (hN.sl hP hvk)
  have HVI:=Lib.hid (hN.sl hP hvi)
  have HLIM:=Lib.hid h.lim
  have HN:=Lib.hid hN
  have HOK:=Lib.hid hok
  have HSZ:=Lib.hid (fun W (m:Ext w1 W)=>inSize_any (HG.out.at m) gen)
  have HFT:Hid (∀ W,Ext w1 W → Calls Tryz.prog 16 #[.agg #[.bool n.leaf,ve,vk,vi],.int .i64 (G.size:Int)] W fun e w'=>e=.returned (.bool (decide (weightN n≤(G.size:Int) - 24)))∧Ext W w'):=Lib.hid (fun W m=>fits_any n ve vk vi W (HVE.out.ext m) (HVK.out.ext m) (by have:=hok.wt;omega) _ (by omega) (by have:=HLIM.out;omega))
  obtain ⟨ea,ec,rfl,_,_,_,_⟩:=hve
  obtain ⟨ka,kc,rfl,_,_,_,_⟩:=hvk
  obtain ⟨ia,ic,rfl,_,_,_,_⟩:=hvi
  have b0:=HB.out.blk.cell (o:=0) rfl
  have b1:=HB.out.blk.cell (o:=1) rfl
  have b2:=HB.out.blk.cell (o:=2) rfl
  have n0:=HD.out.blk.cell (o:=0) rfl
  have n1:=HD.out.blk.cell (o:=1) rfl
  have n2:=HD.out.blk.cell (o:=2) rfl
  have n3:=HD.out.blk.cell (o:=3) rfl
  have HW1:=Lib.hid hw1
  clear hL hP h m0 hN hok hw1
  unfold pgV at HSZ ⊢
  go_enter Tryz.func123, Tryz.ntmps123
  go_wp2_with fail
  rw [← HW1.out]
  go_cut [17] (fun v17 wx=>v17=.bool (decide (weightN n≤(G.size:Int) - 24))∧Hid (Ext w1 wx))
  case first =>
    go_region_held3 (fun w'=>w'.cell? ⟨w.heap.size+1,0,none⟩=some (.bool n.leaf)∧w'.cell? ⟨w.heap.size+1,1,none⟩=some (.slice ea n.entries.length ec)∧w'.cell? ⟨w.heap.size+1,2,none⟩=some (.slice ka n.keys.length kc)∧w'.cell? ⟨w.heap.size+1,3,none⟩=some (.slice ia n.kids.length ic) ∧
        w'.cell? ⟨w.heap.size,0,none⟩=some (.pointer (some ⟨c,0,none⟩))∧w'.cell? ⟨w.heap.size,1,none⟩=some (.pointer (some ⟨s,0,none⟩))∧w'.cell? ⟨w.heap.size,2,none⟩=some (.int .u64 (gen:Int)))
      (first | (with_reducible exact ⟨n0,n1,n2,n3,b0,b1,b2⟩) | (with_reducible exact ⟨y0,y1,y2,y3,d0,d1,d2⟩) | (with_reducible exact ⟨z0,z1,z2,z3,f0,f1,f2⟩) | go_keep)
      (first
        | (go_at_call 125;(with_reducible refine (HSZ.out _ (Mods.refl _ w1).drew).mono ?_);rintro e w2 ⟨rfl,hm2⟩;have y0:=cellE hm2 n0;have y1:=cellE hm2 n1;have y2:=cellE hm2 n2;have y3:=cellE hm2 n3;have d0:=cellE hm2 b0;have d1:=cellE hm2 b1;have d2:=cellE hm2 b2)
        | (go_at_call 16;refine (HFT.out _ ((Mods.refl _ w1).drew.trans hm2)).mono ?_;rintro e w3 ⟨rfl,hm3⟩;have z0:=cellE hm3 y0;have z1:=cellE hm3 y1;have z2:=cellE hm3 y2;have z3:=cellE hm3 y3;have f0:=cellE hm3 d0;have f1:=cellE hm3 d1;have f2:=cellE hm3 d2)
        | fail)
    all_goals
      go_wp2_with fail
      go_meet
      exact ⟨rfl,Lib.hid ((Mods.refl _ w1).drew.trans (hm2.trans hm3))⟩
  obtain ⟨rfl,HX⟩:=hcut
  have HB:=Lib.hid (HB.out.ext HX.out)
  have HD:=Lib.hid (HD.out.ext HX.out)
  have HR:=Lib.hid (HR.out.ext HX.out)
  have HO:=Lib.hid (HO.out.ext HX.out)
  have HN1:=Lib.hid (HN.out.trans (Nxt.ext HN.out.env HN.out.sub HX.out))
  have HG:=Lib.hid (HG.out.at HX.out)
  have b0:=HB.out.blk.cell (o:=0) rfl
  have b1:=HB.out.blk.cell (o:=1) rfl
  have b2:=HB.out.blk.cell (o:=2) rfl
  have n0:=HD.out.blk.cell (o:=0) rfl
  have n1:=HD.out.blk.cell (o:=1) rfl
  have n2:=HD.out.blk.cell (o:=2) rfl
  have n3:=HD.out.blk.cell (o:=3) rfl
  cases hfit:decide (weightN n≤(G.size:Int) - 24) with
  | true =>
    have HFT:=Lib.hid (of_decide_eq_true hfit)
    have HDW:=Lib.hid (down_any HN1.out.env HN1.out.sub HG.out gen old hgen n _ _ _ (HVE.out.ext HX.out) (HVK.out.ext HX.out) (HVI.out.ext HX.out) HOK.out.bytes HOK.out.place.ok HOK.out.place.two (HOK.out.place.lt (by have:=HLIM.out;omega)) HOK.out.len (by have:=HOK.out.cost;omega))
    unfold pgV at HDW
    clear hfit
    go_wp2_with fail
    refine HDW.out.mono ?_
    rintro e w2 ⟨P2,F2,hG2,hN2,hr⟩
    have HR2:=Lib.hid (HR.out.nxt hN2)
    have hO2:=HO.out.nxt hN2
    have HG2:=Lib.hid hG2
    have HN2:=Lib.hid (HN1.out.trans hN2)
    have o0:=hO2.blk.cell (o:=0) rfl
    have o1:=hO2.blk.cell (o:=1) rfl
    have o2:=hO2.blk.cell (o:=2) rfl
    have o3:=hO2.blk.cell (o:=3) rfl
    have o4:=hO2.blk.cell (o:=4) rfl
    have of:=hO2.blk.frozen
    have HO2:=Lib.hid hO2
    have r0:=HR2.out.blk.cell (o:=0) rfl
    have r1:=HR2.out.blk.cell (o:=1) rfl
    have r2:=HR2.out.blk.cell (o:=2) rfl
    have r3:=HR2.out.blk.cell (o:=3) rfl
    have r4:=HR2.out.blk.cell (o:=4) rfl
    have rf:=HR2.out.blk.frozen
    clear hG2 hN2 hO2
    rcases hr with ⟨i,hi,rfl⟩ | ⟨hi,f,el,rfl,hE⟩
    · have HSA:Hid (settleA G l gen old n=.inl (downG G l gen old n,downL G l old n,⟨i,0,e0,false,false⟩)):=Lib.hid (by unfold settleA;rw [if_pos HFT.out,hi])
      clear hi
      go_wp2_with fail
      have mO:=Mods.at (fun k=>k=w.heap.size+1+1+1) w2 (w.heap.size+1+1+1) 0 (.int .i64 (i:Int)) rfl
      have g3:=HG2.out.var HO2.out mO
      have n3:=HN2.out.var HO2.out mO
      have r3:=HR2.out.other mO (by omega)
      have mR:=Mods.set5 (F:=fun k=>k=w.heap.size+1+1) (Mods.refl _ (w2.setCell ⟨w.heap.size+1+1+1,0,none⟩ (.int .i64 (i:Int)))) (R:=w.heap.size+1+1) (.inr rfl) (.int .i64 (i:Int)) (.int .i64 0) (.string ⟨#[]⟩) (.bool false) (.bool false)
      have bR:=r3.blk.set5 (.int .i64 (i:Int)) (.int .i64 0) (.string ⟨#[]⟩) (.bool false) (.bool false)
      refine bodyPost_ret (results_row_tmp rfl _ _ (w.heap.size+1+1) 127 _ _ rfl bR Tryz.underlying127 rfl Tryz.outSz) rfl ?_
      exact ⟨P2,F2,_,_,g3.var r3 mR,n3.var r3 mR,.inl ⟨_,HSA.out,rfl⟩⟩
    · have HSA:Hid (settleA G l gen old n=.inr (downK G n)):=Lib.hid (by unfold settleA;rw [if_pos HFT.out,hi])
      have HFR:Hid (FrG G l (downG G l gen old n) (downL G l old n)):=Lib.hid (fr_down HOK.out.place (by rw [HOK.out.low.1];simp))
      have HE:=Lib.hid hE
      clear hi hE
      go_wp2_with fail
      have mO:=Mods.at (fun k=>k=w.heap.size+1+1+1) w2 (w.heap.size+1+1+1) 0 (.int .i64 0) rfl
      have g3:=HG2.out.var HO2.out mO
      have n3:=HN2.out.var HO2.out mO
      have r3:=HR2.out.other mO (by omega)
      have mR:=Mods.set5 (F:=fun k=>k=w.heap.size+1+1) (Mods.refl _ (w2.setCell ⟨w.heap.size+1+1+1,0,none⟩ (.int .i64 0))) (R:=w.heap.size+1+1) (.inr rfl) (.int .i64 0) (.int .i64 0) (.string ⟨#[]⟩) (.bool false) (.bool false)
      have bR:=r3.blk.set5 (.int .i64 0) (.int .i64 0) (.string ⟨#[]⟩) (.bool false) (.bool false)
      refine bodyPost_ret (results_row_tmp rfl _ _ (w.heap.size+1+1) 127 _ _ rfl bR Tryz.underlying127 rfl Tryz.outSz) rfl ?_
      exact ⟨P2,F2,_,_,g3.var r3 mR,n3.var r3 mR,.inr ⟨_,out0,_,_,HSA.out,HFR.out,rfl,(HE.out.mods (HO2.out.mF mO)).mods (r3.mF mR)⟩⟩
  | false=>exact absurd HFF.out (of_decide_eq_false hfit)
end
end Go.Proofs.YtphafjmdhmpkbaaGreatDoor
