/- InsertCuts holds. -/
import Derived.Test.YtphafjmdhmpkbaaGreatDoorC29
import Derived.Test.YtphafjmdhmpkbaaGreatDoorC30
import Derived.Test.YtphafjmdhmpkbaaGreatDoorC32
import Derived.Test.YtphafjmdhmpkbaaGreatDoorC23
import Derived.Test.YtphafjmdhmpkbaaGreatDoorC25
import Derived.Deep.RegionHeld3
namespace Go.Proofs.YtphafjmdhmpkbaaGreatDoor
open Go.RowKit
attribute [local go_sem ↓] Go.wp_at_zero Go.wp_at_succ
def nodeN0:NodeA:=⟨false,[],[],[]⟩
def CutIs (n A B:NodeA) (key:ByteArray) (ok:Bool):Prop:=(cutA n=some (A,key,B)∧ok=true)∨(cutA n=none∧A=nodeN0∧B=nodeN0∧key=⟨#[]⟩∧ok=false)
theorem right_lens {n:NodeA} (hr:rightN n=true) (h1:n.entries.length≤60) (h2:n.kids.length≤60):n.entries.length≤1000∧n.keys.length≤1000∧n.kids.length≤1000:=by
  have hf:=form_right hr
  unfold formN at hf
  cases hl:n.leaf with
  | true=>rw [if_pos hl] at hf;rw [hf.1];simp;omega
  | false=>rw [if_neg (by rw [hl];simp)] at hf;omega
theorem CutIs.lens {n A B:NodeA} {key:ByteArray} {ok:Bool} (h:CutIs n A B key ok) (h1:n.entries.length≤60) (h2:n.kids.length≤60):(A.entries.length≤100000∧A.keys.length≤100000∧A.kids.length≤100000)∧(B.entries.length≤100000∧B.keys.length≤100000∧B.kids.length≤100000):=by
  rcases h with ⟨h,_⟩ | ⟨_,rfl,rfl,_,_⟩
  · unfold cutA at h
    split at h
    · rename_i hc
      have hl:=right_lens hc.1 h1 h2
      injection h with h
      have h6:=apart_len6 (n:=n) (firstMin (unlikeA n) (cutFrom n) (cutFrom n) (cutMany n)) (by omega) (by omega) (by omega)
      rw [h] at h6
      exact ⟨⟨h6.1,h6.2.1,h6.2.2.1⟩,h6.2.2.2.1,h6.2.2.2.2.1,h6.2.2.2.2.2⟩
    · cases h
  · simp [nodeN0]
theorem nodeN0_o (w:World) (base:Nat):NodeO w base (.agg #[.bool nodeN0.leaf,.slice none 0 0,.slice none 0 0,.slice none 0 0]) nodeN0:=⟨_,_,_,rfl,Own.nil _ _ _ _ _ _,Own.nil _ _ _ _ _ _,Own.nil _ _ _ _ _ _⟩
theorem CutR.uni {w w':World} {n:NodeA} {e:Ending} (h:CutR w n e w'):∃ A B key ok a1 a2 a3 b1 b2 b3,e=.returned (.tuple #[.agg #[.bool A.leaf,a1,a2,a3],.string key,.agg #[.bool B.leaf,b1,b2,b3],.bool ok])∧NodeO w' w.heap.size (.agg #[.bool A.leaf,a1,a2,a3]) A∧NodeO w' w.heap.size (.agg #[.bool B.leaf,b1,b2,b3]) B∧CutIs n A B key ok∧Ext w w':=by
  obtain ⟨hm,⟨x,va,vb,hc,rfl,ha,hb⟩ | ⟨hc,rfl⟩⟩:=h
  · obtain ⟨A,key,B⟩:=x
    obtain ⟨a1,a2,a3,rfl,p1,p2,p3⟩:=ha
    obtain ⟨b1,b2,b3,rfl,q1,q2,q3⟩:=hb
    exact ⟨A,B,key,true,a1,a2,a3,b1,b2,b3,rfl,⟨_,_,_,rfl,p1,p2,p3⟩,⟨_,_,_,rfl,q1,q2,q3⟩,.inl ⟨hc,rfl⟩,hm⟩
  · exact ⟨nodeN0,nodeN0,⟨#[]⟩,false,_,_,_,_,_,_,rfl,nodeN0_o _ _,nodeN0_o _ _,.inr ⟨hc,rfl,rfl,rfl,rfl⟩,hm⟩
theorem CutO.uni {w:World} {base:Nat} {v:Value} {n A B:NodeA} {key:ByteArray} {ok:Bool} (h:CutO w base v (cutA n)) (hc:CutIs n A B key ok):∃ c1 c2 c3 d1 d2 d3,v=.agg #[.bool A.leaf,c1,c2,c3,.bool B.leaf,d1,d2,d3,.string key,.bool ok]∧NodeO w base (.agg #[.bool A.leaf,c1,c2,c3]) A∧NodeO w base (.agg #[.bool B.leaf,d1,d2,d3]) B:=by
  rcases hc with ⟨hc,rfl⟩ | ⟨hc,rfl,rfl,rfl,rfl⟩
  · rw [hc] at h
    obtain ⟨c1,c2,c3,d1,d2,d3,rfl,h1,h2⟩:=h
    exact ⟨c1,c2,c3,d1,d2,d3,rfl,h1,h2⟩
  · rw [hc] at h
    obtain rfl:v=.agg halvesZc:=h
    exact ⟨_,_,_,_,_,_,rfl,nodeN0_o _ _,nodeN0_o _ _⟩
section
variable {F:Nat→Prop} {ad:Nat→Addr} {w w':World}
theorem sameO {W:World} {base base':Nat} {n:NodeA} {a1 a2 a3 c1 c2 c3:Value} (h1:NodeO W base (.agg #[.bool n.leaf,a1,a2,a3]) n) (h2:NodeO W base' (.agg #[.bool n.leaf,c1,c2,c3]) n) (hl:n.entries.length≤100000∧n.keys.length≤100000∧n.kids.length≤100000) :
    Calls Tryz.prog 18 #[.agg #[.bool n.leaf,a1,a2,a3],.agg #[.bool n.leaf,c1,c2,c3]] W fun e w'=>e=.returned (.bool true)∧Ext W w':=by
  obtain ⟨_,_,_,q,p1,p2,p3⟩:=h1
  obtain ⟨_,_,_,r,s1,s2,s3⟩:=h2
  simp only [Value.agg.injEq,Array.mk.injEq,List.cons.injEq,and_true,true_and] at q r
  obtain ⟨rfl,rfl,rfl⟩:=q
  obtain ⟨rfl,rfl,rfl⟩:=r
  exact same07_eq n _ _ _ _ _ _ (p1.sl encE_ok.len (by omega)) (p2.sl encS_ok.len (by omega)) (p3.sl encI_ok.len (by omega)) (s1.sl encE_ok.len (by omega)) (s2.sl encS_ok.len (by omega)) (s3.sl encI_ok.len (by omega))
theorem cut13N_any (n:NodeA) (hr:rightN n=false) (ve vk vi:Value) (hve:Sl F w 4 encE ve n.entries) (hvk:Sl F w 1 encS vk n.keys) (hvi:Sl F w 1 encI vi n.kids) (lf:Bool) (hlf:n.leaf=lf) :
    Calls Tryz.prog 14 #[.agg #[.bool lf,ve,vk,vi]] w fun e w'=>∃ v,e=.returned v∧CutO w' w.heap.size v (cutA n)∧Ext w w':=by
  obtain ⟨w0,hw0⟩:∃ w0,w0=((w.alloc (.cells #[.bool lf,ve,vk,vi] 26)).alloc (.cells halvesZc 31)).alloc (.cells halvesZc 31):=⟨_,rfl⟩
  have m0:Ext w w0:=by rw [hw0];exact (((Mods.refl _ w).alloc _).alloc _).alloc _
  have HR0:Hid (Blk w0 (w.heap.size+1) halvesZc 31):=Lib.hid (by rw [hw0];exact Blk.alloc (heap_at (by simp)) _)
  have HX0:Hid (Blk w0 (w.heap.size+1+1) halvesZc 31):=Lib.hid (by rw [hw0];exact heap_at (by simp))
  have HM0:=Lib.hid m0
  have hRG:=right07_t (w:=w0) n ve vk vi (hve.ext m0) (hvk.ext m0) (hvi.ext m0) false hr
  rw [hlf] at hRG
  have HRG:=Lib.hid hRG
  have HN:Hid (cutA n=none):=Lib.hid (cutA_none (fun h=>by rw [hr] at h;cases h.1))
  obtain ⟨ea,ec,rfl,he1,he2,he3, -⟩:=hve
  obtain ⟨ka,kc,rfl,hk1,hk2,hk3, -⟩:=hvk
  obtain ⟨ia,ic,rfl,hi1,hi2,hi3, -⟩:=hvi
  have HW0:=Lib.hid hw0
  clear m0 hRG hw0 hr hlf
  go_enter Tryz.func14, Tryz.ntmps14
  go_wp2_with fail
  unfold halvesZc at HW0
  rw [← HW0.out]
  refine HRG.out.mono ?_
  rintro e w1 ⟨rfl,hm1⟩
  have hR:=HR0.out.ext hm1
  have hX:=HX0.out.ext hm1
  have r0:=hR.cell (o:=0) rfl
  have x0:=hX.cell (o:=0) rfl
  have r1:=hR.cell (o:=1) rfl
  have x1:=hX.cell (o:=1) rfl
  have r2:=hR.cell (o:=2) rfl
  have x2:=hX.cell (o:=2) rfl
  have r3:=hR.cell (o:=3) rfl
  have x3:=hX.cell (o:=3) rfl
  have r4:=hR.cell (o:=4) rfl
  have x4:=hX.cell (o:=4) rfl
  have r5:=hR.cell (o:=5) rfl
  have x5:=hX.cell (o:=5) rfl
  have r6:=hR.cell (o:=6) rfl
  have x6:=hX.cell (o:=6) rfl
  have r7:=hR.cell (o:=7) rfl
  have x7:=hX.cell (o:=7) rfl
  have r8:=hR.cell (o:=8) rfl
  have x8:=hX.cell (o:=8) rfl
  have r9:=hR.cell (o:=9) rfl
  have x9:=hX.cell (o:=9) rfl
  have rf:=hR.frozen
  have HF:=Lib.hid (hR.set10 (.bool false) (.slice none 0 0) (.slice none 0 0) (.slice none 0 0) (.bool false) (.slice none 0 0) (.slice none 0 0) (.slice none 0 0) (.string ⟨#[]⟩) (.bool false))
  have HE:=Lib.hid (Mods.set10 (HM0.out.trans hm1) (R:=w.heap.size+1) (.inl (Nat.le_succ _)) (.bool false) (.slice none 0 0) (.slice none 0 0) (.slice none 0 0) (.bool false) (.slice none 0 0) (.slice none 0 0) (.slice none 0 0) (.string ⟨#[]⟩) (.bool false))
  clear hR hX hm1
  go_wp2_with fail
  refine bodyPost_ret (results_cell_row rfl _ _ (w.heap.size+1) 31 halvesZc (0,0) _ rfl HF.out Tryz.underlying31 rfl Tryz.halvesSz) rfl ?_
  exact ⟨_,rfl,by rw [HN.out];rfl,HE.out⟩
theorem cut13_any (n:NodeA) (h1:n.entries.length≤60) (h2:n.kids.length≤60) (hbl:rightN n=true→(bytesN n).length≤100000) (ve vk vi:Value) (hve:Sl F w 4 encE ve n.entries) (hvk:Sl F w 1 encS vk n.keys) (hvi:Sl F w 1 encI vi n.kids) (lf:Bool) (hlf:n.leaf=lf) :
    Calls Tryz.prog 14 #[.agg #[.bool lf,ve,vk,vi]] w fun e w'=>∃ v,e=.returned v∧CutO w' w.heap.size v (cutA n)∧Ext w w':=by
  cases hr:rightN n with
  | false=>exact cut13N_any n hr ve vk vi hve hvk hvi lf hlf
  | true =>
    have hl:=right_lens hr h1 h2
    subst hlf
    cases hlf:n.leaf with
    | true=>exact cut13L_any n hlf hr ve vk vi hve hvk hvi hl (hbl hr)
    | false=>exact cut13I_any n hlf hr ve vk vi hve hvk hvi hl (hbl hr)
theorem cutAll_any (hL:Env F ad w) (n:NodeA) (h1:n.entries.length≤60) (h2:n.kids.length≤60) (hbl:rightN n=true→(bytesN n).length≤100000) (ve vk vi:Value) (hve:Sl F w 4 encE ve n.entries) (hvk:Sl F w 1 encS vk n.keys) (hvi:Sl F w 1 encI vi n.kids) (lf:Bool) (hlf:n.leaf=lf) :
    Calls Tryz.prog 13 #[.agg #[.bool lf,ve,vk,vi]] w (CutR w n):=by
  subst hlf
  cases hr:rightN n with
  | false=>exact cutF_any hL n ve vk vi hve hvk hvi hr (by omega) (by omega)
  | true =>
    have hl:=right_lens hr h1 h2
    exact cut_any hL n ve vk vi hve hvk hvi hbl (by omega) (by omega) (by omega)
end
set_option maxRecDepth 100000 in
set_option maxHeartbeats 4000000 in
theorem InsertCuts_any {ad:Nat→Addr} {w:World} (hL:Env NoB ad w) (n:NodeA) (ve vk vi:Value) (hve:Sl NoB w 4 encE ve n.entries) (hvk:Sl NoB w 1 encS vk n.keys) (hvi:Sl NoB w 1 encI vi n.kids) (z:Int) (hz1 : -9223372036854775808≤z) (hz2:z≤9223372036854775807) :
    Calls Tryz.prog 3 #[.agg #[.bool n.leaf,ve,vk,vi],.int .i64 z] w fun e w'=>e=.returned (.bool true)∧Ext w w':=by
  obtain ⟨lf,hlf⟩:∃ lf,n.leaf=lf:=⟨_,rfl⟩
  rw [hlf]
  obtain ⟨w0,hw0⟩:∃ w0,w0=w.alloc (.cells #[.bool lf,ve,vk,vi] 26):=⟨_,rfl⟩
  have m0:Ext w w0:=by rw [hw0];exact (Mods.refl _ w).alloc _
  have HB0:=Lib.hid (show Blk w0 w.heap.size #[.bool lf,ve,vk,vi] 26 by rw [hw0];exact Blk.new w _ _)
  have HL:=Lib.hid (hL.mods m0.ext)
  have HVE:=Lib.hid (hve.ext m0)
  have HVK:=Lib.hid (hvk.ext m0)
  have HVI:=Lib.hid (hvi.ext m0)
  have HLF:=Lib.hid hlf
  have M0:=Lib.hid m0
  have HW0:=Lib.hid hw0
  have HAW:=Lib.hid (fun W (m:Ext w0 W)=>awake13_any (ad:=ad) (w:=W) (HL.out.mods m.ext))
  obtain ⟨ea,ec,rfl,he1,he2,he3, -⟩:=hve
  obtain ⟨ka,kc,rfl,hk1,hk2,hk3, -⟩:=hvk
  obtain ⟨ia,ic,rfl,hi1,hi2,hi3, -⟩:=hvi
  have n1:=HB0.out.cell (o:=1) (v:=.slice ea n.entries.length ec) rfl
  have n3:=HB0.out.cell (o:=3) (v:=.slice ia n.kids.length ic) rfl
  have n0:=HB0.out.cell (o:=0) (v:=.bool lf) rfl
  have n2:=HB0.out.cell (o:=2) (v:=.slice ka n.keys.length kc) rfl
  clear hL m0 hlf hw0
  by_cases hbig:60 < n.entries.length∨60 < n.kids.length
  · have HAW0:=Lib.hid (HAW.out w0 (Mods.refl _ _))
    by_cases hb1:(60:Int) < (n.entries.length:Int)
    all_goals
      first
        | have hb2:(60:Int) < (n.kids.length:Int):=by omega
        | skip
      clear hbig
      go_enter Tryz.func3, Tryz.ntmps3
      go_wp2_with fail
      rw [← HW0.out]
      refine HAW0.out.mono ?_
      rintro e w2 ⟨rfl,hm2⟩
      go_wp2_with fail
      go_ret
      exact ⟨rfl,M0.out.trans hm2⟩
  · have hb1:¬ (60:Int) < (n.entries.length:Int):=by omega
    have hb2:¬ (60:Int) < (n.kids.length:Int):=by omega
    have HBY:=Lib.hid (few_bytes13 (n:=n) (by omega) (by omega))
    have HS60:=Lib.hid (show n.entries.length≤60∧n.kids.length≤60 by omega)
    have HCU:=Lib.hid (cutAll_any HL.out n HS60.out.1 HS60.out.2 HBY.out _ _ _ HVE.out HVK.out HVI.out lf HLF.out)
    clear hbig
    go_enter Tryz.func3, Tryz.ntmps3
    go_wp2_with fail
    rw [← HW0.out]
    refine HCU.out.mono ?_
    rintro e wa hR
    obtain ⟨A,B,key,ok,a1,a2,a3,b1,b2,b3,rfl,hA,hB,hc,hma⟩:=hR.uni
    obtain ⟨sa1,ta1,sa2,ta2,sa3,ta3,rfl,rfl,rfl⟩:=hA.slices
    obtain ⟨sb1,tb1,sb2,tb2,sb3,tb3,rfl,rfl,rfl⟩:=hB.slices
    have HC:=Lib.hid hc
    have HLS:=Lib.hid (hc.lens HS60.out.1 HS60.out.2)
    have HNA:=Lib.hid hA
    have HNB:=Lib.hid hB
    have hX0:=HB0.out.ext hma
    have HBA:=Lib.hid hX0
    have HMA:=Lib.hid hma
    obtain ⟨wb,hwb⟩:∃ wb,wb=(wa.alloc (.cells #[.bool A.leaf,.slice sa1 A.entries.length ta1,.slice sa2 A.keys.length ta2,.slice sa3 A.kids.length ta3] 26)).alloc (.cells #[.bool B.leaf,.slice sb1 B.entries.length tb1,.slice sb2 B.keys.length tb2,.slice sb3 B.kids.length tb3] 26):=⟨_,rfl⟩
    have mb:Ext wa wb:=by rw [hwb];exact ((Mods.refl _ wa).alloc _).alloc _
    have HPA:Hid (Blk wb wa.heap.size #[.bool A.leaf,.slice sa1 A.entries.length ta1,.slice sa2 A.keys.length ta2,.slice sa3 A.kids.length ta3] 26):=Lib.hid (by rw [hwb];exact (Blk.new wa _ _).alloc _)
    have HPB:Hid (Blk wb (wa.heap.size+1) #[.bool B.leaf,.slice sb1 B.entries.length tb1,.slice sb2 B.keys.length tb2,.slice sb3 B.kids.length tb3] 26):=Lib.hid (by rw [hwb];exact heap_at (by simp))
    have HXB:=Lib.hid (HMA.out.trans mb)
    have HCT:=Lib.hid (cut13_any (w:=wb) n HS60.out.1 HS60.out.2 HBY.out _ _ _ (HVE.out.ext HXB.out) (HVK.out.ext HXB.out) (HVI.out.ext HXB.out) lf HLF.out)
    have n0:=(HB0.out.ext HXB.out).cell (o:=0) (v:=.bool lf) rfl
    have n1:=(HB0.out.ext HXB.out).cell (o:=1) (v:=.slice ea n.entries.length ec) rfl
    have n2:=(HB0.out.ext HXB.out).cell (o:=2) (v:=.slice ka n.keys.length kc) rfl
    have n3:=(HB0.out.ext HXB.out).cell (o:=3) (v:=.slice ia n.kids.length ic) rfl
    rw [hwb] at n0 n1 n2 n3
    have HMB:=Lib.hid mb
    have HWB:=Lib.hid hwb
    clear hA hB hc hma hX0 mb hwb
    go_wp2_with fail
    rw [← HWB.out]
    refine HCT.out.mono ?_
    rintro e wh ⟨vh,rfl,hO,hmh⟩
    obtain ⟨c1,c2,c3,d1,d2,d3,rfl,hC,hD⟩:=hO.uni HC.out
    obtain ⟨sc1,tc1,sc2,tc2,sc3,tc3,rfl,rfl,rfl⟩:=hC.slices
    obtain ⟨sd1,td1,sd2,td2,sd3,td3,rfl,rfl,rfl⟩:=hD.slices
    obtain ⟨wi,hwi⟩:∃ wi,wi=wh.alloc (.cells #[.bool A.leaf,.slice sc1 A.entries.length tc1,.slice sc2 A.keys.length tc2,.slice sc3 A.kids.length tc3,.bool B.leaf,.slice sd1 B.entries.length td1,.slice sd2 B.keys.length td2,.slice sd3 B.kids.length td3,.string key,.bool ok] 31):=⟨_,rfl⟩
    have mi:Ext wh wi:=by rw [hwi];exact (Mods.refl _ wh).alloc _
    have hPH:Blk wi wh.heap.size #[.bool A.leaf,.slice sc1 A.entries.length tc1,.slice sc2 A.keys.length tc2,.slice sc3 A.kids.length tc3,.bool B.leaf,.slice sd1 B.entries.length td1,.slice sd2 B.keys.length td2,.slice sd3 B.kids.length td3,.string key,.bool ok] 31:=by rw [hwi];exact Blk.new _ _ _
    have mbi:=hmh.trans mi
    have HXI:=Lib.hid (HXB.out.trans mbi)
    have hPA:=HPA.out.ext mbi
    have hPB:=HPB.out.ext mbi
    have hN:=HB0.out.ext HXI.out
    have f0:=hPA.cell (o:=0) rfl
    have g0:=hPB.cell (o:=0) rfl
    have f1:=hPA.cell (o:=1) rfl
    have g1:=hPB.cell (o:=1) rfl
    have f2:=hPA.cell (o:=2) rfl
    have g2:=hPB.cell (o:=2) rfl
    have f3:=hPA.cell (o:=3) rfl
    have g3:=hPB.cell (o:=3) rfl
    have h0:=hPH.cell (o:=0) rfl
    have h1:=hPH.cell (o:=1) rfl
    have h2:=hPH.cell (o:=2) rfl
    have h3:=hPH.cell (o:=3) rfl
    have h4:=hPH.cell (o:=4) rfl
    have h5:=hPH.cell (o:=5) rfl
    have h6:=hPH.cell (o:=6) rfl
    have h7:=hPH.cell (o:=7) rfl
    have h8:=hPH.cell (o:=8) rfl
    have h9:=hPH.cell (o:=9) rfl
    have n0:=hN.cell (o:=0) (v:=.bool lf) rfl
    have n1:=hN.cell (o:=1) (v:=.slice ea n.entries.length ec) rfl
    have n2:=hN.cell (o:=2) (v:=.slice ka n.keys.length kc) rfl
    have n3:=hN.cell (o:=3) (v:=.slice ia n.kids.length ic) rfl
    have HNA:=Lib.hid ((HNA.out.ext HMB.out).ext mbi)
    have HNB:=Lib.hid ((HNB.out.ext HMB.out).ext mbi)
    have HNC:=Lib.hid (hC.ext mi)
    have HND:=Lib.hid (hD.ext mi)
    have hd:=(Mods.refl (fun _=>False) wi).drew
    have hdd:=hd.trans (Mods.refl (fun _=>False) wi.drew).drew
    have HWI:=Lib.hid hwi
    have HD:=Lib.hid hd
    have HDD:=Lib.hid hdd
    obtain ⟨rb,hrb⟩:∃ rb,rb=rightN n:=⟨_,rfl⟩
    have HRB:=Lib.hid hrb
    have hRG:=fun W (m:Ext w0 W)=>right07_t (w:=W) n _ _ _ (HVE.out.ext m) (HVK.out.ext m) (HVI.out.ext m) rb hrb.symm
    rw [HLF.out] at hRG
    have HRG:=Lib.hid hRG
    have HSA:=Lib.hid (fun W (m:Ext wi W)=>sameO (HNA.out.ext m) (HNC.out.ext m) HLS.out.1)
    have HSB:=Lib.hid (fun W (m:Ext wi W)=>sameO (HNB.out.ext m) (HND.out.ext m) HLS.out.2)
    have HAI:=Lib.hid (fun W (m:Ext wi W)=>HAW.out W (HXI.out.trans m))
    have HMM:=Lib.hid (M0.out.trans HXI.out)
    clear hwi hPA hPB hN hPH mbi mi hmh hC hD hO hrb hRG hd hdd
    go_wp2_with fail
    rw [← HWI.out]
    go_cut [46] (fun v46 wx=>v46=.bool false∧Hid (Ext wi wx))
    case first =>
      by_cases hrz:rb=true∧0≤z
      · obtain ⟨hr,hz0⟩:=hrz
        subst hr
        have hro:=HRB.out.symm
        have hW:=weight_len (form_right hro)
        have hby:=HBY.out hro
        obtain ⟨W0,hW0⟩:∃ W0,W0=weightN n:=⟨_,rfl⟩
        have HFT:=fun W (m:Ext w0 W)=>fits_any (vi:=.slice ia n.kids.length ic) n _ _ W (HVE.out.ext m) (HVK.out.ext m) (by omega) z (by omega) (by omega)
        have HWT:=fun W (m:Ext w0 W)=>weight13_any (w:=W) n _ _ _ (HVE.out.ext m) (HVK.out.ext m) (HVI.out.ext m) (okB_right hro) hby lf HLF.out
        rw [HLF.out] at HFT
        rw [← hW] at HWT
        rw [← hW0] at HFT HWT
        have HFT:=Lib.hid HFT
        have HWT:=Lib.hid HWT
        have uz:IntKind.i64.wrap (z - 24)=z - 24:=by rw [IntWalk.i64_in _ (by omega)]
        clear hW hby hW0 hro
        refine wp_region_held_drew (S:=fun w'=>w'.cell? ⟨w.heap.size,0,none⟩=some (.bool lf)∧w'.cell? ⟨w.heap.size,1,none⟩=some (.slice ea n.entries.length ec)∧w'.cell? ⟨w.heap.size,2,none⟩=some (.slice ka n.keys.length kc)∧w'.cell? ⟨w.heap.size,3,none⟩=some (.slice ia n.kids.length ic)) (by kernel_rfl) (by first | exact ⟨n0,n1,n2,n3⟩ | go_keep) (fun hHeld=>?_)
        refine wpAnyH_take (i:=0) (oi:={ dst:=some 30,op:=_,type:=_,pos:=_,after:=_,guard:=_ }) (v:=?_) rfl (by kernel_rfl) (by kernel_rfl) (by kernel_rfl) (fun _ _ _ h=>h) (Or.inl ⟨by rfl,?_⟩) (by assumption) ?_
        rotate_left
        · intro w hSw;(try dsimp only at hSw);go_simp;(try (with_reducible rfl))
        rotate_left
        try simp only [Act.put,List.setIfInBounds_toArray,List.set_cons_zero,List.set_cons_succ]
        refine wpAnyH_ready (rs:=[1]) (by kernel_rfl) (by simp) ?_
        refine AllReadyH.cons (o:={ dst:=some 31,op:=_,type:=_,pos:=_,after:=_,guard:=_ }) rfl (fun K hK=>?_) AllReadyH.nil
        go_simp
        (go_at_call 15;refine (HRG.out _ (HXI.out.trans HD.out)).mono ?_;rintro x1 w4 ⟨rfl,hm4⟩;have p0:=cellE (w:=wi.drew) hm4 n0;have p1:=cellE (w:=wi.drew) hm4 n1;have p2:=cellE (w:=wi.drew) hm4 n2;have p3:=cellE (w:=wi.drew) hm4 n3)
        refine hK.out _ _ ⟨p0,p1,p2,p3⟩ (fun hHeld=>?_)
        clear hK
        try simp only [Act.put,List.setIfInBounds_toArray,List.set_cons_zero,List.set_cons_succ]
        refine wpAnyH_take (i:=2) (oi:={ dst:=some 32,op:=_,type:=_,pos:=_,after:=_,guard:=_ }) (v:=?_) rfl (by kernel_rfl) (by kernel_rfl) (by kernel_rfl) (fun _ _ _ h=>h) (Or.inl ⟨by rfl,?_⟩) (by assumption) ?_
        rotate_left
        · intro w hSw;(try dsimp only at hSw);go_simp;(try (with_reducible rfl))
        rotate_left
        try simp only [Act.put,List.setIfInBounds_toArray,List.set_cons_zero,List.set_cons_succ]
        refine wpAnyH_take (i:=3) (oi:={ dst:=some 33,op:=_,type:=_,pos:=_,after:=_,guard:=_ }) (v:=?_) rfl (by kernel_rfl) (by kernel_rfl) (by kernel_rfl) (fun _ _ _ h=>h) (Or.inl ⟨by rfl,?_⟩) (by assumption) ?_
        rotate_left
        · intro w hSw;(try dsimp only at hSw);go_simp;(try (with_reducible rfl))
        rotate_left
        try simp only [Act.put,List.setIfInBounds_toArray,List.set_cons_zero,List.set_cons_succ]
        refine wpAnyH_take (i:=4) (oi:={ dst:=some 34,op:=_,type:=_,pos:=_,after:=_,guard:=_ }) (v:=?_) rfl (by kernel_rfl) (by kernel_rfl) (by kernel_rfl) (fun _ _ _ h=>h) (Or.inl ⟨by rfl,?_⟩) (by assumption) ?_
        rotate_left
        · intro w hSw;(try dsimp only at hSw);go_simp;(try (with_reducible rfl))
        rotate_left
        try simp only [Act.put,List.setIfInBounds_toArray,List.set_cons_zero,List.set_cons_succ]
        refine wpAnyH_take (i:=5) (oi:={ dst:=some 35,op:=_,type:=_,pos:=_,after:=_,guard:=_ }) (v:=?_) rfl (by kernel_rfl) (by kernel_rfl) (by kernel_rfl) (fun _ _ _ h=>h) (Or.inl ⟨by rfl,?_⟩) (by assumption) ?_
        rotate_left
        · intro w hSw;(try dsimp only at hSw);go_simp;(try (with_reducible rfl))
        rotate_left
        try simp only [Act.put,List.setIfInBounds_toArray,List.set_cons_zero,List.set_cons_succ]
        refine wpAnyH_take (i:=6) (oi:={ dst:=some 36,op:=_,type:=_,pos:=_,after:=_,guard:=_ }) (v:=?_) rfl (by kernel_rfl) (by kernel_rfl) (by kernel_rfl) (fun _ _ _ h=>h) (Or.inl ⟨by rfl,?_⟩) (by assumption) ?_
        rotate_left
        · intro w hSw;(try dsimp only at hSw);go_simp;(try (with_reducible rfl))
        rotate_left
        try simp only [Act.put,List.setIfInBounds_toArray,List.set_cons_zero,List.set_cons_succ]
        refine wpAnyH_take (i:=7) (oi:={ dst:=some 37,op:=_,type:=_,pos:=_,after:=_,guard:=_ }) (v:=?_) rfl (by kernel_rfl) (by kernel_rfl) (by kernel_rfl) (fun _ _ _ h=>h) (Or.inl ⟨by rfl,?_⟩) (by assumption) ?_
        rotate_left
        · intro w hSw;(try dsimp only at hSw);go_simp;(try (with_reducible rfl))
        rotate_left
        try simp only [Act.put,List.setIfInBounds_toArray,List.set_cons_zero,List.set_cons_succ]
        refine wpAnyH_take (i:=8) (oi:={ dst:=some 38,op:=_,type:=_,pos:=_,after:=_,guard:=_ }) (v:=?_) rfl (by kernel_rfl) (by kernel_rfl) (by kernel_rfl) (fun _ _ _ h=>h) (Or.inl ⟨by rfl,?_⟩) (by assumption) ?_
        rotate_left
        · intro w hSw;(try dsimp only at hSw);go_simp;(try (with_reducible rfl))
        rotate_left
        try simp only [Act.put,List.setIfInBounds_toArray,List.set_cons_zero,List.set_cons_succ]
        refine wpAnyH_take (i:=10) (oi:={ dst:=some 40,op:=_,type:=_,pos:=_,after:=_,guard:=_ }) (v:=?_) rfl (by kernel_rfl) (by kernel_rfl) (by kernel_rfl) (fun _ _ _ h=>h) (Or.inl ⟨by rfl,?_⟩) (by assumption) ?_
        rotate_left
        · intro w hSw;(try dsimp only at hSw);go_simp;(try (with_reducible rfl))
        rotate_left
        try simp only [Act.put,List.setIfInBounds_toArray,List.set_cons_zero,List.set_cons_succ]
        refine wpAnyH_take (i:=12) (oi:={ dst:=some 42,op:=_,type:=_,pos:=_,after:=_,guard:=_ }) (v:=?_) rfl (by kernel_rfl) (by kernel_rfl) (by kernel_rfl) (fun _ _ _ h=>h) (Or.inl ⟨by rfl,?_⟩) (by assumption) ?_
        rotate_left
        · intro w hSw;(try dsimp only at hSw);go_simp;(try (with_reducible rfl))
        rotate_left
        try simp only [Act.put,List.setIfInBounds_toArray,List.set_cons_zero,List.set_cons_succ]
        refine wpAnyH_take (i:=13) (oi:={ dst:=some 43,op:=_,type:=_,pos:=_,after:=_,guard:=_ }) (v:=?_) rfl (by kernel_rfl) (by kernel_rfl) (by kernel_rfl) (fun _ _ _ h=>h) (Or.inl ⟨by rfl,?_⟩) (by assumption) ?_
        rotate_left
        · intro w hSw;(try dsimp only at hSw);go_simp;(try (with_reducible rfl))
        rotate_left
        try simp only [Act.put,List.setIfInBounds_toArray,List.set_cons_zero,List.set_cons_succ]
        refine wpAnyH_ready (rs:=[9]) (by kernel_rfl) (by simp) ?_
        refine AllReadyH.cons (o:={ dst:=some 39,op:=_,type:=_,pos:=_,after:=_,guard:=_ }) rfl (fun K hK=>?_) AllReadyH.nil
        go_simp
        (go_at_call 16;refine (HFT.out _ ((HXI.out.trans HD.out).trans hm4)).mono ?_;rintro x2 w5 ⟨rfl,hm5⟩;have q0:=cellE hm5 p0;have q1:=cellE hm5 p1;have q2:=cellE hm5 p2;have q3:=cellE hm5 p3)
        refine hK.out _ _ ⟨q0,q1,q2,q3⟩ (fun hHeld=>?_)
        clear hK
        try simp only [Act.put,List.setIfInBounds_toArray,List.set_cons_zero,List.set_cons_succ]
        refine wpAnyH_ready (rs:=[11]) (by kernel_rfl) (by simp) ?_
        refine AllReadyH.cons (o:={ dst:=some 41,op:=_,type:=_,pos:=_,after:=_,guard:=_ }) rfl (fun K hK=>?_) AllReadyH.nil
        go_simp
        (go_at_call 17;refine (HWT.out _ (((HXI.out.trans HD.out).trans hm4).trans hm5)).mono ?_;rintro x3 w6 ⟨rfl,hm6⟩;have r0:=cellE hm6 q0;have r1:=cellE hm6 q1;have r2:=cellE hm6 q2;have r3:=cellE hm6 q3)
        refine hK.out _ _ ⟨r0,r1,r2,r3⟩ (fun hHeld=>?_)
        clear hK
        try simp only [Act.put,List.setIfInBounds_toArray,List.set_cons_zero,List.set_cons_succ]
        refine wpAnyH_take (i:=14) (oi:={ dst:=some 44,op:=_,type:=_,pos:=_,after:=_,guard:=_ }) (v:=?_) rfl (by kernel_rfl) (by kernel_rfl) (by kernel_rfl) (fun _ _ _ h=>h) (Or.inl ⟨by rfl,?_⟩) (by assumption) ?_
        rotate_left
        · intro w hSw;(try dsimp only at hSw);go_simp;(try (with_reducible rfl))
        rotate_left
        try simp only [Act.put,List.setIfInBounds_toArray,List.set_cons_zero,List.set_cons_succ]
        refine wpAnyH_take (i:=15) (oi:={ dst:=some 45,op:=_,type:=_,pos:=_,after:=_,guard:=_ }) (v:=?_) rfl (by kernel_rfl) (by kernel_rfl) (by kernel_rfl) (fun _ _ _ h=>h) (Or.inl ⟨by rfl,?_⟩) (by assumption) ?_
        rotate_left
        · intro w hSw;(try dsimp only at hSw);go_simp;(try (with_reducible rfl))
        rotate_left
        try simp only [Act.put,List.setIfInBounds_toArray,List.set_cons_zero,List.set_cons_succ]
        refine wpAnyH_take (i:=16) (oi:={ dst:=some 46,op:=_,type:=_,pos:=_,after:=_,guard:=_ }) (v:=?_) rfl (by kernel_rfl) (by kernel_rfl) (by kernel_rfl) (fun _ _ _ h=>h) (Or.inl ⟨by rfl,?_⟩) (by assumption) ?_
        rotate_left
        · intro w hSw;(try dsimp only at hSw);go_simp;(try (with_reducible rfl))
        rotate_left
        try simp only [Act.put,List.setIfInBounds_toArray,List.set_cons_zero,List.set_cons_succ]
        refine wpAnyH_done (by kernel_rfl) ?_ _
        have HG:=Lib.hid (((HD.out.trans hm4).trans hm5).trans hm6)
        clear hm4 hm5 hm6
        by_cases hwz:W0≤z - 24
        all_goals
          go_wp2_with fail
          go_meet
          exact ⟨(by first | rfl | (simp [hwz];done) | fail),HG⟩
      · have hg:rb=false∨(rb=true∧¬ (0≤z)):=by cases rb <;> simp_all
        rcases hg with rfl | ⟨rfl,hzn⟩
        · refine wp_region_held_drew (S:=fun w'=>w'.cell? ⟨w.heap.size,0,none⟩=some (.bool lf)∧w'.cell? ⟨w.heap.size,1,none⟩=some (.slice ea n.entries.length ec)∧w'.cell? ⟨w.heap.size,2,none⟩=some (.slice ka n.keys.length kc)∧w'.cell? ⟨w.heap.size,3,none⟩=some (.slice ia n.kids.length ic)) (by kernel_rfl) (by first | exact ⟨n0,n1,n2,n3⟩ | go_keep) (fun hHeld=>?_)
          refine wpAnyH_take (i:=0) (oi:={ dst:=some 30,op:=_,type:=_,pos:=_,after:=_,guard:=_ }) (v:=?_) rfl (by kernel_rfl) (by kernel_rfl) (by kernel_rfl) (fun _ _ _ h=>h) (Or.inl ⟨by rfl,?_⟩) (by assumption) ?_
          rotate_left
          · intro w hSw;(try dsimp only at hSw);go_simp;(try (with_reducible rfl))
          rotate_left
          try simp only [Act.put,List.setIfInBounds_toArray,List.set_cons_zero,List.set_cons_succ]
          refine wpAnyH_ready (rs:=[1]) (by kernel_rfl) (by simp) ?_
          refine AllReadyH.cons (o:={ dst:=some 31,op:=_,type:=_,pos:=_,after:=_,guard:=_ }) rfl (fun K hK=>?_) AllReadyH.nil
          go_simp
          (go_at_call 15;refine (HRG.out _ (HXI.out.trans HD.out)).mono ?_;rintro x1 w4 ⟨rfl,hm4⟩;have p0:=cellE (w:=wi.drew) hm4 n0;have p1:=cellE (w:=wi.drew) hm4 n1;have p2:=cellE (w:=wi.drew) hm4 n2;have p3:=cellE (w:=wi.drew) hm4 n3)
          refine hK.out _ _ ⟨p0,p1,p2,p3⟩ (fun hHeld=>?_)
          clear hK
          try simp only [Act.put,List.setIfInBounds_toArray,List.set_cons_zero,List.set_cons_succ]
          refine wpAnyH_take (i:=2) (oi:={ dst:=some 32,op:=_,type:=_,pos:=_,after:=_,guard:=_ }) (v:=?_) rfl (by kernel_rfl) (by kernel_rfl) (by kernel_rfl) (fun _ _ _ h=>h) (Or.inl ⟨by rfl,?_⟩) (by assumption) ?_
          rotate_left
          · intro w hSw;(try dsimp only at hSw);go_simp;(try (with_reducible rfl))
          rotate_left
          try simp only [Act.put,List.setIfInBounds_toArray,List.set_cons_zero,List.set_cons_succ]
          refine wpAnyH_take (i:=3) (oi:={ dst:=some 33,op:=_,type:=_,pos:=_,after:=_,guard:=_ }) (v:=undef) rfl (by kernel_rfl) (by kernel_rfl) (by kernel_rfl) (fun _ _ _ h=>h) (Or.inr ⟨by rfl,rfl⟩) (by assumption) ?_
          try simp only [Act.put,List.setIfInBounds_toArray,List.set_cons_zero,List.set_cons_succ]
          refine wpAnyH_take (i:=4) (oi:={ dst:=some 34,op:=_,type:=_,pos:=_,after:=_,guard:=_ }) (v:=undef) rfl (by kernel_rfl) (by kernel_rfl) (by kernel_rfl) (fun _ _ _ h=>h) (Or.inr ⟨by rfl,rfl⟩) (by assumption) ?_
          try simp only [Act.put,List.setIfInBounds_toArray,List.set_cons_zero,List.set_cons_succ]
          refine wpAnyH_take (i:=5) (oi:={ dst:=some 35,op:=_,type:=_,pos:=_,after:=_,guard:=_ }) (v:=?_) rfl (by kernel_rfl) (by kernel_rfl) (by kernel_rfl) (fun _ _ _ h=>h) (Or.inl ⟨by rfl,?_⟩) (by assumption) ?_
          rotate_left
          · intro w hSw;(try dsimp only at hSw);go_simp;(try (with_reducible rfl))
          rotate_left
          try simp only [Act.put,List.setIfInBounds_toArray,List.set_cons_zero,List.set_cons_succ]
          refine wpAnyH_take (i:=6) (oi:={ dst:=some 36,op:=_,type:=_,pos:=_,after:=_,guard:=_ }) (v:=?_) rfl (by kernel_rfl) (by kernel_rfl) (by kernel_rfl) (fun _ _ _ h=>h) (Or.inl ⟨by rfl,?_⟩) (by assumption) ?_
          rotate_left
          · intro w hSw;(try dsimp only at hSw);go_simp;(try (with_reducible rfl))
          rotate_left
          try simp only [Act.put,List.setIfInBounds_toArray,List.set_cons_zero,List.set_cons_succ]
          refine wpAnyH_take (i:=7) (oi:={ dst:=some 37,op:=_,type:=_,pos:=_,after:=_,guard:=_ }) (v:=undef) rfl (by kernel_rfl) (by kernel_rfl) (by kernel_rfl) (fun _ _ _ h=>h) (Or.inr ⟨by rfl,rfl⟩) (by assumption) ?_
          try simp only [Act.put,List.setIfInBounds_toArray,List.set_cons_zero,List.set_cons_succ]
          refine wpAnyH_take (i:=8) (oi:={ dst:=some 38,op:=_,type:=_,pos:=_,after:=_,guard:=_ }) (v:=undef) rfl (by kernel_rfl) (by kernel_rfl) (by kernel_rfl) (fun _ _ _ h=>h) (Or.inr ⟨by rfl,rfl⟩) (by assumption) ?_
          try simp only [Act.put,List.setIfInBounds_toArray,List.set_cons_zero,List.set_cons_succ]
          refine wpAnyH_take (i:=9) (oi:={ dst:=some 39,op:=_,type:=_,pos:=_,after:=_,guard:=_ }) (v:=undef) rfl (by kernel_rfl) (by kernel_rfl) (by kernel_rfl) (fun _ _ _ h=>h) (Or.inr ⟨by rfl,rfl⟩) (by assumption) ?_
          try simp only [Act.put,List.setIfInBounds_toArray,List.set_cons_zero,List.set_cons_succ]
          refine wpAnyH_take (i:=10) (oi:={ dst:=some 40,op:=_,type:=_,pos:=_,after:=_,guard:=_ }) (v:=undef) rfl (by kernel_rfl) (by kernel_rfl) (by kernel_rfl) (fun _ _ _ h=>h) (Or.inr ⟨by rfl,rfl⟩) (by assumption) ?_
          try simp only [Act.put,List.setIfInBounds_toArray,List.set_cons_zero,List.set_cons_succ]
          refine wpAnyH_take (i:=11) (oi:={ dst:=some 41,op:=_,type:=_,pos:=_,after:=_,guard:=_ }) (v:=undef) rfl (by kernel_rfl) (by kernel_rfl) (by kernel_rfl) (fun _ _ _ h=>h) (Or.inr ⟨by rfl,rfl⟩) (by assumption) ?_
          try simp only [Act.put,List.setIfInBounds_toArray,List.set_cons_zero,List.set_cons_succ]
          refine wpAnyH_take (i:=12) (oi:={ dst:=some 42,op:=_,type:=_,pos:=_,after:=_,guard:=_ }) (v:=undef) rfl (by kernel_rfl) (by kernel_rfl) (by kernel_rfl) (fun _ _ _ h=>h) (Or.inr ⟨by rfl,rfl⟩) (by assumption) ?_
          try simp only [Act.put,List.setIfInBounds_toArray,List.set_cons_zero,List.set_cons_succ]
          refine wpAnyH_take (i:=13) (oi:={ dst:=some 43,op:=_,type:=_,pos:=_,after:=_,guard:=_ }) (v:=undef) rfl (by kernel_rfl) (by kernel_rfl) (by kernel_rfl) (fun _ _ _ h=>h) (Or.inr ⟨by rfl,rfl⟩) (by assumption) ?_
          try simp only [Act.put,List.setIfInBounds_toArray,List.set_cons_zero,List.set_cons_succ]
          refine wpAnyH_take (i:=14) (oi:={ dst:=some 44,op:=_,type:=_,pos:=_,after:=_,guard:=_ }) (v:=undef) rfl (by kernel_rfl) (by kernel_rfl) (by kernel_rfl) (fun _ _ _ h=>h) (Or.inr ⟨by rfl,rfl⟩) (by assumption) ?_
          try simp only [Act.put,List.setIfInBounds_toArray,List.set_cons_zero,List.set_cons_succ]
          refine wpAnyH_take (i:=15) (oi:={ dst:=some 45,op:=_,type:=_,pos:=_,after:=_,guard:=_ }) (v:=undef) rfl (by kernel_rfl) (by kernel_rfl) (by kernel_rfl) (fun _ _ _ h=>h) (Or.inr ⟨by rfl,rfl⟩) (by assumption) ?_
          try simp only [Act.put,List.setIfInBounds_toArray,List.set_cons_zero,List.set_cons_succ]
          refine wpAnyH_take (i:=16) (oi:={ dst:=some 46,op:=_,type:=_,pos:=_,after:=_,guard:=_ }) (v:=?_) rfl (by kernel_rfl) (by kernel_rfl) (by kernel_rfl) (fun _ _ _ h=>h) (Or.inl ⟨by rfl,?_⟩) (by assumption) ?_
          rotate_left
          · intro w hSw;(try dsimp only at hSw);go_simp;(try (with_reducible rfl))
          rotate_left
          try simp only [Act.put,List.setIfInBounds_toArray,List.set_cons_zero,List.set_cons_succ]
          refine wpAnyH_done (by kernel_rfl) ?_ _
          have HG:=Lib.hid (HD.out.trans hm4)
          clear hm4
          go_wp2_with fail
          go_meet
          exact ⟨rfl,HG⟩
        · refine wp_region_held_drew (S:=fun w'=>w'.cell? ⟨w.heap.size,0,none⟩=some (.bool lf)∧w'.cell? ⟨w.heap.size,1,none⟩=some (.slice ea n.entries.length ec)∧w'.cell? ⟨w.heap.size,2,none⟩=some (.slice ka n.keys.length kc)∧w'.cell? ⟨w.heap.size,3,none⟩=some (.slice ia n.kids.length ic)) (by kernel_rfl) (by first | exact ⟨n0,n1,n2,n3⟩ | go_keep) (fun hHeld=>?_)
          refine wpAnyH_take (i:=0) (oi:={ dst:=some 30,op:=_,type:=_,pos:=_,after:=_,guard:=_ }) (v:=?_) rfl (by kernel_rfl) (by kernel_rfl) (by kernel_rfl) (fun _ _ _ h=>h) (Or.inl ⟨by rfl,?_⟩) (by assumption) ?_
          rotate_left
          · intro w hSw;(try dsimp only at hSw);go_simp;(try (with_reducible rfl))
          rotate_left
          try simp only [Act.put,List.setIfInBounds_toArray,List.set_cons_zero,List.set_cons_succ]
          refine wpAnyH_ready (rs:=[1]) (by kernel_rfl) (by simp) ?_
          refine AllReadyH.cons (o:={ dst:=some 31,op:=_,type:=_,pos:=_,after:=_,guard:=_ }) rfl (fun K hK=>?_) AllReadyH.nil
          go_simp
          (go_at_call 15;refine (HRG.out _ (HXI.out.trans HD.out)).mono ?_;rintro x1 w4 ⟨rfl,hm4⟩;have p0:=cellE (w:=wi.drew) hm4 n0;have p1:=cellE (w:=wi.drew) hm4 n1;have p2:=cellE (w:=wi.drew) hm4 n2;have p3:=cellE (w:=wi.drew) hm4 n3)
          refine hK.out _ _ ⟨p0,p1,p2,p3⟩ (fun hHeld=>?_)
          clear hK
          try simp only [Act.put,List.setIfInBounds_toArray,List.set_cons_zero,List.set_cons_succ]
          refine wpAnyH_take (i:=2) (oi:={ dst:=some 32,op:=_,type:=_,pos:=_,after:=_,guard:=_ }) (v:=?_) rfl (by kernel_rfl) (by kernel_rfl) (by kernel_rfl) (fun _ _ _ h=>h) (Or.inl ⟨by rfl,?_⟩) (by assumption) ?_
          rotate_left
          · intro w hSw;(try dsimp only at hSw);go_simp;(try (with_reducible rfl))
          rotate_left
          try simp only [Act.put,List.setIfInBounds_toArray,List.set_cons_zero,List.set_cons_succ]
          refine wpAnyH_take (i:=3) (oi:={ dst:=some 33,op:=_,type:=_,pos:=_,after:=_,guard:=_ }) (v:=?_) rfl (by kernel_rfl) (by kernel_rfl) (by kernel_rfl) (fun _ _ _ h=>h) (Or.inl ⟨by rfl,?_⟩) (by assumption) ?_
          rotate_left
          · intro w hSw;(try dsimp only at hSw);go_simp;(try (with_reducible rfl))
          rotate_left
          try simp only [Act.put,List.setIfInBounds_toArray,List.set_cons_zero,List.set_cons_succ]
          refine wpAnyH_take (i:=4) (oi:={ dst:=some 34,op:=_,type:=_,pos:=_,after:=_,guard:=_ }) (v:=?_) rfl (by kernel_rfl) (by kernel_rfl) (by kernel_rfl) (fun _ _ _ h=>h) (Or.inl ⟨by rfl,?_⟩) (by assumption) ?_
          rotate_left
          · intro w hSw;(try dsimp only at hSw);go_simp;(try (with_reducible rfl))
          rotate_left
          try simp only [Act.put,List.setIfInBounds_toArray,List.set_cons_zero,List.set_cons_succ]
          refine wpAnyH_take (i:=5) (oi:={ dst:=some 35,op:=_,type:=_,pos:=_,after:=_,guard:=_ }) (v:=?_) rfl (by kernel_rfl) (by kernel_rfl) (by kernel_rfl) (fun _ _ _ h=>h) (Or.inl ⟨by rfl,?_⟩) (by assumption) ?_
          rotate_left
          · intro w hSw;(try dsimp only at hSw);go_simp;(try (with_reducible rfl))
          rotate_left
          try simp only [Act.put,List.setIfInBounds_toArray,List.set_cons_zero,List.set_cons_succ]
          refine wpAnyH_take (i:=6) (oi:={ dst:=some 36,op:=_,type:=_,pos:=_,after:=_,guard:=_ }) (v:=?_) rfl (by kernel_rfl) (by kernel_rfl) (by kernel_rfl) (fun _ _ _ h=>h) (Or.inl ⟨by rfl,?_⟩) (by assumption) ?_
          rotate_left
          · intro w hSw;(try dsimp only at hSw);go_simp;(try (with_reducible rfl))
          rotate_left
          try simp only [Act.put,List.setIfInBounds_toArray,List.set_cons_zero,List.set_cons_succ]
          refine wpAnyH_take (i:=7) (oi:={ dst:=some 37,op:=_,type:=_,pos:=_,after:=_,guard:=_ }) (v:=undef) rfl (by kernel_rfl) (by kernel_rfl) (by kernel_rfl) (fun _ _ _ h=>h) (Or.inr ⟨by rfl,rfl⟩) (by assumption) ?_
          try simp only [Act.put,List.setIfInBounds_toArray,List.set_cons_zero,List.set_cons_succ]
          refine wpAnyH_take (i:=8) (oi:={ dst:=some 38,op:=_,type:=_,pos:=_,after:=_,guard:=_ }) (v:=undef) rfl (by kernel_rfl) (by kernel_rfl) (by kernel_rfl) (fun _ _ _ h=>h) (Or.inr ⟨by rfl,rfl⟩) (by assumption) ?_
          try simp only [Act.put,List.setIfInBounds_toArray,List.set_cons_zero,List.set_cons_succ]
          refine wpAnyH_take (i:=9) (oi:={ dst:=some 39,op:=_,type:=_,pos:=_,after:=_,guard:=_ }) (v:=undef) rfl (by kernel_rfl) (by kernel_rfl) (by kernel_rfl) (fun _ _ _ h=>h) (Or.inr ⟨by rfl,rfl⟩) (by assumption) ?_
          try simp only [Act.put,List.setIfInBounds_toArray,List.set_cons_zero,List.set_cons_succ]
          refine wpAnyH_take (i:=10) (oi:={ dst:=some 40,op:=_,type:=_,pos:=_,after:=_,guard:=_ }) (v:=undef) rfl (by kernel_rfl) (by kernel_rfl) (by kernel_rfl) (fun _ _ _ h=>h) (Or.inr ⟨by rfl,rfl⟩) (by assumption) ?_
          try simp only [Act.put,List.setIfInBounds_toArray,List.set_cons_zero,List.set_cons_succ]
          refine wpAnyH_take (i:=11) (oi:={ dst:=some 41,op:=_,type:=_,pos:=_,after:=_,guard:=_ }) (v:=undef) rfl (by kernel_rfl) (by kernel_rfl) (by kernel_rfl) (fun _ _ _ h=>h) (Or.inr ⟨by rfl,rfl⟩) (by assumption) ?_
          try simp only [Act.put,List.setIfInBounds_toArray,List.set_cons_zero,List.set_cons_succ]
          refine wpAnyH_take (i:=12) (oi:={ dst:=some 42,op:=_,type:=_,pos:=_,after:=_,guard:=_ }) (v:=undef) rfl (by kernel_rfl) (by kernel_rfl) (by kernel_rfl) (fun _ _ _ h=>h) (Or.inr ⟨by rfl,rfl⟩) (by assumption) ?_
          try simp only [Act.put,List.setIfInBounds_toArray,List.set_cons_zero,List.set_cons_succ]
          refine wpAnyH_take (i:=13) (oi:={ dst:=some 43,op:=_,type:=_,pos:=_,after:=_,guard:=_ }) (v:=undef) rfl (by kernel_rfl) (by kernel_rfl) (by kernel_rfl) (fun _ _ _ h=>h) (Or.inr ⟨by rfl,rfl⟩) (by assumption) ?_
          try simp only [Act.put,List.setIfInBounds_toArray,List.set_cons_zero,List.set_cons_succ]
          refine wpAnyH_take (i:=14) (oi:={ dst:=some 44,op:=_,type:=_,pos:=_,after:=_,guard:=_ }) (v:=undef) rfl (by kernel_rfl) (by kernel_rfl) (by kernel_rfl) (fun _ _ _ h=>h) (Or.inr ⟨by rfl,rfl⟩) (by assumption) ?_
          try simp only [Act.put,List.setIfInBounds_toArray,List.set_cons_zero,List.set_cons_succ]
          refine wpAnyH_take (i:=15) (oi:={ dst:=some 45,op:=_,type:=_,pos:=_,after:=_,guard:=_ }) (v:=undef) rfl (by kernel_rfl) (by kernel_rfl) (by kernel_rfl) (fun _ _ _ h=>h) (Or.inr ⟨by rfl,rfl⟩) (by assumption) ?_
          try simp only [Act.put,List.setIfInBounds_toArray,List.set_cons_zero,List.set_cons_succ]
          refine wpAnyH_take (i:=16) (oi:={ dst:=some 46,op:=_,type:=_,pos:=_,after:=_,guard:=_ }) (v:=?_) rfl (by kernel_rfl) (by kernel_rfl) (by kernel_rfl) (fun _ _ _ h=>h) (Or.inl ⟨by rfl,?_⟩) (by assumption) ?_
          rotate_left
          · intro w hSw;(try dsimp only at hSw);go_simp;(try (with_reducible rfl))
          rotate_left
          try simp only [Act.put,List.setIfInBounds_toArray,List.set_cons_zero,List.set_cons_succ]
          refine wpAnyH_done (by kernel_rfl) ?_ _
          have HG:=Lib.hid (HD.out.trans hm4)
          clear hm4
          go_wp2_with fail
          go_meet
          exact ⟨rfl,HG⟩
    case rest =>
    obtain ⟨rfl,HG⟩:=hcut
    have f0:=cellE HG.out f0
    have f1:=cellE HG.out f1
    have f2:=cellE HG.out f2
    have f3:=cellE HG.out f3
    have g0:=cellE HG.out g0
    have g1:=cellE HG.out g1
    have g2:=cellE HG.out g2
    have g3:=cellE HG.out g3
    have h0:=cellE HG.out h0
    have h1:=cellE HG.out h1
    have h2:=cellE HG.out h2
    have h3:=cellE HG.out h3
    have h4:=cellE HG.out h4
    have h5:=cellE HG.out h5
    have h6:=cellE HG.out h6
    have h7:=cellE HG.out h7
    have h8:=cellE HG.out h8
    have h9:=cellE HG.out h9
    have HSA1:=HSA.out _ HG.out
    go_wp2_with fail
    refine HSA1.mono ?_
    rintro e w8 ⟨rfl,hm8⟩
    have f0:=cellE hm8 f0
    have f1:=cellE hm8 f1
    have f2:=cellE hm8 f2
    have f3:=cellE hm8 f3
    have g0:=cellE hm8 g0
    have g1:=cellE hm8 g1
    have g2:=cellE hm8 g2
    have g3:=cellE hm8 g3
    have h0:=cellE hm8 h0
    have h1:=cellE hm8 h1
    have h2:=cellE hm8 h2
    have h3:=cellE hm8 h3
    have h4:=cellE hm8 h4
    have h5:=cellE hm8 h5
    have h6:=cellE hm8 h6
    have h7:=cellE hm8 h7
    have h8:=cellE hm8 h8
    have h9:=cellE hm8 h9
    have HG8:=Lib.hid (HG.out.trans hm8)
    have HSB1:=HSB.out _ HG8.out
    clear hm8 HSA1
    go_wp2_with fail
    refine HSB1.mono ?_
    rintro e w9 ⟨rfl,hm9⟩
    have HG9:=Lib.hid (HG8.out.trans hm9)
    have HAI1:=HAI.out _ HG9.out
    clear hm9 HSB1
    go_wp2_with fail
    refine HAI1.mono ?_
    rintro e w10 ⟨rfl,hm10⟩
    have HG10:=Lib.hid (HMM.out.trans (HG9.out.trans hm10))
    clear hm10
    go_wp2_with fail
    go_ret
    exact ⟨rfl,HG10.out⟩
end Go.Proofs.YtphafjmdhmpkbaaGreatDoor
