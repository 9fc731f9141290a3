/- ref13.apart. | insert.Cut. | insert.Cut, walked. -/
import Derived.Test.YtphafjmdhmpkbaaGreatDoorC25
import Derived.Deep.RegionHeld3
import Derived.Test.YtphafjmdhmpkbaaGreatDoorC26
import Derived.Test.YtphafjmdhmpkbaaGreatDoorC19
import Derived.BigQuiet
namespace Go.Proofs.YtphafjmdhmpkbaaGreatDoor
open Go.RowKit
attribute [local go_sem ↓] Go.wp_at_zero Go.wp_at_succ
section
variable {F:Nat→Prop} {w w':World}
set_option maxRecDepth 100000 in
set_option maxHeartbeats 2000000 in
theorem apart13_any (x y:NodeA) (lx ly:Bool) (hlx:x.leaf=lx) (hly:y.leaf=ly) (e1 k1 i1 e2 k2 i2:Value) (k:ByteArray) (o:Bool) (he1:Sl F w 4 encE e1 x.entries) (hk1:Sl F w 1 encS k1 x.keys) (hi1:Sl F w 1 encI i1 x.kids) (he2:Sl F w 4 encE e2 y.entries) (hk2:Sl F w 1 encS k2 y.keys) (hi2:Sl F w 1 encI i2 y.kids)
    (hx:okB x) (hy:okB y) (hbx:(bytesN x).length≤100000) (hby:(bytesN y).length≤100000) :
    Calls Tryz.prog 63 #[.agg #[.bool lx,e1,k1,i1,.bool ly,e2,k2,i2,.string k,.bool o]] w fun e w'=>e=.returned (.int .i64 (((weightA x:Int) - (weightA y:Int)).natAbs:Nat))∧Ext w w':=by
  obtain ⟨w0,hw0⟩:∃ w0,w0=w.alloc (.cells #[.bool lx,e1,k1,i1,.bool ly,e2,k2,i2,.string k,.bool o] 31):=⟨_,rfl⟩
  have m0:Ext w w0:=by rw [hw0];exact (Mods.refl _ w).alloc _
  have hB:Blk w0 w.heap.size #[.bool lx,e1,k1,i1,.bool ly,e2,k2,i2,.string k,.bool o] 31:=by rw [hw0];exact Blk.new w _ _
  have hd:=(Mods.refl (fun _=>False) w0).drew
  have HX:=Lib.hid (fun W (m:Ext w0.drew W)=>weight13_any (w:=W) x e1 k1 i1 (((he1.ext m0).ext hd).ext m) (((hk1.ext m0).ext hd).ext m) (((hi1.ext m0).ext hd).ext m) hx hbx lx hlx)
  have HY:=Lib.hid (fun W (m:Ext w0.drew W)=>weight13_any (w:=W) y e2 k2 i2 (((he2.ext m0).ext hd).ext m) (((hk2.ext m0).ext hd).ext m) (((hi2.ext m0).ext hd).ext m) hy hby ly hly)
  obtain ⟨a,ha⟩:∃ a,a=(bytesN x).length:=⟨_,rfl⟩
  obtain ⟨b,hb⟩:∃ b,b=(bytesN y).length:=⟨_,rfl⟩
  have HWA:Hid (weightA x=a∧weightA y=b):=Lib.hid ⟨ha.symm,hb.symm⟩
  rw [← ha] at HX hbx
  rw [← hb] at HY hby
  have b0:=hB.cell (o:=0) rfl
  have b1:=hB.cell (o:=1) rfl
  have b2:=hB.cell (o:=2) rfl
  have b3:=hB.cell (o:=3) rfl
  have b4:=hB.cell (o:=4) rfl
  have b5:=hB.cell (o:=5) rfl
  have b6:=hB.cell (o:=6) rfl
  have b7:=hB.cell (o:=7) rfl
  obtain ⟨ea1,ec1,rfl, -, -, -, -⟩:=he1
  obtain ⟨ka1,kc1,rfl, -, -, -, -⟩:=hk1
  obtain ⟨ia1,ic1,rfl, -, -, -, -⟩:=hi1
  obtain ⟨ea2,ec2,rfl, -, -, -, -⟩:=he2
  obtain ⟨ka2,kc2,rfl, -, -, -, -⟩:=hk2
  obtain ⟨ia2,ic2,rfl, -, -, -, -⟩:=hi2
  have HB:=Lib.hid hB
  have HM0:=Lib.hid m0
  have HW0:=Lib.hid hw0
  have u1:IntKind.i64.wrap ((a:Int) - (b:Int))=(a:Int) - (b:Int):=by rw [IntWalk.i64_in _ (by omega)]
  have u2:IntKind.i64.wrap ((b:Int) - (a:Int))=(b:Int) - (a:Int):=by rw [IntWalk.i64_in _ (by omega)]
  clear m0 hB hd hw0 ha hb hx hy hlx hly
  go_enter Tryz.func63, Tryz.ntmps63
  go_wp2_with fail
  rw [← HW0.out]
  go_region_held3 (fun w'=>w'.cell? ⟨w.heap.size,0,none⟩=some (.bool lx)∧w'.cell? ⟨w.heap.size,1,none⟩=some (.slice ea1 x.entries.length ec1)∧w'.cell? ⟨w.heap.size,2,none⟩=some (.slice ka1 x.keys.length kc1)∧w'.cell? ⟨w.heap.size,3,none⟩=some (.slice ia1 x.kids.length ic1)∧w'.cell? ⟨w.heap.size,4,none⟩=some (.bool ly)∧w'.cell? ⟨w.heap.size,5,none⟩=some (.slice ea2 y.entries.length ec2)∧w'.cell? ⟨w.heap.size,6,none⟩=some (.slice ka2 y.keys.length kc2)∧w'.cell? ⟨w.heap.size,7,none⟩=some (.slice ia2 y.kids.length ic2))
    (first | (with_reducible exact ⟨b0,b1,b2,b3,b4,b5,b6,b7⟩) | (with_reducible exact ⟨c0,c1,c2,c3,c4,c5,c6,c7⟩) | (with_reducible exact ⟨d0,d1,d2,d3,d4,d5,d6,d7⟩) | (with_reducible exact ⟨p0,p1,p2,p3,p4,p5,p6,p7⟩) | (with_reducible exact ⟨q0,q1,q2,q3,q4,q5,q6,q7⟩) | go_keep)
    (first
      | (go_at_call 17;(with_reducible refine (HX.out _ (Mods.refl _ _)).mono ?_);rintro x3 w3 ⟨rfl,hm3⟩;have c0:=cellE (w:=w0.drew) hm3 b0;have c1:=cellE (w:=w0.drew) hm3 b1;have c2:=cellE (w:=w0.drew) hm3 b2;have c3:=cellE (w:=w0.drew) hm3 b3;have c4:=cellE (w:=w0.drew) hm3 b4;have c5:=cellE (w:=w0.drew) hm3 b5;have c6:=cellE (w:=w0.drew) hm3 b6;have c7:=cellE (w:=w0.drew) hm3 b7)
      | (go_at_call 17;(with_reducible refine (HY.out _ hm3).mono ?_);rintro x4 w4 ⟨rfl,hm4⟩;have d0:=cellE hm4 c0;have d1:=cellE hm4 c1;have d2:=cellE hm4 c2;have d3:=cellE hm4 c3;have d4:=cellE hm4 c4;have d5:=cellE hm4 c5;have d6:=cellE hm4 c6;have d7:=cellE hm4 c7)
      | (go_at_call 17;(with_reducible refine (HY.out _ (hm3.trans hm4)).mono ?_);rintro x5 w5 ⟨rfl,hm5⟩;have p0:=cellE hm5 d0;have p1:=cellE hm5 d1;have p2:=cellE hm5 d2;have p3:=cellE hm5 d3;have p4:=cellE hm5 d4;have p5:=cellE hm5 d5;have p6:=cellE hm5 d6;have p7:=cellE hm5 d7)
      | (go_at_call 17;(with_reducible refine (HX.out _ ((hm3.trans hm4).trans hm5)).mono ?_);rintro x6 w6 ⟨rfl,hm6⟩;have q0:=cellE hm6 p0;have q1:=cellE hm6 p1;have q2:=cellE hm6 p2;have q3:=cellE hm6 p3;have q4:=cellE hm6 p4;have q5:=cellE hm6 p5;have q6:=cellE hm6 p6;have q7:=cellE hm6 p7)
      | fail)
  go_wp2_with fail
  go_ret
  refine ⟨?_,(HM0.out.trans (Mods.refl _ w0).drew).trans (((hm3.trans hm4).trans hm5).trans hm6)⟩
  rw [HWA.out.1,HWA.out.2]
  have e:max ((a:Int) - (b:Int)) ((b:Int) - (a:Int))=((((a:Int) - (b:Int)).natAbs:Nat):Int):=by omega
  show Ending.returned (.int .i64 (max ((a:Int) - (b:Int)) ((b:Int) - (a:Int))))=_
  rw [e]
end
def CutR (w:World) (n:NodeA) (e:Ending) (w':World):Prop :=
  Ext w w'∧((∃ x va vb,cutA n=some x∧e=.returned (.tuple #[va,.string x.2.1,vb,.bool true])∧NodeO w' w.heap.size va x.1∧NodeO w' w.heap.size vb x.2.2) ∨
    (cutA n=none∧e=.returned (.tuple #[.agg nodeZc,.string ⟨#[]⟩,.agg nodeZc,.bool false])))
section
variable {F:Nat→Prop} {ad:Nat→Addr} {w w':World}
theorem apart_any (n:NodeA) (hf:formN n) (ve vk vi:Value) (hve:Sl F w 4 encE ve n.entries) (hvk:Sl F w 1 encS vk n.keys) (hvi:Sl F w 1 encI vi n.kids) (a:Nat) (hp:PlaceN n a) (hb1:n.entries.length≤100000) (hb2:n.kids.length≤100000) (b:Bool) (hb:n.leaf=b) :
    Calls Tryz.prog 60 #[.agg #[.bool b,ve,vk,vi],.int .i64 (a:Int)] w (ApartR w (apartA n a)):=by
  subst hb
  cases hl:n.leaf with
  | true=>exact apartL_any n hl ve vk vi hve a (hp.leaf hl) hb1
  | false =>
    have:n.kids.length=n.keys.length+1:=by unfold formN at hf;rw [if_neg (by rw [hl];simp)] at hf;exact hf.2
    exact apartI_any n hl ve vk vi hvk hvi a (hp.inner hl) this hb2
theorem weightO (n:NodeA) {base:Nat} {v:Value} (h:NodeO w base v n) (h1:n.entries.length≤100000) (h2:n.keys.length≤100000) (hb:weightN n≤100000) (W:World) (m:Ext w W) :
    Calls Tryz.prog 61 #[v] W fun e w'=>e=.returned (.int .i64 (weightN n))∧Ext W w':=by
  obtain ⟨ve,vk,vi,rfl,o1,o2,o3⟩:=h
  exact weight_any (F:=fun _=>False) (vi:=vi) n ve vk W ((o1.ext m).sl encE_ok.len (by omega)) ((o2.ext m).sl encS_ok.len (by omega)) (by omega)
end
theorem cutA_some {n:NodeA} (hr:rightN n=true) (hm:0 < cutMany n):cutA n=some (apartA n (firstMin (unlikeA n) (cutFrom n) (cutFrom n) (cutMany n))):=by
  unfold cutA;rw [if_pos ⟨hr,hm⟩]
theorem cutA_none {n:NodeA} (h:¬ (rightN n=true∧0 < cutMany n)):cutA n=none:=by
  unfold cutA;rw [if_neg h]
theorem apart_lens (n:NodeA) (a:Nat):(apartA n a).1.entries.length≤n.entries.length∧(apartA n a).1.keys.length≤n.keys.length∧(apartA n a).2.2.entries.length≤n.entries.length∧(apartA n a).2.2.keys.length≤n.keys.length:=by
  unfold apartA
  split <;> simp only [List.length_take,List.length_drop,List.length_nil] <;> omega
section
variable {F:Nat→Prop} {ad:Nat→Addr} {w w':World}
set_option maxRecDepth 100000 in
set_option maxHeartbeats 4000000 in
theorem cut_any (hL:Env F ad w) (n:NodeA) (ve vk vi:Value) (hve:Sl F w 4 encE ve n.entries) (hvk:Sl F w 1 encS vk n.keys) (hvi:Sl F w 1 encI vi n.kids) (hlen:rightN n=true→(bytesN n).length≤100000) (hb1:n.entries.length≤100000) (hb2:n.kids.length≤100000) (hb5:n.keys.length≤100000) :
    Calls Tryz.prog 13 #[.agg #[.bool n.leaf,ve,vk,vi]] w (CutR w n):=by
  have HCK:=Lib.hid (fun W (m:Ext w W)=>nodeCheck_any (hL.mods m.ext) n ve vk vi (hve.ext m) (hvk.ext m) (hvi.ext m))
  have HVE:=Lib.hid hve
  have HVK:=Lib.hid hvk
  have HVI:=Lib.hid hvi
  obtain ⟨ea,ec,rfl,he1,he2,he3,_⟩:=hve
  obtain ⟨ka,kc,rfl,_,_,_,_⟩:=hvk
  obtain ⟨ia,ic,rfl,hi1,hi2,hi3,_⟩:=hvi
  unfold maxLen at he2 hi2
  obtain ⟨fr,hfr⟩:∃ fr,fr=cutFrom n:=⟨_,rfl⟩
  obtain ⟨M,hM⟩:∃ M,M=cutMany n:=⟨_,rfl⟩
  have HFR:=Lib.hid hfr
  have HM:=Lib.hid hM
  have HLEN:=Lib.hid hlen
  obtain ⟨lf,hlf⟩:∃ lf,n.leaf=lf:=⟨_,rfl⟩
  rw [hlf] at HCK ⊢
  have HLF:=Lib.hid hlf
  obtain ⟨w0,hw0⟩:∃ w0,w0=((w.alloc (.cells #[.bool lf,.slice ea n.entries.length ec,.slice ka n.keys.length kc,.slice ia n.kids.length ic] 26)).alloc (.cells nodeZc 26)).alloc (.cells nodeZc 26):=⟨_,rfl⟩
  have HM0:Hid (Ext w w0):=Lib.hid (by rw [hw0];exact (((Mods.refl _ w).alloc _).alloc _).alloc _)
  have HB0:Hid (Blk w0 w.heap.size #[.bool lf,.slice ea n.entries.length ec,.slice ka n.keys.length kc,.slice ia n.kids.length ic] 26):=Lib.hid (by rw [hw0];exact ((Blk.new w _ _).alloc _).alloc _)
  have HR1:Hid (Blk w0 (w.heap.size+1) nodeZc 26):=Lib.hid (by rw [hw0];exact (show Blk ((w.alloc _).alloc (.cells nodeZc 26)) (w.heap.size+1) nodeZc 26 from heap_at (by simp)).alloc _)
  have HR2:Hid (Blk w0 (w.heap.size+1+1) nodeZc 26):=Lib.hid (by rw [hw0];exact heap_at (by simp))
  have HFM:Hid ((lf=true→fr=1∧M=n.entries.length - 1)∧(lf=false→fr=2∧M=n.kids.length - 3)):=Lib.hid (by
    rw [hfr,hM];unfold cutFrom cutMany;rw [hlf]
    exact ⟨fun h=>by rw [h];exact ⟨rfl,rfl⟩,fun h=>by rw [h];exact ⟨rfl,rfl⟩⟩)
  have b0:=HB0.out.cell (o:=0) rfl
  have b1:=HB0.out.cell (o:=1) rfl
  have b2:=HB0.out.cell (o:=2) rfl
  have b3:=HB0.out.cell (o:=3) rfl
  have u1:IntKind.i64.wrap ((n.entries.length:Int) - 1)=(n.entries.length:Int) - 1:=by rw [IntWalk.i64_in _ (by omega)]
  have u2:IntKind.i64.wrap ((n.kids.length:Int) - 2)=(n.kids.length:Int) - 2:=by rw [IntWalk.i64_in _ (by omega)]
  have HW0:=Lib.hid hw0
  clear hfr hM hlen hL hlf hw0
  obtain ⟨T,hT⟩:∃ T:Int,(M=0→T < (fr:Int))∧(0 < M→T=(fr:Int)+(M:Int) - 1)∧T=(if lf=true then (n.entries.length:Int) - 1 else (n.kids.length:Int) - 2):=⟨_,by
    have:=HFM.out
    cases lf
    · obtain ⟨h1,h2⟩:=this.2 rfl;simp only [Bool.false_eq_true,if_false];omega
    · obtain ⟨h1,h2⟩:=this.1 rfl;simp only [if_true];omega,by
    have:=HFM.out
    cases lf
    · obtain ⟨h1,h2⟩:=this.2 rfl;simp only [Bool.false_eq_true,if_false];omega
    · obtain ⟨h1,h2⟩:=this.1 rfl;simp only [if_true];omega,rfl⟩
  have HT:=Lib.hid hT
  clear hT
  go_enter Tryz.func13, Tryz.ntmps13
  go_wp2_with fail
  rw [← HW0.out]
  go_quiet (fail)
  go_upto_if 24 with fail
  go_cut [6,7] (fun v6 v7 wx=>v6=.int .i64 (fr:Int)∧v7=.int .i64 T∧Hid (Ext w0 wx))
  case first =>
    cases lf
    · have HTT:=HT.out.2.2
      have HF:=HFM.out.2 rfl
      simp only [Bool.false_eq_true,if_false] at HTT
      go_wp2_with fail
      go_quiet (fail)
      go_wp2_with fail
      go_meet
      exact ⟨by rw [HF.1];rfl,by rw [HTT],Lib.hid (((Mods.refl _ _).drewN _).drewN _)⟩
    · have HTT:=HT.out.2.2
      have HF:=HFM.out.1 rfl
      simp only [if_true] at HTT
      go_wp2_with fail
      go_meet
      exact ⟨by rw [HF.1];rfl,by rw [HTT],Lib.hid ((Mods.refl _ _).drewN _)⟩
  obtain ⟨rfl,rfl,HX⟩:=hcut
  have b0:=(HB0.out.ext HX.out).cell (o:=0) rfl
  have b1:=(HB0.out.ext HX.out).cell (o:=1) rfl
  have b2:=(HB0.out.ext HX.out).cell (o:=2) rfl
  have b3:=(HB0.out.ext HX.out).cell (o:=3) rfl
  go_wp2_with fail
  refine (HCK.out _ (HM0.out.trans HX.out)).mono ?_
  rintro e w1 ⟨ev,rfl,hE,hm1⟩
  have HX1:=Lib.hid (HX.out.trans hm1)
  have hR1:=HR1.out.ext HX1.out
  have hR2:=HR2.out.ext HX1.out
  clear hm1 b0 b1 b2 b3
  by_cases hcut:rightN n=true∧0 < M
  · obtain ⟨hr,hMp⟩:=hcut
    have hev:ev=.nilIface:=by
      have:nodeCk n=none:=by unfold nodeCk;rw [if_pos hr]
      rw [this] at hE;exact hE
    subst hev
    have HR:=Lib.hid hr
    have hform:=form_right hr
    have HFO:=Lib.hid hform
    have HWN:Hid (weightN n≤100000):=Lib.hid (by rw [weight_len hform];have:=HLEN.out hr;omega)
    have hT:=HT.out.2.1 hMp
    have hfr2:fr≤2:=by
      have:=HFM.out
      cases lf
      · have:=(this.2 rfl).1;omega
      · have:=(this.1 rfl).1;omega
    have hM2:M≤100000:=by
      have:=HFM.out
      cases lf
      · have:=(this.2 rfl).2;omega
      · have:=(this.1 rfl).2;omega
    have hgo:(fr:Int)≤T:=by omega
    have HPL:Hid (∀ p,fr≤p→p < fr+M→PlaceN n p):=Lib.hid (fun p h1 h2=>place_in (by rw [← HFR.out];exact h1) (by rw [← HFR.out,← HM.out];exact h2))
    have HUB:Hid (∀ p,PlaceN n p→weightN (apartA n p).1≤100000∧weightN (apartA n p).2.2≤100000∧2≤weightN (apartA n p).1∧2≤weightN (apartA n p).2.2):=Lib.hid (fun p _=>by
      have:=apart_weight (n:=n) (a:=p)
      have:=HWN.out
      have:=weight_pos (apartA n p).1
      have:=weight_pos (apartA n p).2.2
      omega)
    have HAP:Hid (∀ W,Ext w0 W→∀ p,PlaceN n p → Calls Tryz.prog 60 #[.agg #[.bool lf,.slice ea n.entries.length ec,.slice ka n.keys.length kc,.slice ia n.kids.length ic],.int .i64 (p:Int)] W (ApartR W (apartA n p))):=Lib.hid (fun W m p hp =>
      apart_any n HFO.out _ _ _ (HVE.out.ext (HM0.out.trans m)) (HVK.out.ext (HM0.out.trans m)) (HVI.out.ext (HM0.out.trans m)) p hp hb1 hb2 lf HLF.out)
    clear hE hr hform hR1 hR2
    go_wp2_with fail
    go_loopg [8,9,10] M (fun m v8 v9 v10 wr=>∃ (j b:Nat) (z:Int),j+m=M∧v10=.int .i64 (((fr+j:Nat):Int))∧v8=.int .i64 (b:Int)∧v9=.int .i64 z∧fr≤b∧b < fr+M∧z≤100000∧Hid ((j=0→z = -1∧b=fr)∧(0 < j→z=(unlikeA n b:Int))∧firstMin (unlikeA n) b (fr+j) m=firstMin (unlikeA n) fr fr M)∧Hid (Ext w0 wr))
    case atStart=>exact ⟨0,fr, -1,by omega,rfl,rfl,rfl,by omega,by omega,by omega,Lib.hid ⟨fun _=>⟨rfl,rfl⟩,fun h=>by omega,rfl⟩,HX1⟩
    case round =>
      obtain ⟨j,b,z,hjm,rfl,rfl,rfl,hb3,hb4,hz,HQ,HXR⟩:=hrel
      have b0:=(HB0.out.ext HXR.out).cell (o:=0) rfl
      have b1:=(HB0.out.ext HXR.out).cell (o:=1) rfl
      have b2:=(HB0.out.ext HXR.out).cell (o:=2) rfl
      have b3:=(HB0.out.ext HXR.out).cell (o:=3) rfl
      by_cases hlt:j < M
      · have hp:=HPL.out (fr+j) (by omega) (by omega)
        have hle:((fr+j:Nat):Int)≤T:=by omega
        go_wp2_with fail
        refine (HAP.out _ HXR.out (fr+j) hp).mono ?_
        have HUQ:=HUB.out _ hp
        have HUE:=unlike_eq HFO.out hp
        have HLE:=apart_lens n (fr+j)
        generalize apartA n (fr+j)=x at HUQ HUE HLE
        obtain ⟨A,kx,B⟩:=x
        rintro e w2 ⟨va,vb,rfl,hA,hB,hm2⟩
        simp only at hA hB HUQ HUE HLE
        have HWA0:=fun W (m:Ext w2 W)=>weightO A hA (by omega) (by omega) HUQ.1 W m
        have HWB0:=fun W (m:Ext w2 W)=>weightO B hB (by omega) (by omega) HUQ.2.1 W m
        obtain ⟨e1,k1,i1,rfl,oe1,ok1,oi1⟩:=hA
        obtain ⟨e2,k2,i2,rfl,oe2,ok2,oi2⟩:=hB
        obtain ⟨ea1,ec1,rfl,_,_⟩:=oe1.form
        obtain ⟨ka1,kc1,rfl,_,_⟩:=ok1.form
        obtain ⟨ia1,ic1,rfl,_,_⟩:=oi1.form
        obtain ⟨ea2,ec2,rfl,_,_⟩:=oe2.form
        obtain ⟨ka2,kc2,rfl,_,_⟩:=ok2.form
        obtain ⟨ia2,ic2,rfl,_,_⟩:=oi2.form
        obtain ⟨wa,hwa⟩:∃ wa,wa=weightN A:=⟨_,rfl⟩
        obtain ⟨wb,hwb⟩:∃ wb,wb=weightN B:=⟨_,rfl⟩
        rw [← hwa] at HWA0 HUQ HUE
        rw [← hwb] at HWB0 HUQ HUE
        have HWA:=Lib.hid HWA0
        have HWB:=Lib.hid HWB0
        obtain ⟨D,hD⟩:∃ D:Int,D=(unlikeA n (fr+j):Int):=⟨_,rfl⟩
        rw [← hD] at HUE
        have HD:=Lib.hid hD
        have hq1:=HUQ.1
        have hq2:=HUQ.2.1
        have hq3:=HUQ.2.2.1
        have hq4:=HUQ.2.2.2
        have HUE2:=Lib.hid HUE
        obtain ⟨w3,hw3⟩:∃ w3,w3=(w2.alloc (.cells #[.bool A.leaf,.slice ea1 A.entries.length ec1,.slice ka1 A.keys.length kc1,.slice ia1 A.kids.length ic1] 26)).alloc (.cells #[.bool B.leaf,.slice ea2 B.entries.length ec2,.slice ka2 B.keys.length kc2,.slice ia2 B.kids.length ic2] 26):=⟨_,rfl⟩
        have HM3:Hid (Ext w2 w3):=Lib.hid (by rw [hw3];exact ((Mods.refl _ _).alloc _).alloc _)
        have hxa:Blk w3 w2.heap.size #[.bool A.leaf,.slice ea1 A.entries.length ec1,.slice ka1 A.keys.length kc1,.slice ia1 A.kids.length ic1] 26:=by rw [hw3];exact (Blk.new w2 _ _).alloc _
        have hxb:Blk w3 (w2.heap.size+1) #[.bool B.leaf,.slice ea2 B.entries.length ec2,.slice ka2 B.keys.length kc2,.slice ia2 B.kids.length ic2] 26:=by rw [hw3];exact heap_at (by simp)
        have p0:=hxa.cell (o:=0) rfl
        have p1:=hxa.cell (o:=1) rfl
        have p2:=hxa.cell (o:=2) rfl
        have p3:=hxa.cell (o:=3) rfl
        have q0:=hxb.cell (o:=0) rfl
        have q1:=hxb.cell (o:=1) rfl
        have q2:=hxb.cell (o:=2) rfl
        have q3:=hxb.cell (o:=3) rfl
        have HXR3:=Lib.hid (HXR.out.trans (hm2.trans HM3.out))
        have HW3:=Lib.hid hw3
        have xm:=(Mods.refl (fun _=>False) w3).drew
        have u3:IntKind.i64.wrap (wa - wb)=wa - wb:=by rw [IntWalk.i64_in _ (by omega)]
        clear HWA0 HWB0 hwa hwb HUQ HUE HLE hw3 hxa hxb hm2 oe1 ok1 oi1 oe2 ok2 oi2 hD
        go_wp2_with fail
        rw [← HW3.out]
        go_cut [14] (fun v14 wx=>v14=.int .i64 (wa - wb)∧Hid (Ext w3 wx))
        case first =>
          go_region_held3 (fun w'=>w'.cell? ⟨w2.heap.size,0,none⟩=some (.bool A.leaf)∧w'.cell? ⟨w2.heap.size,1,none⟩=some (.slice ea1 A.entries.length ec1)∧w'.cell? ⟨w2.heap.size,2,none⟩=some (.slice ka1 A.keys.length kc1)∧w'.cell? ⟨w2.heap.size,3,none⟩=some (.slice ia1 A.kids.length ic1) ∧
              w'.cell? ⟨w2.heap.size+1,0,none⟩=some (.bool B.leaf)∧w'.cell? ⟨w2.heap.size+1,1,none⟩=some (.slice ea2 B.entries.length ec2)∧w'.cell? ⟨w2.heap.size+1,2,none⟩=some (.slice ka2 B.keys.length kc2)∧w'.cell? ⟨w2.heap.size+1,3,none⟩=some (.slice ia2 B.kids.length ic2))
            (first | (with_reducible exact ⟨p0,p1,p2,p3,q0,q1,q2,q3⟩) | go_keep)
            (first
              | (go_at_call 61;(with_reducible refine (HWA.out _ (HM3.out.trans xm)).mono ?_);rintro e wz ⟨rfl,hmz⟩;have p0:=cellE hmz p0;have p1:=cellE hmz p1;have p2:=cellE hmz p2;have p3:=cellE hmz p3;have q0:=cellE hmz q0;have q1:=cellE hmz q1;have q2:=cellE hmz q2;have q3:=cellE hmz q3;have xm:=xm.trans hmz)
              | (go_at_call 61;(with_reducible refine (HWB.out _ (HM3.out.trans xm)).mono ?_);rintro e wz ⟨rfl,hmz⟩;have p0:=cellE hmz p0;have p1:=cellE hmz p1;have p2:=cellE hmz p2;have p3:=cellE hmz p3;have q0:=cellE hmz q0;have q1:=cellE hmz q1;have q2:=cellE hmz q2;have q3:=cellE hmz q3;have xm:=xm.trans hmz)
              | fail)
          all_goals
            go_wp2_with fail
            go_meet
            exact ⟨rfl,Lib.hid xm⟩
        obtain ⟨rfl,HXC⟩:=hcut
        have HXC:=Lib.hid (HXR3.out.trans HXC.out)
        clear xm p0 p1 p2 p3 q0 q1 q2 q3
        go_upto_if 59 with fail
        go_cut [14] (fun v14 wx=>v14=.int .i64 D∧Hid (wx=wc))
        case first =>
          by_cases hd:wa - wb < 0
          · go_wp2_with fail
            go_meet
            exact ⟨by have:=HUE2.out;rw [if_pos hd] at this;rw [this],Lib.hid rfl⟩
          · go_wp2_with fail
            go_meet
            exact ⟨by have:=HUE2.out;rw [if_neg (by omega)] at this;rw [this],Lib.hid rfl⟩
        obtain ⟨rfl,HE⟩:=hcut
        obtain rfl:=HE.out
        have hDn:0≤D∧D≤100000:=by have:=HUE2.out;split at this <;> omega
        obtain ⟨hDn1,hDn2⟩:=hDn
        obtain ⟨m,rfl⟩:∃ m,gk=m+1:=⟨gk - 1,by omega⟩
        by_cases hz0:z < 0
        · have HJ:Hid (j=0∧b=fr):=Lib.hid (by
            obtain ⟨h1,h2,_⟩:=HQ.out
            rcases Nat.eq_zero_or_pos j with h | h
            · exact ⟨h,(h1 h).2⟩
            · have:=h2 h;omega)
          go_wp2_with fail
          go_roundg m
          case measure=>omega
          case rel=>exact ⟨j+1,fr+j,D,by omega,by go_num,by go_num,rfl,by omega,by omega,by omega,Lib.hid ⟨fun h=>by omega,fun _=>HD.out,by
            have:=HQ.out.2.2
            rw [HJ.out.2,HJ.out.1,Nat.add_zero,firstMin_same] at this
            rw [HJ.out.1,Nat.add_zero,Nat.zero_add];exact this⟩,HXC⟩
        · have hj0:0 < j:=by
            rcases Nat.eq_zero_or_pos j with h | h
            · have:=(HQ.out.1 h).1;omega
            · exact h
          have HZ:Hid (z=(unlikeA n b:Int)):=Lib.hid (HQ.out.2.1 hj0)
          by_cases hdz:D < z
          · go_wp2_with fail
            go_roundg m
            case measure=>omega
            case rel=>exact ⟨j+1,fr+j,D,by omega,by go_num,by go_num,rfl,by omega,by omega,by omega,Lib.hid ⟨fun h=>by omega,fun _=>HD.out,by
              have:=HQ.out.2.2
              rw [firstMin,if_pos (by have:=HD.out;have:=HZ.out;omega)] at this
              exact this⟩,HXC⟩
          · go_wp2_with fail
            go_roundg m
            case measure=>omega
            case rel=>exact ⟨j+1,b,z,by omega,by go_num,rfl,rfl,by omega,by omega,by omega,Lib.hid ⟨fun h=>by omega,fun _=>HZ.out,by
              have:=HQ.out.2.2
              rw [firstMin,if_neg (by have:=HD.out;have:=HZ.out;omega)] at this
              exact this⟩,HXC⟩
      · have hle:¬ ((fr+j:Nat):Int)≤T:=by omega
        have hp:=HPL.out b hb3 hb4
        go_wp2_with fail
        refine (HAP.out _ HXR.out b hp).mono ?_
        have HBB:Hid (cutA n=some (apartA n b)):=Lib.hid (by
          rw [cutA_some HR.out (by rw [← HM.out];exact hMp),← HFR.out,← HM.out,← HQ.out.2.2,show gk=0 by omega,firstMin])
        generalize apartA n b=x at HBB
        obtain ⟨A,kx,B⟩:=x
        rintro e w2 ⟨va,vb,rfl,hA,hB,hm2⟩
        simp only at hA hB
        obtain ⟨e1,k1,i1,rfl,oe1,ok1,oi1⟩:=hA
        obtain ⟨e2,k2,i2,rfl,oe2,ok2,oi2⟩:=hB
        obtain ⟨ea1,ec1,rfl,_,_⟩:=oe1.form
        obtain ⟨ka1,kc1,rfl,_,_⟩:=ok1.form
        obtain ⟨ia1,ic1,rfl,_,_⟩:=oi1.form
        obtain ⟨ea2,ec2,rfl,_,_⟩:=oe2.form
        obtain ⟨ka2,kc2,rfl,_,_⟩:=ok2.form
        obtain ⟨ia2,ic2,rfl,_,_⟩:=oi2.form
        obtain ⟨w3,hw3⟩:∃ w3,w3=(w2.alloc (.cells #[.bool A.leaf,.slice ea1 A.entries.length ec1,.slice ka1 A.keys.length kc1,.slice ia1 A.kids.length ic1] 26)).alloc (.cells #[.bool B.leaf,.slice ea2 B.entries.length ec2,.slice ka2 B.keys.length kc2,.slice ia2 B.kids.length ic2] 26):=⟨_,rfl⟩
        have hm3:Ext w2 w3:=by rw [hw3];exact ((Mods.refl _ _).alloc _).alloc _
        have hxa:Blk w3 w2.heap.size #[.bool A.leaf,.slice ea1 A.entries.length ec1,.slice ka1 A.keys.length kc1,.slice ia1 A.kids.length ic1] 26:=by rw [hw3];exact (Blk.new w2 _ _).alloc _
        have hxb:Blk w3 (w2.heap.size+1) #[.bool B.leaf,.slice ea2 B.entries.length ec2,.slice ka2 B.keys.length kc2,.slice ia2 B.kids.length ic2] 26:=by rw [hw3];exact heap_at (by simp)
        have HXW:=HXR.out.trans (hm2.trans hm3)
        have HMM:=Lib.hid (HM0.out.trans HXW)
        have hR1:=HR1.out.ext HXW
        have hR2:=HR2.out.ext HXW
        have o1:=oe1.ext hm3
        have o2:=ok1.ext hm3
        have o3:=oi1.ext hm3
        have o4:=oe2.ext hm3
        have o5:=ok2.ext hm3
        have o6:=oi2.ext hm3
        have p0:=hxa.cell (o:=0) rfl
        have p1:=hxa.cell (o:=1) rfl
        have p2:=hxa.cell (o:=2) rfl
        have p3:=hxa.cell (o:=3) rfl
        have q0:=hxb.cell (o:=0) rfl
        have q1:=hxb.cell (o:=1) rfl
        have q2:=hxb.cell (o:=2) rfl
        have q3:=hxb.cell (o:=3) rfl
        have r0:=hR1.cell (o:=0) rfl
        have r1:=hR1.cell (o:=1) rfl
        have r2:=hR1.cell (o:=2) rfl
        have r3:=hR1.cell (o:=3) rfl
        have rf:=hR1.frozen
        have s0:=hR2.cell (o:=0) rfl
        have s1:=hR2.cell (o:=1) rfl
        have s2:=hR2.cell (o:=2) rfl
        have s3:=hR2.cell (o:=3) rfl
        have sf:=hR2.frozen
        have hz0:w.heap.size+1+1 < w0.heap.size:=HR2.out.lt
        have hz1:w.heap.size+1+1 < wr.heap.size:=Nat.lt_of_lt_of_le hz0 HXR.out.size
        have hz2:wr.heap.size≤w2.heap.size:=hm2.size
        have hz3:w2.heap.size ≠ w.heap.size+1:=by omega
        have hz4:w2.heap.size ≠ w.heap.size+1+1:=by omega
        have hz5:w2.heap.size+1 ≠ w.heap.size+1:=by omega
        have hz6:w2.heap.size+1 ≠ w.heap.size+1+1:=by omega
        have HRA:=Lib.hid hR1
        have HRB:=Lib.hid hR2
        have HO:=Lib.hid (And.intro o1 (And.intro o2 (And.intro o3 (And.intro o4 (And.intro o5 o6)))))
        have HW3:=Lib.hid hw3
        clear hR1 hR2 hxa hxb hm2 hm3 HXW o1 o2 o3 o4 o5 o6 oe1 ok1 oi1 oe2 ok2 oi2 hw3
        go_wp2_with fail
        rw [← HW3.out]
        go_region
        go_wp2_with fail
        have mA:=Mods.set4 (F:=fun k=>k=w.heap.size+1) (Mods.refl _ w3) (R:=w.heap.size+1) (.inr rfl) (.bool A.leaf) (.slice ea1 A.entries.length ec1) (.slice ka1 A.keys.length kc1) (.slice ia1 A.kids.length ic1)
        have hA:=HRA.out.set4 (.bool A.leaf) (.slice ea1 A.entries.length ec1) (.slice ka1 A.keys.length kc1) (.slice ia1 A.kids.length ic1)
        have hB0:=HRB.out.mods mA (by omega)
        have hB:=hB0.set4 (.bool B.leaf) (.slice ea2 B.entries.length ec2) (.slice ka2 B.keys.length kc2) (.slice ia2 B.kids.length ic2)
        have mB:=Mods.set4 (F:=fun k=>k=w.heap.size+1+1) (Mods.refl _ ((((w3.setCell ⟨w.heap.size+1,0,none⟩ (.bool A.leaf)).setCell ⟨w.heap.size+1,1,none⟩ (.slice ea1 A.entries.length ec1)).setCell ⟨w.heap.size+1,2,none⟩ (.slice ka1 A.keys.length kc1)).setCell ⟨w.heap.size+1,3,none⟩ (.slice ia1 A.kids.length ic1))) (R:=w.heap.size+1+1) (.inr rfl) (.bool B.leaf) (.slice ea2 B.entries.length ec2) (.slice ka2 B.keys.length kc2) (.slice ia2 B.kids.length ic2)
        have hA2:=hA.mods mB (by omega)
        have hx:=(Mods.set4 (Mods.set4 HMM.out (R:=w.heap.size+1) (.inl (by omega)) (.bool A.leaf) (.slice ea1 A.entries.length ec1) (.slice ka1 A.keys.length kc1) (.slice ia1 A.kids.length ic1)) (R:=w.heap.size+1+1) (.inl (by omega)) (.bool B.leaf) (.slice ea2 B.entries.length ec2) (.slice ka2 B.keys.length kc2) (.slice ia2 B.kids.length ic2)).drew
        obtain ⟨o1,o2,o3,o4,o5,o6⟩:=HO.out
        have f1:=fun g hg=>(o1.lt g hg).1
        have f2:=fun g hg=>(o2.lt g hg).1
        have f3:=fun g hg=>(o3.lt g hg).1
        have f4:=fun g hg=>(o4.lt g hg).1
        have f5:=fun g hg=>(o5.lt g hg).1
        have f6:=fun g hg=>(o6.lt g hg).1
        have o1:=(((o1.mods mA (fun g hg=>by have:=f1 g hg;omega)).mods mB (fun g hg=>by have:=f1 g hg;omega)).rebase (base':=w.heap.size) (by omega)).ext (Mods.refl _ _).drew
        have o2:=(((o2.mods mA (fun g hg=>by have:=f2 g hg;omega)).mods mB (fun g hg=>by have:=f2 g hg;omega)).rebase (base':=w.heap.size) (by omega)).ext (Mods.refl _ _).drew
        have o3:=(((o3.mods mA (fun g hg=>by have:=f3 g hg;omega)).mods mB (fun g hg=>by have:=f3 g hg;omega)).rebase (base':=w.heap.size) (by omega)).ext (Mods.refl _ _).drew
        have o4:=(((o4.mods mA (fun g hg=>by have:=f4 g hg;omega)).mods mB (fun g hg=>by have:=f4 g hg;omega)).rebase (base':=w.heap.size) (by omega)).ext (Mods.refl _ _).drew
        have o5:=(((o5.mods mA (fun g hg=>by have:=f5 g hg;omega)).mods mB (fun g hg=>by have:=f5 g hg;omega)).rebase (base':=w.heap.size) (by omega)).ext (Mods.refl _ _).drew
        have o6:=(((o6.mods mA (fun g hg=>by have:=f6 g hg;omega)).mods mB (fun g hg=>by have:=f6 g hg;omega)).rebase (base':=w.heap.size) (by omega)).ext (Mods.refl _ _).drew
        refine bodyPost_ret (results_row_tmp_row_tmp rfl _ _ (w.heap.size+1) (w.heap.size+1+1) 26 26 _ _ _ rfl hA2.drew rfl hB.drew rfl Tryz.underlying26 rfl Tryz.nodeSz rfl) rfl ?_
        exact ⟨hx,.inl ⟨_,_,_,HBB.out,rfl,⟨_,_,_,rfl,o1,o2,o3⟩,⟨_,_,_,rfl,o4,o5,o6⟩⟩⟩
  · have HN:Hid (cutA n=none):=Lib.hid (cutA_none (by rw [← HM.out];exact hcut))
    have r0:=hR1.cell (o:=0) rfl
    have r1:=hR1.cell (o:=1) rfl
    have r2:=hR1.cell (o:=2) rfl
    have r3:=hR1.cell (o:=3) rfl
    have rf:=hR1.frozen
    have s0:=hR2.cell (o:=0) rfl
    have s1:=hR2.cell (o:=1) rfl
    have s2:=hR2.cell (o:=2) rfl
    have s3:=hR2.cell (o:=3) rfl
    have sf:=hR2.frozen
    have hA:=hR1.set4 (.bool false) (.slice none 0 0) (.slice none 0 0) (.slice none 0 0)
    have mA:=Mods.set4 (F:=fun k=>k=w.heap.size+1) (Mods.refl _ w1) (R:=w.heap.size+1) (.inr rfl) (.bool false) (.slice none 0 0) (.slice none 0 0) (.slice none 0 0)
    have hB:=(hR2.mods mA (by omega)).set4 (.bool false) (.slice none 0 0) (.slice none 0 0) (.slice none 0 0)
    have mB:=Mods.set4 (F:=fun k=>k=w.heap.size+1+1) (Mods.refl _ ((((w1.setCell ⟨w.heap.size+1,0,none⟩ (.bool false)).setCell ⟨w.heap.size+1,1,none⟩ (.slice none 0 0)).setCell ⟨w.heap.size+1,2,none⟩ (.slice none 0 0)).setCell ⟨w.heap.size+1,3,none⟩ (.slice none 0 0))) (R:=w.heap.size+1+1) (.inr rfl) (.bool false) (.slice none 0 0) (.slice none 0 0) (.slice none 0 0)
    have HA2:=Lib.hid (hA.mods mB (by omega))
    have HB2:=Lib.hid hB
    have HX2:=Lib.hid (Mods.set4 (Mods.set4 (HM0.out.trans HX1.out) (R:=w.heap.size+1) (.inl (by omega)) (.bool false) (.slice none 0 0) (.slice none 0 0) (.slice none 0 0)) (R:=w.heap.size+1+1) (.inl (by omega)) (.bool false) (.slice none 0 0) (.slice none 0 0) (.slice none 0 0))
    clear hR1 hR2 hA mA hB mB
    by_cases hr:rightN n=true
    · have hev:ev=.nilIface:=by
        have:nodeCk n=none:=by unfold nodeCk;rw [if_pos hr]
        rw [this] at hE;exact hE
      subst hev
      have hM0:M=0:=by
        rcases Nat.eq_zero_or_pos M with h | h
        · exact h
        · exact absurd ⟨hr,h⟩ hcut
      have hgo:=HT.out.1 hM0
      clear hE hcut hr
      go_wp2_with fail
      refine bodyPost_ret (results_row_tmp_row_tmp rfl _ _ (w.heap.size+1) (w.heap.size+1+1) 26 26 _ _ _ rfl HA2.out rfl HB2.out rfl Tryz.underlying26 rfl Tryz.nodeSz rfl) rfl ?_
      exact ⟨HX2.out,.inr ⟨HN.out,rfl⟩⟩
    · have hev:nodeCk n=some ([-1],1):=by unfold nodeCk;rw [if_neg hr]
      rw [hev] at hE
      obtain ⟨fb,rfl,_⟩:=hE
      clear hcut hr hev
      go_wp2_with fail
      refine bodyPost_ret (results_row_tmp_row_tmp rfl _ _ (w.heap.size+1) (w.heap.size+1+1) 26 26 _ _ _ rfl HA2.out rfl HB2.out rfl Tryz.underlying26 rfl Tryz.nodeSz rfl) rfl ?_
      exact ⟨HX2.out,.inr ⟨HN.out,rfl⟩⟩
end
end Go.Proofs.YtphafjmdhmpkbaaGreatDoor
