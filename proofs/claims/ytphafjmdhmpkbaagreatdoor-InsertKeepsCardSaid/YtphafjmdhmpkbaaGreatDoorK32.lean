/- insert.Cut, walked. | insert.settle: a node that fits is put down. -/
import Derived.Test.YtphafjmdhmpkbaaGreatDoorK31
import Derived.BigQuiet
import Derived.Test.YtphafjmdhmpkbaaGreatDoorK30
import Derived.Test.YtphafjmdhmpkbaaGreatDoorK28
namespace Go.Proofs.YtphafjmdhmpkbaaGreatDoor
open Go.RowKit
attribute [local go_sem ↓] Go.wp_at_zero Go.wp_at_succ
theorem cutA_some {n:NodeA} (hr:rightN n=true) (hm:0 < cutMany n):cutA n=some (apartA n (firstMin (unlikeA n) (cutFrom n) (cutFrom n) (cutMany n))):=by
  unfold cutA;rw [if_pos ⟨hr,hm⟩]
theorem cutA_none {n:NodeA} (h:¬ (rightN n=true∧0 < cutMany n)):cutA n=none:=by
  unfold cutA;rw [if_neg h]
theorem apart_lens (n:NodeA) (a:Nat):(apartA n a).1.entries.length≤n.entries.length∧(apartA n a).1.keys.length≤n.keys.length∧(apartA n a).2.2.entries.length≤n.entries.length∧(apartA n a).2.2.keys.length≤n.keys.length:=by
  unfold apartA
  split <;> simp only [List.length_take,List.length_drop,List.length_nil] <;> omega
section
variable {F:Nat→Prop} {ad:Nat→Addr} {w w':World}
set_option maxRecDepth 100000 in
set_option maxHeartbeats 4000000 in
theorem cut_any (hL:Env F ad w) (n:NodeA) (ve vk vi:Value) (hve:Sl F w 4 encE ve n.entries) (hvk:Sl F w 1 encS vk n.keys) (hvi:Sl F w 1 encI vi n.kids) (hlen:rightN n=true→(bytesN n).length≤100000) (hb1:n.entries.length≤100000) (hb2:n.kids.length≤100000) (hb5:n.keys.length≤100000) :
    Calls Tryz.prog 13 #[.agg #[.bool n.leaf,ve,vk,vi]] w (CutR w n):=by
  have HCK:=Lib.hid (fun W (m:Ext w W)=>nodeCheck_any (hL.mods m.ext) n ve vk vi (hve.ext m) (hvk.ext m) (hvi.ext m))
  have HVE:=Lib.hid hve
  have HVK:=Lib.hid hvk
  have HVI:=Lib.hid hvi
  obtain ⟨ea,ec,rfl,he1,he2,he3,_⟩:=hve
  obtain ⟨ka,kc,rfl,_,_,_,_⟩:=hvk
  obtain ⟨ia,ic,rfl,hi1,hi2,hi3,_⟩:=hvi
  unfold maxLen at he2 hi2
  obtain ⟨fr,hfr⟩:∃ fr,fr=cutFrom n:=⟨_,rfl⟩
  obtain ⟨M,hM⟩:∃ M,M=cutMany n:=⟨_,rfl⟩
  have HFR:=Lib.hid hfr
  have HM:=Lib.hid hM
  have HLEN:=Lib.hid hlen
  obtain ⟨lf,hlf⟩:∃ lf,n.leaf=lf:=⟨_,rfl⟩
  rw [hlf] at HCK ⊢
  have HLF:=Lib.hid hlf
  obtain ⟨w0,hw0⟩:∃ w0,w0=((w.alloc (.cells #[.bool lf,.slice ea n.entries.length ec,.slice ka n.keys.length kc,.slice ia n.kids.length ic] 26)).alloc (.cells nodeZc 26)).alloc (.cells nodeZc 26):=⟨_,rfl⟩
  have HM0:Hid (Ext w w0):=Lib.hid (by rw [hw0];exact (((Mods.refl _ w).alloc _).alloc _).alloc _)
  have HB0:Hid (Blk w0 w.heap.size #[.bool lf,.slice ea n.entries.length ec,.slice ka n.keys.length kc,.slice ia n.kids.length ic] 26):=Lib.hid (by rw [hw0];exact ((Blk.new w _ _).alloc _).alloc _)
  have HR1:Hid (Blk w0 (w.heap.size+1) nodeZc 26):=Lib.hid (by rw [hw0];exact (show Blk ((w.alloc _).alloc (.cells nodeZc 26)) (w.heap.size+1) nodeZc 26 from heap_at (by simp)).alloc _)
  have HR2:Hid (Blk w0 (w.heap.size+1+1) nodeZc 26):=Lib.hid (by rw [hw0];exact heap_at (by simp))
  have HFM:Hid ((lf=true→fr=1∧M=n.entries.length - 1)∧(lf=false→fr=2∧M=n.kids.length - 3)):=Lib.hid (by
    rw [hfr,hM];unfold cutFrom cutMany;rw [hlf]
    exact ⟨fun h=>by rw [h];exact ⟨rfl,rfl⟩,fun h=>by rw [h];exact ⟨rfl,rfl⟩⟩)
  have b0:=HB0.out.cell (o:=0) rfl
  have b1:=HB0.out.cell (o:=1) rfl
  have b2:=HB0.out.cell (o:=2) rfl
  have b3:=HB0.out.cell (o:=3) rfl
  have u1:IntKind.i64.wrap ((n.entries.length:Int) - 1)=(n.entries.length:Int) - 1:=by rw [IntWalk.i64_in _ (by omega)]
  have u2:IntKind.i64.wrap ((n.kids.length:Int) - 2)=(n.kids.length:Int) - 2:=by rw [IntWalk.i64_in _ (by omega)]
  have HW0:=Lib.hid hw0
  clear hfr hM hlen hL hlf hw0
  obtain ⟨T,hT⟩:∃ T:Int,(M=0→T < (fr:Int))∧(0 < M→T=(fr:Int)+(M:Int) - 1)∧T=(if lf=true then (n.entries.length:Int) - 1 else (n.kids.length:Int) - 2):=⟨_,by
    have:=HFM.out
    cases lf
    · obtain ⟨h1,h2⟩:=this.2 rfl;simp only [Bool.false_eq_true,if_false];omega
    · obtain ⟨h1,h2⟩:=this.1 rfl;simp only [if_true];omega,by
    have:=HFM.out
    cases lf
    · obtain ⟨h1,h2⟩:=this.2 rfl;simp only [Bool.false_eq_true,if_false];omega
    · obtain ⟨h1,h2⟩:=this.1 rfl;simp only [if_true];omega,rfl⟩
  have HT:=Lib.hid hT
  clear hT
  go_enter Tryz.func13, Tryz.ntmps13
  go_wp2_with fail
  rw [← HW0.out]
  go_quiet (fail)
  go_upto_if 24 with fail
  go_cut [6,7] (fun v6 v7 wx=>v6=.int .i64 (fr:Int)∧v7=.int .i64 T∧Hid (Ext w0 wx))
  case first =>
    cases lf
    · have HTT:=HT.out.2.2
      have HF:=HFM.out.2 rfl
      simp only [Bool.false_eq_true,if_false] at HTT
      go_wp2_with fail
      go_quiet (fail)
      go_wp2_with fail
      go_meet
      exact ⟨by rw [HF.1];rfl,by rw [HTT],Lib.hid (((Mods.refl _ _).drewN _).drewN _)⟩
    · have HTT:=HT.out.2.2
      have HF:=HFM.out.1 rfl
      simp only [if_true] at HTT
      go_wp2_with fail
      go_meet
      exact ⟨by rw [HF.1];rfl,by rw [HTT],Lib.hid ((Mods.refl _ _).drewN _)⟩
  obtain ⟨rfl,rfl,HX⟩:=hcut
  have b0:=(HB0.out.ext HX.out).cell (o:=0) rfl
  have b1:=(HB0.out.ext HX.out).cell (o:=1) rfl
  have b2:=(HB0.out.ext HX.out).cell (o:=2) rfl
  have b3:=(HB0.out.ext HX.out).cell (o:=3) rfl
  go_wp2_with fail
  refine (HCK.out _ (HM0.out.trans HX.out)).mono ?_
  rintro e w1 ⟨ev,rfl,hE,hm1⟩
  have HX1:=Lib.hid (HX.out.trans hm1)
  have hR1:=HR1.out.ext HX1.out
  have hR2:=HR2.out.ext HX1.out
  clear hm1 b0 b1 b2 b3
  by_cases hcut:rightN n=true∧0 < M
  · obtain ⟨hr,hMp⟩:=hcut
    have hev:ev=.nilIface:=by
      have:nodeCk n=none:=by unfold nodeCk;rw [if_pos hr]
      rw [this] at hE;exact hE
    subst hev
    have HR:=Lib.hid hr
    have hform:=form_right hr
    have HFO:=Lib.hid hform
    have HWN:Hid (weightN n≤100000):=Lib.hid (by rw [weight_len hform];have:=HLEN.out hr;omega)
    have hT:=HT.out.2.1 hMp
    have hfr2:fr≤2:=by
      have:=HFM.out
      cases lf
      · have:=(this.2 rfl).1;omega
      · have:=(this.1 rfl).1;omega
    have hM2:M≤100000:=by
      have:=HFM.out
      cases lf
      · have:=(this.2 rfl).2;omega
      · have:=(this.1 rfl).2;omega
    have hgo:(fr:Int)≤T:=by omega
    have HPL:Hid (∀ p,fr≤p→p < fr+M→PlaceN n p):=Lib.hid (fun p h1 h2=>place_in (by rw [← HFR.out];exact h1) (by rw [← HFR.out,← HM.out];exact h2))
    have HUB:Hid (∀ p,PlaceN n p→weightN (apartA n p).1≤100000∧weightN (apartA n p).2.2≤100000∧2≤weightN (apartA n p).1∧2≤weightN (apartA n p).2.2):=Lib.hid (fun p _=>by
      have:=apart_weight (n:=n) (a:=p)
      have:=HWN.out
      have:=weight_pos (apartA n p).1
      have:=weight_pos (apartA n p).2.2
      omega)
    have HAP:Hid (∀ W,Ext w0 W→∀ p,PlaceN n p → Calls Tryz.prog 60 #[.agg #[.bool lf,.slice ea n.entries.length ec,.slice ka n.keys.length kc,.slice ia n.kids.length ic],.int .i64 (p:Int)] W (ApartR W (apartA n p))):=Lib.hid (fun W m p hp =>
      apart_any n HFO.out _ _ _ (HVE.out.ext (HM0.out.trans m)) (HVK.out.ext (HM0.out.trans m)) (HVI.out.ext (HM0.out.trans m)) p hp hb1 hb2 lf HLF.out)
    clear hE hr hform hR1 hR2
    go_wp2_with fail
    go_loopg [8,9,10] M (fun m v8 v9 v10 wr=>∃ (j b:Nat) (z:Int),j+m=M∧v10=.int .i64 (((fr+j:Nat):Int))∧v8=.int .i64 (b:Int)∧v9=.int .i64 z∧fr≤b∧b < fr+M∧z≤100000∧Hid ((j=0→z = -1∧b=fr)∧(0 < j→z=(unlikeA n b:Int))∧firstMin (unlikeA n) b (fr+j) m=firstMin (unlikeA n) fr fr M)∧Hid (Ext w0 wr))
    case atStart=>exact ⟨0,fr, -1,by omega,rfl,rfl,rfl,by omega,by omega,by omega,Lib.hid ⟨fun _=>⟨rfl,rfl⟩,fun h=>by omega,rfl⟩,HX1⟩
    case round =>
      obtain ⟨j,b,z,hjm,rfl,rfl,rfl,hb3,hb4,hz,HQ,HXR⟩:=hrel
      have b0:=(HB0.out.ext HXR.out).cell (o:=0) rfl
      have b1:=(HB0.out.ext HXR.out).cell (o:=1) rfl
      have b2:=(HB0.out.ext HXR.out).cell (o:=2) rfl
      have b3:=(HB0.out.ext HXR.out).cell (o:=3) rfl
      by_cases hlt:j < M
      · have hp:=HPL.out (fr+j) (by omega) (by omega)
        have hle:((fr+j:Nat):Int)≤T:=by omega
        go_wp2_with fail
        refine (HAP.out _ HXR.out (fr+j) hp).mono ?_
        have HUQ:=HUB.out _ hp
        have HUE:=unlike_eq HFO.out hp
        have HLE:=apart_lens n (fr+j)
        generalize apartA n (fr+j)=x at HUQ HUE HLE
        obtain ⟨A,kx,B⟩:=x
        rintro e w2 ⟨va,vb,rfl,hA,hB,hm2⟩
        simp only at hA hB HUQ HUE HLE
        have HWA0:=fun W (m:Ext w2 W)=>weightO A hA (by omega) (by omega) HUQ.1 W m
        have HWB0:=fun W (m:Ext w2 W)=>weightO B hB (by omega) (by omega) HUQ.2.1 W m
        obtain ⟨e1,k1,i1,rfl,oe1,ok1,oi1⟩:=hA
        obtain ⟨e2,k2,i2,rfl,oe2,ok2,oi2⟩:=hB
        obtain ⟨ea1,ec1,rfl,_,_⟩:=oe1.form
        obtain ⟨ka1,kc1,rfl,_,_⟩:=ok1.form
        obtain ⟨ia1,ic1,rfl,_,_⟩:=oi1.form
        obtain ⟨ea2,ec2,rfl,_,_⟩:=oe2.form
        obtain ⟨ka2,kc2,rfl,_,_⟩:=ok2.form
        obtain ⟨ia2,ic2,rfl,_,_⟩:=oi2.form
        obtain ⟨wa,hwa⟩:∃ wa,wa=weightN A:=⟨_,rfl⟩
        obtain ⟨wb,hwb⟩:∃ wb,wb=weightN B:=⟨_,rfl⟩
        rw [← hwa] at HWA0 HUQ HUE
        rw [← hwb] at HWB0 HUQ HUE
        have HWA:=Lib.hid HWA0
        have HWB:=Lib.hid HWB0
        obtain ⟨D,hD⟩:∃ D:Int,D=(unlikeA n (fr+j):Int):=⟨_,rfl⟩
        rw [← hD] at HUE
        have HD:=Lib.hid hD
        have hq1:=HUQ.1
        have hq2:=HUQ.2.1
        have hq3:=HUQ.2.2.1
        have hq4:=HUQ.2.2.2
        have HUE2:=Lib.hid HUE
        obtain ⟨w3,hw3⟩:∃ w3,w3=(w2.alloc (.cells #[.bool A.leaf,.slice ea1 A.entries.length ec1,.slice ka1 A.keys.length kc1,.slice ia1 A.kids.length ic1] 26)).alloc (.cells #[.bool B.leaf,.slice ea2 B.entries.length ec2,.slice ka2 B.keys.length kc2,.slice ia2 B.kids.length ic2] 26):=⟨_,rfl⟩
        have HM3:Hid (Ext w2 w3):=Lib.hid (by rw [hw3];exact ((Mods.refl _ _).alloc _).alloc _)
        have hxa:Blk w3 w2.heap.size #[.bool A.leaf,.slice ea1 A.entries.length ec1,.slice ka1 A.keys.length kc1,.slice ia1 A.kids.length ic1] 26:=by rw [hw3];exact (Blk.new w2 _ _).alloc _
        have hxb:Blk w3 (w2.heap.size+1) #[.bool B.leaf,.slice ea2 B.entries.length ec2,.slice ka2 B.keys.length kc2,.slice ia2 B.kids.length ic2] 26:=by rw [hw3];exact heap_at (by simp)
        have p0:=hxa.cell (o:=0) rfl
        have p1:=hxa.cell (o:=1) rfl
        have p2:=hxa.cell (o:=2) rfl
        have p3:=hxa.cell (o:=3) rfl
        have q0:=hxb.cell (o:=0) rfl
        have q1:=hxb.cell (o:=1) rfl
        have q2:=hxb.cell (o:=2) rfl
        have q3:=hxb.cell (o:=3) rfl
        have HXR3:=Lib.hid (HXR.out.trans (hm2.trans HM3.out))
        have HW3:=Lib.hid hw3
        have xm:=(Mods.refl (fun _=>False) w3).drew
        have u3:IntKind.i64.wrap (wa - wb)=wa - wb:=by rw [IntWalk.i64_in _ (by omega)]
        clear HWA0 HWB0 hwa hwb HUQ HUE HLE hw3 hxa hxb hm2 oe1 ok1 oi1 oe2 ok2 oi2 hD
        go_wp2_with fail
        rw [← HW3.out]
        go_cut [14] (fun v14 wx=>v14=.int .i64 (wa - wb)∧Hid (Ext w3 wx))
        case first =>
          go_region_held3 (fun w'=>w'.cell? ⟨w2.heap.size,0,none⟩=some (.bool A.leaf)∧w'.cell? ⟨w2.heap.size,1,none⟩=some (.slice ea1 A.entries.length ec1)∧w'.cell? ⟨w2.heap.size,2,none⟩=some (.slice ka1 A.keys.length kc1)∧w'.cell? ⟨w2.heap.size,3,none⟩=some (.slice ia1 A.kids.length ic1) ∧
              w'.cell? ⟨w2.heap.size+1,0,none⟩=some (.bool B.leaf)∧w'.cell? ⟨w2.heap.size+1,1,none⟩=some (.slice ea2 B.entries.length ec2)∧w'.cell? ⟨w2.heap.size+1,2,none⟩=some (.slice ka2 B.keys.length kc2)∧w'.cell? ⟨w2.heap.size+1,3,none⟩=some (.slice ia2 B.kids.length ic2))
            (first | (with_reducible exact ⟨p0,p1,p2,p3,q0,q1,q2,q3⟩) | go_keep)
            (first
              | (go_at_call 61;(with_reducible refine (HWA.out _ (HM3.out.trans xm)).mono ?_);rintro e wz ⟨rfl,hmz⟩;have p0:=cellE hmz p0;have p1:=cellE hmz p1;have p2:=cellE hmz p2;have p3:=cellE hmz p3;have q0:=cellE hmz q0;have q1:=cellE hmz q1;have q2:=cellE hmz q2;have q3:=cellE hmz q3;have xm:=xm.trans hmz)
              | (go_at_call 61;(with_reducible refine (HWB.out _ (HM3.out.trans xm)).mono ?_);rintro e wz ⟨rfl,hmz⟩;have p0:=cellE hmz p0;have p1:=cellE hmz p1;have p2:=cellE hmz p2;have p3:=cellE hmz p3;have q0:=cellE hmz q0;have q1:=cellE hmz q1;have q2:=cellE hmz q2;have q3:=cellE hmz q3;have xm:=xm.trans hmz)
              | fail)
          all_goals
            go_wp2_with fail
            go_meet
            exact ⟨rfl,Lib.hid xm⟩
        obtain ⟨rfl,HXC⟩:=hcut
        have HXC:=Lib.hid (HXR3.out.trans HXC.out)
        clear xm p0 p1 p2 p3 q0 q1 q2 q3
        go_upto_if 59 with fail
        go_cut [14] (fun v14 wx=>v14=.int .i64 D∧Hid (wx=wc))
        case first =>
          by_cases hd:wa - wb < 0
          · go_wp2_with fail
            go_meet
            exact ⟨by have:=HUE2.out;rw [if_pos hd] at this;rw [this],Lib.hid rfl⟩
          · go_wp2_with fail
            go_meet
            exact ⟨by have:=HUE2.out;rw [if_neg (by omega)] at this;rw [this],Lib.hid rfl⟩
        obtain ⟨rfl,HE⟩:=hcut
        obtain rfl:=HE.out
        have hDn:0≤D∧D≤100000:=by have:=HUE2.out;split at this <;> omega
        obtain ⟨hDn1,hDn2⟩:=hDn
        obtain ⟨m,rfl⟩:∃ m,gk=m+1:=⟨gk - 1,by omega⟩
        by_cases hz0:z < 0
        · have HJ:Hid (j=0∧b=fr):=Lib.hid (by
            obtain ⟨h1,h2,_⟩:=HQ.out
            rcases Nat.eq_zero_or_pos j with h | h
            · exact ⟨h,(h1 h).2⟩
            · have:=h2 h;omega)
          go_wp2_with fail
          go_roundg m
          case measure=>omega
          case rel=>exact ⟨j+1,fr+j,D,by omega,by go_num,by go_num,rfl,by omega,by omega,by omega,Lib.hid ⟨fun h=>by omega,fun _=>HD.out,by
            have:=HQ.out.2.2
            rw [HJ.out.2,HJ.out.1,Nat.add_zero,firstMin_same] at this
            rw [HJ.out.1,Nat.add_zero,Nat.zero_add];exact this⟩,HXC⟩
        · have hj0:0 < j:=by
            rcases Nat.eq_zero_or_pos j with h | h
            · have:=(HQ.out.1 h).1;omega
            · exact h
          have HZ:Hid (z=(unlikeA n b:Int)):=Lib.hid (HQ.out.2.1 hj0)
          by_cases hdz:D < z
          · go_wp2_with fail
            go_roundg m
            case measure=>omega
            case rel=>exact ⟨j+1,fr+j,D,by omega,by go_num,by go_num,rfl,by omega,by omega,by omega,Lib.hid ⟨fun h=>by omega,fun _=>HD.out,by
              have:=HQ.out.2.2
              rw [firstMin,if_pos (by have:=HD.out;have:=HZ.out;omega)] at this
              exact this⟩,HXC⟩
          · go_wp2_with fail
            go_roundg m
            case measure=>omega
            case rel=>exact ⟨j+1,b,z,by omega,by go_num,rfl,rfl,by omega,by omega,by omega,Lib.hid ⟨fun h=>by omega,fun _=>HZ.out,by
              have:=HQ.out.2.2
              rw [firstMin,if_neg (by have:=HD.out;have:=HZ.out;omega)] at this
              exact this⟩,HXC⟩
      · have hle:¬ ((fr+j:Nat):Int)≤T:=by omega
        have hp:=HPL.out b hb3 hb4
        go_wp2_with fail
        refine (HAP.out _ HXR.out b hp).mono ?_
        have HBB:Hid (cutA n=some (apartA n b)):=Lib.hid (by
          rw [cutA_some HR.out (by rw [← HM.out];exact hMp),← HFR.out,← HM.out,← HQ.out.2.2,show gk=0 by omega,firstMin])
        generalize apartA n b=x at HBB
        obtain ⟨A,kx,B⟩:=x
        rintro e w2 ⟨va,vb,rfl,hA,hB,hm2⟩
        simp only at hA hB
        obtain ⟨e1,k1,i1,rfl,oe1,ok1,oi1⟩:=hA
        obtain ⟨e2,k2,i2,rfl,oe2,ok2,oi2⟩:=hB
        obtain ⟨ea1,ec1,rfl,_,_⟩:=oe1.form
        obtain ⟨ka1,kc1,rfl,_,_⟩:=ok1.form
        obtain ⟨ia1,ic1,rfl,_,_⟩:=oi1.form
        obtain ⟨ea2,ec2,rfl,_,_⟩:=oe2.form
        obtain ⟨ka2,kc2,rfl,_,_⟩:=ok2.form
        obtain ⟨ia2,ic2,rfl,_,_⟩:=oi2.form
        obtain ⟨w3,hw3⟩:∃ w3,w3=(w2.alloc (.cells #[.bool A.leaf,.slice ea1 A.entries.length ec1,.slice ka1 A.keys.length kc1,.slice ia1 A.kids.length ic1] 26)).alloc (.cells #[.bool B.leaf,.slice ea2 B.entries.length ec2,.slice ka2 B.keys.length kc2,.slice ia2 B.kids.length ic2] 26):=⟨_,rfl⟩
        have hm3:Ext w2 w3:=by rw [hw3];exact ((Mods.refl _ _).alloc _).alloc _
        have hxa:Blk w3 w2.heap.size #[.bool A.leaf,.slice ea1 A.entries.length ec1,.slice ka1 A.keys.length kc1,.slice ia1 A.kids.length ic1] 26:=by rw [hw3];exact (Blk.new w2 _ _).alloc _
        have hxb:Blk w3 (w2.heap.size+1) #[.bool B.leaf,.slice ea2 B.entries.length ec2,.slice ka2 B.keys.length kc2,.slice ia2 B.kids.length ic2] 26:=by rw [hw3];exact heap_at (by simp)
        have HXW:=HXR.out.trans (hm2.trans hm3)
        have HMM:=Lib.hid (HM0.out.trans HXW)
        have hR1:=HR1.out.ext HXW
        have hR2:=HR2.out.ext HXW
        have o1:=oe1.ext hm3
        have o2:=ok1.ext hm3
        have o3:=oi1.ext hm3
        have o4:=oe2.ext hm3
        have o5:=ok2.ext hm3
        have o6:=oi2.ext hm3
        have p0:=hxa.cell (o:=0) rfl
        have p1:=hxa.cell (o:=1) rfl
        have p2:=hxa.cell (o:=2) rfl
        have p3:=hxa.cell (o:=3) rfl
        have q0:=hxb.cell (o:=0) rfl
        have q1:=hxb.cell (o:=1) rfl
        have q2:=hxb.cell (o:=2) rfl
        have q3:=hxb.cell (o:=3) rfl
        have r0:=hR1.cell (o:=0) rfl
        have r1:=hR1.cell (o:=1) rfl
        have r2:=hR1.cell (o:=2) rfl
        have r3:=hR1.cell (o:=3) rfl
        have rf:=hR1.frozen
        have s0:=hR2.cell (o:=0) rfl
        have s1:=hR2.cell (o:=1) rfl
        have s2:=hR2.cell (o:=2) rfl
        have s3:=hR2.cell (o:=3) rfl
        have sf:=hR2.frozen
        have hz0:w.heap.size+1+1 < w0.heap.size:=HR2.out.lt
        have hz1:w.heap.size+1+1 < wr.heap.size:=Nat.lt_of_lt_of_le hz0 HXR.out.size
        have hz2:wr.heap.size≤w2.heap.size:=hm2.size
        have hz3:w2.heap.size ≠ w.heap.size+1:=by omega
        have hz4:w2.heap.size ≠ w.heap.size+1+1:=by omega
        have hz5:w2.heap.size+1 ≠ w.heap.size+1:=by omega
        have hz6:w2.heap.size+1 ≠ w.heap.size+1+1:=by omega
        have HRA:=Lib.hid hR1
        have HRB:=Lib.hid hR2
        have HO:=Lib.hid (And.intro o1 (And.intro o2 (And.intro o3 (And.intro o4 (And.intro o5 o6)))))
        have HW3:=Lib.hid hw3
        clear hR1 hR2 hxa hxb hm2 hm3 HXW o1 o2 o3 o4 o5 o6 oe1 ok1 oi1 oe2 ok2 oi2 hw3
        go_wp2_with fail
        rw [← HW3.out]
        go_region
        go_wp2_with fail
        have mA:=Mods.set4 (F:=fun k=>k=w.heap.size+1) (Mods.refl _ w3) (R:=w.heap.size+1) (.inr rfl) (.bool A.leaf) (.slice ea1 A.entries.length ec1) (.slice ka1 A.keys.length kc1) (.slice ia1 A.kids.length ic1)
        have hA:=HRA.out.set4 (.bool A.leaf) (.slice ea1 A.entries.length ec1) (.slice ka1 A.keys.length kc1) (.slice ia1 A.kids.length ic1)
        have hB0:=HRB.out.mods mA (by omega)
        have hB:=hB0.set4 (.bool B.leaf) (.slice ea2 B.entries.length ec2) (.slice ka2 B.keys.length kc2) (.slice ia2 B.kids.length ic2)
        have mB:=Mods.set4 (F:=fun k=>k=w.heap.size+1+1) (Mods.refl _ ((((w3.setCell ⟨w.heap.size+1,0,none⟩ (.bool A.leaf)).setCell ⟨w.heap.size+1,1,none⟩ (.slice ea1 A.entries.length ec1)).setCell ⟨w.heap.size+1,2,none⟩ (.slice ka1 A.keys.length kc1)).setCell ⟨w.heap.size+1,3,none⟩ (.slice ia1 A.kids.length ic1))) (R:=w.heap.size+1+1) (.inr rfl) (.bool B.leaf) (.slice ea2 B.entries.length ec2) (.slice ka2 B.keys.length kc2) (.slice ia2 B.kids.length ic2)
        have hA2:=hA.mods mB (by omega)
        have hx:=(Mods.set4 (Mods.set4 HMM.out (R:=w.heap.size+1) (.inl (by omega)) (.bool A.leaf) (.slice ea1 A.entries.length ec1) (.slice ka1 A.keys.length kc1) (.slice ia1 A.kids.length ic1)) (R:=w.heap.size+1+1) (.inl (by omega)) (.bool B.leaf) (.slice ea2 B.entries.length ec2) (.slice ka2 B.keys.length kc2) (.slice ia2 B.kids.length ic2)).drew
        obtain ⟨o1,o2,o3,o4,o5,o6⟩:=HO.out
        have f1:=fun g hg=>(o1.lt g hg).1
        have f2:=fun g hg=>(o2.lt g hg).1
        have f3:=fun g hg=>(o3.lt g hg).1
        have f4:=fun g hg=>(o4.lt g hg).1
        have f5:=fun g hg=>(o5.lt g hg).1
        have f6:=fun g hg=>(o6.lt g hg).1
        have o1:=(((o1.mods mA (fun g hg=>by have:=f1 g hg;omega)).mods mB (fun g hg=>by have:=f1 g hg;omega)).rebase (base':=w.heap.size) (by omega)).ext (Mods.refl _ _).drew
        have o2:=(((o2.mods mA (fun g hg=>by have:=f2 g hg;omega)).mods mB (fun g hg=>by have:=f2 g hg;omega)).rebase (base':=w.heap.size) (by omega)).ext (Mods.refl _ _).drew
        have o3:=(((o3.mods mA (fun g hg=>by have:=f3 g hg;omega)).mods mB (fun g hg=>by have:=f3 g hg;omega)).rebase (base':=w.heap.size) (by omega)).ext (Mods.refl _ _).drew
        have o4:=(((o4.mods mA (fun g hg=>by have:=f4 g hg;omega)).mods mB (fun g hg=>by have:=f4 g hg;omega)).rebase (base':=w.heap.size) (by omega)).ext (Mods.refl _ _).drew
        have o5:=(((o5.mods mA (fun g hg=>by have:=f5 g hg;omega)).mods mB (fun g hg=>by have:=f5 g hg;omega)).rebase (base':=w.heap.size) (by omega)).ext (Mods.refl _ _).drew
        have o6:=(((o6.mods mA (fun g hg=>by have:=f6 g hg;omega)).mods mB (fun g hg=>by have:=f6 g hg;omega)).rebase (base':=w.heap.size) (by omega)).ext (Mods.refl _ _).drew
        refine bodyPost_ret (results_row_tmp_row_tmp rfl _ _ (w.heap.size+1) (w.heap.size+1+1) 26 26 _ _ _ rfl hA2.drew rfl hB.drew rfl Tryz.underlying26 rfl Tryz.nodeSz rfl) rfl ?_
        exact ⟨hx,.inl ⟨_,_,_,HBB.out,rfl,⟨_,_,_,rfl,o1,o2,o3⟩,⟨_,_,_,rfl,o4,o5,o6⟩⟩⟩
  · have HN:Hid (cutA n=none):=Lib.hid (cutA_none (by rw [← HM.out];exact hcut))
    have r0:=hR1.cell (o:=0) rfl
    have r1:=hR1.cell (o:=1) rfl
    have r2:=hR1.cell (o:=2) rfl
    have r3:=hR1.cell (o:=3) rfl
    have rf:=hR1.frozen
    have s0:=hR2.cell (o:=0) rfl
    have s1:=hR2.cell (o:=1) rfl
    have s2:=hR2.cell (o:=2) rfl
    have s3:=hR2.cell (o:=3) rfl
    have sf:=hR2.frozen
    have hA:=hR1.set4 (.bool false) (.slice none 0 0) (.slice none 0 0) (.slice none 0 0)
    have mA:=Mods.set4 (F:=fun k=>k=w.heap.size+1) (Mods.refl _ w1) (R:=w.heap.size+1) (.inr rfl) (.bool false) (.slice none 0 0) (.slice none 0 0) (.slice none 0 0)
    have hB:=(hR2.mods mA (by omega)).set4 (.bool false) (.slice none 0 0) (.slice none 0 0) (.slice none 0 0)
    have mB:=Mods.set4 (F:=fun k=>k=w.heap.size+1+1) (Mods.refl _ ((((w1.setCell ⟨w.heap.size+1,0,none⟩ (.bool false)).setCell ⟨w.heap.size+1,1,none⟩ (.slice none 0 0)).setCell ⟨w.heap.size+1,2,none⟩ (.slice none 0 0)).setCell ⟨w.heap.size+1,3,none⟩ (.slice none 0 0))) (R:=w.heap.size+1+1) (.inr rfl) (.bool false) (.slice none 0 0) (.slice none 0 0) (.slice none 0 0)
    have HA2:=Lib.hid (hA.mods mB (by omega))
    have HB2:=Lib.hid hB
    have HX2:=Lib.hid (Mods.set4 (Mods.set4 (HM0.out.trans HX1.out) (R:=w.heap.size+1) (.inl (by omega)) (.bool false) (.slice none 0 0) (.slice none 0 0) (.slice none 0 0)) (R:=w.heap.size+1+1) (.inl (by omega)) (.bool false) (.slice none 0 0) (.slice none 0 0) (.slice none 0 0))
    clear hR1 hR2 hA mA hB mB
    by_cases hr:rightN n=true
    · have hev:ev=.nilIface:=by
        have:nodeCk n=none:=by unfold nodeCk;rw [if_pos hr]
        rw [this] at hE;exact hE
      subst hev
      have hM0:M=0:=by
        rcases Nat.eq_zero_or_pos M with h | h
        · exact h
        · exact absurd ⟨hr,h⟩ hcut
      have hgo:=HT.out.1 hM0
      clear hE hcut hr
      go_wp2_with fail
      refine bodyPost_ret (results_row_tmp_row_tmp rfl _ _ (w.heap.size+1) (w.heap.size+1+1) 26 26 _ _ _ rfl HA2.out rfl HB2.out rfl Tryz.underlying26 rfl Tryz.nodeSz rfl) rfl ?_
      exact ⟨HX2.out,.inr ⟨HN.out,rfl⟩⟩
    · have hev:nodeCk n=some ([-1],1):=by unfold nodeCk;rw [if_neg hr]
      rw [hev] at hE
      obtain ⟨fb,rfl,_⟩:=hE
      clear hcut hr hev
      go_wp2_with fail
      refine bodyPost_ret (results_row_tmp_row_tmp rfl _ _ (w.heap.size+1) (w.heap.size+1+1) 26 26 _ _ _ rfl HA2.out rfl HB2.out rfl Tryz.underlying26 rfl Tryz.nodeSz rfl) rfl ?_
      exact ⟨HX2.out,.inr ⟨HN.out,rfl⟩⟩
end
structure VarR (F P:Nat→Prop) (w0 wr:World) (b:Nat) (c:Array Value) (t:TypeId):Prop where
  blk:Blk wr b c t
  f:F b
  p:¬ P b
  new:w0.heap.size≤b
section
variable {P P' F F':Nat→Prop} {ad:Nat→Addr} {w0 w w':World} {b b2:Nat} {c c2:Array Value} {t t2:TypeId}
theorem VarR.nxt (h:VarR F P w0 w b c t) (n:Nxt P P' F F' ad w w'):VarR F' P' w0 w' b c t:=⟨n.blk h.blk h.p,n.grow b h.f,n.not h.blk.lt h.p,h.new⟩
theorem VarR.ext (h:VarR F P w0 w b c t) (m:Ext w w'):VarR F P w0 w' b c t:=⟨h.blk.ext m,h.f,h.p,h.new⟩
theorem VarR.other (h:VarR F P w0 w b c t) {b2:Nat} (m:Mods (fun k=>k=b2) w w') (hb:b ≠ b2):VarR F P w0 w' b c t:=⟨h.blk.mods m hb,h.f,h.p,h.new⟩
end
section
variable {P P0 F F0:Nat→Prop} {ad:Nat→Addr} {w0 w w':World} {b:Nat} {cc:Array Value} {t:TypeId} {c s:Nat} {G:GA} {l:List Nat}
theorem PgR.var (h:PgR F w P c s G l) (v:VarR F P w0 w b cc t) (m:Mods (fun k=>k=b) w w'):PgR F w' P c s G l:=h.res m v.p v.f
theorem Nxt.var (n:Nxt P0 P F0 F ad w0 w) (v:VarR F P w0 w b cc t) (m:Mods (fun k=>k=b) w w'):Nxt P0 P F0 F ad w0 w':=n.resD m v.new v.f
theorem VarR.put (v:VarR F P w0 w b cc t) (i:Nat) (x:Value):VarR F P w0 (w.setCell ⟨b,i,none⟩ x) b (cc.setIfInBounds i x) t:=⟨v.blk.set i x,v.f,v.p,v.new⟩
theorem VarR.mF (v:VarR F P w0 w b cc t) (m:Mods (fun k=>k=b) w w'):Mods F w w':=m.mono (fun _ hk=>hk ▸ v.f)
end
def outC (o:OutA):Array Value:=#[.int .i64 (o.id0:Int),.int .i64 (o.id1:Int),.string o.key,.bool o.two,.bool o.news]
def out0:OutA:=⟨0,0,e0,false,false⟩
abbrev outZc:Array Value:=#[.int .i64 0,.int .i64 0,.string ⟨#[]⟩,.bool false,.bool false]
def OutP (F P:Nat→Prop) (ad:Nat→Addr) (w:World) (c s:Nat) (G:GA) (l:List Nat) (r:StA OutA) (e:Ending) (w':World):Prop :=
  ∃ (P' F':Nat→Prop) (G':GA) (l':List Nat),PgR F' w' P' c s G' l'∧Nxt P P' F F' ad w w' ∧
    ((∃ o, r = .inl (G', l', o) ∧ e = .returned (.tuple #[.agg (outC o), .nilIface])) ∨
     (∃ k o f el,r=.inr k∧FrG G l G' l'∧e=.returned (.tuple #[.agg (outC o),faultV f])∧ErrC F' ad w' (faultV f) el k))
theorem Tryz.outSz:(Tryz.prog.info? 127).map (·.size)=some 5:=by kernel_rfl
theorem downI_ok {G:GA} {l:List Nat} {old i:Nat} {n:NodeA} (h:downI G l old n=some i):downOk n G.size:=by
  unfold downI at h
  split at h
  · rename_i hd;exact hd
  · cases h
theorem downG_lim (G:GA) (l:List Nat) (gen old:Nat) (n:NodeA):(downG G l gen old n).size=G.size∧(downG G l gen old n).blocks=G.blocks∧(downG G l gen old n).cost≤G.cost+1:=by
  unfold downG
  split
  · exact ⟨rfl,rfl,by omega⟩
  · obtain ⟨h1,h2,h3⟩:=placeG_lim G l old
    exact ⟨h1,h2,by show (placeG G l old).cost+1≤_;omega⟩
structure SetOk (G:GA) (l:List Nat) (old:Nat) (n:NodeA):Prop where
  place:PlaceOf l old
  low:LowL l
  len:l.length≤G.blocks
  cost:G.cost+10≤1000000
  wt:weightN n≤100000
  bytes:rightN n=true→(bytesN n).length≤100000
  cut:¬ weightN n≤(G.size:Int) - 24→∃ a k b,cutA n=some (a,k,b)∧weightN a≤(G.size:Int) - 24∧weightN b≤(G.size:Int) - 24
  few:n.entries.length≤100000∧n.keys.length≤100000∧n.kids.length≤100000
section
variable {P P' F F':Nat→Prop} {ad:Nat→Addr} {w w':World} {c s:Nat} {G:GA} {l:List Nat}
set_option maxRecDepth 100000 in
set_option maxHeartbeats 4000000 in
theorem settleF_any (n:NodeA) (hF:weightN n≤(G.size:Int) - 24) (hL:Env F ad w) (hP:∀ k,P k→F k) (h:PgR F w P c s G l) (gen old:Nat) (hgen:gen < 18446744073709551616) (ve vk vi:Value) (hve:Sl F w 4 encE ve n.entries) (hvk:Sl F w 1 encS vk n.keys) (hvi:Sl F w 1 encI vi n.kids) (hok:SetOk G l old n) :
    Calls Tryz.prog 123 #[pgV c s gen,.int .i64 (old:Int),.agg #[.bool n.leaf,ve,vk,vi]] w (OutP F P ad w c s G l (settleA G l gen old n)):=by
  have HFF:=Lib.hid hF
  clear hF
  obtain ⟨w1,hw1⟩:∃ w1,w1=(((w.alloc (.cells #[.pointer (some ⟨c,0,none⟩),.pointer (some ⟨s,0,none⟩),.int .u64 (gen:Int)] 45)).alloc (.cells #[.bool n.leaf,ve,vk,vi] 26)).alloc (.cells outZc 127)).alloc (.cells outZc 127):=⟨_,rfl⟩
  have m0:Ext w w1:=by rw [hw1];exact ((((Mods.refl _ w).alloc _).alloc _).alloc _).alloc _
  have hz:w1.heap.size=w.heap.size+4:=by rw [hw1];simp
  have hN:Nxt P P F (fun k=>F k∨(w.heap.size≤k∧k < w1.heap.size)) ad w w1:=Nxt.new hL hP (Q:=fun k=>w.heap.size≤k∧k < w1.heap.size) m0 (fun k hk=>hk.1) (fun k hk=>hk.2)
  have HB:=Lib.hid (show VarR (fun k=>F k∨(w.heap.size≤k∧k < w1.heap.size)) P w w1 w.heap.size #[.pointer (some ⟨c,0,none⟩),.pointer (some ⟨s,0,none⟩),.int .u64 (gen:Int)] 45 from ⟨by rw [hw1];exact (((Blk.new w _ _).alloc _).alloc _).alloc _,.inr ⟨by omega,by omega⟩,fun hp=>by have:=h.bd _ hp;omega,by omega⟩)
  have HD:=Lib.hid (show VarR (fun k=>F k∨(w.heap.size≤k∧k < w1.heap.size)) P w w1 (w.heap.size+1) #[.bool n.leaf,ve,vk,vi] 26 from ⟨by rw [hw1];exact ((show Blk ((w.alloc _).alloc (.cells #[.bool n.leaf,ve,vk,vi] 26)) (w.heap.size+1) #[.bool n.leaf,ve,vk,vi] 26 from heap_at (by simp)).alloc _).alloc _,.inr ⟨by omega,by omega⟩,fun hp=>by have:=h.bd _ hp;omega,by omega⟩)
  have HR:=Lib.hid (show VarR (fun k=>F k∨(w.heap.size≤k∧k < w1.heap.size)) P w w1 (w.heap.size+1+1) outZc 127 from ⟨by rw [hw1];exact (show Blk (((w.alloc _).alloc _).alloc (.cells outZc 127)) (w.heap.size+1+1) outZc 127 from heap_at (by simp)).alloc _,.inr ⟨by omega,by omega⟩,fun hp=>by have:=h.bd _ hp;omega,by omega⟩)
  have HO:=Lib.hid (show VarR (fun k=>F k∨(w.heap.size≤k∧k < w1.heap.size)) P w w1 (w.heap.size+1+1+1) outZc 127 from ⟨by rw [hw1];exact heap_at (by simp),.inr ⟨by omega,by omega⟩,fun hp=>by have:=h.bd _ hp;omega,by omega⟩)
  have HG:=Lib.hid (h.plusNew hP (Q:=fun k=>w.heap.size≤k∧k < w1.heap.size) m0 (fun k hk=>hk.1))
  have HVE:=Lib.hid (hN.sl hP hve)
  have HVK:=Lib.hid (hN.sl hP hvk)
  have HVI:=Lib.hid (hN.sl hP hvi)
  have HLIM:=Lib.hid h.lim
  have HN:=Lib.hid hN
  have HOK:=Lib.hid hok
  have HSZ:=Lib.hid (fun W (m:Ext w1 W)=>inSize_any (HG.out.at m) gen)
  have HFT:Hid (∀ W,Ext w1 W → Calls Tryz.prog 16 #[.agg #[.bool n.leaf,ve,vk,vi],.int .i64 (G.size:Int)] W fun e w'=>e=.returned (.bool (decide (weightN n≤(G.size:Int) - 24)))∧Ext W w'):=Lib.hid (fun W m=>fits_any n ve vk vi W (HVE.out.ext m) (HVK.out.ext m) (by have:=hok.wt;omega) _ (by omega) (by have:=HLIM.out;omega))
  obtain ⟨ea,ec,rfl,_,_,_,_⟩:=hve
  obtain ⟨ka,kc,rfl,_,_,_,_⟩:=hvk
  obtain ⟨ia,ic,rfl,_,_,_,_⟩:=hvi
  have b0:=HB.out.blk.cell (o:=0) rfl
  have b1:=HB.out.blk.cell (o:=1) rfl
  have b2:=HB.out.blk.cell (o:=2) rfl
  have n0:=HD.out.blk.cell (o:=0) rfl
  have n1:=HD.out.blk.cell (o:=1) rfl
  have n2:=HD.out.blk.cell (o:=2) rfl
  have n3:=HD.out.blk.cell (o:=3) rfl
  have HW1:=Lib.hid hw1
  clear hL hP h m0 hN hok hw1
  unfold pgV at HSZ ⊢
  go_enter Tryz.func123, Tryz.ntmps123
  go_wp2_with fail
  rw [← HW1.out]
  go_cut [17] (fun v17 wx=>v17=.bool (decide (weightN n≤(G.size:Int) - 24))∧Hid (Ext w1 wx))
  case first =>
    go_region_held3 (fun w'=>w'.cell? ⟨w.heap.size+1,0,none⟩=some (.bool n.leaf)∧w'.cell? ⟨w.heap.size+1,1,none⟩=some (.slice ea n.entries.length ec)∧w'.cell? ⟨w.heap.size+1,2,none⟩=some (.slice ka n.keys.length kc)∧w'.cell? ⟨w.heap.size+1,3,none⟩=some (.slice ia n.kids.length ic) ∧
        w'.cell? ⟨w.heap.size,0,none⟩=some (.pointer (some ⟨c,0,none⟩))∧w'.cell? ⟨w.heap.size,1,none⟩=some (.pointer (some ⟨s,0,none⟩))∧w'.cell? ⟨w.heap.size,2,none⟩=some (.int .u64 (gen:Int)))
      (first | (with_reducible exact ⟨n0,n1,n2,n3,b0,b1,b2⟩) | (with_reducible exact ⟨y0,y1,y2,y3,d0,d1,d2⟩) | (with_reducible exact ⟨z0,z1,z2,z3,f0,f1,f2⟩) | go_keep)
      (first
        | (go_at_call 125;(with_reducible refine (HSZ.out _ (Mods.refl _ w1).drew).mono ?_);rintro e w2 ⟨rfl,hm2⟩;have y0:=cellE hm2 n0;have y1:=cellE hm2 n1;have y2:=cellE hm2 n2;have y3:=cellE hm2 n3;have d0:=cellE hm2 b0;have d1:=cellE hm2 b1;have d2:=cellE hm2 b2)
        | (go_at_call 16;refine (HFT.out _ ((Mods.refl _ w1).drew.trans hm2)).mono ?_;rintro e w3 ⟨rfl,hm3⟩;have z0:=cellE hm3 y0;have z1:=cellE hm3 y1;have z2:=cellE hm3 y2;have z3:=cellE hm3 y3;have f0:=cellE hm3 d0;have f1:=cellE hm3 d1;have f2:=cellE hm3 d2)
        | fail)
    all_goals
      go_wp2_with fail
      go_meet
      exact ⟨rfl,Lib.hid ((Mods.refl _ w1).drew.trans (hm2.trans hm3))⟩
  obtain ⟨rfl,HX⟩:=hcut
  have HB:=Lib.hid (HB.out.ext HX.out)
  have HD:=Lib.hid (HD.out.ext HX.out)
  have HR:=Lib.hid (HR.out.ext HX.out)
  have HO:=Lib.hid (HO.out.ext HX.out)
  have HN1:=Lib.hid (HN.out.trans (Nxt.ext HN.out.env HN.out.sub HX.out))
  have HG:=Lib.hid (HG.out.at HX.out)
  have b0:=HB.out.blk.cell (o:=0) rfl
  have b1:=HB.out.blk.cell (o:=1) rfl
  have b2:=HB.out.blk.cell (o:=2) rfl
  have n0:=HD.out.blk.cell (o:=0) rfl
  have n1:=HD.out.blk.cell (o:=1) rfl
  have n2:=HD.out.blk.cell (o:=2) rfl
  have n3:=HD.out.blk.cell (o:=3) rfl
  cases hfit:decide (weightN n≤(G.size:Int) - 24) with
  | true =>
    have HFT:=Lib.hid (of_decide_eq_true hfit)
    have HDW:=Lib.hid (down_any HN1.out.env HN1.out.sub HG.out gen old hgen n _ _ _ (HVE.out.ext HX.out) (HVK.out.ext HX.out) (HVI.out.ext HX.out) HOK.out.bytes HOK.out.place.ok HOK.out.place.two (HOK.out.place.lt (by have:=HLIM.out;omega)) HOK.out.len (by have:=HOK.out.cost;omega))
    unfold pgV at HDW
    clear hfit
    go_wp2_with fail
    refine HDW.out.mono ?_
    rintro e w2 ⟨P2,F2,hG2,hN2,hr⟩
    have HR2:=Lib.hid (HR.out.nxt hN2)
    have hO2:=HO.out.nxt hN2
    have HG2:=Lib.hid hG2
    have HN2:=Lib.hid (HN1.out.trans hN2)
    have o0:=hO2.blk.cell (o:=0) rfl
    have o1:=hO2.blk.cell (o:=1) rfl
    have o2:=hO2.blk.cell (o:=2) rfl
    have o3:=hO2.blk.cell (o:=3) rfl
    have o4:=hO2.blk.cell (o:=4) rfl
    have of:=hO2.blk.frozen
    have HO2:=Lib.hid hO2
    have r0:=HR2.out.blk.cell (o:=0) rfl
    have r1:=HR2.out.blk.cell (o:=1) rfl
    have r2:=HR2.out.blk.cell (o:=2) rfl
    have r3:=HR2.out.blk.cell (o:=3) rfl
    have r4:=HR2.out.blk.cell (o:=4) rfl
    have rf:=HR2.out.blk.frozen
    clear hG2 hN2 hO2
    rcases hr with ⟨i,hi,rfl⟩ | ⟨hi,f,el,rfl,hE⟩
    · have HSA:Hid (settleA G l gen old n=.inl (downG G l gen old n,downL G l old n,⟨i,0,e0,false,false⟩)):=Lib.hid (by unfold settleA;rw [if_pos HFT.out,hi])
      clear hi
      go_wp2_with fail
      have mO:=Mods.at (fun k=>k=w.heap.size+1+1+1) w2 (w.heap.size+1+1+1) 0 (.int .i64 (i:Int)) rfl
      have g3:=HG2.out.var HO2.out mO
      have n3:=HN2.out.var HO2.out mO
      have r3:=HR2.out.other mO (by omega)
      have mR:=Mods.set5 (F:=fun k=>k=w.heap.size+1+1) (Mods.refl _ (w2.setCell ⟨w.heap.size+1+1+1,0,none⟩ (.int .i64 (i:Int)))) (R:=w.heap.size+1+1) (.inr rfl) (.int .i64 (i:Int)) (.int .i64 0) (.string ⟨#[]⟩) (.bool false) (.bool false)
      have bR:=r3.blk.set5 (.int .i64 (i:Int)) (.int .i64 0) (.string ⟨#[]⟩) (.bool false) (.bool false)
      refine bodyPost_ret (results_row_tmp rfl _ _ (w.heap.size+1+1) 127 _ _ rfl bR Tryz.underlying127 rfl Tryz.outSz) rfl ?_
      exact ⟨P2,F2,_,_,g3.var r3 mR,n3.var r3 mR,.inl ⟨_,HSA.out,rfl⟩⟩
    · have HSA:Hid (settleA G l gen old n=.inr (downK G n)):=Lib.hid (by unfold settleA;rw [if_pos HFT.out,hi])
      have HFR:Hid (FrG G l (downG G l gen old n) (downL G l old n)):=Lib.hid (fr_down HOK.out.place (by rw [HOK.out.low.1];simp))
      have HE:=Lib.hid hE
      clear hi hE
      go_wp2_with fail
      have mO:=Mods.at (fun k=>k=w.heap.size+1+1+1) w2 (w.heap.size+1+1+1) 0 (.int .i64 0) rfl
      have g3:=HG2.out.var HO2.out mO
      have n3:=HN2.out.var HO2.out mO
      have r3:=HR2.out.other mO (by omega)
      have mR:=Mods.set5 (F:=fun k=>k=w.heap.size+1+1) (Mods.refl _ (w2.setCell ⟨w.heap.size+1+1+1,0,none⟩ (.int .i64 0))) (R:=w.heap.size+1+1) (.inr rfl) (.int .i64 0) (.int .i64 0) (.string ⟨#[]⟩) (.bool false) (.bool false)
      have bR:=r3.blk.set5 (.int .i64 0) (.int .i64 0) (.string ⟨#[]⟩) (.bool false) (.bool false)
      refine bodyPost_ret (results_row_tmp rfl _ _ (w.heap.size+1+1) 127 _ _ rfl bR Tryz.underlying127 rfl Tryz.outSz) rfl ?_
      exact ⟨P2,F2,_,_,g3.var r3 mR,n3.var r3 mR,.inr ⟨_,out0,_,_,HSA.out,HFR.out,rfl,(HE.out.mods (HO2.out.mF mO)).mods (r3.mF mR)⟩⟩
  | false=>exact absurd HFF.out (of_decide_eq_false hfit)
end
end Go.Proofs.YtphafjmdhmpkbaaGreatDoor
