import Derived.Test.YtchklfmggpconaaGreatDoorK32
import Derived.BigQuiet
import Derived.Deep.RegionHeld3
import Derived.IntWalk
import Derived.Deep.RegionLawGrows
import Derived.Deep.CutBlock
import Derived.Deep.DeepCutAuto
namespace Go.Proofs.YtchklfmggpconaaGreatDoor
open Lib renaming hid→oh
set_option maxRecDepth 100000
section
open Go.RowKit
attribute [local go_sem ↓] Go.wp_at_zero Go.wp_at_succ
theorem cutA_some{n:NodeA}(hr:rightN n=true)(hm:0<cutMany n):cutA n=some (apartA n (firstMin (unlikeA n) (cutFrom n) (cutFrom n) (cutMany n))):=by
 unfold cutA;rw[if_pos ⟨hr,hm⟩]
theorem cutA_none{n:NodeA}(h:¬ (rightN n=true∧0<cutMany n)):cutA n=none:=by
 unfold cutA;rw[if_neg h]
theorem apart_lens(n:NodeA)(a:Nat):(apartA n a).1.entries.length≤n.entries.length∧(apartA n a).1.keys.length≤n.keys.length∧(apartA n a).2.2.entries.length≤n.entries.length∧(apartA n a).2.2.keys.length≤n.keys.length:=by
 unfold apartA;split <;> simp only[List.length_take,List.length_drop,List.length_nil] <;> omega
section
variable {F:Nat→Prop}{ad:Nat→Addr}{w w':World}
set_option maxHeartbeats 4000000 in
theorem cut_any(hL:Env F ad w)(n:NodeA)(ve vk vi:Value)(hve:Sl F w 4 encE ve n.entries)(hvk:Sl F w 1 encS vk n.keys)(hvi:Sl F w 1 encI vi n.kids)(hlen:rightN n=true→(bytesN n).length≤100000)(hb1:n.entries.length≤100000)(hb2:n.kids.length≤100000)(hb5:n.keys.length≤100000) :
  Calls Tryz.prog 128 #[.agg #[.bool n.leaf,ve,vk,vi]] w (CutR w n):=by
 have HCK:=oh (λW (m:Ext w W)=>nodeCheck_any (hL.mods m.ext) n ve vk vi (hve.ext m) (hvk.ext m) (hvi.ext m));have HVE:=oh hve;have HVK:=oh hvk;have HVI:=oh hvi;obtain⟨ea,ec,rfl,he1,he2,he3,_⟩:=hve;obtain⟨ka,kc,rfl,_,_,_,_⟩:=hvk;obtain⟨ia,ic,rfl,hi1,hi2,hi3,_⟩:=hvi;unfold maxLen at he2 hi2;obtain⟨fr,hfr⟩:∃fr,fr=cutFrom n:=⟨_,rfl⟩;obtain⟨M,hM⟩:∃M,M=cutMany n:=⟨_,rfl⟩;have HFR:=oh hfr;have HM:=oh hM;have HLEN:=oh hlen;obtain⟨lf,hlf⟩:∃lf,n.leaf=lf:=⟨_,rfl⟩;rw[hlf] at HCK ⊢;have HLF:=oh hlf;obtain⟨w0,hw0⟩:∃w0,w0=((w.alloc (.cells #[.bool lf,.slice ea n.entries.length ec,.slice ka n.keys.length kc,.slice ia n.kids.length ic] 118)).alloc (.cells nodeZc 118)).alloc (.cells nodeZc 118):=⟨_,rfl⟩;have HM0:Hid (Ext w w0):=oh (by rw[hw0];exact (((Mods.refl _ w).alloc _).alloc _).alloc _);have HB0:Hid (Blk w0 w.heap.size #[.bool lf,.slice ea n.entries.length ec,.slice ka n.keys.length kc,.slice ia n.kids.length ic] 118):=oh (by rw[hw0];exact ((Blk.new w _ _).alloc _).alloc _);have HR1:Hid (Blk w0 (w.heap.size+1) nodeZc 118):=oh (by rw[hw0];exact (show Blk ((w.alloc _).alloc (.cells nodeZc 118)) (w.heap.size+1) nodeZc 118 from heap_at (by simp)).alloc _);have HR2:Hid (Blk w0 (w.heap.size+1+1) nodeZc 118):=oh (by rw[hw0];exact heap_at (by simp));have HFM:Hid ((lf=true→fr=1∧M=n.entries.length-1)∧(lf=false→fr=2∧M=n.kids.length-3)):=oh (by
  rw[hfr,hM];unfold cutFrom cutMany;rw[hlf];exact⟨λh=>by rw[h];exact⟨rfl,rfl⟩,λh=>by rw[h];exact⟨rfl,rfl⟩⟩)
 have b0:=HB0.out.cell (o:=0) rfl;have b1:=HB0.out.cell (o:=1) rfl;have b2:=HB0.out.cell (o:=2) rfl;have b3:=HB0.out.cell (o:=3) rfl;have u1:IntKind.i64.wrap ((n.entries.length:Int)-1)=(n.entries.length:Int)-1:=by rw[IntWalk.i64_in _ (by omega)]
 have u2:IntKind.i64.wrap ((n.kids.length:Int)-2)=(n.kids.length:Int)-2:=by rw[IntWalk.i64_in _ (by omega)]
 have HW0:=oh hw0;clear hfr hM hlen hL hlf hw0;obtain⟨T,hT⟩:∃T:Int,(M=0→T<(fr:Int))∧(0<M→T=(fr:Int)+(M:Int)-1)∧T=(if lf=true then (n.entries.length:Int)-1 else (n.kids.length:Int)-2):=⟨_,by
  have:=HFM.out;cases lf
  ·obtain⟨h1,h2⟩:=this.2 rfl;simp only[Bool.false_eq_true,if_false];omega
  ·obtain⟨h1,h2⟩:=this.1 rfl;simp only[if_true];omega,by
  have:=HFM.out;cases lf
  ·obtain⟨h1,h2⟩:=this.2 rfl;simp only[Bool.false_eq_true,if_false];omega
  ·obtain⟨h1,h2⟩:=this.1 rfl;simp only[if_true];omega,rfl⟩
 have HT:=oh hT;clear hT
 go_enter Tryz.func128, Tryz.ntmps128
 go_wp2_with fail;rw[← HW0.out];go_quiet (fail)
 go_upto_if 24 with fail
 go_cut [6,7] (λv6 v7 wx=>v6=.int .i64 (fr:Int)∧v7=.int .i64 T∧Hid (Ext w0 wx))
 case first =>
  cases lf
  ·have HTT:=HT.out.2.2;have HF:=HFM.out.2 rfl;simp only[Bool.false_eq_true,if_false] at HTT;go_wp2_with fail;go_quiet (fail)
   go_wp2_with fail;go_meet;exact⟨by rw[HF.1];rfl,by rw[HTT],oh (((Mods.refl _ _).drewN _).drewN _)⟩
  ·have HTT:=HT.out.2.2;have HF:=HFM.out.1 rfl;simp only[if_true] at HTT;go_wp2_with fail;go_meet;exact⟨by rw[HF.1];rfl,by rw[HTT],oh ((Mods.refl _ _).drewN _)⟩
 obtain⟨rfl,rfl,HX⟩:=hcut;have b0:=(HB0.out.ext HX.out).cell (o:=0) rfl;have b1:=(HB0.out.ext HX.out).cell (o:=1) rfl;have b2:=(HB0.out.ext HX.out).cell (o:=2) rfl;have b3:=(HB0.out.ext HX.out).cell (o:=3) rfl;go_wp2_with fail;refine (HCK.out _ (HM0.out.trans HX.out)).mono ?_;rintro e w1 ⟨ev,rfl,hE,hm1⟩;have HX1:=oh (HX.out.trans hm1);have hR1:=HR1.out.ext HX1.out;have hR2:=HR2.out.ext HX1.out;clear hm1 b0 b1 b2 b3;by_cases hcut:rightN n=true∧0<M
 ·obtain⟨hr,hMp⟩:=hcut;have hev:ev=.nilIface:=by
   have:nodeCk n=none:=by unfold nodeCk;rw[if_pos hr]
   rw[this] at hE;exact hE
  subst hev;have HR:=oh hr;have hform:=form_right hr;have HFO:=oh hform;have HWN:Hid (weightN n≤100000):=oh (by rw[weight_len hform];have:=HLEN.out hr;omega);have hT:=HT.out.2.1 hMp;have hfr2:fr≤2:=by
   have:=HFM.out;cases lf
   ·have:=(this.2 rfl).1;omega
   ·have:=(this.1 rfl).1;omega
  have hM2:M≤100000:=by
   have:=HFM.out;cases lf
   ·have:=(this.2 rfl).2;omega
   ·have:=(this.1 rfl).2;omega
  have hgo:(fr:Int)≤T:=by omega
  have HPL:Hid (∀p,fr≤p→p<fr+M→PlaceN n p):=oh (λp h1 h2=>place_in (by rw[← HFR.out];exact h1) (by rw[← HFR.out,← HM.out];exact h2));have HUB:Hid (∀p,PlaceN n p→weightN (apartA n p).1≤100000∧weightN (apartA n p).2.2≤100000∧2≤weightN (apartA n p).1∧2≤weightN (apartA n p).2.2):=oh (λp _=>by
   have:=apart_weight (n:=n) (a:=p);have:=HWN.out;have:=weight_pos (apartA n p).1;have:=weight_pos (apartA n p).2.2;omega)
  have HAP:Hid (∀W,Ext w0 W→∀p,PlaceN n p → Calls Tryz.prog 169 #[.agg #[.bool lf,.slice ea n.entries.length ec,.slice ka n.keys.length kc,.slice ia n.kids.length ic],.int .i64 (p:Int)] W (ApartR W (apartA n p))):=oh (λW m p hp =>
   apart_any n HFO.out _ _ _ (HVE.out.ext (HM0.out.trans m)) (HVK.out.ext (HM0.out.trans m)) (HVI.out.ext (HM0.out.trans m)) p hp hb1 hb2 lf HLF.out)
  clear hE hr hform hR1 hR2;go_wp2_with fail;go_loopg [8,9,10] M (λm v8 v9 v10 wr=>∃(j b:Nat) (z:Int),j+m=M∧v10=.int .i64 (((fr+j:Nat):Int))∧v8=.int .i64 (b:Int)∧v9=.int .i64 z∧fr≤b∧b<fr+M∧z≤100000∧Hid ((j=0→z = -1∧b=fr)∧(0<j→z=(unlikeA n b:Int))∧firstMin (unlikeA n) b (fr+j) m=firstMin (unlikeA n) fr fr M)∧Hid (Ext w0 wr))
  case atStart=>exact⟨0,fr, -1,by omega,rfl,rfl,rfl,by omega,by omega,by omega,oh ⟨λ_=>⟨rfl,rfl⟩,λh=>by omega,rfl⟩,HX1⟩
  case round =>
   obtain⟨j,b,z,hjm,rfl,rfl,rfl,hb3,hb4,hz,HQ,HXR⟩:=hrel;have b0:=(HB0.out.ext HXR.out).cell (o:=0) rfl;have b1:=(HB0.out.ext HXR.out).cell (o:=1) rfl;have b2:=(HB0.out.ext HXR.out).cell (o:=2) rfl;have b3:=(HB0.out.ext HXR.out).cell (o:=3) rfl;by_cases hlt:j<M
   ·have hp:=HPL.out (fr+j) (by omega) (by omega);have hle:((fr+j:Nat):Int)≤T:=by omega
    go_wp2_with fail;refine (HAP.out _ HXR.out (fr+j) hp).mono ?_;have HUQ:=HUB.out _ hp;have HUE:=unlike_eq HFO.out hp;have HLE:=apart_lens n (fr+j);generalize apartA n (fr+j)=x at HUQ HUE HLE
    obtain⟨A,kx,B⟩:=x;rintro e w2 ⟨va,vb,rfl,hA,hB,hm2⟩;simp only at hA hB HUQ HUE HLE;have HWA0:=λW (m:Ext w2 W)=>weightO A hA (by omega) (by omega) HUQ.1 W m
    have HWB0:=λW (m:Ext w2 W)=>weightO B hB (by omega) (by omega) HUQ.2.1 W m
    obtain⟨e1,k1,i1,rfl,oe1,ok1,oi1⟩:=hA;obtain⟨e2,k2,i2,rfl,oe2,ok2,oi2⟩:=hB;obtain⟨ea1,ec1,rfl,_,_⟩:=oe1.form;obtain⟨ka1,kc1,rfl,_,_⟩:=ok1.form;obtain⟨ia1,ic1,rfl,_,_⟩:=oi1.form;obtain⟨ea2,ec2,rfl,_,_⟩:=oe2.form;obtain⟨ka2,kc2,rfl,_,_⟩:=ok2.form;obtain⟨ia2,ic2,rfl,_,_⟩:=oi2.form;obtain⟨wa,hwa⟩:∃wa,wa=weightN A:=⟨_,rfl⟩;obtain⟨wb,hwb⟩:∃wb,wb=weightN B:=⟨_,rfl⟩;rw[← hwa] at HWA0 HUQ HUE;rw[← hwb] at HWB0 HUQ HUE;have HWA:=oh HWA0;have HWB:=oh HWB0;obtain⟨D,hD⟩:∃D:Int,D=(unlikeA n (fr+j):Int):=⟨_,rfl⟩;rw[← hD] at HUE;have HD:=oh hD;have hq1:=HUQ.1;have hq2:=HUQ.2.1;have hq3:=HUQ.2.2.1;have hq4:=HUQ.2.2.2;have HUE2:=oh HUE;obtain⟨w3,hw3⟩:∃w3,w3=(w2.alloc (.cells #[.bool A.leaf,.slice ea1 A.entries.length ec1,.slice ka1 A.keys.length kc1,.slice ia1 A.kids.length ic1] 118)).alloc (.cells #[.bool B.leaf,.slice ea2 B.entries.length ec2,.slice ka2 B.keys.length kc2,.slice ia2 B.kids.length ic2] 118):=⟨_,rfl⟩;have HM3:Hid (Ext w2 w3):=oh (by rw[hw3];exact ((Mods.refl _ _).alloc _).alloc _);have hxa:Blk w3 w2.heap.size #[.bool A.leaf,.slice ea1 A.entries.length ec1,.slice ka1 A.keys.length kc1,.slice ia1 A.kids.length ic1] 118:=by rw[hw3];exact (Blk.new w2 _ _).alloc _
    have hxb:Blk w3 (w2.heap.size+1) #[.bool B.leaf,.slice ea2 B.entries.length ec2,.slice ka2 B.keys.length kc2,.slice ia2 B.kids.length ic2] 118:=by rw[hw3];exact heap_at (by simp)
    have p0:=hxa.cell (o:=0) rfl;have p1:=hxa.cell (o:=1) rfl;have p2:=hxa.cell (o:=2) rfl;have p3:=hxa.cell (o:=3) rfl;have q0:=hxb.cell (o:=0) rfl;have q1:=hxb.cell (o:=1) rfl;have q2:=hxb.cell (o:=2) rfl;have q3:=hxb.cell (o:=3) rfl;have HXR3:=oh (HXR.out.trans (hm2.trans HM3.out));have HW3:=oh hw3;have xm:=(Mods.refl (λ_=>False) w3).drew;have u3:IntKind.i64.wrap (wa-wb)=wa-wb:=by rw[IntWalk.i64_in _ (by omega)]
    clear HWA0 HWB0 hwa hwb HUQ HUE HLE hw3 hxa hxb hm2 oe1 ok1 oi1 oe2 ok2 oi2 hD;go_wp2_with fail;rw[← HW3.out];go_cut [14] (λv14 wx=>v14=.int .i64 (wa-wb)∧Hid (Ext w3 wx))
    case first =>
     go_region_held3 (λw'=>w'.cell? ⟨w2.heap.size,0,none⟩=some (.bool A.leaf)∧w'.cell? ⟨w2.heap.size,1,none⟩=some (.slice ea1 A.entries.length ec1)∧w'.cell? ⟨w2.heap.size,2,none⟩=some (.slice ka1 A.keys.length kc1)∧w'.cell? ⟨w2.heap.size,3,none⟩=some (.slice ia1 A.kids.length ic1) ∧
       w'.cell? ⟨w2.heap.size+1,0,none⟩=some (.bool B.leaf)∧w'.cell? ⟨w2.heap.size+1,1,none⟩=some (.slice ea2 B.entries.length ec2)∧w'.cell? ⟨w2.heap.size+1,2,none⟩=some (.slice ka2 B.keys.length kc2)∧w'.cell? ⟨w2.heap.size+1,3,none⟩=some (.slice ia2 B.kids.length ic2))
      (first|(with_reducible exact⟨p0,p1,p2,p3,q0,q1,q2,q3⟩)|go_keep)
      (first
       | (go_at_call 132;(with_reducible refine (HWA.out _ (HM3.out.trans xm)).mono ?_);rintro e wz ⟨rfl,hmz⟩;have p0:=cellE hmz p0;have p1:=cellE hmz p1;have p2:=cellE hmz p2;have p3:=cellE hmz p3;have q0:=cellE hmz q0;have q1:=cellE hmz q1;have q2:=cellE hmz q2;have q3:=cellE hmz q3;have xm:=xm.trans hmz)
       | (go_at_call 132;(with_reducible refine (HWB.out _ (HM3.out.trans xm)).mono ?_);rintro e wz ⟨rfl,hmz⟩;have p0:=cellE hmz p0;have p1:=cellE hmz p1;have p2:=cellE hmz p2;have p3:=cellE hmz p3;have q0:=cellE hmz q0;have q1:=cellE hmz q1;have q2:=cellE hmz q2;have q3:=cellE hmz q3;have xm:=xm.trans hmz)
       | fail)
     all_goals
      go_wp2_with fail;go_meet;exact⟨rfl,oh xm⟩
    obtain⟨rfl,HXC⟩:=hcut;have HXC:=oh (HXR3.out.trans HXC.out);clear xm p0 p1 p2 p3 q0 q1 q2 q3;go_upto_if 59 with fail
    go_cut [14] (λv14 wx=>v14=.int .i64 D∧Hid (wx=wc))
    case first =>
     by_cases hd:wa-wb<0
     ·go_wp2_with fail;go_meet;exact⟨by have:=HUE2.out;rw[if_pos hd] at this;rw[this],oh rfl⟩
     ·go_wp2_with fail;go_meet;exact⟨by have:=HUE2.out;rw[if_neg (by omega)] at this;rw[this],oh rfl⟩
    obtain⟨rfl,HE⟩:=hcut;obtain rfl:=HE.out;have hDn:0≤D∧D≤100000:=by have:=HUE2.out;split at this <;> omega
    obtain⟨hDn1,hDn2⟩:=hDn;obtain⟨m,rfl⟩:∃m,gk=m+1:=⟨gk-1,by omega⟩;by_cases hz0:z<0
    ·have HJ:Hid (j=0∧b=fr):=oh (by
      obtain⟨h1,h2,_⟩:=HQ.out;rcases Nat.eq_zero_or_pos j with h|h
      ·exact⟨h,(h1 h).2⟩
      ·have:=h2 h;omega)
     go_wp2_with fail;go_roundg m
     case measure=>omega
     case rel=>exact⟨j+1,fr+j,D,by omega,by go_num,by go_num,rfl,by omega,by omega,by omega,oh ⟨λh=>by omega,λ_=>HD.out,by
      have:=HQ.out.2.2;rw[HJ.out.2,HJ.out.1,Nat.add_zero,firstMin_same] at this;rw[HJ.out.1,Nat.add_zero,Nat.zero_add];exact this⟩,HXC⟩
    ·have hj0:0<j:=by
      rcases Nat.eq_zero_or_pos j with h|h
      ·have:=(HQ.out.1 h).1;omega
      ·exact h
     have HZ:Hid (z=(unlikeA n b:Int)):=oh (HQ.out.2.1 hj0);by_cases hdz:D<z
     ·go_wp2_with fail;go_roundg m
      case measure=>omega
      case rel=>exact⟨j+1,fr+j,D,by omega,by go_num,by go_num,rfl,by omega,by omega,by omega,oh ⟨λh=>by omega,λ_=>HD.out,by
       have:=HQ.out.2.2;rw[firstMin,if_pos (by have:=HD.out;have:=HZ.out;omega)] at this;exact this⟩,HXC⟩
     ·go_wp2_with fail;go_roundg m
      case measure=>omega
      case rel=>exact⟨j+1,b,z,by omega,by go_num,rfl,rfl,by omega,by omega,by omega,oh ⟨λh=>by omega,λ_=>HZ.out,by
       have:=HQ.out.2.2;rw[firstMin,if_neg (by have:=HD.out;have:=HZ.out;omega)] at this;exact this⟩,HXC⟩
   ·have hle:¬ ((fr+j:Nat):Int)≤T:=by omega
    have hp:=HPL.out b hb3 hb4;go_wp2_with fail;refine (HAP.out _ HXR.out b hp).mono ?_;have HBB:Hid (cutA n=some (apartA n b)):=oh (by
     rw[cutA_some HR.out (by rw[← HM.out];exact hMp),← HFR.out,← HM.out,← HQ.out.2.2,show gk=0 by omega,firstMin])
    generalize apartA n b=x at HBB
    obtain⟨A,kx,B⟩:=x;rintro e w2 ⟨va,vb,rfl,hA,hB,hm2⟩;simp only at hA hB;obtain⟨e1,k1,i1,rfl,oe1,ok1,oi1⟩:=hA;obtain⟨e2,k2,i2,rfl,oe2,ok2,oi2⟩:=hB;obtain⟨ea1,ec1,rfl,_,_⟩:=oe1.form;obtain⟨ka1,kc1,rfl,_,_⟩:=ok1.form;obtain⟨ia1,ic1,rfl,_,_⟩:=oi1.form;obtain⟨ea2,ec2,rfl,_,_⟩:=oe2.form;obtain⟨ka2,kc2,rfl,_,_⟩:=ok2.form;obtain⟨ia2,ic2,rfl,_,_⟩:=oi2.form;obtain⟨w3,hw3⟩:∃w3,w3=(w2.alloc (.cells #[.bool A.leaf,.slice ea1 A.entries.length ec1,.slice ka1 A.keys.length kc1,.slice ia1 A.kids.length ic1] 118)).alloc (.cells #[.bool B.leaf,.slice ea2 B.entries.length ec2,.slice ka2 B.keys.length kc2,.slice ia2 B.kids.length ic2] 118):=⟨_,rfl⟩;have hm3:Ext w2 w3:=by rw[hw3];exact ((Mods.refl _ _).alloc _).alloc _
    have hxa:Blk w3 w2.heap.size #[.bool A.leaf,.slice ea1 A.entries.length ec1,.slice ka1 A.keys.length kc1,.slice ia1 A.kids.length ic1] 118:=by rw[hw3];exact (Blk.new w2 _ _).alloc _
    have hxb:Blk w3 (w2.heap.size+1) #[.bool B.leaf,.slice ea2 B.entries.length ec2,.slice ka2 B.keys.length kc2,.slice ia2 B.kids.length ic2] 118:=by rw[hw3];exact heap_at (by simp)
    have HXW:=HXR.out.trans (hm2.trans hm3);have HMM:=oh (HM0.out.trans HXW);have hR1:=HR1.out.ext HXW;have hR2:=HR2.out.ext HXW;have o1:=oe1.ext hm3;have o2:=ok1.ext hm3;have o3:=oi1.ext hm3;have o4:=oe2.ext hm3;have o5:=ok2.ext hm3;have o6:=oi2.ext hm3;have p0:=hxa.cell (o:=0) rfl;have p1:=hxa.cell (o:=1) rfl;have p2:=hxa.cell (o:=2) rfl;have p3:=hxa.cell (o:=3) rfl;have q0:=hxb.cell (o:=0) rfl;have q1:=hxb.cell (o:=1) rfl;have q2:=hxb.cell (o:=2) rfl;have q3:=hxb.cell (o:=3) rfl;have r0:=hR1.cell (o:=0) rfl;have r1:=hR1.cell (o:=1) rfl;have r2:=hR1.cell (o:=2) rfl;have r3:=hR1.cell (o:=3) rfl;have rf:=hR1.frozen;have s0:=hR2.cell (o:=0) rfl;have s1:=hR2.cell (o:=1) rfl;have s2:=hR2.cell (o:=2) rfl;have s3:=hR2.cell (o:=3) rfl;have sf:=hR2.frozen;have hz0:w.heap.size+1+1<w0.heap.size:=HR2.out.lt;have hz1:w.heap.size+1+1<wr.heap.size:=Nat.lt_of_lt_of_le hz0 HXR.out.size;have hz2:wr.heap.size≤w2.heap.size:=hm2.size;have hz3:w2.heap.size≠w.heap.size+1:=by omega
    have hz4:w2.heap.size≠w.heap.size+1+1:=by omega
    have hz5:w2.heap.size+1≠w.heap.size+1:=by omega
    have hz6:w2.heap.size+1≠w.heap.size+1+1:=by omega
    have HRA:=oh hR1;have HRB:=oh hR2;have HO:=oh (And.intro o1 (And.intro o2 (And.intro o3 (And.intro o4 (And.intro o5 o6)))));have HW3:=oh hw3;clear hR1 hR2 hxa hxb hm2 hm3 HXW o1 o2 o3 o4 o5 o6 oe1 ok1 oi1 oe2 ok2 oi2 hw3;go_wp2_with fail;rw[← HW3.out];go_region
    go_wp2_with fail;have mA:=Mods.set4 (F:=λk=>k=w.heap.size+1) (Mods.refl _ w3) (R:=w.heap.size+1) (.inr rfl) (.bool A.leaf) (.slice ea1 A.entries.length ec1) (.slice ka1 A.keys.length kc1) (.slice ia1 A.kids.length ic1);have hA:=HRA.out.set4 (.bool A.leaf) (.slice ea1 A.entries.length ec1) (.slice ka1 A.keys.length kc1) (.slice ia1 A.kids.length ic1);have hB0:=HRB.out.mods mA (by omega);have hB:=hB0.set4 (.bool B.leaf) (.slice ea2 B.entries.length ec2) (.slice ka2 B.keys.length kc2) (.slice ia2 B.kids.length ic2);have mB:=Mods.set4 (F:=λk=>k=w.heap.size+1+1) (Mods.refl _ ((((w3.setCell ⟨w.heap.size+1,0,none⟩ (.bool A.leaf)).setCell ⟨w.heap.size+1,1,none⟩ (.slice ea1 A.entries.length ec1)).setCell ⟨w.heap.size+1,2,none⟩ (.slice ka1 A.keys.length kc1)).setCell ⟨w.heap.size+1,3,none⟩ (.slice ia1 A.kids.length ic1))) (R:=w.heap.size+1+1) (.inr rfl) (.bool B.leaf) (.slice ea2 B.entries.length ec2) (.slice ka2 B.keys.length kc2) (.slice ia2 B.kids.length ic2);have hA2:=hA.mods mB (by omega);have hx:=(Mods.set4 (Mods.set4 HMM.out (R:=w.heap.size+1) (.inl (by omega)) (.bool A.leaf) (.slice ea1 A.entries.length ec1) (.slice ka1 A.keys.length kc1) (.slice ia1 A.kids.length ic1)) (R:=w.heap.size+1+1) (.inl (by omega)) (.bool B.leaf) (.slice ea2 B.entries.length ec2) (.slice ka2 B.keys.length kc2) (.slice ia2 B.kids.length ic2)).drew;obtain⟨o1,o2,o3,o4,o5,o6⟩:=HO.out;have f1:=λg hg=>(o1.lt g hg).1
    have f2:=λg hg=>(o2.lt g hg).1
    have f3:=λg hg=>(o3.lt g hg).1
    have f4:=λg hg=>(o4.lt g hg).1
    have f5:=λg hg=>(o5.lt g hg).1
    have f6:=λg hg=>(o6.lt g hg).1
    have o1:=(((o1.mods mA (λg hg=>by have:=f1 g hg;omega)).mods mB (λg hg=>by have:=f1 g hg;omega)).rebase (base':=w.heap.size) (by omega)).ext (Mods.refl _ _).drew;have o2:=(((o2.mods mA (λg hg=>by have:=f2 g hg;omega)).mods mB (λg hg=>by have:=f2 g hg;omega)).rebase (base':=w.heap.size) (by omega)).ext (Mods.refl _ _).drew;have o3:=(((o3.mods mA (λg hg=>by have:=f3 g hg;omega)).mods mB (λg hg=>by have:=f3 g hg;omega)).rebase (base':=w.heap.size) (by omega)).ext (Mods.refl _ _).drew;have o4:=(((o4.mods mA (λg hg=>by have:=f4 g hg;omega)).mods mB (λg hg=>by have:=f4 g hg;omega)).rebase (base':=w.heap.size) (by omega)).ext (Mods.refl _ _).drew;have o5:=(((o5.mods mA (λg hg=>by have:=f5 g hg;omega)).mods mB (λg hg=>by have:=f5 g hg;omega)).rebase (base':=w.heap.size) (by omega)).ext (Mods.refl _ _).drew;have o6:=(((o6.mods mA (λg hg=>by have:=f6 g hg;omega)).mods mB (λg hg=>by have:=f6 g hg;omega)).rebase (base':=w.heap.size) (by omega)).ext (Mods.refl _ _).drew;refine bodyPost_ret (results_row_tmp_row_tmp rfl _ _ (w.heap.size+1) (w.heap.size+1+1) 118 118 _ _ _ rfl hA2.drew rfl hB.drew rfl Tryz.underlying118 rfl Tryz.nodeSz rfl) rfl ?_;exact⟨hx,.inl ⟨_,_,_,HBB.out,rfl,⟨_,_,_,rfl,o1,o2,o3⟩,⟨_,_,_,rfl,o4,o5,o6⟩⟩⟩
 ·have HN:Hid (cutA n=none):=oh (cutA_none (by rw[← HM.out];exact hcut));have r0:=hR1.cell (o:=0) rfl;have r1:=hR1.cell (o:=1) rfl;have r2:=hR1.cell (o:=2) rfl;have r3:=hR1.cell (o:=3) rfl;have rf:=hR1.frozen;have s0:=hR2.cell (o:=0) rfl;have s1:=hR2.cell (o:=1) rfl;have s2:=hR2.cell (o:=2) rfl;have s3:=hR2.cell (o:=3) rfl;have sf:=hR2.frozen;have hA:=hR1.set4 (.bool false) (.slice none 0 0) (.slice none 0 0) (.slice none 0 0);have mA:=Mods.set4 (F:=λk=>k=w.heap.size+1) (Mods.refl _ w1) (R:=w.heap.size+1) (.inr rfl) (.bool false) (.slice none 0 0) (.slice none 0 0) (.slice none 0 0);have hB:=(hR2.mods mA (by omega)).set4 (.bool false) (.slice none 0 0) (.slice none 0 0) (.slice none 0 0);have mB:=Mods.set4 (F:=λk=>k=w.heap.size+1+1) (Mods.refl _ ((((w1.setCell ⟨w.heap.size+1,0,none⟩ (.bool false)).setCell ⟨w.heap.size+1,1,none⟩ (.slice none 0 0)).setCell ⟨w.heap.size+1,2,none⟩ (.slice none 0 0)).setCell ⟨w.heap.size+1,3,none⟩ (.slice none 0 0))) (R:=w.heap.size+1+1) (.inr rfl) (.bool false) (.slice none 0 0) (.slice none 0 0) (.slice none 0 0);have HA2:=oh (hA.mods mB (by omega));have HB2:=oh hB;have HX2:=oh (Mods.set4 (Mods.set4 (HM0.out.trans HX1.out) (R:=w.heap.size+1) (.inl (by omega)) (.bool false) (.slice none 0 0) (.slice none 0 0) (.slice none 0 0)) (R:=w.heap.size+1+1) (.inl (by omega)) (.bool false) (.slice none 0 0) (.slice none 0 0) (.slice none 0 0));clear hR1 hR2 hA mA hB mB;by_cases hr:rightN n=true
  ·have hev:ev=.nilIface:=by
    have:nodeCk n=none:=by unfold nodeCk;rw[if_pos hr]
    rw[this] at hE;exact hE
   subst hev;have hM0:M=0:=by
    rcases Nat.eq_zero_or_pos M with h|h
    ·exact h
    ·exact absurd ⟨hr,h⟩ hcut
   have hgo:=HT.out.1 hM0;clear hE hcut hr;go_wp2_with fail;refine bodyPost_ret (results_row_tmp_row_tmp rfl _ _ (w.heap.size+1) (w.heap.size+1+1) 118 118 _ _ _ rfl HA2.out rfl HB2.out rfl Tryz.underlying118 rfl Tryz.nodeSz rfl) rfl ?_;exact⟨HX2.out,.inr ⟨HN.out,rfl⟩⟩
  ·have hev:nodeCk n=some ([-1],1):=by unfold nodeCk;rw[if_neg hr]
   rw[hev] at hE;obtain⟨fb,rfl,_⟩:=hE;clear hcut hr hev;go_wp2_with fail;refine bodyPost_ret (results_row_tmp_row_tmp rfl _ _ (w.heap.size+1) (w.heap.size+1+1) 118 118 _ _ _ rfl HA2.out rfl HB2.out rfl Tryz.underlying118 rfl Tryz.nodeSz rfl) rfl ?_;exact⟨HX2.out,.inr ⟨HN.out,rfl⟩⟩
end
section
variable {F:Nat→Prop}{w w':World}
theorem light_any(n:NodeA)(ve vk vi:Value)(hve:Sl F w 4 encE ve n.entries)(hvk:Sl F w 1 encS vk n.keys)(hvi:Sl F w 1 encI vi n.kids)(hb:weightN n≤1000000000)(z:Int)(hz:0≤z)(hz2:z≤100000)(lf:Bool)(hlf:n.leaf=lf)(r:Bool)(hr:lightN n z=r) :
  Calls Tryz.prog 178 #[.agg #[.bool lf,ve,vk,vi],.int .i64 z] w λe w'=>e=.returned (.bool r)∧Ext w w':=by
 have m0:Ext w (w.alloc (.cells #[.bool lf,ve,vk,vi] 118)):=(Mods.refl _ w).alloc _;have HW:=weight_any (vi:=vi) n ve vk _ (hve.ext m0) (hvk.ext m0) (by omega);rw[hlf] at HW;have hw2:=weight_pos n;obtain⟨W,hW⟩:∃W,W=weightN n:=⟨_,rfl⟩;obtain⟨ea,ec,rfl,e1,e2,e3,_⟩:=hve;obtain⟨ka,kc,rfl,_,_,_,_⟩:=hvk;obtain⟨ia,ic,rfl,i1,i2,i3,_⟩:=hvi;unfold maxLen at e2 i2;rw[← hW] at hb HW hw2;have HR:Hid (r=((lf && decide ((n.entries.length:Int)=0)) || (!lf && decide ((n.kids.length:Int)<2)) || decide (3 * W<z-24))):=oh (by rw[← hr];unfold lightN;rw[hlf,hW]);obtain⟨ne,hne⟩:∃ne,ne=n.entries.length:=⟨_,rfl⟩;obtain⟨ni,hni⟩:∃ni,ni=n.kids.length:=⟨_,rfl⟩;rw[← hne] at HR HW m0 e1 e3 ⊢;rw[← hni] at HR HW m0 i1 i3 ⊢;have HM0:=oh m0;have HW:=oh HW;have u1:IntKind.i64.wrap (3 * W)=3 * W:=by rw[IntWalk.i64_in _ (by omega)]
 have u2:IntKind.i64.wrap (z-24)=z-24:=by rw[IntWalk.i64_in _ (by omega)]
 clear hlf hr hW hne hni m0;cases lf with
 | true =>
  by_cases h0:(ne:Int)=0
  ·go_enter Tryz.func178, Tryz.ntmps178
   go_wp2_with fail;go_ret;exact⟨by rw[HR.out,decide_eq_true h0];rfl,HM0.out⟩
  ·go_enter Tryz.func178, Tryz.ntmps178
   go_wp2_with fail;refine HW.out.mono ?_;rintro e w1 ⟨rfl,hm⟩;have HM:=oh (HM0.out.trans hm);clear hm;go_wp2_with fail;go_ret;exact⟨by rw[HR.out,decide_eq_false h0];rfl,HM.out⟩
 | false =>
  by_cases h0:(ni:Int)<2
  ·go_enter Tryz.func178, Tryz.ntmps178
   go_wp2_with fail;go_ret;exact⟨by rw[HR.out,decide_eq_true h0];rfl,HM0.out⟩
  ·go_enter Tryz.func178, Tryz.ntmps178
   go_wp2_with fail;refine HW.out.mono ?_;rintro e w1 ⟨rfl,hm⟩;have HM:=oh (HM0.out.trans hm);clear hm;go_wp2_with fail;go_ret;exact⟨by rw[HR.out,decide_eq_false (show ¬ (ni:Int)<2 by omega)];rfl,HM.out⟩
end
end
section
open Go.RowKit
end
section
open Go.RowKit
attribute [local go_sem ↓] Go.wp_at_zero Go.wp_at_succ
theorem encP_ok:EncOk encP 2:=⟨λ_=>rfl,by intro x u hu;simp[encP] at hu;rcases hu with rfl|rfl <;> rfl⟩
theorem Own.some{α:Type}{F:Nat→Prop}{w:World}{base:Nat}{e:TypeId}{sz:Nat}{enc:α→List Value}{v:Value}{l:List α}(h:Own F w base e sz enc v l)(hl:l≠[]):∃g c,v=.slice (Option.some ⟨g,0,none⟩) l.length c∧l.length≤c∧c≤maxLen∧base≤g∧g<w.heap.size∧∀o,w.frozen? ⟨g,o,none⟩=false:=by
 rcases h.1.2 with ⟨_,h0⟩|⟨g,cap,cur,rfl,hb,hg,h1,h2,_⟩
 ·exact absurd (List.eq_nil_of_length_eq_zero h0) hl
 ·refine⟨g,cap,rfl,h1,h2,hb,(Array.getElem?_eq_some_iff.1 hg).1,λo=>?_⟩;exact Blk.frozen (c:=cur) (t:=e) hg o
theorem Sl.cellsAt{α:Type}{F:Nat→Prop}{w:World}{sz:Nat}{enc:α→List Value}{b off n c:Nat}{l:List α}(h:Sl F w sz enc (.slice (Option.some ⟨b,off,none⟩) n c) l){j:Nat}{x:α}(hx:l[j]? = Option.some x):∀i u,(enc x)[i]? = Option.some u→w.cell? ⟨b,off+j * sz+i,none⟩=Option.some u:=by
 obtain⟨a',c',e1,_,_,_,e5⟩:=h;injection e1 with e1 _ _;subst e1;rcases e5 with rfl|⟨b',off',e,_,_,hc⟩
 ·simp at hx
 ·injection e with e;injection e with e1 e2;subst e1 e2;exact hc j x hx
end
end Go.Proofs.YtchklfmggpconaaGreatDoor
