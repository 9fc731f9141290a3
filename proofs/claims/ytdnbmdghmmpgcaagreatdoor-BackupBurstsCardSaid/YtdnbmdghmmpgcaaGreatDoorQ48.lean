import Derived.Test.YtdnbmdghmmpgcaaGreatDoorQ43
import Derived.Test.YtdnbmdghmmpgcaaGreatDoorQ46
import Derived.Test.YtdnbmdghmmpgcaaGreatDoorQ47
namespace Go.Proofs.YtdnbmdghmmpgcaaGreatDoor
open Lib renaming hid->oh
open Go.RowKit
attribute [local go_sem ↓] Go.wp_at_zero Go.wp_at_succ
section
variable {F:Nat->Prop}{ad:Nat->Addr}{w w':World}
set_option maxRecDepth 100000 in
set_option maxHeartbeats 400000 in
theorem zGw(hE:yG NoB ad w)(l0:List zD)(v0:Value)(s0:Sl NoB w 2 yS v0 l0)(bit mask:Nat)(hb:bit<65536)(hm:mask<4294967296) :
  Calls Tryz.prog 4 #[v0,.int .u16 (bit:Int),.int .u32 (mask:Int)] w λe w'=>e=.returned (.bool true)/\zG w w':=by
 have HE:=oh hE;have HTM:=oh (zEA l0 v0 s0);have hT:=zFE l0;obtain⟨o,ho⟩:∃o,o=zDG l0:=⟨_,rfl⟩;rw[<- ho] at HTM hT;have HT:=oh hT;have hwl:=zEB hT 1;obtain⟨wb,hwb⟩:∃wb,wb=zAj 1 o:=⟨_,rfl⟩;rw[<- hwb] at hwl;have HWB:=oh hwb;obtain⟨mk,hmk⟩:∃mk,mk=mask ||| 1:=⟨_,rfl⟩
 have hmk1:mk<4294967296:=by rw[hmk];exact Nat.or_lt_two_pow (n:=32) hm (by decide)
 have hmk2:mk % 2=1:=by
  rw[hmk];have h:=Nat.or_mod_two_pow (a:=mask) (b:=1) (n:=1);rw[Nat.pow_one] at h;rw[h];rcases tK mask with h|h <;> rw[h] <;> rfl
 have v4:bits .or .u32 (mask:Int) 1=(mk:Int):=by
  have:=u32_or_nat mask 1 hm (by decide);rw[hmk];exact this
 obtain⟨bt,hbt⟩:∃bt,bt=bit % (8 * wb.length):=⟨_,rfl⟩;have hbt1:bt<8 * wb.length:=by rw[hbt];exact mC _ (by omega)
 obtain⟨cc,hcc⟩:∃cc,cc=zAN wb bt mk:=⟨_,rfl⟩;have hcl:cc.length=wb.length:=by rw[hcc,zEE]
 have HRB:Hid (∃k,zBY cc=.inr k):=oh (by rw[hcc,hwb];exact zNq _ bt mk (by rw[<- show wb=zB3 (qW ⟨1,1,0,o.length⟩ ++ o.flatMap zAp) from hwb];exact hbt1) hmk2);have v5:(bit:Int).tmod (8 * (wb.length:Int))=(bt:Int):=by
  rw[tG (by omega),hbt];simp
 have v6:IntKind.i64.wrap (bit:Int)=(bit:Int):=IntWalk.i64_in _ (by omega);have v7:¬ 8 * (wb.length:Int)=0:=by omega
 have u5:IntKind.i64.wrap (bt:Int)=(bt:Int):=IntWalk.i64_in _ (by omega);have v9:Op.intDiv .rem .i64 (bit:Int) (8 * (wb.length:Int))=pure (.int .i64 (bt:Int)):=by
  unfold Op.intDiv;rw[if_neg v7];show (pure (.int .i64 ((bit:Int).tmod (8 * (wb.length:Int)))):Sem Value)=_;rw[v5]
 have v11:(bit:Int) % (8 * (wb.length:Int))=(bt:Int):=by rw[hbt];simp
 have v12:(wb.length:Int)<=10200:=by omega
 have v8:¬ (wb.length:Int)=0:=by omega
 have HWL:=oh hwl;have HMK:=oh hmk1;have HBT:=oh hbt1;have HCC:=oh (And.intro hcc hcl);clear hE hT ho hwb hmk hbt hcc hcl hwl hmk1 hmk2 hbt1 s0
 go_enter Tryz.func4, Tryz.ntmps4
 go_wp2_with fail;refine HTM.out.mono ?_;rintro e w1 ⟨v1,rfl,hO1,hm1⟩;have HE1:=oh (HE.out.mods hm1.ext);have HS1:=oh (hO1.sl yR.len (by have:=HT.out.len;omega));have HM1:=oh hm1;clear hO1 hm1;go_wp2_with fail;refine (zIh HE1.out o HT.out v1 (HS1.out.anti (λ_ _ h=>h))).mono ?_;rintro e w2 ⟨S,d,c,sp,P2,F2,rfl,hS2,n2⟩;have hn2:=n2.shrink (P2:=P2) (λk h=>.inl h);have HWH:=oh (zMe hn2.env hn2.sub hS2 HT.out);have HN2:=oh hn2;clear hS2 n2 hn2;go_wp2_with fail;refine HWH.out.mono ?_;rintro e w3 ⟨P3,F3,v3,rfl,hv3, -,n3⟩;rw[<- HWB.out] at hv3;have HN3:=oh (HN2.out.trans n3);have HX3:=oh (HM1.out.trans HN3.out.stp.mods);have HV3:=oh hv3;obtain⟨a3,c3,rfl, -⟩:=id hv3;have HCH:=oh (zJC (.slice a3 wb.length c3) wb hv3 bt mk HBT.out (by have:=HWL.out;omega) HMK.out);rw[<- HCC.out.1] at HCH;clear hv3 n3;go_wp2_with fail;refine HCH.out.mono ?_;rintro e w4 ⟨a4,c4,rfl,hO4,hm4⟩;have HE4:=oh (HE.out.mods (HX3.out.trans hm4).ext);have HX4:=oh (HX3.out.trans hm4);have HRD:=zNj HE4.out (.slice a4 wb.length c4) cc (hO4.slF (F:=NoB) (λk h=>h.elim) qN.len (by rw[HCC.out.2];have:=HWL.out;omega)) (by rw[HCC.out.2];have:=HWL.out;omega);unfold zIj at HRD;obtain⟨kk,hkk⟩:=HRB.out;rw[hkk] at HRD;simp only at HRD;rw[show zCS ⟨0,0,0,0⟩=.agg #[.int .i64 0,.int .u64 0,.int .u64 0,.int .i64 0] from rfl] at HRD;have HRD:=oh HRD;clear hO4 hm4 hkk;go_wp2_with fail;refine HRD.out.mono ?_;rintro e w5 ⟨⟨f,el,rfl, -⟩,hm5⟩;have HX5:=oh ((HX4.out.trans hm5).alloc (.cells #[.int .i64 0,.int .u64 0,.int .u64 0,.int .i64 0] 46));clear hm5;unfold zJ;go_wp2_with fail;refine (zHS (HE.out.mods HX5.out.ext)).mono ?_;rintro e w6 ⟨rfl,hm6⟩;have HX6:=oh (HX5.out.trans hm6);clear hm6;go_wp2_with fail;go_ret;exact⟨rfl,HX6.out⟩
end
end Go.Proofs.YtdnbmdghmmpgcaaGreatDoor
