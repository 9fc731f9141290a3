import Derived.Test.YteabpacpngaoaaaGreatDoorC16
import Derived.Test.YteabpacpngaoaaaGreatDoorC52
namespace Go.Proofs.YteabpacpngaoaaaGreatDoor
open Lib renaming hid->oh
open Go.RowKit
attribute [local go_sem ↓] Go.wp_at_zero Go.wp_at_succ
theorem Tryz.mapSize8:(Tryz.prog.info? 106).map (·.size)=some 3:=by kernel_rfl
set_option maxRecDepth 100000 in
set_option maxHeartbeats 4000000 in
theorem zGt{F:Nat->Prop}{ad:Nat->Addr}{w:World}(hL:yG F ad w)(i gen blocks:Nat)(hi:i<6)(bv:Value)(l:List UInt8)(hb:Sl F w 1 zZ bv l)(h1:256<=l.length)(h2:l.length<=1024)(hr:∃r,zQ l (i:Int)=.inr r) :
  Calls Tryz.prog 175 #[bv,.int .i64 (i:Int),.int .u64 (gen:Int),.int .i64 (blocks:Int)] w λe w'=>∃f,e=.returned (.tuple #[zB5 ⟨0,0,[]⟩ (.slice none 0 0),zL f])/\zF w w':=by
 have HB:Hid (∀w',zF w w'->Sl F w' 1 zZ bv l):=oh (λw' k=>hb.ext k);have HL:Hid (∀w',zF w w'->yG F ad w'):=oh (λw' k=>hL.mods k.ext);have z5 : 5 < w.heap.size:=Nat.lt_of_lt_of_le (by decide) hL.size;have G5:Hid (∀w',zF w w'->w'.cell? ⟨5,0,none⟩=some (.iface 403 (.pointer (some (ad 5))))):=oh (λw' m=>(hL.mods m.ext).c5);have HR:=oh hr;have H1:=oh (And.intro h1 h2);obtain⟨ba,bc,rfl, -⟩:=hb;obtain⟨bl,hbl⟩:∃n,n=l.length:=⟨_,rfl⟩;rw[<- hbl] at HB ⊢;obtain⟨W0,hW0⟩:∃W0,W0=w.alloc (.cells #[.int .u64 0,.int .i64 0,.slice none 0 0] 106):=⟨_,rfl⟩;have hM0:zF w W0:=by rw[hW0];exact (zA.refl _ w).alloc _
 have hB0:zH W0 w.heap.size #[.int .u64 0,.int .i64 0,.slice none 0 0] 106:=by rw[hW0];exact zH.new w _ _
 have HM0:=oh hM0;have HR0:=oh hB0;have hz0:=hB0.lt;have g5:=G5.out _ (zA.refl _ w);have hmax:max (i:Int) (-1)=(i:Int):=by omega
 clear hM0 hB0 hL hr h1 h2 hbl
 go_enter Tryz.func175, Tryz.ntmps175
 go_wp2_with fail;rw[<- hW0];refine (zAG (HL.out _ HM0.out) _ _ _ _ 5 (.sent 5 (by decide) (by decide))).mono ?_;rintro e w1 ⟨f1,rfl, -,m1⟩;have HM1:=oh (HM0.out.trans m1);have HR1:=oh (HR0.out.ext m1);clear m1 g5 hW0;go_wp2_with fail;refine (zC6 (HL.out _ HM1.out) _ l (HB.out _ HM1.out) H1.out.1 H1.out.2 (i:Int)).mono ?_;rintro e w2 ⟨m2,⟨p,pv,h3, -, -⟩|⟨pg,k,f, -,rfl, -⟩⟩
 .obtain⟨r,hr⟩:=HR.out;rw[hr] at h3;cases h3
 have HM2:=oh (HM1.out.trans m2);have HR2:=oh (HR1.out.ext m2);clear m2;unfold qA zL;have hr2:=HR2.out.ext ((zA.refl _ w2).alloc (.cells #[.int .i64 0,.int .i64 0,.int .u64 0,.slice none 0 0] 192));have r0:=hr2.cell (o:=0) (v:=.int .u64 0) rfl;have r1:=hr2.cell (o:=1) (v:=.int .i64 0) rfl;have r2:=hr2.cell (o:=2) (v:=.slice none 0 0) rfl;have rf:=hr2.frozen;clear hr2;go_wp2_with fail;refine bodyPost_ret (zC rfl _ _ w.heap.size 106 #[.int .u64 0,.int .i64 0,.slice none 0 0] _ rfl ((HR2.out.ext ((zA.refl _ w2).alloc (.cells #[.int .i64 0,.int .i64 0,.int .u64 0,.slice none 0 0] 192))).set3 (.int .u64 0) (.int .i64 0) (.slice none 0 0)) Tryz.underlying106 rfl Tryz.mapSize8) rfl ?_;refine⟨f1,rfl,(HM2.out.trans ((zA.refl _ w2).alloc _)).trans' (zA.set3 (F:=λk=>k=w.heap.size) (zA.refl _ _) (R:=w.heap.size) (.inr rfl) (.int .u64 0) (.int .i64 0) (.slice none 0 0)) (λi hi h=>by have h':i=w.heap.size:=h;omega)⟩
end Go.Proofs.YteabpacpngaoaaaGreatDoor
