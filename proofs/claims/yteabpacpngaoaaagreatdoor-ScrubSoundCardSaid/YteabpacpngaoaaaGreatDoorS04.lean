import Derived.Test.YteabpacpngaoaaaGreatDoorB16
import Derived.Test.YteabpacpngaoaaaGreatDoorS02
namespace Go.Proofs.YteabpacpngaoaaaGreatDoor
open Lib renaming hid->oh
open Go.RowKit
attribute [local go_sem ↓] Go.wp_at_zero Go.wp_at_succ
theorem Tryz.mapSize8:(Tryz.prog.info? 106).map (·.size)=some 3:=by kernel_rfl
set_option maxRecDepth 100000 in
set_option maxHeartbeats 4000000 in
theorem qP{F:Nat->Prop}{ad:Nat->Addr}{w:World}(hL:Env F ad w)(i gen blocks:Nat)(hi:i<6)(bv:Value)(l:List UInt8)(hb:Sl F w 1 encB bv l)(h1:256<=l.length)(h2:l.length<=1024)(hr:∃r,openAtP l (i:Int)=.inr r) :
  Calls Tryz.prog 175 #[bv,.int .i64 (i:Int),.int .u64 (gen:Int),.int .i64 (blocks:Int)] w λe w'=>∃f,e=.returned (.tuple #[mapV ⟨0,0,[]⟩ (.slice none 0 0),faultV f])/\Ext w w':=by
 have HB:Hid (∀w',Ext w w'->Sl F w' 1 encB bv l):=oh (λw' k=>hb.ext k);have HL:Hid (∀w',Ext w w'->Env F ad w'):=oh (λw' k=>hL.mods k.ext);have z5 : 5 < w.heap.size:=uN (by decide) hL.size;have G5:Hid (∀w',Ext w w'->w'.cell? ⟨5,0,none⟩=some (.iface 403 (.pointer (some (ad 5))))):=oh (λw' m=>(hL.mods m.ext).c5);have HR:=oh hr;have H1:=oh (And.intro h1 h2);obtain⟨ba,bc,rfl, -⟩:=hb;obtain⟨bl,A4⟩:∃n,n=l.length:=⟨_,rfl⟩;rw[<- A4] at HB ⊢;obtain⟨W0,A1⟩:∃W0,W0=w.alloc (.cells #[.int .u64 0,.int .i64 0,.slice none 0 0] 106):=⟨_,rfl⟩;have A5:Ext w W0:=by rw[A1];exact (Mods.refl _ w).alloc _
 have A2:Blk W0 w.heap.size #[.int .u64 0,.int .i64 0,.slice none 0 0] 106:=by rw[A1];exact Blk.new w _ _
 have A6:=oh A5;have A8:=oh A2;have Ac:=A2.lt;have g5:=G5.out _ (Mods.refl _ w);have A9:max (i:Int) (-1)=(i:Int):=by omega
 clear A5 A2 hL hr h1 h2 A4
 go_enter Tryz.func175, Tryz.ntmps175
 go_wp2_with fail;rw[<- A1];refine (at_any (HL.out _ A6.out) _ _ _ _ 5 (.sent 5 (by decide) (by decide))).mono ?_;rintro e w1 ⟨f1,rfl, -,m1⟩;have A3:=oh (A6.out.trans m1);have Aa:=oh (A8.out.ext m1);clear m1 g5 A1;go_wp2_with fail;refine (OpenAt_any (HL.out _ A3.out) _ l (HB.out _ A3.out) H1.out.1 H1.out.2 (i:Int)).mono ?_;rintro e w2 ⟨m2,⟨p,pv,h3, -, -⟩|⟨pg,k,f, -,rfl, -⟩⟩
 .obtain⟨r,hr⟩:=HR.out;rw[hr] at h3;cases h3
 have Ab:=oh (A3.out.trans m2);have A7:=oh (Aa.out.ext m2);clear m2;unfold pageV faultV;have A0:=A7.out.ext ((Mods.refl _ w2).alloc (.cells #[.int .i64 0,.int .i64 0,.int .u64 0,.slice none 0 0] 192));have r0:=A0.cell (o:=0) (v:=.int .u64 0) rfl;have r1:=A0.cell (o:=1) (v:=.int .i64 0) rfl;have r2:=A0.cell (o:=2) (v:=.slice none 0 0) rfl;have rf:=A0.frozen;clear A0;go_wp2_with fail;refine bodyPost_ret (results_row_tmp rfl _ _ w.heap.size 106 #[.int .u64 0,.int .i64 0,.slice none 0 0] _ rfl ((A7.out.ext ((Mods.refl _ w2).alloc (.cells #[.int .i64 0,.int .i64 0,.int .u64 0,.slice none 0 0] 192))).set3 (.int .u64 0) (.int .i64 0) (.slice none 0 0)) Tryz.underlying106 rfl Tryz.mapSize8) rfl ?_;refine⟨f1,rfl,(Ab.out.trans ((Mods.refl _ w2).alloc _)).trans' (Mods.set3 (F:=λk=>k=w.heap.size) (Mods.refl _ _) (R:=w.heap.size) (.inr rfl) (.int .u64 0) (.int .i64 0) (.slice none 0 0)) (λi hi h=>by have h':i=w.heap.size:=h;omega)⟩
end Go.Proofs.YteabpacpngaoaaaGreatDoor
