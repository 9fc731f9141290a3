import Derived.Test.YteabpacpngaoaaaGreatDoorC34
namespace Go.Proofs.YteabpacpngaoaaaGreatDoor
open Lib renaming hid->oh
set_option maxHeartbeats 4000000
set_option maxRecDepth 100000
section
open Go.RowKit
attribute [local go_sem ↓] Go.wp_at_zero Go.wp_at_succ
section
variable {P P' F F':Nat->Prop}{ad:Nat->Addr}{w w':World}{d S c sp:Nat}{s s1 nx:yM}{home root keys:Int}{C:qJ}{l:List Nat}
theorem zRf(hL:yG F ad w)(hP:∀k,P k->F k)(h:StO F w P S d c sp s home root keys C l)(ho:C.disk.off=false)(i:Nat)(hi:i<2)(hib:i<C.disk.blocks)(hs:openS (C.disk.look i) i=some s1)(h1:256<=C.disk.size)(h2:C.disk.size<=1024)(hlen:(C.disk.look i).length=C.disk.size)(g b z r k:Int) :
  Calls Tryz.prog 97 #[.agg #[.pointer (some ⟨S,0,none⟩),.int .u64 g,.int .i64 b,.int .i64 z,.int .i64 r,.int .i64 k],.int .i64 (i:Int)] w λe w'=>e=.returned .nilIface/\zF w w':=by
 obtain⟨W0,hW0⟩:∃W0,W0=w.alloc (.cells #[.pointer (some ⟨S,0,none⟩),.int .u64 g,.int .i64 b,.int .i64 z,.int .i64 r,.int .i64 k] 125):=⟨_,rfl⟩;have hM0:zF w W0:=by rw[hW0];exact (zA.refl _ w).alloc _
 have hX0:zH W0 w.heap.size #[.pointer (some ⟨S,0,none⟩),.int .u64 g,.int .i64 b,.int .i64 z,.int .i64 r,.int .i64 k] 125:=by rw[hW0];exact zH.new w _ _
 obtain⟨Pd,hdk,hPd, -⟩:=h.dk hL hP;obtain⟨a0,cc0,hB⟩:=h.blk;have x0:=hX0.cell (o:=0) (v:=.pointer (some ⟨S,0,none⟩)) rfl;have s0:=(hB.ext hM0).cell (o:=0) (v:=.pointer (some ⟨d,0,none⟩)) rfl;have HRD:Hid (Calls Tryz.prog 157 #[.pointer (some ⟨d,0,none⟩),.int .i64 (i:Int)] W0 λe w'=>∃v,e=.returned (.tuple #[v,.nilIface])/\Sl F w' 1 zZ v (C.disk.look i)/\zF W0 w'):=oh ((jT.read (hL.mods hM0.ext) (hdk.at hM0) i hib ho).mono (λe w' ⟨q,e1,e2,e3,e4,e5⟩=>⟨_,e1,zDW e3 e4 (λf=>by have:=hL.lt q f;have:=hM0.size;omega) (by omega),e5⟩));have HOP:Hid (∀W v,zF W0 W->Sl F W 1 zZ v (C.disk.look i) -> Calls Tryz.prog 120 #[v,.int .i64 (i:Int)] W λe w'=>e=.returned (.tuple #[qF s1,.nilIface])/\zF W w'):=oh (λW v mm hv=>by
  refine (zBD (hL.mods (hM0.trans mm).ext) v _ hv (by omega) (by omega) i hi (λe=>by rw[hs] at e;cases e)).mono ?_;rintro e w' ⟨ev,rfl,e2,e3⟩;rw[hs] at e2 ⊢;cases e2
  exact⟨rfl,e3⟩)
 have s0a:(w.alloc (.cells #[.pointer (some ⟨S,0,none⟩),.int .u64 g,.int .i64 b,.int .i64 z,.int .i64 r,.int .i64 k] 125)).cell? ⟨S,0,none⟩=some (.pointer (some ⟨d,0,none⟩)):=by rw[<- hW0];exact s0
 have HM0:=oh hM0;clear hL hP h ho hi hib hs h1 h2 hdk hPd hB hX0 hlen hM0
 go_enter Tryz.func97, Tryz.ntmps97
 go_wp2_with fail;rw[<- hW0];clear hW0;refine HRD.out.mono ?_;rintro e w1 ⟨v,rfl,hv,m1⟩;have HOP1:=oh (HOP.out w1 v m1 hv);have HM1:=oh m1;clear hv m1 x0 s0 s0a;go_wp2_with fail;refine HOP1.out.mono ?_;rintro e w2 ⟨rfl,m2⟩;have HM2:=oh m2;clear m2;unfold qF;go_wp2_with fail;go_ret;exact⟨rfl,((HM0.out.trans HM1.out).trans HM2.out).alloc _⟩
theorem zQx(hL:yG F ad w)(hP:∀k,P k->F k){hh q:Nat}(hhq:hh<2/\q=1-hh)(h:StO F w P S d c sp s (hh:Int) root keys C l)(hw:zCb C.disk)(hfew:C.disk.waiting.length<1000000)(hb8:8<=C.disk.blocks)(hs:openS (C.disk.look q) q=some s1)(h1:256<=C.disk.size)(h2:C.disk.size<=1024)
  (hok:zBP nx=true) (hg:nx.gen<18446744073709551616) (hz:nx.size=C.disk.size) :
  Calls Tryz.prog 58 #[.agg #[.pointer (some ⟨S,0,none⟩),.int .u64 (nx.gen:Int),.int .i64 (nx.blocks:Int),.int .i64 (nx.size:Int),.int .i64 (nx.root:Int),.int .i64 (nx.keys:Int)]] w (zBp F P ad w S d c sp s (hh:Int) root keys l (λC'=>C'=zCC C nx q)):=by
 obtain⟨gg,hgg⟩:∃g,g=nx.gen:=⟨_,rfl⟩;obtain⟨gb,hgb⟩:∃g,g=nx.blocks:=⟨_,rfl⟩;obtain⟨gz,hgz⟩:∃g,g=nx.size:=⟨_,rfl⟩;obtain⟨gr,hgr⟩:∃g,g=nx.root:=⟨_,rfl⟩;obtain⟨gk,hgk⟩:∃g,g=nx.keys:=⟨_,rfl⟩;obtain⟨W0,hW0⟩:∃W0,W0=w.alloc (.cells #[.pointer (some ⟨S,0,none⟩),.int .u64 (gg:Int),.int .i64 (gb:Int),.int .i64 (gz:Int),.int .i64 (gr:Int),.int .i64 (gk:Int)] 125):=⟨_,rfl⟩;have hM0:zF w W0:=by rw[hW0];exact (zA.refl _ w).alloc _
 obtain⟨X,hX⟩:∃X,X=w.heap.size:=⟨_,rfl⟩;have hX0:zH W0 X #[.pointer (some ⟨S,0,none⟩),.int .u64 (gg:Int),.int .i64 (gb:Int),.int .i64 (gz:Int),.int .i64 (gr:Int),.int .i64 (gk:Int)] 125:=by rw[hW0,hX];exact zH.new w _ _
 obtain⟨a0,cc0,hB⟩:=h.blk;have HSX:=oh (λW (mm:zF W0 W)=>(⟨(hX0.ext mm).cell rfl,(hX0.ext mm).cell rfl,(hX0.ext mm).cell rfl,(hX0.ext mm).cell rfl,(hX0.ext mm).cell rfl,(hX0.ext mm).cell rfl,(hB.ext (hM0.trans mm)).cell rfl,(hB.ext (hM0.trans mm)).cell rfl⟩:W.cell? ⟨X,0,none⟩=some (.pointer (some ⟨S,0,none⟩))/\W.cell? ⟨X,1,none⟩=some (.int .u64 (gg:Int))/\W.cell? ⟨X,2,none⟩=some (.int .i64 (gb:Int))/\W.cell? ⟨X,3,none⟩=some (.int .i64 (gz:Int))/\W.cell? ⟨X,4,none⟩=some (.int .i64 (gr:Int))/\W.cell? ⟨X,5,none⟩=some (.int .i64 (gk:Int))/\W.cell? ⟨S,0,none⟩=some (.pointer (some ⟨d,0,none⟩))/\W.cell? ⟨S,8,none⟩=some (.int .i64 (hh:Int))));have HBR:Hid (∀W,zF W0 W -> Calls Tryz.prog 97 #[.agg #[.pointer (some ⟨S,0,none⟩),.int .u64 (gg:Int),.int .i64 (gb:Int),.int .i64 (gz:Int),.int .i64 (gr:Int),.int .i64 (gk:Int)],.int .i64 (q:Int)] W λe w'=>e=.returned .nilIface/\zF W w'):=oh (λW mm=>zRf (hL.mods (hM0.trans mm).ext) hP (h.at (hM0.trans mm)) hw.off q (by omega) (by omega) hs h1 h2 (hw.len q (by omega)) _ _ _ _ _);have HWS:Hid (∀W,zF W0 W -> Calls Tryz.prog 47 #[.pointer (some ⟨d,0,none⟩),.agg #[.int .u64 (gg:Int),.int .i64 (gb:Int),.int .i64 (gz:Int),.int .i64 (gr:Int),.int .i64 (gk:Int)],.int .i64 (q:Int)] W (zBp F P ad W S d c sp s (hh:Int) root keys l (λC'=>C'=zCC C nx q))):=oh (λW mm=>by
  have:=zH5 (hL.mods (hM0.trans mm).ext) hP (h.at (hM0.trans mm)) hw hfew nx hok hg hz q (by omega) hb8;rw[show qF nx=.agg #[.int .u64 (gg:Int),.int .i64 (gb:Int),.int .i64 (gz:Int),.int .i64 (gr:Int),.int .i64 (gk:Int)] by rw[hgg,hgb,hgz,hgr,hgk];rfl] at this;exact this)
 have hw1:IntKind.i64.wrap (1-(hh:Int))=(q:Int):=by
  rw[IntWalk.i64_in _ (by omega)];omega
 have HM0:=oh hM0;have HPX:Hid (¬ P X):=oh (λf=>by have:=hL.lt _ (hP _ f);omega);have HPS:Hid (¬ P S):=oh h.offS.1;have HN:=oh (λW (m:zF w W)=>zY.ext hL hP m);have zd:=HSX.out _ (zA.refl _ W0).drew;rw[<- hgg,<- hgb,<- hgz,<- hgr,<- hgk];clear hL hP h hw hfew hb8 hs h1 h2 hok hg hz hgg hgb hgz hgr hgk hB hX0 hM0 hhq
 go_enter Tryz.func58, Tryz.ntmps58
 go_wp2_with fail;rw[<- hW0,<- hX];clear hW0 hX;go_region_held3 (λw'=>w'.cell? ⟨X,0,none⟩=some (.pointer (some ⟨S,0,none⟩))/\w'.cell? ⟨X,1,none⟩=some (.int .u64 (gg:Int))/\w'.cell? ⟨X,2,none⟩=some (.int .i64 (gb:Int))/\w'.cell? ⟨X,3,none⟩=some (.int .i64 (gz:Int))/\w'.cell? ⟨X,4,none⟩=some (.int .i64 (gr:Int))/\w'.cell? ⟨X,5,none⟩=some (.int .i64 (gk:Int))/\w'.cell? ⟨S,0,none⟩=some (.pointer (some ⟨d,0,none⟩))/\w'.cell? ⟨S,8,none⟩=some (.int .i64 (hh:Int)))
  (first|(with_reducible exact zd)|(with_reducible exact z2)|fail)
  (first
   | (go_at_call 97;(with_reducible refine (HBR.out _ (zA.refl _ W0).drew).mono ?_);rintro e w2 ⟨rfl,m2⟩;have x2:=(zA.refl _ W0).drew.trans m2;have z2:=HSX.out _ x2)
   | fail)
 have X2:=oh x2;have y1:=HSX.out _ (x2.trans (zA.refl _ w2).drew);clear zd z2 x2 m2;go_wp2_with fail;go_region_held3 (λw'=>w'.cell? ⟨X,0,none⟩=some (.pointer (some ⟨S,0,none⟩))/\w'.cell? ⟨X,1,none⟩=some (.int .u64 (gg:Int))/\w'.cell? ⟨X,2,none⟩=some (.int .i64 (gb:Int))/\w'.cell? ⟨X,3,none⟩=some (.int .i64 (gz:Int))/\w'.cell? ⟨X,4,none⟩=some (.int .i64 (gr:Int))/\w'.cell? ⟨X,5,none⟩=some (.int .i64 (gk:Int))/\w'.cell? ⟨S,0,none⟩=some (.pointer (some ⟨d,0,none⟩))/\w'.cell? ⟨S,8,none⟩=some (.int .i64 (hh:Int)))
  (first|(with_reducible exact y1)|(with_reducible exact zq)|fail)
  (first
   | (go_at_call 47;(with_reducible refine (HWS.out _ (X2.out.trans (zA.refl _ w2).drew)).mono ?_);rintro e w3 ⟨rfl,P3,F3,C3,h3,n3,rfl⟩;have zq:=(⟨n3.cellK y1.1 HPX.out,n3.cellK y1.2.1 HPX.out,n3.cellK y1.2.2.1 HPX.out,n3.cellK y1.2.2.2.1 HPX.out,n3.cellK y1.2.2.2.2.1 HPX.out,n3.cellK y1.2.2.2.2.2.1 HPX.out,n3.cellK y1.2.2.2.2.2.2.1 HPS.out,n3.cellK y1.2.2.2.2.2.2.2 HPS.out⟩:w3.cell? ⟨X,0,none⟩=some (.pointer (some ⟨S,0,none⟩))/\w3.cell? ⟨X,1,none⟩=some (.int .u64 (gg:Int))/\w3.cell? ⟨X,2,none⟩=some (.int .i64 (gb:Int))/\w3.cell? ⟨X,3,none⟩=some (.int .i64 (gz:Int))/\w3.cell? ⟨X,4,none⟩=some (.int .i64 (gr:Int))/\w3.cell? ⟨X,5,none⟩=some (.int .i64 (gk:Int))/\w3.cell? ⟨S,0,none⟩=some (.pointer (some ⟨d,0,none⟩))/\w3.cell? ⟨S,8,none⟩=some (.int .i64 (hh:Int))))
   | fail)
 have H3:=oh (And.intro h3 ((HN.out _ ((HM0.out.trans X2.out).trans (zA.refl _ w2).drew)).trans n3));clear h3 n3 y1;go_wp2_with fail;go_ret;exact⟨rfl,P3,F3,_,H3.out.1,H3.out.2,rfl⟩
theorem zP7(hL:yG F ad w)(hP:∀k,P k->F k){hh:Nat}(hh2:hh<2)(h:StO F w P S d c sp s (hh:Int) root keys C l)(hw:zCb C.disk)(hfew:C.disk.waiting.length<1000000)(hb8:8<=C.disk.blocks)
  (hok:zBP nx=true) (hg:nx.gen<18446744073709551616) (hz:nx.size=C.disk.size) :
  Calls Tryz.prog 59 #[.agg #[.pointer (some ⟨S,0,none⟩),.int .u64 (nx.gen:Int),.int .i64 (nx.blocks:Int),.int .i64 (nx.size:Int),.int .i64 (nx.root:Int),.int .i64 (nx.keys:Int)]] w (zBp F P ad w S d c sp s (hh:Int) root keys l (λC'=>C'=zCC C nx hh)):=by
 obtain⟨gg,hgg⟩:∃g,g=nx.gen:=⟨_,rfl⟩;obtain⟨gb,hgb⟩:∃g,g=nx.blocks:=⟨_,rfl⟩;obtain⟨gz,hgz⟩:∃g,g=nx.size:=⟨_,rfl⟩;obtain⟨gr,hgr⟩:∃g,g=nx.root:=⟨_,rfl⟩;obtain⟨gk,hgk⟩:∃g,g=nx.keys:=⟨_,rfl⟩;obtain⟨W0,hW0⟩:∃W0,W0=w.alloc (.cells #[.pointer (some ⟨S,0,none⟩),.int .u64 (gg:Int),.int .i64 (gb:Int),.int .i64 (gz:Int),.int .i64 (gr:Int),.int .i64 (gk:Int)] 125):=⟨_,rfl⟩;have hM0:zF w W0:=by rw[hW0];exact (zA.refl _ w).alloc _
 obtain⟨X,hX⟩:∃X,X=w.heap.size:=⟨_,rfl⟩;have hX0:zH W0 X #[.pointer (some ⟨S,0,none⟩),.int .u64 (gg:Int),.int .i64 (gb:Int),.int .i64 (gz:Int),.int .i64 (gr:Int),.int .i64 (gk:Int)] 125:=by rw[hW0,hX];exact zH.new w _ _
 obtain⟨a0,cc0,hB⟩:=h.blk;have HSX:=oh (λW (mm:zF W0 W)=>(⟨(hX0.ext mm).cell rfl,(hX0.ext mm).cell rfl,(hX0.ext mm).cell rfl,(hX0.ext mm).cell rfl,(hX0.ext mm).cell rfl,(hX0.ext mm).cell rfl,(hB.ext (hM0.trans mm)).cell rfl,(hB.ext (hM0.trans mm)).cell rfl⟩:W.cell? ⟨X,0,none⟩=some (.pointer (some ⟨S,0,none⟩))/\W.cell? ⟨X,1,none⟩=some (.int .u64 (gg:Int))/\W.cell? ⟨X,2,none⟩=some (.int .i64 (gb:Int))/\W.cell? ⟨X,3,none⟩=some (.int .i64 (gz:Int))/\W.cell? ⟨X,4,none⟩=some (.int .i64 (gr:Int))/\W.cell? ⟨X,5,none⟩=some (.int .i64 (gk:Int))/\W.cell? ⟨S,0,none⟩=some (.pointer (some ⟨d,0,none⟩))/\W.cell? ⟨S,8,none⟩=some (.int .i64 (hh:Int))));have HWS:Hid (∀W,zF W0 W -> Calls Tryz.prog 47 #[.pointer (some ⟨d,0,none⟩),.agg #[.int .u64 (gg:Int),.int .i64 (gb:Int),.int .i64 (gz:Int),.int .i64 (gr:Int),.int .i64 (gk:Int)],.int .i64 (hh:Int)] W (zBp F P ad W S d c sp s (hh:Int) root keys l (λC'=>C'=zCC C nx hh))):=oh (λW mm=>by
  have:=zH5 (hL.mods (hM0.trans mm).ext) hP (h.at (hM0.trans mm)) hw hfew nx hok hg hz hh hh2 hb8;rw[show qF nx=.agg #[.int .u64 (gg:Int),.int .i64 (gb:Int),.int .i64 (gz:Int),.int .i64 (gr:Int),.int .i64 (gk:Int)] by rw[hgg,hgb,hgz,hgr,hgk];rfl] at this;exact this)
 have HM0:=oh hM0;have HPX:Hid (¬ P X):=oh (λf=>by have:=hL.lt _ (hP _ f);omega);have HPS:Hid (¬ P S):=oh h.offS.1;have HN:=oh (λW (m:zF w W)=>zY.ext hL hP m);have zd:=HSX.out _ (zA.refl _ W0).drew;rw[<- hgg,<- hgb,<- hgz,<- hgr,<- hgk];clear hL hP h hw hfew hb8 hok hg hz hgg hgb hgz hgr hgk hB hX0 hM0 hh2
 go_enter Tryz.func59, Tryz.ntmps59
 go_wp2_with fail;rw[<- hW0,<- hX];clear hW0 hX;go_region_held3 (λw'=>w'.cell? ⟨X,0,none⟩=some (.pointer (some ⟨S,0,none⟩))/\w'.cell? ⟨X,1,none⟩=some (.int .u64 (gg:Int))/\w'.cell? ⟨X,2,none⟩=some (.int .i64 (gb:Int))/\w'.cell? ⟨X,3,none⟩=some (.int .i64 (gz:Int))/\w'.cell? ⟨X,4,none⟩=some (.int .i64 (gr:Int))/\w'.cell? ⟨X,5,none⟩=some (.int .i64 (gk:Int))/\w'.cell? ⟨S,0,none⟩=some (.pointer (some ⟨d,0,none⟩))/\w'.cell? ⟨S,8,none⟩=some (.int .i64 (hh:Int)))
  (first|(with_reducible exact zd)|(with_reducible exact zq)|fail)
  (first
   | (go_at_call 47;(with_reducible refine (HWS.out _ (zA.refl _ W0).drew).mono ?_);rintro e w3 ⟨rfl,P3,F3,C3,h3,n3,rfl⟩;have zq:=(⟨n3.cellK zd.1 HPX.out,n3.cellK zd.2.1 HPX.out,n3.cellK zd.2.2.1 HPX.out,n3.cellK zd.2.2.2.1 HPX.out,n3.cellK zd.2.2.2.2.1 HPX.out,n3.cellK zd.2.2.2.2.2.1 HPX.out,n3.cellK zd.2.2.2.2.2.2.1 HPS.out,n3.cellK zd.2.2.2.2.2.2.2 HPS.out⟩:w3.cell? ⟨X,0,none⟩=some (.pointer (some ⟨S,0,none⟩))/\w3.cell? ⟨X,1,none⟩=some (.int .u64 (gg:Int))/\w3.cell? ⟨X,2,none⟩=some (.int .i64 (gb:Int))/\w3.cell? ⟨X,3,none⟩=some (.int .i64 (gz:Int))/\w3.cell? ⟨X,4,none⟩=some (.int .i64 (gr:Int))/\w3.cell? ⟨X,5,none⟩=some (.int .i64 (gk:Int))/\w3.cell? ⟨S,0,none⟩=some (.pointer (some ⟨d,0,none⟩))/\w3.cell? ⟨S,8,none⟩=some (.int .i64 (hh:Int))))
   | fail)
 have H3:=oh (And.intro h3 ((HN.out _ (HM0.out.trans (zA.refl _ W0).drew)).trans n3));clear h3 n3 zd;go_wp2_with fail;go_ret;exact⟨rfl,P3,F3,_,H3.out.1,H3.out.2,rfl⟩
end
theorem Tryz.idx3a(a0 a1 a2:Value)(w:World):(Instr.index 126 (.agg #[a0,a1,a2]) (.int .i64 0)).run Tryz.prog w=.ok a0 w:=by kernel_rfl
theorem Tryz.idx3b(a0 a1 a2:Value)(w:World):(Instr.index 126 (.agg #[a0,a1,a2]) (.int .i64 1)).run Tryz.prog w=.ok a1 w:=by kernel_rfl
theorem Tryz.idx3c(a0 a1 a2:Value)(w:World):(Instr.index 126 (.agg #[a0,a1,a2]) (.int .i64 2)).run Tryz.prog w=.ok a2 w:=by kernel_rfl
section
variable {P P' F F':Nat->Prop}{ad:Nat->Addr}{w w':World}{d S c sp:Nat}{s s1:yM}{C:qJ}{l:List Nat}
def CmK[zW](C:qJ)(m:vF)(nx:yM)(hh q:Nat):Nat->qJ->Prop
 | 0,C'=>C'=C
 | 1,C'=>zEF C m C'
 | 2,C'=>∃C1,zEF C m C1/\C'=zCC C1 nx q
 | _,C'=>∃C1,zEF C m C1/\C'=zCC (zCC C1 nx q) nx hh
def jG(s:yM)(root keys:Nat):yM:=⟨s.gen+1,s.blocks,s.size,root,keys⟩
def zQy[zW](F P:Nat->Prop)(ad:Nat->Addr)(w:World)(S d c sp:Nat)(nx:yM)(hh q root keys:Nat)(C:qJ)(m:vF)(l:List Nat)(e:Ending)(w':World):Prop :=
 e=.returned .nilIface/\∃P' F' C1,zEF C m C1/\StO F' w' P' S d c sp nx (q:Int) (root:Int) (keys:Int) (zCC (zCC C1 nx q) nx hh) (zAS l)/\zY (qE P S) (qE P' S) F F' ad w w'
theorem zP8[zW](h6:vQ=6)(hL:yG F ad w)(hP:∀k,P k->F k){hh q root keys:Nat}(hhq:hh<2/\q=1-hh)(h:StO F w P S d c sp s (hh:Int) (root:Int) (keys:Int) C l)(hI:yI C)(hc:C.cost+2<=900000)(hwt:zCb C.disk)
  (m:vF) (hm:zAa m=true) (hmg:m.gen=s.gen+1) (hg:s.gen+1<18446744073709551616) (hmb:m.blocks=s.blocks) (hu:yA m=zBj l l.length) (hz:s.size=C.disk.size) (hok:zBP (jG s root keys)=true) (hs:openS (C.disk.look q) q=some s1) :
  Calls Tryz.prog 16 #[.pointer (some ⟨S,0,none⟩)] w (zQy F P ad w S d c sp (jG s root keys) hh q root keys C m l):=by
 obtain⟨a0,cc0,hB⟩:=h.blk;obtain⟨hPS,hFS⟩:=h.offS;have HAL:=oh (λop=>zRe (hB.cell (o:=12) (v:=.bool false) rfl) op);obtain⟨g,hgg⟩:∃g,g=s.gen:=⟨_,rfl⟩;obtain⟨sb,hsb⟩:∃b,b=s.blocks:=⟨_,rfl⟩;obtain⟨sz,hsz⟩:∃b,b=s.size:=⟨_,rfl⟩;have e1:((s.gen+1:Nat):Int)=(s.gen:Int)+1:=by omega
 have HLY:Hid (∀W P1 F1 C1,yG F1 ad W->(∀k,P1 k->F1 k)->StO F1 W P1 S d c sp s (hh:Int) (root:Int) (keys:Int) C1 l->CmK C m (jG s root keys) hh q 0 C1 -> Calls Tryz.prog 57 #[.agg #[.pointer (some ⟨S,0,none⟩),.int .u64 ((g:Int)+1),.int .i64 (sb:Int),.int .i64 (sz:Int),.int .i64 (root:Int),.int .i64 (keys:Int)]] W (zBp F1 P1 ad W S d c sp s (hh:Int) (root:Int) (keys:Int) l (CmK C m (jG s root keys) hh q 1))):=oh (λW P1 F1 C1 e2 e3 e4 e5=>by
  have e5:C1=C:=e5;subst e5;have:=zR6 h6 e2 e3 e4 hI hc hwt m hm (by rw[hmg];exact hg) hu (s.size:Int) (root:Int) (keys:Int);rw[hmg,hmb,e1,<- hgg,<- hsb,<- hsz] at this;exact this)
 have HFI:Hid (∀W P1 F1 C1,yG F1 ad W->(∀k,P1 k->F1 k)->StO F1 W P1 S d c sp s (hh:Int) (root:Int) (keys:Int) C1 l->CmK C m (jG s root keys) hh q 1 C1 -> Calls Tryz.prog 58 #[.agg #[.pointer (some ⟨S,0,none⟩),.int .u64 ((g:Int)+1),.int .i64 (sb:Int),.int .i64 (sz:Int),.int .i64 (root:Int),.int .i64 (keys:Int)]] W (zBp F1 P1 ad W S d c sp s (hh:Int) (root:Int) (keys:Int) l (CmK C m (jG s root keys) hh q 2))):=oh (λW P1 F1 C1 e2 e3 e4 e5=>by
  obtain⟨f1,f2,f3,f4,f5,f6⟩:=zEF.facts h6 hI e5;have:=zQx e2 e3 hhq e4 f2 (by rw[f3];simp) (by rw[f4];exact hI.b8) (by rw[f6 q (by omega)];exact hs) f1.s256 f1.s1024 hok hg (by rw[f5];exact hz);unfold jG at this;simp only at this;rw[e1,<- hgg,<- hsb,<- hsz] at this;refine this.mono ?_;rintro e w' ⟨r1,P',F',C',r2,r3,r4⟩;exact⟨r1,P',F',C',r2,r3,C1,e5,by rw[r4];unfold jG;rw[<- hgg,<- hsb,<- hsz]⟩)
 have HSE:Hid (∀W P1 F1 C1,yG F1 ad W->(∀k,P1 k->F1 k)->StO F1 W P1 S d c sp s (hh:Int) (root:Int) (keys:Int) C1 l->CmK C m (jG s root keys) hh q 2 C1 -> Calls Tryz.prog 59 #[.agg #[.pointer (some ⟨S,0,none⟩),.int .u64 ((g:Int)+1),.int .i64 (sb:Int),.int .i64 (sz:Int),.int .i64 (root:Int),.int .i64 (keys:Int)]] W (zBp F1 P1 ad W S d c sp s (hh:Int) (root:Int) (keys:Int) l (CmK C m (jG s root keys) hh q 3))):=oh (λW P1 F1 C1 e2 e3 e4 e5=>by
  obtain⟨C0,e5,rfl⟩:=e5;obtain⟨f1,f2,f3,f4,f5,f6⟩:=zEF.facts h6 hI e5;have hl:=zAV hok q;obtain⟨k1,k2,k3,k4⟩:=zPw (jG s root keys) f2 (i:=q) (by have:=f1.b8;omega) (by rw[hl,f5];exact hz);have:=zP7 e2 e3 hhq.1 e4 k1 (by rw[k2];simp) (by rw[k3];exact f1.b8) hok hg (by rw[k4,f5];exact hz);unfold jG at this;simp only at this;rw[e1,<- hgg,<- hsb,<- hsz] at this;refine this.mono ?_;rintro e w' ⟨r1,P',F',C',r2,r3,r4⟩;exact⟨r1,P',F',C',r2,r3,C0,e5,by rw[r4];unfold jG;rw[<- hgg,<- hsb,<- hsz]⟩)
 unfold stC at hB;rw[<- hgg,<- hsb,<- hsz] at hB;rw[<- hgg] at hg;have c3:=hB.cell (o:=3) (v:=.int .u64 (g:Int)) rfl;have c4:=hB.cell (o:=4) (v:=.int .i64 (sb:Int)) rfl;have c5:=hB.cell (o:=5) (v:=.int .i64 (sz:Int)) rfl;have c9:=hB.cell (o:=9) (v:=.int .i64 (root:Int)) rfl;have c10:=hB.cell (o:=10) (v:=.int .i64 (keys:Int)) rfl;have hSl:=hB.lt;have hne:S≠w.heap.size:=by omega
 have wg:IntKind.u64.wrap ((g:Int)+1)=(g:Int)+1:=by unfold IntKind.wrap;simp[IntKind.bits,IntKind.signed];omega
 have HNX:Hid (jG s root keys=⟨g+1,sb,sz,root,keys⟩):=oh (by unfold jG;rw[hgg,hsb,hsz]);have HL:=oh hL;have HP:=oh hP;have HST:=oh h;have HPS:=oh hPS;have HFS:=oh hFS;have HSL:=oh hSl;have HHQ:=oh hhq;clear hL hP h hB hPS hFS hI hc hwt hm hmg hmb hu hz hok hs hgg hsb hsz h6 e1 hg hhq
 go_enter Tryz.func16, Tryz.ntmps16
 go_wp2_with fail;refine (HAL.out _).mono ?_;rintro e w1 ⟨rfl,rfl⟩;go_wp2_with fail;go_region
 obtain⟨W1,hW1⟩:∃W,W=(w.alloc (.cells #[.pointer (some ⟨S,0,none⟩),.int .u64 ((g:Int)+1),.int .i64 (sb:Int),.int .i64 (sz:Int),.int .i64 (root:Int),.int .i64 (keys:Int)] 125)).drew:=⟨_,rfl⟩;have m1:zF w W1:=by rw[hW1];exact ((zA.refl _ w).alloc _).drew
 have hX1:zH W1 w.heap.size #[.pointer (some ⟨S,0,none⟩),.int .u64 ((g:Int)+1),.int .i64 (sb:Int),.int .i64 (sz:Int),.int .i64 (root:Int),.int .i64 (keys:Int)] 125:=by rw[hW1];exact zH.drew (zH.new w _ _)
 obtain⟨X,hX⟩:∃X,X=w.heap.size:=⟨_,rfl⟩;have HSX2:Hid (S<X):=oh (by rw[hX];exact HSL.out);have HPX:Hid (¬ P X):=oh (λf=>by have:=HL.out.lt _ (HP.out _ f);omega);rw[<- hX] at hX1;rw[<- hW1,<- hX];have HM1:=oh m1;have HX1:=oh hX1;have x0:=hX1.cell (o:=0) (v:=.pointer (some ⟨S,0,none⟩)) rfl;have x1:=hX1.cell (o:=1) (v:=.int .u64 ((g:Int)+1)) rfl;have x2:=hX1.cell (o:=2) (v:=.int .i64 (sb:Int)) rfl;have x3:=hX1.cell (o:=3) (v:=.int .i64 (sz:Int)) rfl;have x4:=hX1.cell (o:=4) (v:=.int .i64 (root:Int)) rfl;have x5:=hX1.cell (o:=5) (v:=.int .i64 (keys:Int)) rfl;have ia:=Tryz.idx3a;have ib:=Tryz.idx3b;have ic:=Tryz.idx3c;clear hW1 hX m1 hX1 c3 c4 c5 c9 c10 hne wg hSl;go_wp2_with fail;go_loopg [42] 3 (λr v42 wr=>∃k:Nat,k+r=3/\v42=.int .i64 (k:Int)/\Hid (∃P1 F1 C1,StO F1 wr P1 S d c sp s (hh:Int) (root:Int) (keys:Int) C1 l/\zY P P1 F F1 ad w wr/\CmK C m (jG s root keys) hh q k C1/\¬ P1 X/\zH wr X #[.pointer (some ⟨S,0,none⟩),.int .u64 ((g:Int)+1),.int .i64 (sb:Int),.int .i64 (sz:Int),.int .i64 (root:Int),.int .i64 (keys:Int)] 125))
 case atStart=>exact⟨0,rfl,rfl,oh ⟨P,F,C,HST.out.at HM1.out,zY.ext HL.out HP.out HM1.out,rfl,HPX.out,HX1.out⟩⟩
 case round =>
  obtain⟨k,hk,rfl,HR⟩:=hrel;obtain⟨P1,F1,C1,h1,n1,k1,p1,b1⟩:=HR.out;have HN1:=oh n1;have HX1':=oh (And.intro p1 b1);match k,hk,k1 with
  | 0,hk,k1 =>
   have HC:=oh (HLY.out wr P1 F1 C1 n1.env n1.sub h1 k1);rw[show ((0:Nat):Int)=0 from rfl];clear h1 n1 k1 p1 b1 HR;go_wp2_with fail;refine HC.out.mono ?_;rintro e w7 ⟨rfl,P7,F7,C7,h7,n7,k7⟩;have H7:Hid (∃P1 F1 C1,StO F1 w7 P1 S d c sp s (hh:Int) (root:Int) (keys:Int) C1 l/\zY P P1 F F1 ad w w7/\CmK C m (jG s root keys) hh q 1 C1/\¬ P1 X/\zH w7 X #[.pointer (some ⟨S,0,none⟩),.int .u64 ((g:Int)+1),.int .i64 (sb:Int),.int .i64 (sz:Int),.int .i64 (root:Int),.int .i64 (keys:Int)] 125):=oh ⟨P7,F7,C7,h7,HN1.out.trans n7,k7,n7.not HX1'.out.2.lt HX1'.out.1,n7.blk HX1'.out.2 HX1'.out.1⟩;clear h7 n7 k7;go_wp2_with fail;go_roundg (gk-1)
   case measure=>omega
   case rel=>exact⟨1,by omega,by go_num,H7⟩
  | 1,hk,k1 =>
   have HC:=oh (HFI.out wr P1 F1 C1 n1.env n1.sub h1 k1);rw[show ((1:Nat):Int)=1 from rfl];clear h1 n1 k1 p1 b1 HR;go_wp2_with fail;refine HC.out.mono ?_;rintro e w7 ⟨rfl,P7,F7,C7,h7,n7,k7⟩;have H7:Hid (∃P1 F1 C1,StO F1 w7 P1 S d c sp s (hh:Int) (root:Int) (keys:Int) C1 l/\zY P P1 F F1 ad w w7/\CmK C m (jG s root keys) hh q 2 C1/\¬ P1 X/\zH w7 X #[.pointer (some ⟨S,0,none⟩),.int .u64 ((g:Int)+1),.int .i64 (sb:Int),.int .i64 (sz:Int),.int .i64 (root:Int),.int .i64 (keys:Int)] 125):=oh ⟨P7,F7,C7,h7,HN1.out.trans n7,k7,n7.not HX1'.out.2.lt HX1'.out.1,n7.blk HX1'.out.2 HX1'.out.1⟩;clear h7 n7 k7;go_wp2_with fail;go_roundg (gk-1)
   case measure=>omega
   case rel=>exact⟨2,by omega,by go_num,H7⟩
  | 2,hk,k1 =>
   have HC:=oh (HSE.out wr P1 F1 C1 n1.env n1.sub h1 k1);rw[show ((2:Nat):Int)=2 from rfl];clear h1 n1 k1 p1 b1 HR;go_wp2_with fail;refine HC.out.mono ?_;rintro e w7 ⟨rfl,P7,F7,C7,h7,n7,k7⟩;have H7:Hid (∃P1 F1 C1,StO F1 w7 P1 S d c sp s (hh:Int) (root:Int) (keys:Int) C1 l/\zY P P1 F F1 ad w w7/\CmK C m (jG s root keys) hh q 3 C1/\¬ P1 X/\zH w7 X #[.pointer (some ⟨S,0,none⟩),.int .u64 ((g:Int)+1),.int .i64 (sb:Int),.int .i64 (sz:Int),.int .i64 (root:Int),.int .i64 (keys:Int)] 125):=oh ⟨P7,F7,C7,h7,HN1.out.trans n7,k7,n7.not HX1'.out.2.lt HX1'.out.1,n7.blk HX1'.out.2 HX1'.out.1⟩;clear h7 n7 k7;go_wp2_with fail;go_roundg (gk-1)
   case measure=>omega
   case rel=>exact⟨3,by omega,by go_num,H7⟩
  | k+3,hk,k1 =>
   obtain⟨C0,hC0,hC1⟩:∃C0,zEF C m C0/\C1=zCC (zCC C0 (jG s root keys) q) (jG s root keys) hh:=k1;subst hC1;have hk0:k=0:=by omega
   subst hk0;obtain⟨b2,hsp,hsF,hcont⟩:=h1.space n1.env n1.sub;have HCM:=oh (zMT wr sp b2 l hsp);obtain⟨a1,cc1,hB1⟩:=h1.blk;have s2:=hB1.cell (o:=2) (v:=.pointer (some ⟨sp,0,none⟩)) rfl;have HCO:=oh hcont;have HC0:=oh hC0;rw[show ((0+3:Nat):Int)=3 from rfl];clear h1 n1 k1 p1 b1 hk HR hB1 hcont hsp hsF hC0;go_wp2_with fail;refine HCM.out.mono ?_;rintro e w8 ⟨rfl,hS8,m8⟩;obtain⟨h8,n8⟩:=HCO.out w8 _ hS8 m8;obtain⟨a8,cc8,hB8⟩:=h8.blk;have hX8:=n8.blk HX1'.out.2 HX1'.out.1;have H8:=oh (And.intro h8 (HN1.out.trans n8));unfold stC at hB8;have HB8:=oh hB8;have s3:=hB8.cell (o:=3) (v:=.int .u64 (s.gen:Int)) rfl;have s4:=hB8.cell (o:=4) (v:=.int .i64 (s.blocks:Int)) rfl;have s5:=hB8.cell (o:=5) (v:=.int .i64 (s.size:Int)) rfl;have s6:=hB8.cell (o:=6) (v:=.int .i64 (s.root:Int)) rfl;have s7:=hB8.cell (o:=7) (v:=.int .i64 (s.keys:Int)) rfl;have s8:=hB8.cell (o:=8) (v:=.int .i64 (hh:Int)) rfl;have s11:=hB8.cell (o:=11) (v:=.slice a8 0 cc8) rfl;have sf:=hB8.frozen;have x1:=hX8.cell (o:=1) (v:=.int .u64 ((g:Int)+1)) rfl;have x2:=hX8.cell (o:=2) (v:=.int .i64 (sb:Int)) rfl;have x3:=hX8.cell (o:=3) (v:=.int .i64 (sz:Int)) rfl;have x4:=hX8.cell (o:=4) (v:=.int .i64 (root:Int)) rfl;have x5:=hX8.cell (o:=5) (v:=.int .i64 (keys:Int)) rfl;have hSX:S≠X:=by have:=HSX2.out;omega
   clear hS8 m8 h8 n8 hB8 hX8 s2 x0;go_wp2_with fail;go_region
   have hq9:RowKit.wrap64 (1-(hh:Int))=(q:Int):=by
    obtain⟨a1,a2⟩:=HHQ.out;have e1:RowKit.wrap64 (1-(hh:Int))=1-(hh:Int):=by unfold RowKit.wrap64;omega
    rw[e1];omega
   rw[hq9];obtain⟨W9,hW9⟩:∃W,W=(((((((w8.setCell ⟨S,3,none⟩ (.int .u64 ((g:Int)+1))).setCell ⟨S,4,none⟩ (.int .i64 (sb:Int))).setCell ⟨S,5,none⟩ (.int .i64 (sz:Int))).setCell ⟨S,6,none⟩ (.int .i64 (root:Int))).setCell ⟨S,7,none⟩ (.int .i64 (keys:Int))).setCell ⟨S,8,none⟩ (.int .i64 (q:Int))).setCell ⟨S,11,none⟩ (.slice none 0 0)).drew:=⟨_,rfl⟩;have m9:zA (λj=>j=S) w8 W9:=by
    rw[hW9];exact (zA.setCell (F:=λj=>j=S) (zA.setCell (F:=λj=>j=S) (zA.setCell (F:=λj=>j=S) (zA.setCell (F:=λj=>j=S) (zA.setCell (F:=λj=>j=S) (zA.setCell (F:=λj=>j=S) (zA.setCell (F:=λj=>j=S) (zA.refl _ w8) (p:=⟨S,3,none⟩) (.inr rfl) _) (p:=⟨S,4,none⟩) (.inr rfl) _) (p:=⟨S,5,none⟩) (.inr rfl) _) (p:=⟨S,6,none⟩) (.inr rfl) _) (p:=⟨S,7,none⟩) (.inr rfl) _) (p:=⟨S,8,none⟩) (.inr rfl) _) (p:=⟨S,11,none⟩) (.inr rfl) _).drew
   have hB9:zH W9 S (stC d (.pointer (some ⟨c,0,none⟩)) (.pointer (some ⟨sp,0,none⟩)) (jG s root keys) (q:Int) (root:Int) (keys:Int) (.slice none 0 0) false) 123:=by
    rw[hW9,HNX.out];exact zH.drew (by simpa[stC] using ((((((HB8.out.set 3 (.int .u64 ((g:Int)+1))).set 4 (.int .i64 (sb:Int))).set 5 (.int .i64 (sz:Int))).set 6 (.int .i64 (root:Int))).set 7 (.int .i64 (keys:Int))).set 8 (.int .i64 (q:Int))).set 11 (.slice none 0 0))
   rw[<- hW9];have HZ:=oh (And.intro (H8.out.1.cells m9 hB9) (H8.out.2.withS HSL.out H8.out.1.offS.2 m9));clear hW9 m9 hB9 s3 s4 s5 s6 s7 s8 s11 sf x1 x2 x3 x4 x5 hq9;go_wp2_with fail;go_ret;exact⟨rfl,P1,F1,C0,HC0.out,HZ.out.1,HZ.out.2⟩
end
end
section
open Go.RowKit
def zH6(G:GA)(gen:Nat)(e:zV)(v:ByteArray)(ids:List Nat):Prop :=
 (e.chain=0/\e.value=v/\ids=[])\/(e.chain≠0/\ChG G gen e.chain e.size v ids)
inductive jH (G:GA) (gen:Nat):List zV->List zT->List Nat->Prop
 | nil:jH G gen [] [] []
 | cons {e x ids es l q}:e.key=x.1->zH6 G gen e x.2 ids->jH G gen es l q->jH G gen (e :: es) (x :: l) (ids++q)
abbrev zEg:=ByteArray->Option ByteArray->Nat->List zT->List Nat->Prop
inductive jD (T:zEg):ByteArray->Option ByteArray->List ByteArray->List Int->List zT->List Nat->Prop
 | one {lo hi c l q}:T lo hi c l q->jD T lo hi [] [(c:Int)] l q
 | cons {lo hi s c keys kids l1 l2 q1 q2}:T lo (some s) c l1 q1->inB lo hi s->jD T s hi keys kids l2 q2->jD T lo hi (s :: keys) ((c:Int) :: kids) (l1++l2) (q1++q2)
structure PgN(G:GA)(gen id:Nat)(n:zJ):Prop where
 lo:2<=id
 lt:id<G.blocks
 page:∃p,G.view id=some (.inl p)/\p.gen<=gen/\qH p=.inl n
 fit:zG n<=(G.size:Int)-24
def zH7(G:GA)(gen:Nat)(T:zEg)(d:Nat)(lo:ByteArray)(hi:Option ByteArray)(n:zJ)(l:List zT)(q:List Nat):Prop :=
 (n.leaf=true/\d=0/\l≠[]/\jH G gen n.entries l q/\∀x∈l,inB lo hi x.1)\/(n.leaf=false/\jD T lo hi n.keys n.kids l q)
def TrD(G:GA)(gen:Nat):Nat->zEg
 | 0=>λ_ _ _ _ _=>False
 | d+1=>λlo hi id l pgs=>∃n q,PgN G gen id n/\zO n=true/\pgs=id :: q/\zH7 G gen (TrD G gen d) d lo hi n l q
section
variable {G G':GA}{gen gen':Nat}{T T':zEg}{lo:ByteArray}{hi:Option ByteArray}{l:List zT}{q:List Nat}{keys:List ByteArray}{kids:List Int}
theorem zNW{lo s x:ByteArray}{hi:Option ByteArray}(h1:inB lo hi s)(h2:inB s hi x):inB lo hi x:=⟨zJq h1.1 h2.1,h2.2⟩
theorem zLV{lo s x:ByteArray}{hi:Option ByteArray}(h1:inB lo hi s)(h2:inB lo (some s) x):inB lo hi x:=⟨h2.1,λh e=>zAw (h2.2 s rfl) (h1.2 h e)⟩
theorem jD.bounds(hT:∀lo hi c l q,T lo hi c l q->∀x∈l,inB lo hi x.1)(h:jD T lo hi keys kids l q):∀x∈l,inB lo hi x.1:=by
 induction h with
 | one h=>exact hT _ _ _ _ _ h
 | cons h1 h2 _ ih =>
  intro x hx;rcases List.mem_append.1 hx with hx|hx
  .exact zLV h2 (hT _ _ _ _ _ h1 x hx)
  .exact zNW h2 (ih x hx)
theorem TrD.bounds:∀(d:Nat) (lo:ByteArray) (hi:Option ByteArray) (id:Nat) (l:List zT) (q:List Nat),TrD G gen d lo hi id l q->∀x∈l,inB lo hi x.1
 | 0,_,_,_,_,_,h=>h.elim
 | d+1,lo,hi,id,l,q,h=>by
  obtain⟨n,q,_,_,_,h⟩:=h;rcases h with ⟨_,_,_,_,h⟩|⟨_,h⟩
  .exact h
  .exact h.bounds (TrD.bounds d)
theorem jD.mono(h:jD T lo hi keys kids l q):(∀lo hi c l p,(∀x∈p,x∈q)->T lo hi c l p->T' lo hi c l p)->jD T' lo hi keys kids l q:=by
 induction h with
 | one h=>exact λhm=>.one (hm _ _ _ _ _ (λ_ hx=>hx) h)
 | cons h1 h2 _ ih=>exact λhm=>.cons (hm _ _ _ _ _ (λ_ hx=>List.mem_append_left _ hx) h1) h2 (ih (λlo hi c l p hp=>hm lo hi c l p (λx hx=>List.mem_append_right _ (hp x hx))))
theorem zH6.mono{e:zV}{v:ByteArray}{ids:List Nat}(h:zH6 G gen e v ids)(hg:gen<=gen')(hb:G'.blocks=G.blocks)(hs:G'.size=G.size)(hv:∀i∈ids,G'.view i=G.view i):zH6 G' gen' e v ids :=
 h.imp id (λh=>⟨h.1,h.2.mono hg hb hs hv⟩)
theorem jH.mono{es:List zV}(h:jH G gen es l q):gen<=gen'->G'.blocks=G.blocks->G'.size=G.size->(∀i∈q,G'.view i=G.view i)->jH G' gen' es l q:=by
 induction h with
 | nil=>exact λ_ _ _ _=>.nil
 | cons h1 h2 _ ih=>exact λhg hb hs hv=>.cons h1 (h2.mono hg hb hs (λi hi=>hv i (List.mem_append_left _ hi))) (ih hg hb hs (λi hi=>hv i (List.mem_append_right _ hi)))
theorem PgN.mono{id:Nat}{n:zJ}(h:PgN G gen id n)(hg:gen<=gen')(hb:G'.blocks=G.blocks)(hs:G'.size=G.size)(hv:G'.view id=G.view id):PgN G' gen' id n:=by
 obtain⟨p,h1,h2,h3⟩:=h.page;exact⟨h.lo,by rw[hb];exact h.lt,⟨p,hv.trans h1,Nat.le_trans h2 hg,h3⟩,by rw[hs];exact h.fit⟩
theorem TrD.mono(hg:gen<=gen')(hb:G'.blocks=G.blocks)(hs:G'.size=G.size):∀(d:Nat) (lo:ByteArray) (hi:Option ByteArray) (id:Nat) (l:List zT) (q:List Nat),(∀i∈q,G'.view i=G.view i)->TrD G gen d lo hi id l q->TrD G' gen' d lo hi id l q
 | 0,_,_,_,_,_,_,h=>h.elim
 | d+1,lo,hi,id,l,pgs,hv,h=>by
  obtain⟨n,q,h1,h2,rfl,h3⟩:=h;refine⟨n,q,h1.mono hg hb hs (hv id List.mem_cons_self),h2,rfl,?_⟩;have hv2:∀i∈q,G'.view i=G.view i:=λi hi=>hv i (List.mem_cons_of_mem _ hi)
  rcases h3 with ⟨a1,a2,a3,a4,a5⟩|⟨a1,a2⟩
  .exact .inl ⟨a1,a2,a3,a4.mono hg hb hs hv2,a5⟩
  .exact .inr ⟨a1,a2.mono (λlo hi c l p hp=>TrD.mono hg hb hs d lo hi c l p (λi hi=>hv2 i (hp i hi)))⟩
theorem zH7.mono{d:Nat}{n:zJ}(h:zH7 G gen (TrD G gen d) d lo hi n l q)(hg:gen<=gen')(hb:G'.blocks=G.blocks)(hs:G'.size=G.size)(hv:∀i∈q,G'.view i=G.view i):zH7 G' gen' (TrD G' gen' d) d lo hi n l q:=by
 rcases h with ⟨a1,a2,a3,a4,a5⟩|⟨a1,a2⟩
 .exact .inl ⟨a1,a2,a3,a4.mono hg hb hs hv,a5⟩
 .exact .inr ⟨a1,a2.mono (λlo hi c l p hp=>TrD.mono hg hb hs d lo hi c l p (λi hi=>hv i (hp i hi)))⟩
theorem jD.len(h:jD T lo hi keys kids l q):kids.length=keys.length+1:=by
 induction h with
 | one=>rfl
 | cons _ _ _ ih=>simp[ih]
theorem jD.join{s:ByteArray}{k1 k2:List ByteArray}{c1 c2:List Int}{l1 l2:List zT}{q1 q2:List Nat}(h2:jD T s hi k2 c2 l2 q2)(h1:jD T lo (some s) k1 c1 l1 q1):inB lo hi s->jD T lo hi (k1++s :: k2) (c1++c2) (l1++l2) (q1++q2):=by
 generalize ho:(some s:Option ByteArray)=o at h1
 induction h1 with
 | one h=>subst ho;exact λhs=>.cons h hs h2
 | cons h hb _ ih =>
  subst ho;intro hs;have h3:=ih rfl ⟨(by
   have:=hb.2 s rfl;exact zEm this),hs.2⟩
  simp only[List.cons_append,List.append_assoc];exact .cons h (zLV hs hb) h3
theorem jD.split:∀(k1:List ByteArray) {s:ByteArray} {k2:List ByteArray} {c1 c2:List Int} {lo:ByteArray} {l:List zT} {q:List Nat},jD T lo hi (k1++s :: k2) (c1++c2) l q->c1.length=k1.length+1->((k1++s :: k2).Pairwise λa b=>ltS a b=true) ->
  ∃l1 l2 q1 q2,jD T lo (some s) k1 c1 l1 q1/\jD T s hi k2 c2 l2 q2/\l=l1++l2/\q=q1++q2/\inB lo hi s
 | [],s,k2,c1,c2,lo,l,q,h,hc,_=>by
  match c1,hc with
  | [c],_ =>
   generalize e1:([]++s :: k2:List ByteArray)=ks at h
   generalize e2:([c]++c2:List Int)=cs at h
   cases h with
   | one h=>simp at e1
   | cons h1 h2 h3 =>
    simp at e1 e2;obtain⟨rfl,rfl⟩:=e1;obtain⟨rfl,rfl⟩:=e2;exact⟨_,_,_,_,.one h1,h3,rfl,rfl,h2⟩
 | a :: k1,s,k2,c1,c2,lo,l,q,h,hc,hp=>by
  match c1,hc with
  | c :: c1,hc =>
   have hp2:=List.pairwise_cons.1 hp;generalize e1:(a :: k1++s :: k2:List ByteArray)=ks at h
   generalize e2:(c :: c1++c2:List Int)=cs at h
   cases h with
   | one h=>simp at e1
   | cons h1 h2 h3 =>
    simp at e1 e2;obtain⟨rfl,rfl⟩:=e1;obtain⟨rfl,rfl⟩:=e2;obtain⟨l1,l2,q1,q2,j1,j2,rfl,rfl,j3⟩:=jD.split k1 h3 (by simpa using hc) hp2.2;exact⟨_,_,_,_,.cons h1 ⟨h2.1,λh e=>by injection e with e;subst e;exact hp2.1 _ (by simp)⟩ j1,j2,(List.append_assoc _ _ _).symm,(List.append_assoc _ _ _).symm,zNW h2 j3⟩
theorem zEt{key v:ByteArray}{r:List zT}:∀(l1:List zT),(∀x∈l1,ltS x.1 key=true)->yS key v true (l1++r)=l1++yS key v true r
 | [],_=>rfl
 | x :: l1,h=>by
  rw[List.cons_append,yS,if_pos (h x List.mem_cons_self),zEt l1 (λy hy=>h y (List.mem_cons_of_mem _ hy))];rfl
theorem zD5{key v:ByteArray}{l2:List zT}(h2:∀x∈l2,ltS key x.1=true):∀(lm:List zT),yS key v true (lm++l2)=yS key v true lm++l2
 | []=>by
  cases l2 with
  | nil=>rfl
  | cons x l =>
   have h:=h2 x List.mem_cons_self;show yS key v true (x :: l)=(key,v) :: x :: l;unfold yS;rw[if_neg (by rw[zEm h];simp),if_neg (zF5 h).symm]
 | x :: lm=>by
  rw[List.cons_append,yS,yS];split
  .rw[zD5 h2 lm];rfl
  .split
   .rfl
   .rfl
theorem zOl{key:ByteArray}{l1 lm l2:List zT}(h1:∀x∈l1,ltS x.1 key=true)(h2:∀x∈l2,ltS key x.1=true):jP key (l1++(lm++l2))=jP key lm:=by
 rw[zCn,zCn,zFX h1,zKc h2];simp
theorem jD.at_(hT:∀lo hi c l q,T lo hi c l q->∀x∈l,inB lo hi x.1)(h:jD T lo hi keys kids l q){key:ByteArray}:inB lo hi key ->
  ∃(k1 k2:List ByteArray) (c1:List Int) (c:Nat) (c2:List Int) (l1 lm l2:List zT) (q1 qm q2:List Nat) (lo':ByteArray) (hi':Option ByteArray),
   keys=k1++k2/\kids=c1++(c:Int) :: c2/\c1.length=k1.length/\zBS key keys=k1.length/\l=l1++(lm++l2)/\q=q1++(qm++q2)/\T lo' hi' c lm qm/\inB lo' hi' key /\
   (∀x∈l1,ltS x.1 key=true)/\(∀x∈l2,ltS key x.1=true) /\
   (∀(T':zEg) (ks:List ByteArray) (cs:List Int) (lm':List zT) (qm':List Nat),jD T' lo' hi' ks cs lm' qm'->(∀lo hi c l p,(∀x∈p,x∈q1\/x∈q2)->T lo hi c l p->T' lo hi c l p)->jD T' lo hi (k1++(ks++k2)) (c1++(cs++c2)) (l1++(lm'++l2)) (q1++(qm'++q2))):=by
 induction h with
 | @one lo hi c l q h =>
  intro hk;refine⟨[],[],[],c,[],[],l,[],[],q,[],lo,hi,rfl,rfl,rfl,rfl,by simp,by simp,h,hk,by simp,by simp,λT' ks cs lm' qm' h2 _=>by simpa using h2⟩
 | @cons lo hi s c keys kids l1 l2 q1 q2 h1 h2 h3 ih =>
  intro hk;cases hks:ltS key s with
  | true =>
   refine⟨[],s :: keys,[],c,kids,[],l1,l2,[],q1,q2,lo,some s,rfl,rfl,rfl,?_,rfl,rfl,h1,⟨hk.1,λh e=>by injection e with e;subst e;exact hks⟩,by simp,λx hx=>?_,λT' ks cs lm' qm' j1 j2=>?_⟩
   .unfold zBS;rw[List.findIdx_cons,hks];rfl
   .exact zDr hks (h3.bounds hT x hx).1
   .show jD T' lo hi (ks++s :: keys) (cs++kids) (lm'++l2) (qm'++q2);exact jD.join (h3.mono (λlo hi c l p hp=>j2 lo hi c l p (λx hx=>.inr (hp x hx)))) j1 h2
  | false =>
   obtain⟨k1,k2,c1,c',c2,m1,mm,m2,p1,pm,p2,lo',hi',rfl,rfl,e3,e4,rfl,rfl,e7,e8,e9,e10,e11⟩:=ih ⟨hks,hk.2⟩;refine⟨s :: k1,k2,(c:Int) :: c1,c',c2,l1++m1,mm,m2,q1++p1,pm,p2,lo',hi',rfl,rfl,by simp[e3],?_,by simp,by simp,e7,e8,λx hx=>?_,e10,λT' ks cs lm' qm' j1 j2=>?_⟩
   .unfold zBS at e4 ⊢;rw[List.findIdx_cons,hks];simp[e4]
   .rcases List.mem_append.1 hx with hx|hx
    .exact zDr ((hT _ _ _ _ _ h1 x hx).2 s rfl) hks
    .exact e9 x hx
   .have:=jD.cons (T:=T') (j2 _ _ _ _ _ (λx hx=>.inl (List.mem_append_left _ hx)) h1) h2 (e11 T' ks cs lm' qm' j1 (λlo hi c l p hp=>j2 lo hi c l p (λx hx=>(hp x hx).imp (List.mem_append_right _) id)));simpa using this
end
theorem zBK(d:Nat->Nat):∀(m b a x:Nat),(x=b\/(a<=x/\x<a+m))->d (qX d b a m)<=d x
 | 0,b,a,x,h=>by
  rcases h with rfl|h
  .exact Nat.le_refl _
  .omega
 | m+1,b,a,x,h=>by
  rw[qX];by_cases hlt:d a<d b
  .rw[if_pos hlt];rcases h with rfl|⟨h1,h2⟩
   .exact Nat.le_trans (zBK d m a (a+1) a (.inl rfl)) (Nat.le_of_lt hlt)
   .by_cases e:x=a
    .exact zBK d m a (a+1) x (.inl e)
    .exact zBK d m a (a+1) x (.inr ⟨by omega,by omega⟩)
  .rw[if_neg hlt];rcases h with rfl|⟨h1,h2⟩
   .exact zBK d m x (a+1) x (.inl rfl)
   .by_cases e:x=a
    .subst e;exact Nat.le_trans (zBK d m b (x+1) b (.inl rfl)) (by omega)
    .exact zBK d m b (a+1) x (.inr ⟨by omega,by omega⟩)
theorem zH8(g:Nat->Int)(lo:Nat):∀(k:Nat),g lo<=0->0<g (lo+k)->∃a,lo<=a/\a<lo+k/\g a<=0/\0<g (a+1)
 | 0,h1,h2=>by simp only[Nat.add_zero] at h2;omega
 | k+1,h1,h2=>by
  by_cases h3:0<g (lo+k)
  .obtain⟨a,a1,a2,a3,a4⟩:=zH8 g lo k h1 h3;exact⟨a,a1,by omega,a3,a4⟩
  .exact⟨lo+k,by omega,by omega,by omega,h2⟩
theorem zGJ(g:Nat->Int)(M:Int)(lo k:Nat)(h1:g lo<=M)(h2 : -M<=g (lo+k))(h3:∀a,lo<=a->a<lo+k->g (a+1)-g a<=2 * M):∃a,lo<=a/\a<=lo+k /\ -M<=g a/\g a<=M:=by
 by_cases c1:0<g lo
 .exact⟨lo,Nat.le_refl _,by omega,by omega,h1⟩
 .by_cases c2:g (lo+k)<=0
  .exact⟨lo+k,by omega,Nat.le_refl _,h2,by omega⟩
  .obtain⟨a,a1,a2,a3,a4⟩:=zH8 g lo k (by omega) (by omega);have:=h3 a a1 a2;by_cases c3 : -M<=g a
   .exact⟨a,a1,by omega,c3,by omega⟩
   .exact⟨a+1,by omega,by omega,by omega,by omega⟩
theorem zJR{l:List zV}{k:Nat}{e:zV}(h:l[k]? = some e):yL (l.take (k+1))=yL (l.take k)+jV e:=by
 rw[jA l k e h,zAB];simp[yL]
theorem zOm{l:List ByteArray}{k:Nat}{e:ByteArray}(h:l[k]? = some e):yT (l.take (k+1))=yT (l.take k)+(5+(e.size:Int)):=by
 rw[jA l k e h,jF];simp[yT]
theorem zH9(l:List zV)(k:Nat):yL (l.take k)+yL (l.drop k)=yL l:=by
 rw[<- zAB,List.take_append_drop]
theorem zMu(l:List ByteArray)(k:Nat):yT (l.take k)+yT (l.drop k)=yT l:=by
 rw[<- jF,List.take_append_drop]
theorem zFq{M:Int}:∀(l:List zV),(∀e∈l,jV e<=M)->yL l<=M * l.length
 | [],_=>by simp[yL]
 | e :: l,h=>by
  have h1:=h e List.mem_cons_self;have h2:=zFq l (λx hx=>h x (List.mem_cons_of_mem _ hx));rw[yL,List.length_cons,Int.natCast_add,Int.mul_add];simp only[Int.natCast_one,Int.mul_one];omega
theorem zNX{M:Int}:∀(l:List ByteArray),(∀e∈l,5+(e.size:Int)<=M)->yT l<=M * l.length
 | [],_=>by simp[yT]
 | e :: l,h=>by
  have h1:=h e List.mem_cons_self;have h2:=zNX l (λx hx=>h x (List.mem_cons_of_mem _ hx));rw[yT,List.length_cons,Int.natCast_add,Int.mul_add];simp only[Int.natCast_one,Int.mul_one];omega
theorem zEu{e:zV}(h:vC e=true):jV e<=59:=by
 unfold vC at h;simp only[Bool.and_eq_true] at h;have hk:=(zAo e.key).1 h.1;have h2:=h.2;unfold jV;by_cases hc:e.chain=0
 .rw[if_pos hc] at h2 ⊢;simp only[Bool.and_eq_true,decide_eq_true_eq] at h2;omega
 .rw[if_neg hc];omega
theorem zAT{n:zJ}(h:zO n=true):∀e∈n.entries,vC e=true:=by
 unfold zO at h;split at h
 .simp only[Bool.and_eq_true,List.all_eq_true] at h;exact h.1.1.1.1
 .simp only[Bool.and_eq_true,List.isEmpty_iff] at h;intro e he;rw[h.1.1.1.1.1.1.1] at he;simp at he
theorem zBc{n:zJ}(h:zO n=true):∀s∈n.keys,zAE s=true:=by
 unfold zO at h;split at h
 .simp only[Bool.and_eq_true,List.isEmpty_iff] at h;intro e he;rw[h.1.1.1.2] at he;simp at he
 .simp only[Bool.and_eq_true,List.all_eq_true] at h;exact h.1.2
def zLW(n:zJ):Option Nat:=if zO n=true/\0<jL n then some (qX (zAj n) (qZ n) (qZ n) (jL n)) else none
theorem zKC(n:zJ):zEI n=(zLW n).map (zU n):=by
 unfold zEI zLW;split <;> rfl
section
variable {n:zJ}{a:Nat}
theorem zCw(hl:n.leaf=true)(hf:zAt n):zG (zU n a).1=2+yL (n.entries.take a)/\zG (zU n a).2.2=2+(yL n.entries-yL (n.entries.take a))/\zG n=2+yL n.entries:=by
 have h:=zH9 n.entries a;unfold zAt at hf;rw[if_pos hl] at hf;rw[zCU hl,zCV hl];unfold zG;simp only[hl,if_true,yT,hf.1];omega
theorem zGK(hl:n.leaf=false)(hf:zAt n):zG (zU n a).1=6+yT (n.keys.take (a-1))/\zG (zU n a).2.2=6+(yT n.keys-yT (n.keys.take a))/\zG n=6+yT n.keys:=by
 have h:=zMu n.keys a;unfold zAt at hf;rw[if_neg (by rw[hl];simp)] at hf;rw[zCq hl,zCr hl];unfold zG;simp only[hl,Bool.false_eq_true,if_false,yL,hf.1];omega
theorem zIA(hr:zO n=true)(hf:zAt n){x:Nat}(hx:zBG n x){M:Int}(hM:(zAj n x:Int)<=M) :
  ∃a,zBG n a/\zLW n=some a/\zG (zU n a).1-zG (zU n a).2.2<=M/\zG (zU n a).2.2-zG (zU n a).1<=M:=by
 have hpos:0<jL n/\qZ n<=x/\x<qZ n+jL n:=by
  unfold jL qZ;cases hl:n.leaf with
  | true=>have:=hx.leaf hl;simp only[if_true];omega
  | false=>have:=hx.inner hl;simp only[Bool.false_eq_true,if_false];omega
 obtain⟨p1,p2⟩:=zN0 n hpos.1;have hb:=zBK (zAj n) (jL n) (qZ n) (qZ n) x (.inr hpos.2);generalize hq:qX (zAj n) (qZ n) (qZ n) (jL n)=q at p1 p2 hb
 have hpl:=zLM p1 p2;have hu:=zDe hf hpl;refine⟨q,hpl,?_,?_⟩
 .unfold zLW;rw[if_pos ⟨hr,hpos.1⟩,hq]
 .split at hu <;> omega
theorem zP9(hr:zO n=true){W:Int}(hW:232<=W)(h1:W<zG n)(h2:zG n+61<=2 * W) :
  ∃a,zBG n a/\zLW n=some a/\zG (zU n a).1<=W/\zG (zU n a).2.2<=W:=by
 have hf:=qU hr;cases hl:n.leaf with
 | true =>
  have hM:∀e∈n.entries,jV e<=59:=λe he=>zEu (zAT hr e he)
  obtain⟨_,_,hw⟩:=zCw (a:=0) hl hf;have hs:=zFq n.entries hM;have hlen:4<=n.entries.length:=by omega
  obtain⟨L,hL⟩:∃L,n.entries.length=L+2:=⟨n.entries.length-2,by omega⟩;have hel:∀k,k<n.entries.length->∃e,n.entries[k]? = some e/\jV e<=59/\0<=jV e/\yL (n.entries.take (k+1))=yL (n.entries.take k)+jV e:=λk hk=>by
   refine⟨n.entries[k],List.getElem?_eq_getElem hk,hM _ (List.getElem_mem hk),?_,zJR (List.getElem?_eq_getElem hk)⟩;have:=zA7 n.entries[k];omega
  have h0:yL (n.entries.take 0)=0:=by simp[yL]
  have hall:yL (n.entries.take n.entries.length)=yL n.entries:=by rw[List.take_length]
  obtain⟨a,a1,a2,a3,a4⟩:=zGJ (λa=>2 * yL (n.entries.take a)-yL n.entries) 59 1 L (by
   obtain⟨e,_,e2,e3,e4⟩:=hel 0 (by omega);have:=zBd n.entries 1;simp only[Nat.zero_add] at e4;show 2 * yL (n.entries.take 1)-yL n.entries<=59;omega) (by
   obtain⟨e,_,e2,e3,e4⟩:=hel (1+L) (by omega);rw[show 1+L+1=n.entries.length by omega,hall] at e4;have:=zAR (n.entries.take (1+L));show -59<=2 * yL (n.entries.take (1+L))-yL n.entries;omega) (λk k1 k2=>by
   obtain⟨e,_,e2,e3,e4⟩:=hel k (by omega);show 2 * yL (n.entries.take (k+1))-yL n.entries-(2 * yL (n.entries.take k)-yL n.entries)<=2 * 59;omega)
  have hp:zBG n a:=⟨λ_=>by omega,λhc=>(by rw[hl] at hc;cases hc)⟩;have hu:=zDe hf hp;obtain⟨w1,w2,_⟩:=zCw (a:=a) hl hf;obtain⟨b,b1,b2,b3,b4⟩:=zIA hr hf hp (M:=59) (by split at hu <;> omega);obtain⟨v1,v2,_⟩:=zCw (a:=b) hl hf;exact⟨b,b1,b2,by omega,by omega⟩
 | false =>
  have hM:∀s∈n.keys,5+(s.size:Int)<=37:=λs hs=>by have:=(zAo s).1 (zBc hr s hs);omega
  obtain⟨_,_,hw⟩:=zGK (a:=0) hl hf;have hs:=zNX n.keys hM;have hlen:4<=n.keys.length:=by omega
  have hkl:n.kids.length=n.keys.length+1:=(zCp hr hl).2.1;obtain⟨L,hL⟩:∃L,n.keys.length=L+3:=⟨n.keys.length-3,by omega⟩;have hel:∀k,k<n.keys.length->∃e,0<=e/\e<=37/\yT (n.keys.take (k+1))=yT (n.keys.take k)+e:=λk hk=>by
   have:=hM _ (List.getElem_mem hk);exact⟨5+(n.keys[k].size:Int),by omega,this,zOm (List.getElem?_eq_getElem hk)⟩
  have h0:yT (n.keys.take 0)=0:=by simp[yT]
  have hall:yT (n.keys.take n.keys.length)=yT n.keys:=by rw[List.take_length]
  obtain⟨a,a1,a2,a3,a4⟩:=zGJ (λa=>yT (n.keys.take (a-1))+yT (n.keys.take a)-yT n.keys) 37 2 L (by
   obtain⟨e,e2,e3,e4⟩:=hel 0 (by omega);obtain⟨f,f2,f3,f4⟩:=hel 1 (by omega);have:=zCk n.keys 2;simp only[Nat.zero_add] at e4 f4;show yT (n.keys.take 1)+yT (n.keys.take 2)-yT n.keys<=37;omega) (by
   obtain⟨e,e2,e3,e4⟩:=hel (2+L) (by omega);rw[show 2+L+1=n.keys.length by omega,hall] at e4;have:=zAe (n.keys.take (2+L-1));show -37<=yT (n.keys.take (2+L-1))+yT (n.keys.take (2+L))-yT n.keys;omega) (λk k1 k2=>by
   obtain⟨e,e2,e3,e4⟩:=hel k (by omega);obtain⟨f,f2,f3,f4⟩:=hel (k-1) (by omega);rw[show k-1+1=k by omega] at f4;show yT (n.keys.take (k+1-1))+yT (n.keys.take (k+1))-yT n.keys-(yT (n.keys.take (k-1))+yT (n.keys.take k)-yT n.keys)<=2 * 37;rw[Nat.add_sub_cancel];omega)
  have hp:zBG n a:=⟨λhc=>(by rw[hl] at hc;cases hc),λ_=>by omega⟩;have hu:=zDe hf hp;obtain⟨w1,w2,_⟩:=zGK (a:=a) hl hf;obtain⟨b,b1,b2,b3,b4⟩:=zIA hr hf hp (M:=37) (by split at hu <;> omega);obtain⟨v1,v2,_⟩:=zGK (a:=b) hl hf;have h3:=b1.inner hl;obtain⟨f,f2,f3,f4⟩:=hel (b-1) (by omega);rw[show b-1+1=b by omega] at f4;exact⟨b,b1,b2,by omega,by omega⟩
theorem zNY(hr:zO n=true){W:Int}(hW:232<=W)(h1:W<zG n)(h2:zG n<=W+77) :
  ∃a,zBG n a/\zEI n=some (zU n a)/\zG (zU n a).1<=W/\zG (zU n a).2.2<=W:=by
 obtain⟨a,a1,a2,a3⟩:=zP9 hr hW h1 (by omega);exact⟨a,a1,by rw[zKC,a2];rfl,a3⟩
end
end
end Go.Proofs.YteabpacpngaoaaaGreatDoor
