import Derived.Test.YtalpfcaakpgkmaaGreatDoorR44
import Derived.BigRegion
import Derived.Test.YtalpfcaakpgkmaaGreatDoorR40
import Derived.DataShut
import Derived.Test.YtalpfcaakpgkmaaGreatDoorR27
import Derived.Deep.RegionLawGrows
import Derived.BigQuiet
import Derived.Deep.DeepCutAuto
namespace Go.Proofs.YtalpfcaakpgkmaaGreatDoor
open Lib renaming hid->oh
set_option maxHeartbeats 4000000
set_option maxRecDepth 100000
section
open Go.RowKit
attribute [local go_sem ↓] Go.wp_at_zero Go.wp_at_succ
section
variable {P P' F F':NP}{ad:Nat->Addr}{w w':World}{d S c sp:Nat}{s s1 nx:yG}{home root keys:Int}{C:qL}{l:List Nat}
theorem zSf(hL:yH F ad w)(hP:∀k,P k->F k)(h:StO F w P S d c sp s home root keys C l)(ho:C.disk.off=false)(i:Nat)(hi:i<2)(B9:i<C.disk.blocks)(hs:openS (C.disk.look i) i=some s1)(h1:256<=C.disk.size)(h2:C.disk.size<=1024)(Ac:(C.disk.look i).length=C.disk.size)(g b z r k:Int) :
  Calls Tryz.prog 151 #[.agg #[.pointer (some ⟨S,0,none⟩),.int .u64 g,.int .i64 b,.int .i64 z,.int .i64 r,.int .i64 k],.int .i64 (i:Int)] w λe w'=>e=.returned .nilIface/\zF w w':=by
 obtain⟨W0,A3⟩:∃W0,W0=w.alloc (.cells #[.pointer (some ⟨S,0,none⟩),.int .u64 g,.int .i64 b,.int .i64 z,.int .i64 r,.int .i64 k] 167):=⟨_,rfl⟩;have A0:zF w W0:=by rw[A3];exact (zss w).alloc _
 have A1:zG W0 w.heap.size #[.pointer (some ⟨S,0,none⟩),.int .u64 g,.int .i64 b,.int .i64 z,.int .i64 r,.int .i64 k] 167:=by rw[A3];exact zG.new w _ _
 obtain⟨Pd,Ba,Bw, -⟩:=h.dk hL hP;obtain⟨a0,cc0,hB⟩:=h.blk;have x0:=A1.d 0 (.pointer (some ⟨S,0,none⟩)) rfl;have s0:=(hB.ext A0).d 0 (.pointer (some ⟨d,0,none⟩)) rfl;have Bx:Hid (Calls Tryz.prog 159 #[.pointer (some ⟨d,0,none⟩),.int .i64 (i:Int)] W0 λe w'=>∃v,e=.returned (.tuple #[v,.nilIface])/\Sl F w' 1 zZ v (C.disk.look i)/\zF W0 w'):=oh ((DkS.read (hL.mods A0.ext) (Ba.at A0) i B9 ho).mono (λe w' ⟨q,e1,e2,e3,e4,e5⟩=>⟨_,e1,zCq e3 e4 (λf=>by have:=hL.lt q f;have:=A0.size;omega) (by omega),e5⟩));have By:Hid (∀W v,zF W0 W->Sl F W 1 zZ v (C.disk.look i) -> Calls Tryz.prog 96 #[v,.int .i64 (i:Int)] W λe w'=>e=.returned (.tuple #[yL s1,.nilIface])/\zF W w'):=oh (λW v mm hv=>by
  refine (vF (hL.mods (A0.trans mm).ext) v _ hv (by omega) (by omega) i hi (λe=>by rw[hs] at e;cases e)).mono ?_;rintro e w' ⟨ev,rfl,e2,e3⟩;rw[hs] at e2 ⊢;cases e2
  exact⟨rfl,e3⟩)
 have s0a:(w.alloc (.cells #[.pointer (some ⟨S,0,none⟩),.int .u64 g,.int .i64 b,.int .i64 z,.int .i64 r,.int .i64 k] 167)).cell? ⟨S,0,none⟩=some (.pointer (some ⟨d,0,none⟩)):=by rw[<- A3];exact s0
 have Am:=oh A0;clear hL hP h ho hi B9 hs h1 h2 Ba Bw hB A1 Ac A0
 go_enter Tryz.func151, Tryz.ntmps151
 go_wp2_with fail;rw[<- A3];clear A3;refine Bx.out.mono ?_;rintro e w1 ⟨v,rfl,hv,m1⟩;have Az:=oh (By.out w1 v m1 hv);have Aq:=oh m1;clear hv m1 x0 s0 s0a;go_wp2_with fail;refine Az.out.mono ?_;rintro e w2 ⟨rfl,m2⟩;have Bz:=oh m2;clear m2;unfold yL;go_wp2_with fail;go_ret;exact⟨rfl,((Am.out.trans Aq.out).trans Bz.out).alloc _⟩
theorem zRz(hL:yH F ad w)(hP:∀k,P k->F k){hh q:Nat}(Aj:hh<2/\q=1-hh)(h:StO F w P S d c sp s (hh:Int) root keys C l)(hw:zCs C.disk)(A6:C.disk.waiting.length<1000000)(An:8<=C.disk.blocks)(hs:openS (C.disk.look q) q=some s1)(h1:256<=C.disk.size)(h2:C.disk.size<=1024)
  (A5:zBe nx=true) (hg:nx.gen<18446744073709551616) (hz:nx.size=C.disk.size) :
  Calls Tryz.prog 88 #[.agg #[.pointer (some ⟨S,0,none⟩),.int .u64 (nx.gen:Int),.int .i64 (nx.blocks:Int),.int .i64 (nx.size:Int),.int .i64 (nx.root:Int),.int .i64 (nx.keys:Int)]] w (zB7 F P ad w S d c sp s (hh:Int) root keys l (λC'=>C'=zCO C nx q)):=by
 obtain⟨gg,A2⟩:∃g,g=nx.gen:=⟨_,rfl⟩;obtain⟨gb,Ad⟩:∃g,g=nx.blocks:=⟨_,rfl⟩;obtain⟨gz,Ae⟩:∃g,g=nx.size:=⟨_,rfl⟩;obtain⟨gr,Af⟩:∃g,g=nx.root:=⟨_,rfl⟩;obtain⟨gk,Ag⟩:∃g,g=nx.keys:=⟨_,rfl⟩;obtain⟨W0,A3⟩:∃W0,W0=w.alloc (.cells #[.pointer (some ⟨S,0,none⟩),.int .u64 (gg:Int),.int .i64 (gb:Int),.int .i64 (gz:Int),.int .i64 (gr:Int),.int .i64 (gk:Int)] 167):=⟨_,rfl⟩;have A0:zF w W0:=by rw[A3];exact (zss w).alloc _
 obtain⟨X,hX⟩:∃X,X=w.heap.size:=⟨_,rfl⟩;have A1:zG W0 X #[.pointer (some ⟨S,0,none⟩),.int .u64 (gg:Int),.int .i64 (gb:Int),.int .i64 (gz:Int),.int .i64 (gr:Int),.int .i64 (gk:Int)] 167:=by rw[A3,hX];exact zG.new w _ _
 obtain⟨a0,cc0,hB⟩:=h.blk;have Ao:=oh (λW (mm:zF W0 W)=>(⟨(A1.ext mm).cell rfl,(A1.ext mm).cell rfl,(A1.ext mm).cell rfl,(A1.ext mm).cell rfl,(A1.ext mm).cell rfl,(A1.ext mm).cell rfl,(hB.ext (A0.trans mm)).cell rfl,(hB.ext (A0.trans mm)).cell rfl⟩:W.cell? ⟨X,0,none⟩=some (.pointer (some ⟨S,0,none⟩))/\W.cell? ⟨X,1,none⟩=some (.int .u64 (gg:Int))/\W.cell? ⟨X,2,none⟩=some (.int .i64 (gb:Int))/\W.cell? ⟨X,3,none⟩=some (.int .i64 (gz:Int))/\W.cell? ⟨X,4,none⟩=some (.int .i64 (gr:Int))/\W.cell? ⟨X,5,none⟩=some (.int .i64 (gk:Int))/\W.cell? ⟨S,0,none⟩=some (.pointer (some ⟨d,0,none⟩))/\W.cell? ⟨S,8,none⟩=some (.int .i64 (hh:Int))));have C2:Hid (∀W,zF W0 W -> Calls Tryz.prog 151 #[.agg #[.pointer (some ⟨S,0,none⟩),.int .u64 (gg:Int),.int .i64 (gb:Int),.int .i64 (gz:Int),.int .i64 (gr:Int),.int .i64 (gk:Int)],.int .i64 (q:Int)] W λe w'=>e=.returned .nilIface/\zF W w'):=oh (λW mm=>zSf (hL.mods (A0.trans mm).ext) hP (h.at (A0.trans mm)) hw.off q (by omega) (by omega) hs h1 h2 (hw.len q (by omega)) _ _ _ _ _);have B0:Hid (∀W,zF W0 W -> Calls Tryz.prog 84 #[.pointer (some ⟨d,0,none⟩),.agg #[.int .u64 (gg:Int),.int .i64 (gb:Int),.int .i64 (gz:Int),.int .i64 (gr:Int),.int .i64 (gk:Int)],.int .i64 (q:Int)] W (zB7 F P ad W S d c sp s (hh:Int) root keys l (λC'=>C'=zCO C nx q))):=oh (λW mm=>by
  have:=zIv (hL.mods (A0.trans mm).ext) hP (h.at (A0.trans mm)) hw A6 nx A5 hg hz q (by omega) An;rw[show yL nx=.agg #[.int .u64 (gg:Int),.int .i64 (gb:Int),.int .i64 (gz:Int),.int .i64 (gr:Int),.int .i64 (gk:Int)] by rw[A2,Ad,Ae,Af,Ag];rfl] at this;exact this)
 have Cu:IntKind.i64.wrap (1-(hh:Int))=(q:Int):=by
  rw[IntWalk.i64_in _ (by omega)];omega
 have Am:=oh A0;have A4:Hid (¬ P X):=oh (λf=>by have:=hL.lt _ (hP _ f);omega);have Ak:Hid (¬ P S):=oh h.offS.1;have HN:=oh (λW (m:zF w W)=>zX.ext hL hP m);have zd:=Ao.out _ (zss W0).drew;rw[<- A2,<- Ad,<- Ae,<- Af,<- Ag];clear hL hP h hw A6 An hs h1 h2 A5 hg hz A2 Ad Ae Af Ag hB A1 A0 Aj
 go_enter Tryz.func88, Tryz.ntmps88
 go_wp2_with fail;rw[<- A3,<- hX];clear A3 hX;go_region_held3 (λw'=>w'.cell? ⟨X,0,none⟩=some (.pointer (some ⟨S,0,none⟩))/\w'.cell? ⟨X,1,none⟩=some (.int .u64 (gg:Int))/\w'.cell? ⟨X,2,none⟩=some (.int .i64 (gb:Int))/\w'.cell? ⟨X,3,none⟩=some (.int .i64 (gz:Int))/\w'.cell? ⟨X,4,none⟩=some (.int .i64 (gr:Int))/\w'.cell? ⟨X,5,none⟩=some (.int .i64 (gk:Int))/\w'.cell? ⟨S,0,none⟩=some (.pointer (some ⟨d,0,none⟩))/\w'.cell? ⟨S,8,none⟩=some (.int .i64 (hh:Int)))
  (first|(with_reducible exact zd)|(with_reducible exact z2)|fail)
  (first
   | (go_at_call 151;(with_reducible refine (C2.out _ (zss W0).drew).mono ?_);rintro e w2 ⟨rfl,m2⟩;have x2:=(zss W0).drew.trans m2;have z2:=Ao.out _ x2)
   | fail)
 have X2:=oh x2;have y1:=Ao.out _ (x2.trans (zss w2).drew);clear zd z2 x2 m2;go_wp2_with fail;go_region_held3 (λw'=>w'.cell? ⟨X,0,none⟩=some (.pointer (some ⟨S,0,none⟩))/\w'.cell? ⟨X,1,none⟩=some (.int .u64 (gg:Int))/\w'.cell? ⟨X,2,none⟩=some (.int .i64 (gb:Int))/\w'.cell? ⟨X,3,none⟩=some (.int .i64 (gz:Int))/\w'.cell? ⟨X,4,none⟩=some (.int .i64 (gr:Int))/\w'.cell? ⟨X,5,none⟩=some (.int .i64 (gk:Int))/\w'.cell? ⟨S,0,none⟩=some (.pointer (some ⟨d,0,none⟩))/\w'.cell? ⟨S,8,none⟩=some (.int .i64 (hh:Int)))
  (first|(with_reducible exact y1)|(with_reducible exact zq)|fail)
  (first
   | (go_at_call 84;(with_reducible refine (B0.out _ (X2.out.trans (zss w2).drew)).mono ?_);rintro e w3 ⟨rfl,P3,F3,C3,h3,n3,rfl⟩;have zq:=(⟨n3.cellK y1.1 A4.out,n3.cellK y1.2.1 A4.out,n3.cellK y1.2.2.1 A4.out,n3.cellK y1.2.2.2.1 A4.out,n3.cellK y1.2.2.2.2.1 A4.out,n3.cellK y1.2.2.2.2.2.1 A4.out,n3.cellK y1.2.2.2.2.2.2.1 Ak.out,n3.cellK y1.2.2.2.2.2.2.2 Ak.out⟩:w3.cell? ⟨X,0,none⟩=some (.pointer (some ⟨S,0,none⟩))/\w3.cell? ⟨X,1,none⟩=some (.int .u64 (gg:Int))/\w3.cell? ⟨X,2,none⟩=some (.int .i64 (gb:Int))/\w3.cell? ⟨X,3,none⟩=some (.int .i64 (gz:Int))/\w3.cell? ⟨X,4,none⟩=some (.int .i64 (gr:Int))/\w3.cell? ⟨X,5,none⟩=some (.int .i64 (gk:Int))/\w3.cell? ⟨S,0,none⟩=some (.pointer (some ⟨d,0,none⟩))/\w3.cell? ⟨S,8,none⟩=some (.int .i64 (hh:Int))))
   | fail)
 have H3:=oh (And.intro h3 ((HN.out _ ((Am.out.trans X2.out).trans (zss w2).drew)).trans n3));clear h3 n3 y1;go_wp2_with fail;go_ret;exact⟨rfl,P3,F3,_,H3.out.1,H3.out.2,rfl⟩
theorem zRF(hL:yH F ad w)(hP:∀k,P k->F k){hh:Nat}(Bb:hh<2)(h:StO F w P S d c sp s (hh:Int) root keys C l)(hw:zCs C.disk)(A6:C.disk.waiting.length<1000000)(An:8<=C.disk.blocks)
  (A5:zBe nx=true) (hg:nx.gen<18446744073709551616) (hz:nx.size=C.disk.size) :
  Calls Tryz.prog 89 #[.agg #[.pointer (some ⟨S,0,none⟩),.int .u64 (nx.gen:Int),.int .i64 (nx.blocks:Int),.int .i64 (nx.size:Int),.int .i64 (nx.root:Int),.int .i64 (nx.keys:Int)]] w (zB7 F P ad w S d c sp s (hh:Int) root keys l (λC'=>C'=zCO C nx hh)):=by
 obtain⟨gg,A2⟩:∃g,g=nx.gen:=⟨_,rfl⟩;obtain⟨gb,Ad⟩:∃g,g=nx.blocks:=⟨_,rfl⟩;obtain⟨gz,Ae⟩:∃g,g=nx.size:=⟨_,rfl⟩;obtain⟨gr,Af⟩:∃g,g=nx.root:=⟨_,rfl⟩;obtain⟨gk,Ag⟩:∃g,g=nx.keys:=⟨_,rfl⟩;obtain⟨W0,A3⟩:∃W0,W0=w.alloc (.cells #[.pointer (some ⟨S,0,none⟩),.int .u64 (gg:Int),.int .i64 (gb:Int),.int .i64 (gz:Int),.int .i64 (gr:Int),.int .i64 (gk:Int)] 167):=⟨_,rfl⟩;have A0:zF w W0:=by rw[A3];exact (zss w).alloc _
 obtain⟨X,hX⟩:∃X,X=w.heap.size:=⟨_,rfl⟩;have A1:zG W0 X #[.pointer (some ⟨S,0,none⟩),.int .u64 (gg:Int),.int .i64 (gb:Int),.int .i64 (gz:Int),.int .i64 (gr:Int),.int .i64 (gk:Int)] 167:=by rw[A3,hX];exact zG.new w _ _
 obtain⟨a0,cc0,hB⟩:=h.blk;have Ao:=oh (λW (mm:zF W0 W)=>(⟨(A1.ext mm).cell rfl,(A1.ext mm).cell rfl,(A1.ext mm).cell rfl,(A1.ext mm).cell rfl,(A1.ext mm).cell rfl,(A1.ext mm).cell rfl,(hB.ext (A0.trans mm)).cell rfl,(hB.ext (A0.trans mm)).cell rfl⟩:W.cell? ⟨X,0,none⟩=some (.pointer (some ⟨S,0,none⟩))/\W.cell? ⟨X,1,none⟩=some (.int .u64 (gg:Int))/\W.cell? ⟨X,2,none⟩=some (.int .i64 (gb:Int))/\W.cell? ⟨X,3,none⟩=some (.int .i64 (gz:Int))/\W.cell? ⟨X,4,none⟩=some (.int .i64 (gr:Int))/\W.cell? ⟨X,5,none⟩=some (.int .i64 (gk:Int))/\W.cell? ⟨S,0,none⟩=some (.pointer (some ⟨d,0,none⟩))/\W.cell? ⟨S,8,none⟩=some (.int .i64 (hh:Int))));have B0:Hid (∀W,zF W0 W -> Calls Tryz.prog 84 #[.pointer (some ⟨d,0,none⟩),.agg #[.int .u64 (gg:Int),.int .i64 (gb:Int),.int .i64 (gz:Int),.int .i64 (gr:Int),.int .i64 (gk:Int)],.int .i64 (hh:Int)] W (zB7 F P ad W S d c sp s (hh:Int) root keys l (λC'=>C'=zCO C nx hh))):=oh (λW mm=>by
  have:=zIv (hL.mods (A0.trans mm).ext) hP (h.at (A0.trans mm)) hw A6 nx A5 hg hz hh Bb An;rw[show yL nx=.agg #[.int .u64 (gg:Int),.int .i64 (gb:Int),.int .i64 (gz:Int),.int .i64 (gr:Int),.int .i64 (gk:Int)] by rw[A2,Ad,Ae,Af,Ag];rfl] at this;exact this)
 have Am:=oh A0;have A4:Hid (¬ P X):=oh (λf=>by have:=hL.lt _ (hP _ f);omega);have Ak:Hid (¬ P S):=oh h.offS.1;have HN:=oh (λW (m:zF w W)=>zX.ext hL hP m);have zd:=Ao.out _ (zss W0).drew;rw[<- A2,<- Ad,<- Ae,<- Af,<- Ag];clear hL hP h hw A6 An A5 hg hz A2 Ad Ae Af Ag hB A1 A0 Bb
 go_enter Tryz.func89, Tryz.ntmps89
 go_wp2_with fail;rw[<- A3,<- hX];clear A3 hX;go_region_held3 (λw'=>w'.cell? ⟨X,0,none⟩=some (.pointer (some ⟨S,0,none⟩))/\w'.cell? ⟨X,1,none⟩=some (.int .u64 (gg:Int))/\w'.cell? ⟨X,2,none⟩=some (.int .i64 (gb:Int))/\w'.cell? ⟨X,3,none⟩=some (.int .i64 (gz:Int))/\w'.cell? ⟨X,4,none⟩=some (.int .i64 (gr:Int))/\w'.cell? ⟨X,5,none⟩=some (.int .i64 (gk:Int))/\w'.cell? ⟨S,0,none⟩=some (.pointer (some ⟨d,0,none⟩))/\w'.cell? ⟨S,8,none⟩=some (.int .i64 (hh:Int)))
  (first|(with_reducible exact zd)|(with_reducible exact zq)|fail)
  (first
   | (go_at_call 84;(with_reducible refine (B0.out _ (zss W0).drew).mono ?_);rintro e w3 ⟨rfl,P3,F3,C3,h3,n3,rfl⟩;have zq:=(⟨n3.cellK zd.1 A4.out,n3.cellK zd.2.1 A4.out,n3.cellK zd.2.2.1 A4.out,n3.cellK zd.2.2.2.1 A4.out,n3.cellK zd.2.2.2.2.1 A4.out,n3.cellK zd.2.2.2.2.2.1 A4.out,n3.cellK zd.2.2.2.2.2.2.1 Ak.out,n3.cellK zd.2.2.2.2.2.2.2 Ak.out⟩:w3.cell? ⟨X,0,none⟩=some (.pointer (some ⟨S,0,none⟩))/\w3.cell? ⟨X,1,none⟩=some (.int .u64 (gg:Int))/\w3.cell? ⟨X,2,none⟩=some (.int .i64 (gb:Int))/\w3.cell? ⟨X,3,none⟩=some (.int .i64 (gz:Int))/\w3.cell? ⟨X,4,none⟩=some (.int .i64 (gr:Int))/\w3.cell? ⟨X,5,none⟩=some (.int .i64 (gk:Int))/\w3.cell? ⟨S,0,none⟩=some (.pointer (some ⟨d,0,none⟩))/\w3.cell? ⟨S,8,none⟩=some (.int .i64 (hh:Int))))
   | fail)
 have H3:=oh (And.intro h3 ((HN.out _ (Am.out.trans (zss W0).drew)).trans n3));clear h3 n3 zd;go_wp2_with fail;go_ret;exact⟨rfl,P3,F3,_,H3.out.1,H3.out.2,rfl⟩
end
theorem Tryz.idx3a(a0 a1 a2:Value)(w:World):(Instr.index 168 (.agg #[a0,a1,a2]) (.int .i64 0)).run Tryz.prog w=.ok a0 w:=by kernel_rfl
theorem Tryz.idx3b(a0 a1 a2:Value)(w:World):(Instr.index 168 (.agg #[a0,a1,a2]) (.int .i64 1)).run Tryz.prog w=.ok a1 w:=by kernel_rfl
theorem Tryz.idx3c(a0 a1 a2:Value)(w:World):(Instr.index 168 (.agg #[a0,a1,a2]) (.int .i64 2)).run Tryz.prog w=.ok a2 w:=by kernel_rfl
section
variable {P P' F F':NP}{ad:Nat->Addr}{w w':World}{d S c sp:Nat}{s s1:yG}{C:qL}{l:List Nat}
def CmK[zQ](C:qL)(m:qW)(nx:yG)(hh q:Nat):Nat->qL->Prop
 | 0,C'=>C'=C
 | 1,C'=>zEY C m C'
 | 2,C'=>∃C1,zEY C m C1/\C'=zCO C1 nx q
 | _,C'=>∃C1,zEY C m C1/\C'=zCO (zCO C1 nx q) nx hh
def jR(s:yG)(root keys:Nat):yG:=⟨s.gen+1,s.blocks,s.size,root,keys⟩
def zR0[zQ](F P:NP)(ad:Nat->Addr)(w:World)(S d c sp:Nat)(nx:yG)(hh q root keys:Nat)(C:qL)(m:qW)(l:List Nat)(e:Ending)(w':World):Prop :=
 e=.returned .nilIface/\∃P' F' C1,zEY C m C1/\StO F' w' P' S d c sp nx (q:Int) (root:Int) (keys:Int) (zCO (zCO C1 nx q) nx hh) (zAg l)/\zX (qB P S) (qB P' S) F F' ad w w'
theorem zRG[zQ](h6:vL=6)(hL:yH F ad w)(hP:∀k,P k->F k){hh q root keys:Nat}(Aj:hh<2/\q=1-hh)(h:StO F w P S d c sp s (hh:Int) (root:Int) (keys:Int) C l)(hI:yJ C)(hc:C.cost+2<=900000)(Ar:zCs C.disk)
  (m:qW) (hm:zA6 m=true) (B1:m.gen=s.gen+1) (hg:s.gen+1<18446744073709551616) (Bc:m.blocks=s.blocks) (hu:yF m=zB4 l l.length) (hz:s.size=C.disk.size) (A5:zBe (jR s root keys)=true) (hs:openS (C.disk.look q) q=some s1) :
  Calls Tryz.prog 41 #[.pointer (some ⟨S,0,none⟩)] w (zR0 F P ad w S d c sp (jR s root keys) hh q root keys C m l):=by
 obtain⟨a0,cc0,hB⟩:=h.blk;obtain⟨Bd,Be⟩:=h.offS;have B2:=oh (λop=>zSe (hB.d 12 (.bool false) rfl) op);obtain⟨g,A2⟩:∃g,g=s.gen:=⟨_,rfl⟩;obtain⟨sb,A9⟩:∃b,b=s.blocks:=⟨_,rfl⟩;obtain⟨sz,Aa⟩:∃b,b=s.size:=⟨_,rfl⟩;have e1:((s.gen+1:Nat):Int)=(s.gen:Int)+1:=by omega
 have C4:Hid (∀W P1 F1 C1,yH F1 ad W->(∀k,P1 k->F1 k)->StO F1 W P1 S d c sp s (hh:Int) (root:Int) (keys:Int) C1 l->CmK C m (jR s root keys) hh q 0 C1 -> Calls Tryz.prog 87 #[.agg #[.pointer (some ⟨S,0,none⟩),.int .u64 ((g:Int)+1),.int .i64 (sb:Int),.int .i64 (sz:Int),.int .i64 (root:Int),.int .i64 (keys:Int)]] W (zB7 F1 P1 ad W S d c sp s (hh:Int) (root:Int) (keys:Int) l (CmK C m (jR s root keys) hh q 1))):=oh (λW P1 F1 C1 e2 e3 e4 e5=>by
  have e5:C1=C:=e5;subst e5;have:=zS5 h6 e2 e3 e4 hI hc Ar m hm (by rw[B1];exact hg) hu (s.size:Int) (root:Int) (keys:Int);rw[B1,Bc,e1,<- A2,<- A9,<- Aa] at this;exact this)
 have C5:Hid (∀W P1 F1 C1,yH F1 ad W->(∀k,P1 k->F1 k)->StO F1 W P1 S d c sp s (hh:Int) (root:Int) (keys:Int) C1 l->CmK C m (jR s root keys) hh q 1 C1 -> Calls Tryz.prog 88 #[.agg #[.pointer (some ⟨S,0,none⟩),.int .u64 ((g:Int)+1),.int .i64 (sb:Int),.int .i64 (sz:Int),.int .i64 (root:Int),.int .i64 (keys:Int)]] W (zB7 F1 P1 ad W S d c sp s (hh:Int) (root:Int) (keys:Int) l (CmK C m (jR s root keys) hh q 2))):=oh (λW P1 F1 C1 e2 e3 e4 e5=>by
  obtain⟨f1,f2,f3,f4,f5,f6⟩:=zEY.facts h6 hI e5;have:=zRz e2 e3 Aj e4 f2 (by rw[f3];simp) (by rw[f4];exact hI.b8) (by rw[f6 q (by omega)];exact hs) f1.s256 f1.s1024 A5 hg (by rw[f5];exact hz);unfold jR at this;simp only at this;rw[e1,<- A2,<- A9,<- Aa] at this;refine this.mono ?_;rintro e w' ⟨r1,P',F',C',r2,r3,r4⟩;exact⟨r1,P',F',C',r2,r3,C1,e5,by rw[r4];unfold jR;rw[<- A2,<- A9,<- Aa]⟩)
 have C6:Hid (∀W P1 F1 C1,yH F1 ad W->(∀k,P1 k->F1 k)->StO F1 W P1 S d c sp s (hh:Int) (root:Int) (keys:Int) C1 l->CmK C m (jR s root keys) hh q 2 C1 -> Calls Tryz.prog 89 #[.agg #[.pointer (some ⟨S,0,none⟩),.int .u64 ((g:Int)+1),.int .i64 (sb:Int),.int .i64 (sz:Int),.int .i64 (root:Int),.int .i64 (keys:Int)]] W (zB7 F1 P1 ad W S d c sp s (hh:Int) (root:Int) (keys:Int) l (CmK C m (jR s root keys) hh q 3))):=oh (λW P1 F1 C1 e2 e3 e4 e5=>by
  obtain⟨C0,e5,rfl⟩:=e5;obtain⟨f1,f2,f3,f4,f5,f6⟩:=zEY.facts h6 hI e5;have hl:=zAh A5 q;obtain⟨k1,k2,k3,k4⟩:=zQi (jR s root keys) f2 (i:=q) (by have:=f1.b8;omega) (by rw[hl,f5];exact hz);have:=zRF e2 e3 Aj.1 e4 k1 (by rw[k2];simp) (by rw[k3];exact f1.b8) A5 hg (by rw[k4,f5];exact hz);unfold jR at this;simp only at this;rw[e1,<- A2,<- A9,<- Aa] at this;refine this.mono ?_;rintro e w' ⟨r1,P',F',C',r2,r3,r4⟩;exact⟨r1,P',F',C',r2,r3,C0,e5,by rw[r4];unfold jR;rw[<- A2,<- A9,<- Aa]⟩)
 unfold stC at hB;rw[<- A2,<- A9,<- Aa] at hB;rw[<- A2] at hg;have c3:=hB.d 3 (.int .u64 (g:Int)) rfl;have c4:=hB.d 4 (.int .i64 (sb:Int)) rfl;have c5:=hB.d 5 (.int .i64 (sz:Int)) rfl;have c9:=hB.d 9 (.int .i64 (root:Int)) rfl;have c10:=hB.d 10 (.int .i64 (keys:Int)) rfl;have Bf:=hB.lt;have C8:S≠w.heap.size:=by omega
 have wg:IntKind.u64.wrap ((g:Int)+1)=(g:Int)+1:=by unfold IntKind.wrap;simp[IntKind.bits,IntKind.signed];omega
 have C9:Hid (jR s root keys=⟨g+1,sb,sz,root,keys⟩):=oh (by unfold jR;rw[A2,A9,Aa]);have HL:=oh hL;have HP:=oh hP;have As:=oh h;have Ak:=oh Bd;have Cv:=oh Be;have Bg:=oh Bf;have Ca:=oh Aj;clear hL hP h hB Bd Be hI hc Ar hm B1 Bc hu hz A5 hs A2 A9 Aa h6 e1 hg Aj
 go_enter Tryz.func41, Tryz.ntmps41
 go_wp2_with fail;refine (B2.out _).mono ?_;rintro e w1 ⟨rfl,rfl⟩;go_wp2_with fail;go_region
 obtain⟨W1,At⟩:∃W,W=(w.alloc (.cells #[.pointer (some ⟨S,0,none⟩),.int .u64 ((g:Int)+1),.int .i64 (sb:Int),.int .i64 (sz:Int),.int .i64 (root:Int),.int .i64 (keys:Int)] 167)).drew:=⟨_,rfl⟩;have m1:zF w W1:=by rw[At];exact ((zss w).alloc _).drew
 have A8:zG W1 w.heap.size #[.pointer (some ⟨S,0,none⟩),.int .u64 ((g:Int)+1),.int .i64 (sb:Int),.int .i64 (sz:Int),.int .i64 (root:Int),.int .i64 (keys:Int)] 167:=by rw[At];exact zG.drew (zG.new w _ _)
 obtain⟨X,hX⟩:∃X,X=w.heap.size:=⟨_,rfl⟩;have B3:Hid (S<X):=oh (by rw[hX];exact Bg.out);have A4:Hid (¬ P X):=oh (λf=>by have:=HL.out.lt _ (HP.out _ f);omega);rw[<- hX] at A8;rw[<- At,<- hX];have Aq:=oh m1;have Cb:=oh A8;have x0:=A8.d 0 (.pointer (some ⟨S,0,none⟩)) rfl;have x1:=A8.d 1 (.int .u64 ((g:Int)+1)) rfl;have x2:=A8.d 2 (.int .i64 (sb:Int)) rfl;have x3:=A8.d 3 (.int .i64 (sz:Int)) rfl;have x4:=A8.d 4 (.int .i64 (root:Int)) rfl;have x5:=A8.d 5 (.int .i64 (keys:Int)) rfl;have ia:=Tryz.idx3a;have ib:=Tryz.idx3b;have ic:=Tryz.idx3c;clear At hX m1 A8 c3 c4 c5 c9 c10 C8 wg Bf;go_wp2_with fail;go_loopg [42] 3 (λr v42 wr=>∃k:Nat,k+r=3/\v42=.int .i64 (k:Int)/\Hid (∃P1 F1 C1,StO F1 wr P1 S d c sp s (hh:Int) (root:Int) (keys:Int) C1 l/\zX P P1 F F1 ad w wr/\CmK C m (jR s root keys) hh q k C1/\¬ P1 X/\zG wr X #[.pointer (some ⟨S,0,none⟩),.int .u64 ((g:Int)+1),.int .i64 (sb:Int),.int .i64 (sz:Int),.int .i64 (root:Int),.int .i64 (keys:Int)] 167))
 case atStart=>exact⟨0,rfl,rfl,oh ⟨P,F,C,As.out.at Aq.out,zX.ext HL.out HP.out Aq.out,rfl,A4.out,Cb.out⟩⟩
 case round =>
  obtain⟨k,hk,rfl,HR⟩:=hrel;obtain⟨P1,F1,C1,h1,n1,k1,p1,b1⟩:=HR.out;have Au:=oh n1;have HX1':=oh (And.intro p1 b1);match k,hk,k1 with
  | 0,hk,k1 =>
   have HC:=oh (C4.out wr P1 F1 C1 n1.env n1.sub h1 k1);rw[show ((0:Nat):Int)=0 from rfl];clear h1 n1 k1 p1 b1 HR;go_wp2_with fail;refine HC.out.mono ?_;rintro e w7 ⟨rfl,P7,F7,C7,h7,n7,k7⟩;have H7:Hid (∃P1 F1 C1,StO F1 w7 P1 S d c sp s (hh:Int) (root:Int) (keys:Int) C1 l/\zX P P1 F F1 ad w w7/\CmK C m (jR s root keys) hh q 1 C1/\¬ P1 X/\zG w7 X #[.pointer (some ⟨S,0,none⟩),.int .u64 ((g:Int)+1),.int .i64 (sb:Int),.int .i64 (sz:Int),.int .i64 (root:Int),.int .i64 (keys:Int)] 167):=oh ⟨P7,F7,C7,h7,Au.out.trans n7,k7,n7.not HX1'.out.2.lt HX1'.out.1,n7.blk HX1'.out.2 HX1'.out.1⟩;clear h7 n7 k7;go_wp2_with fail;go_roundg (gk-1)
   case measure=>omega
   case rel=>exact⟨1,by omega,by go_num,H7⟩
  | 1,hk,k1 =>
   have HC:=oh (C5.out wr P1 F1 C1 n1.env n1.sub h1 k1);rw[show ((1:Nat):Int)=1 from rfl];clear h1 n1 k1 p1 b1 HR;go_wp2_with fail;refine HC.out.mono ?_;rintro e w7 ⟨rfl,P7,F7,C7,h7,n7,k7⟩;have H7:Hid (∃P1 F1 C1,StO F1 w7 P1 S d c sp s (hh:Int) (root:Int) (keys:Int) C1 l/\zX P P1 F F1 ad w w7/\CmK C m (jR s root keys) hh q 2 C1/\¬ P1 X/\zG w7 X #[.pointer (some ⟨S,0,none⟩),.int .u64 ((g:Int)+1),.int .i64 (sb:Int),.int .i64 (sz:Int),.int .i64 (root:Int),.int .i64 (keys:Int)] 167):=oh ⟨P7,F7,C7,h7,Au.out.trans n7,k7,n7.not HX1'.out.2.lt HX1'.out.1,n7.blk HX1'.out.2 HX1'.out.1⟩;clear h7 n7 k7;go_wp2_with fail;go_roundg (gk-1)
   case measure=>omega
   case rel=>exact⟨2,by omega,by go_num,H7⟩
  | 2,hk,k1 =>
   have HC:=oh (C6.out wr P1 F1 C1 n1.env n1.sub h1 k1);rw[show ((2:Nat):Int)=2 from rfl];clear h1 n1 k1 p1 b1 HR;go_wp2_with fail;refine HC.out.mono ?_;rintro e w7 ⟨rfl,P7,F7,C7,h7,n7,k7⟩;have H7:Hid (∃P1 F1 C1,StO F1 w7 P1 S d c sp s (hh:Int) (root:Int) (keys:Int) C1 l/\zX P P1 F F1 ad w w7/\CmK C m (jR s root keys) hh q 3 C1/\¬ P1 X/\zG w7 X #[.pointer (some ⟨S,0,none⟩),.int .u64 ((g:Int)+1),.int .i64 (sb:Int),.int .i64 (sz:Int),.int .i64 (root:Int),.int .i64 (keys:Int)] 167):=oh ⟨P7,F7,C7,h7,Au.out.trans n7,k7,n7.not HX1'.out.2.lt HX1'.out.1,n7.blk HX1'.out.2 HX1'.out.1⟩;clear h7 n7 k7;go_wp2_with fail;go_roundg (gk-1)
   case measure=>omega
   case rel=>exact⟨3,by omega,by go_num,H7⟩
  | k+3,hk,k1 =>
   obtain⟨C0,Bh,Cc⟩:∃C0,zEY C m C0/\C1=zCO (zCO C0 (jR s root keys) q) (jR s root keys) hh:=k1;subst Cc;have Cd:k=0:=by omega
   subst Cd;obtain⟨b2,Bi,Ce,Ab⟩:=h1.space n1.env n1.sub;have Cf:=oh (zM4 wr sp b2 l Bi);obtain⟨a1,cc1,Bj⟩:=h1.blk;have s2:=Bj.d 2 (.pointer (some ⟨sp,0,none⟩)) rfl;have Cg:=oh Ab;have Ch:=oh Bh;rw[show ((0+3:Nat):Int)=3 from rfl];clear h1 n1 k1 p1 b1 hk HR Bj Ab Bi Ce Bh;go_wp2_with fail;refine Cf.out.mono ?_;rintro e w8 ⟨rfl,Bk,m8⟩;obtain⟨h8,n8⟩:=Cg.out w8 _ Bk m8;obtain⟨a8,cc8,A7⟩:=h8.blk;have Al:=n8.blk HX1'.out.2 HX1'.out.1;have H8:=oh (And.intro h8 (Au.out.trans n8));unfold stC at A7;have Ci:=oh A7;have s3:=A7.d 3 (.int .u64 (s.gen:Int)) rfl;have s4:=A7.d 4 (.int .i64 (s.blocks:Int)) rfl;have s5:=A7.d 5 (.int .i64 (s.size:Int)) rfl;have s6:=A7.d 6 (.int .i64 (s.root:Int)) rfl;have s7:=A7.d 7 (.int .i64 (s.keys:Int)) rfl;have s8:=A7.d 8 (.int .i64 (hh:Int)) rfl;have s11:=A7.d 11 (.slice a8 0 cc8) rfl;have sf:=A7.frozen;have x1:=Al.d 1 (.int .u64 ((g:Int)+1)) rfl;have x2:=Al.d 2 (.int .i64 (sb:Int)) rfl;have x3:=Al.d 3 (.int .i64 (sz:Int)) rfl;have x4:=Al.d 4 (.int .i64 (root:Int)) rfl;have x5:=Al.d 5 (.int .i64 (keys:Int)) rfl;have Cw:S≠X:=by have:=B3.out;omega
   clear Bk m8 h8 n8 A7 Al s2 x0;go_wp2_with fail;go_region
   have Bl:RowKit.wrap64 (1-(hh:Int))=(q:Int):=by
    obtain⟨a1,a2⟩:=Ca.out;have e1:RowKit.wrap64 (1-(hh:Int))=1-(hh:Int):=by unfold RowKit.wrap64;omega
    rw[e1];omega
   rw[Bl];obtain⟨W9,Av⟩:∃W,W=(((((((w8.setCell ⟨S,3,none⟩ (.int .u64 ((g:Int)+1))).setCell ⟨S,4,none⟩ (.int .i64 (sb:Int))).setCell ⟨S,5,none⟩ (.int .i64 (sz:Int))).setCell ⟨S,6,none⟩ (.int .i64 (root:Int))).setCell ⟨S,7,none⟩ (.int .i64 (keys:Int))).setCell ⟨S,8,none⟩ (.int .i64 (q:Int))).setCell ⟨S,11,none⟩ (.slice none 0 0)).drew:=⟨_,rfl⟩;have m9:zA (λj=>j=S) w8 W9:=by
    rw[Av];exact (zA.setCell (F:=λj=>j=S) (zA.setCell (F:=λj=>j=S) (zA.setCell (F:=λj=>j=S) (zA.setCell (F:=λj=>j=S) (zA.setCell (F:=λj=>j=S) (zA.setCell (F:=λj=>j=S) (zA.setCell (F:=λj=>j=S) (zss w8) (p:=⟨S,3,none⟩) (.inr rfl) _) (p:=⟨S,4,none⟩) (.inr rfl) _) (p:=⟨S,5,none⟩) (.inr rfl) _) (p:=⟨S,6,none⟩) (.inr rfl) _) (p:=⟨S,7,none⟩) (.inr rfl) _) (p:=⟨S,8,none⟩) (.inr rfl) _) (p:=⟨S,11,none⟩) (.inr rfl) _).drew
   have Bm:zG W9 S (stC d (.pointer (some ⟨c,0,none⟩)) (.pointer (some ⟨sp,0,none⟩)) (jR s root keys) (q:Int) (root:Int) (keys:Int) (.slice none 0 0) false) 106:=by
    rw[Av,C9.out];exact zG.drew (by simpa[stC] using ((((((Ci.out.set 3 (.int .u64 ((g:Int)+1))).set 4 (.int .i64 (sb:Int))).set 5 (.int .i64 (sz:Int))).set 6 (.int .i64 (root:Int))).set 7 (.int .i64 (keys:Int))).set 8 (.int .i64 (q:Int))).set 11 (.slice none 0 0))
   rw[<- Av];have HZ:=oh (And.intro (H8.out.1.cells m9 Bm) (H8.out.2.withS Bg.out H8.out.1.offS.2 m9));clear Av m9 Bm s3 s4 s5 s6 s7 s8 s11 sf x1 x2 x3 x4 x5 Bl;go_wp2_with fail;go_ret;exact⟨rfl,P1,F1,C0,Ch.out,HZ.out.1,HZ.out.2⟩
end
end
section
open Go.RowKit
structure zS6[zQ](z n d:Nat)(s:yG):Prop where
 disk:d=zFM
 low:∃m,zSW s m/\zA6 m=true/\m.gen=s.gen/\m.blocks=s.blocks
 ok:zBe s=true
 blk:s.blocks=n
 siz:s.size=z
section
variable {P P' F F':NP}{ad:Nat->Addr}{w w':World}{d S c sp n z:Nat}{s:yG}{G:GA}{l:List Nat}{D:zJ}
structure zGR[zQ](F:NP)(w:World)(P:NP)(z n S d c sp:Nat)(s:yG)(hh:Nat)(G:GA)(l:List Nat)(root dd:Nat)(ps:List zL)(pgs pgs0:List Nat):Prop where
 gho:zS6 z n d s
 home:hh<2
 st:StR F w P S d c sp s (hh:Int) ((root:Nat):Int) ((ps.length:Nat):Int) G l
 lawn:zCC z n (s.gen+1) G l root dd ps pgs pgs0
theorem zRH(d:Nat)(_:zCK D):∃i:zQ,@zFM i=d /\ @vL i=6/\∀j,@zCY i j=(zEt D).look j:=⟨⟨⟨d,6,(zEt D).look⟩⟩,rfl,rfl,λ_=>rfl⟩
theorem zR1(hL:yH F ad w)(hP:∀k,P k->F k)(h:DkS w P d D)(hD:zCK D)(Cj:16<=D.blocks)(hs:D.size=z)(q:Nat)(h3:3<=q)(Ck:q<=64) :
  Calls Tryz.prog 37 #[.pointer (some ⟨d,0,none⟩),.int .i64 (q:Int)] w λe w'=>∃S c sp P' F',e=.returned (.tuple #[.pointer (some ⟨S,0,none⟩),.nilIface])/\(∃(_:zQ) (G:GA) (l:List Nat),zGR F' w' P' z D.blocks S d c sp (zA8 D) 0 G l 0 0 [] [] []/\G.cost=0)/\zX P P' F F' ad w w':=by
 obtain⟨i,i1,i2,i3⟩:=zRH d hD;obtain⟨hW,_⟩:=zC8 hD;refine (zNm i1.symm (by omega) (λj _=>(i3 j).symm) hL hP h hD q h3 Ck).mono ?_;rintro e w' ⟨S,c,sp,P',F',rfl,h1,h2⟩;refine⟨S,c,sp,P',F',rfl,⟨i,_,_,⟨⟨i1.symm,⟨zCd D,⟨i2,(i3 0).trans hW.sup0,(i3 1).trans hW.sup1,(i3 _).trans hW.map0,(i3 _).trans hW.map1⟩,hW.mok,rfl,rfl⟩,hW.ok,rfl,hs⟩,by omega,h1,zCC.new Cj hD.b256 rfl hs (hs ▸ ⟨hD.s256,hD.s1024⟩) _⟩,rfl⟩,h2⟩
theorem zOS[i0:zQ]{hh root dd:Nat}{ps:List zL}{pgs pgs0:List Nat}(hL:yH F ad w)(hP:∀k,P k->F k)(h:zGR F w P z n S d c sp s hh G l root dd ps pgs pgs0)(hg:s.gen+1<1000000)(Ac:ps.length<=1000000)(hc:G.cost<=800000) :
  Calls Tryz.prog 41 #[.pointer (some ⟨S,0,none⟩)] w λe w'=>e=.returned .nilIface/\∃P' F',(∃(_:zQ),zGR F' w' P' z n S d c sp (jR s root ps.length) (1-hh) (zE2 G) (zAg l) root dd ps pgs pgs)/\zX (qB P S) (qB P' S) F F' ad w w':=by
 have hn:=h.lawn.ctx.b256;have Cl:=h.lawn.blk;obtain⟨m0,Ah,Cx,Cy,Cz⟩:=h.gho.low;have h6:=Ah.low;obtain⟨C,hS,hI,hR,D0,D1⟩:=h.st.open h.gho.disk;have Ap:root=0\/2<=root/\root<n:=by
  rcases h.lawn.td.tree with ⟨h0,_⟩|⟨hd,hT⟩
  .exact .inl h0
  .obtain⟨r,hr⟩:=vX.head _ _ _ _ _ _ hT;have hl:=h.lawn.td.lt root (by rw[hr];simp);exact .inr ⟨hl.1,by omega⟩
 have Ai:root=0->ps.length=0:=λe=>by
  rcases h.lawn.td.tree with ⟨_,_,h2,_⟩|⟨hd,hT⟩
  .rw[h2];rfl
  .obtain⟨r,hr⟩:=vX.head _ _ _ _ _ _ hT;have hl:=h.lawn.td.lt root (by rw[hr];simp);omega
 have A5:zBe (jR s root ps.length)=true:=by
  obtain⟨a1,a2,a3,a4,a5,a6,a7⟩:=(zAp s).1 h.gho.ok;exact (zAp _).2 ⟨a1,a2,a3,a4,by show ps.length<=_;omega,by show root=0\/2<=root/\root<s.blocks;rw[h.gho.blk];exact Ap,Ai⟩
 have D2:C.disk.blocks=n:=hR.blocks.trans Cl;have Bn:C.disk.size=z:=hR.size.trans h.lawn.size;have Ar:zCs C.disk:=by
  obtain⟨sb,bvs,Pd,h1,_⟩:=hS.ca hL hP;exact⟨hI.off,hI.lit,zSC h1,hI.lenL,hI.len⟩
 have hm:zA6 (zFX (s.gen+1) s.blocks l)=true:=zQg (by have:=h.lawn.n16;rw[h.gho.blk];omega) (by rw[h.gho.blk];omega) (by rw[h.gho.blk];exact h.lawn.len) h.lawn.low;have Cm:∀q,q<2->C.disk.look q=yK s q:=λq hq=>by
  have hk:=(hR.look q (zCY q) (.inr ⟨by omega,rfl⟩)).1;rw[hk];rcases (show q=0\/q=1 by omega) with rfl|rfl
  .exact Ah.sup0
  .exact Ah.sup1
 have Bo:=h.home;refine (zRG h6 hL hP (hh:=hh) (q:=1-hh) ⟨h.home,rfl⟩ hS hI (by have:=hR.cost;omega) Ar (zFX (s.gen+1) s.blocks l) hm rfl (by omega) rfl (zNH _ _ _) (h.gho.siz.trans Bn.symm) A5 (s1:=s) (by rw[Cm _ (by omega)];exact zJP h.gho.ok (by omega) (by omega))).mono ?_;rintro e w' ⟨rfl,P',F',C1,Cn,Co,hN⟩;obtain⟨k1,k2,k3⟩:=zNI (nx:=jR s root ps.length) h6 hI hR hm Cn rfl (show s.size=_ from h.gho.siz.trans Bn.symm) A5 hh h.home;have hd:=h.gho.disk;have B4:=h.lawn.commit;have B5:=h.gho.blk;have B6:=h.gho.siz;have Cp:=h.lawn.low;refine⟨rfl,P',F',⟨zDP (jR s root ps.length) (zFX (s.gen+1) s.blocks l),?_⟩,hN⟩;have B7 : @zF8 (zDP (jR s root ps.length) (zFX (s.gen+1) s.blocks l)) d (zAg l):=⟨hd,λi hi=>by
  have hi:i < @vL i0:=hi;left
  unfold zAg zBs;rw[tQ,tQ,Cp i (by omega)];rfl⟩
 have Cq:=@StO.st P' F' w' d (zDP (jR s root ps.length) (zFX (s.gen+1) s.blocks l)) S c sp (jR s root ps.length) _ _ _ _ (zE2 G) (zAg l) Co k1 k2 (by show 0<=_;omega) B7;exact @zGR.mk (zDP (jR s root ps.length) (zFX (s.gen+1) s.blocks l)) F' w' P' z n S d c sp (jR s root ps.length) (1-hh) (zE2 G) (zAg l) root dd ps pgs pgs
  (@zS6.mk (zDP (jR s root ps.length) (zFX (s.gen+1) s.blocks l)) z n d (jR s root ps.length) hd ⟨zFX (s.gen+1) s.blocks l,zPI h6 _ _,hm,rfl,rfl⟩ A5 B5 B6) (by omega) Cq B4
end
end
section
open Go.RowKit
attribute [local go_sem ↓] Go.wp_at_zero Go.wp_at_succ
section
variable {P P' F F':NP}{ad:Nat->Addr}{w w':World}{S d c sp:Nat}{s:yG}{home keys:Int}{root:Nat}{G G':GA}{l l':List Nat}
theorem StR.set1[zQ](h:StR F w P S d c sp s home (root:Int) keys G l)(r:Int):StR F (w.setCell ⟨S,9,none⟩ (.int .i64 r)) P S d c sp s home r keys G l:=by
 obtain⟨h1,⟨a,cc,h2⟩,h3,h4⟩:=h;have m:zA (λj=>j=S) w (w.setCell ⟨S,9,none⟩ (.int .i64 r)):=zA.setCell (F:=λj=>j=S) (zss w) (p:=⟨S,9,none⟩) (.inr rfl) _;exact⟨h1.plus m (λk hk e=>by have e':k=S:=e;exact h3 (e' ▸ hk)) (λk e=>by have e':k=S:=e;rw[e'];exact h4) (λ_ _ h=>h),⟨a,cc,by simpa[stC] using h2.set 9 (.int .i64 r)⟩,h3,h4⟩
theorem zPg(r:Int):zA (λj=>j=S) w (w.setCell ⟨S,9,none⟩ (.int .i64 r)):=zA.setCell (F:=λj=>j=S) (zss w) (p:=⟨S,9,none⟩) (.inr rfl) _
def zSg[zQ](F P:NP)(ad:Nat->Addr)(w:World)(S d c sp:Nat)(s:yG)(home keys:Int)(G':GA)(l':List Nat)(i:Nat)(nw:Bool)(e:Ending)(w':World):Prop :=
 ∃P' F',e=.returned (.tuple #[.bool nw,.nilIface])/\StR F' w' P' S d c sp s home (i:Int) (if nw then keys+1 else keys) G' l'/\zX (qB P S) (qB P' S) F F' ad w w'
theorem zSh[zQ]{dd:Nat}{ps:List zL}{pgs:List Nat}{i:Nat}{nw:Bool}(hL:yH F ad w)(hP:∀k,P k->F k)(h:StR F w P S d c sp s home (root:Int) keys G l)(hg:s.gen+1<18446744073709551616)(Bp:0<=keys/\keys<1000000)(key v:ByteArray)(hk:jO key=true)(hv:v.size<=4096)(hc:zCB G l)(hT:TD G (s.gen+1) root dd ps pgs)(hu:zAk l (λk=>k∈pgs))(Bq:G.cost+300<=1000000)(hr:zHX G l (s.gen+1) root key v=.inl (G',l',(i,nw))) :
  Calls Tryz.prog 39 #[.pointer (some ⟨S,0,none⟩),.string key,.string v] w (zSg F P ad w S d c sp s home keys G' l' i nw):=by
 have B2:=oh (λop=>zRx h op);have Br:=oh (λW (m:zF w W)=>zRy (h.at m) hg);have B8:=oh (λW (m:zF w W)=>zML (hL.mods m.ext) hP (h.at m).1 hg hc hT hu hk hv Bq);have D3:=oh hr;have As:=oh h;have HN:=oh (λW (m:zF w W)=>zX.ext hL hP m);have c9:Hid (∀W,zF w W->W.cell? ⟨S,9,none⟩=some (.int .i64 (root:Int))):=oh (λW m=>by obtain⟨_,⟨a,cc,h2⟩,_,_⟩:=h.at m;exact h2.cell rfl);have Cr:=oh Bp;rw[hr] at B8;clear hL hP h hg hk hv hc hT hu Bq Bp hr;obtain⟨pg,Bs⟩:∃pg,pg=pgV c sp (s.gen+1):=⟨_,rfl⟩;rw[<- Bs] at Br B8;clear Bs
 go_enter Tryz.func39, Tryz.ntmps39
 go_wp2_with fail;refine (B2.out _).mono ?_;rintro e w1 ⟨rfl,rfl⟩;have zd:=c9.out _ (zss w).drew;go_wp2_with fail;go_region_held3 (λw'=>w'.cell? ⟨S,9,none⟩=some (.int .i64 (root:Int)))
  (first|(with_reducible exact zd)|(with_reducible exact z5)|(with_reducible exact z6)|fail)
  (first
   | (go_at_call 54;(with_reducible refine (Br.out _ (zss w).drew).mono ?_);rintro e w5 ⟨rfl,m5⟩;have x5:=(zss w).drew.trans m5;have z5:=c9.out _ x5)
   | (go_at_call 85;((with_reducible refine (B8.out _ x5).mono ?_);intro e w6 hq;obtain⟨P6,F6,Aw,n6,rfl⟩:∃P6 F6,jK F6 w6 P6 c sp G' l'/\zX P P6 F F6 ad _ w6/\e=.returned (.tuple #[.int .i64 ((i:Nat):Int),.bool nw,.nilIface]):=(by obtain⟨P6,F6,G6,l6,Aw,n6,⟨i6,nw6,Ax,he⟩|⟨k6,f6,el6,Ax,_⟩⟩:=hq;(· simp only[Sum.inl.injEq,Prod.mk.injEq] at Ax;obtain⟨rfl,rfl,rfl,rfl⟩:=Ax;exact⟨P6,F6,Aw,n6,he⟩);(· cases Ax));have h6:=(As.out.at x5).nxt n6 Aw;have n06:=(HN.out _ x5).trans n6;have z6:w6.cell? ⟨S,9,none⟩=some (.int .i64 (root:Int)):=(by obtain⟨_,⟨a,cc,h2⟩,_,_⟩:=h6;exact h2.cell rfl)))
   | fail)
 obtain⟨h7,⟨a,cc,Ay⟩,Cs,Ct⟩:=_root_.id h6;have s9:=Ay.d 9 (.int .i64 (root:Int)) rfl;have s10:=Ay.d 10 (.int .i64 keys) rfl;have sf:=Ay.frozen;have H6:=oh h6;have N06:=oh n06;have Bt:=oh As.out.lt;obtain⟨k1,k2⟩:=Cr.out;clear h7 Ay Cs Ct h6 n06 n6 Aw z5 z6 zd x5 m5 hq;cases nw with
 | true =>
  go_wp2_with fail;go_ret2
  exact⟨P6,F6,rfl,H6.out.set (i:Int) (keys+1),N06.out.withS Bt.out H6.out.2.2.2 (zPf _ _)⟩
 | false =>
  go_wp2_with fail;go_ret2
  exact⟨P6,F6,rfl,H6.out.set1 (i:Int),N06.out.withS Bt.out H6.out.2.2.2 (zPg _)⟩
end
end
section
open Go.RowKit
theorem zGS{key v:ByteArray}:∀{ps:List zL},zAx ps->(yV key v true ps).length=if (qI key ps).isNone=true then ps.length+1 else ps.length
 | [],_=>rfl
 | x :: ps,hs=>by
  have hp:=wW.1 hs;unfold yV;by_cases h1:ltS x.1 key=true
  .rw[if_pos h1];have he:qI key (x :: ps)=qI key ps:=by
    unfold qI;rw[List.find?_cons_of_neg (by simpa using zFi h1)]
   rw[he,uG,zGS hp.2];split <;> simp
  .rw[if_neg h1];by_cases h2:x.1=key
   .rw[if_pos h2];have he:qI key (x :: ps)=some x.2:=by
     unfold qI;rw[List.find?_cons_of_pos (by simpa using h2)];rfl
    rw[he];simp
   .rw[if_neg h2];have h3:ltS key x.1=true:=by
     rcases zNz key x.1 with h|h|h
     .exact h
     .exact absurd h.symm h2
     .exact absurd h h1
    have he:qI key (x :: ps)=none:=by
     unfold qI;rw[rY.2 (λy hy=>?_)]
     .rfl
     .rcases uQ.1 hy with rfl|hy
      .simpa using h2
      .have:=zAq h3 (hp.1 y hy);simpa using (zFi this).symm
    rw[he];simp
section
variable {P P' F F':NP}{ad:Nat->Addr}{w w':World}{d S c sp n z:Nat}{s:yG}{G:GA}{l:List Nat}
def zTQ[zQ](F P:NP)(ad:Nat->Addr)(w:World)(z n S d c sp:Nat)(s:yG)(hh:Nat)(G:GA)(key v:ByteArray)(ps:List zL)(pgs pgs0:List Nat)(e:Ending)(w':World):Prop :=
 e=.returned (.tuple #[.bool (qI key ps).isNone,.nilIface])/\∃P' F' G' l' root' dd' pgs',zGR F' w' P' z n S d c sp s hh G' l' root' dd' (yV key v true ps) pgs' pgs0/\zX (qB P S) (qB P' S) F F' ad w w'/\G'.cost<=G.cost+61 /\
  ((2<=ps.length->∀i∈pgs,zCv (G.view i))->2<=(yV key v true ps).length->∀i∈pgs',zCv (G'.view i))
theorem zTR[zQ]{hh root dd:Nat}{ps:List zL}{pgs pgs0:List Nat}{key v:ByteArray}(hL:yH F ad w)(hP:∀k,P k->F k)(h:zGR F w P z n S d c sp s hh G l root dd ps pgs pgs0)(hg:s.gen+1<1000000)(Ac:ps.length<900000)(hc:G.cost<=800000)
  (Bu:jO key=true) (hv:v.size<=400) (Bv:(ndV G.size v:Nat)+(dd:Int)+1<zA4 l) :
  Calls Tryz.prog 39 #[.pointer (some ⟨S,0,none⟩),.string key,.string v] w (zTQ F P ad w z n S d c sp s hh G key v ps pgs pgs0):=by
 rcases h.lawn.put Bu hv with ⟨_,a⟩|⟨G',l',root',d',pgs',q1,q2,q3,q4,q5,q6⟩
 .omega
 refine (zSh hL hP h.st (by omega) (by omega) key v Bu (by omega) h.lawn.ctx h.lawn.td h.lawn.use (by omega) q1).mono ?_;rintro e w' ⟨P',F',rfl,h1,h2⟩;refine⟨rfl,P',F',G',l',root',d',pgs',⟨h.gho,h.home,?_,q2⟩,h2,q3,q5⟩;rw[zGS h.lawn.td.sorted];cases hn:(qI key ps).isNone with
 | true =>
  rw[hn] at h1;simp only[tU] at h1 ⊢;exact_mod_cast h1
 | false =>
  rw[hn] at h1;simpa using h1
end
end
section
open Go.RowKit Go.Maps
attribute [local go_sem ↓] Go.wp_at_zero Go.wp_at_succ
end
section
open Go.RowKit Go.Maps
end
section
open Go.RowKit Go.Maps
attribute [local go_sem ↓] Go.wp_at_zero Go.wp_at_succ
end
end Go.Proofs.YtalpfcaakpgkmaaGreatDoor
