import Derived.Lib.SmallJoins
import Derived.Test.YtgphfebjjedeaaaGreatDoorV37
namespace Go.Proofs.YtgphfebjjedeaaaGreatDoor
open Lib renaming hid->oh
set_option maxHeartbeats 8000000
set_option maxRecDepth 100000
open Go.RowKit
attribute [local go_sem ↓] Go.wp_at_zero Go.wp_at_succ
section
variable {F:NP}{ad:Nat->Addr}{w w':World}{B:Nat}{l:List UInt8}
def zBW(h:zBV):Value:=.agg #[.int .i64 (h.kind:Int),.int .u64 (h.gen:Int),.int .u64 (h.base:Int),.int .i64 (h.records:Int)]
theorem zRa(hL:yE F ad w)(h:zBV)(h1:h.kind<256)(h2:h.gen<18446744073709551616)(h3:h.base<18446744073709551616)(h4:h.records<4294967296) :
  Calls Tryz.prog 65 #[zBW h] w λe w'=>∃B,e=.returned (.pointer (some ⟨B,0,none⟩))/\BwR (yD F B) w' B (jP h)/\yE (yD F B) ad w'/\w.heap.size<=B/\zG w w':=by
 obtain⟨k,g,b,r⟩:=h;unfold zBW;simp only at *;obtain⟨w1,Ad⟩:∃w1,w1=w.alloc (.cells #[.int .i64 (k:Int),.int .u64 (g:Int),.int .u64 (b:Int),.int .i64 (r:Int)] 123):=⟨_,rfl⟩;have B9:w1.heap.size=w.heap.size+1:=by rw[Ad];simp
 obtain⟨w2,Ay⟩:∃w2,w2=w1.alloc (.cells #[.int .u8 83,.int .u8 67,.int .u8 82,.int .u8 49] 5 (4,5)):=⟨_,rfl⟩;have Ba:w2.heap.size=w.heap.size+2:=by rw[Ay];simp;omega
 obtain⟨W0,Af⟩:∃W0,W0=w2.alloc (.cells #[.slice (some ⟨w.heap.size+1,0,none⟩) 4 4,.nilIface] 208):=⟨_,rfl⟩;have hz:W0.heap.size=w.heap.size+3:=by rw[Af];simp;omega
 have m1:zG w w1:=by rw[Ad];exact (zss w).alloc _
 have m2:zG w1 w2:=by rw[Ay];exact (zss w1).alloc _
 have m3:zG w2 W0:=by rw[Af];exact (zss w2).alloc _
 have Bb:zK W0 w.heap.size #[.int .i64 (k:Int),.int .u64 (g:Int),.int .u64 (b:Int),.int .i64 (r:Int)] 123:=zK.ext (by rw[Ad];exact zK.new w _ _:zK w1 w.heap.size _ _) (m2.trans m3);have Ce:zK W0 w2.heap.size #[.slice (some ⟨w.heap.size+1,0,none⟩) 4 4,.nilIface] 208:=by rw[Af];exact zK.new w2 _ _
 have Bc:(convert 27 27 (.slice (some ⟨w.heap.size+1,0,none⟩) 4 4)).run Tryz.prog (w1.alloc (.cells #[.int .u8 83,.int .u8 67,.int .u8 82,.int .u8 49] 5))=.ok (.slice (some ⟨w.heap.size+1,0,none⟩) 4 4) w2:=by
  rw[Ay];exact Go.Joins.run_convert_bytes_const_at w1 _ _ _ _ _ _ B9.symm Tryz.underlying27 Tryz.underlying5
 rw[Ad] at Bc;have An:Sl (yD F w2.heap.size) W0 1 zO (.slice (some ⟨w.heap.size+1,0,none⟩) 4 4) jB:=⟨some ⟨w.heap.size+1,0,none⟩,4,rfl,by decide,by simp[maxLen],by decide,.inr ⟨w.heap.size+1,0,rfl,by omega,λf=>f.elim (λg=>by have:=hL.lt _ g;omega) (λe=>by omega),λi x hi j u hu=>by
  have hc:∀o,W0.cell? ⟨w.heap.size+1,o,none⟩=(#[.int .u8 83,.int .u8 67,.int .u8 82,.int .u8 49]:Array Value)[o]?:=λo=>by
   rw[m3.cell (by omega) (λf=>f),Ay];exact Go.Joins.cell_alloc_mark_at w1 _ _ _ _ _ B9.symm
  rw[hc];have D5:i<4:=(uB.1 hi).1;have hj:j=0:=by
   have:=(uB.1 hu).1;simp[zO] at this;omega
  subst hj;match i,D5 with
  | 0,_=>simp[jB] at hi;subst hi;simpa[zO] using hu
  | 1,_=>simp[jB] at hi;subst hi;simpa[zO] using hu
  | 2,_=>simp[jB] at hi;subst hi;simpa[zO] using hu
  | 3,_=>simp[jB] at hi;subst hi;simpa[zO] using hu⟩⟩
 go_enter Tryz.func65, Tryz.ntmps65
 have Cf:=hL.plusX (m1.trans (m2.trans m3)) (X:=w2.heap.size) (by omega) (by omega);have HF:=oh (show yD F w2.heap.size w2.heap.size from .inr rfl);have D6:=oh (show BwR (yD F w2.heap.size) W0 w2.heap.size jB from ⟨_,Ce,An⟩);have Bn:=oh (m1.trans (m2.trans m3));have Cg:=oh (λk (h:F k)=>hL.lt k h);have Az:=oh Cf;have D7:=oh Bb;have hE:W0=w2.alloc (.cells #[.slice (some ⟨w.heap.size+1,0,none⟩) 4 4,.nilIface] 208):=Af;rw[hE] at Bb;have b0:=Bb.d 0 (.int .i64 (k:Int)) rfl;have Bo:=oh hE;have ek:IntKind.u64.wrap (k:Int)=(k:Int):=IntWalk.u64_in _ (by omega);have er:IntKind.u64.wrap (r:Int)=(r:Int):=IntWalk.u64_in _ (by omega);have Ao:=oh Ba;have D8:=oh (show w.heap.size<=w2.heap.size by omega);clear hE Af Ay Ad hz B9 Ba;have H1:=oh h1;have H2:=oh h2;have H3:=oh h3;have H4:=oh h4;clear An Ce Bb Cf hL m1 m2 m3 h1 h2 h3 h4;go_wp2_with fail;rw[<- Bo.out];refine (zLZ Az.out HF.out D6.out k 1 (by decide) (by have:=H1.out;omega) (by simp[jB])).mono ?_;rintro e W1 ⟨rfl,Ch,mm⟩;have Ci:Hid (zK W1 w.heap.size #[.int .i64 (k:Int),.int .u64 (g:Int),.int .u64 (b:Int),.int .i64 (r:Int)] 123):=oh (D7.out.mods mm (λ(h:w.heap.size=w2.heap.size)=>by have:=Ao.out;omega));have Au:=oh (Bn.out.trans' mm (λi hi (h:i=w2.heap.size)=>by have:=Ao.out;omega));have B0:=oh (Az.out.mods (mm.mono (λj (h:j=w2.heap.size)=>.inr h)));have D9:=oh Ch;have b11:=Ci.out.d 1 (.int .u64 (g:Int)) rfl;clear mm Ch;go_wp2_with fail;refine (zLZ B0.out HF.out D9.out g 8 (by decide) (by have:=H2.out;omega) (by simp[jB,zC])).mono ?_;rintro e W2 ⟨rfl,Cj,mm⟩;have Ck:Hid (zK W2 w.heap.size #[.int .i64 (k:Int),.int .u64 (g:Int),.int .u64 (b:Int),.int .i64 (r:Int)] 123):=oh (Ci.out.mods mm (λ(h:w.heap.size=w2.heap.size)=>by have:=Ao.out;omega));have Bp:=oh (Au.out.trans' mm (λi hi (h:i=w2.heap.size)=>by have:=Ao.out;omega));have B1:=oh (B0.out.mods (mm.mono (λj (h:j=w2.heap.size)=>.inr h)));have Da:=oh Cj;have b22:=Ck.out.d 2 (.int .u64 (b:Int)) rfl;clear mm Cj;go_wp2_with fail;refine (zLZ B1.out HF.out Da.out b 8 (by decide) (by have:=H3.out;omega) (by simp[jB,zC])).mono ?_;rintro e W3 ⟨rfl,Cl,mm⟩;have Cm:Hid (zK W3 w.heap.size #[.int .i64 (k:Int),.int .u64 (g:Int),.int .u64 (b:Int),.int .i64 (r:Int)] 123):=oh (Ck.out.mods mm (λ(h:w.heap.size=w2.heap.size)=>by have:=Ao.out;omega));have Bq:=oh (Bp.out.trans' mm (λi hi (h:i=w2.heap.size)=>by have:=Ao.out;omega));have B2:=oh (B1.out.mods (mm.mono (λj (h:j=w2.heap.size)=>.inr h)));have Db:=oh Cl;have b33:=Cm.out.d 3 (.int .i64 (r:Int)) rfl;clear mm Cl;go_wp2_with fail;refine (zLZ B2.out HF.out Db.out r 4 (by decide) (by have:=H4.out;omega) (by simp[jB,zC])).mono ?_;rintro e W4 ⟨rfl,Cn,mm⟩;have E4:Hid (zK W4 w.heap.size #[.int .i64 (k:Int),.int .u64 (g:Int),.int .u64 (b:Int),.int .i64 (r:Int)] 123):=oh (Cm.out.mods mm (λ(h:w.heap.size=w2.heap.size)=>by have:=Ao.out;omega));have Br:=oh (Bq.out.trans' mm (λi hi (h:i=w2.heap.size)=>by have:=Ao.out;omega));have Co:=oh (B2.out.mods (mm.mono (λj (h:j=w2.heap.size)=>.inr h)));have Dc:=oh Cn;clear mm Cn;go_wp2_with fail;go_ret;exact⟨w2.heap.size,rfl,Dc.out,Co.out,D8.out,Br.out⟩
theorem zTR(hL:yE F ad w)(hF:F B)(h:BwR F w B l)(op:ByteArray)(A1:l.length<=900000000) :
  Calls Tryz.prog 67 #[.pointer (some ⟨B,0,none⟩),.string op] w λe w'=>∃v,e=.returned (.tuple #[v,.nilIface])/\Sl F w' 1 zO v (zEG l)/\zA (λj=>j=B) w w':=by
 have HS:=oh h;obtain⟨v,hB,hS⟩:=h;have Cp:=oh (zKI v l w hS);have Cq:=oh (zLZ hL hF HS.out (qR l) 4 (by decide) (zBi l) A1);have b0:=hB.d 0 v rfl;have b1:=hB.d 1 .nilIface rfl;have E5:=hB.lt;have ec:IntKind.u64.wrap (qR l:Int)=(qR l:Int):=IntWalk.u64_in _ (by have:=zBi l;omega);obtain⟨cs,Ah⟩:∃cs,cs=qR l:=⟨_,rfl⟩;rw[<- Ah] at Cp Cq ec;have HE:=oh (show zEG l=l++zV 4 cs by rw[Ah];rfl);clear hL hF hB Ah HS;obtain⟨a,c,rfl, -⟩:=hS
 go_enter Tryz.func67, Tryz.ntmps67
 go_wp2_with fail;refine Cp.out.mono ?_;rintro e w1 ⟨rfl,rfl⟩;go_wp2_with fail;refine Cq.out.mono ?_;rintro e w1 ⟨rfl,⟨v',Bd,Cr⟩,mm⟩;have b0:=Bd.d 0 v' rfl;have b1:=Bd.d 1 .nilIface rfl;have Dd:=Bd.lt;have De:=oh Cr;have A7:=oh mm;clear mm Bd;obtain⟨a,c,rfl, -⟩:=Cr;go_wp2_with fail;go_ret2
 refine⟨_,rfl,?_,A7.out⟩;rw[HE.out];have h:=De.out;rw[uC,zC] at h;first|exact h|simpa using h
end
theorem Tryz.headSize:(Tryz.prog.info? 123).map (·.size)=some 4:=by kernel_rfl
section
variable {F:NP}{ad:Nat->Addr}{w w':World}{B:Nat}{v:Value}{l:List UInt8}{p:Nat}{ok:Bool}
theorem zGI(hL:yE F ad w)(hF:F B)(h:BrR F w B v l p ok)(W:Nat)(hW:W=1\/W=2\/W=4\/W=8)(hp:p+W<=l.length)(A1:l.length<=2000000000) :
  Calls Tryz.prog 208 #[.pointer (some ⟨B,0,none⟩),.int .i64 (W:Int)] w λe w'=>e=.returned (.int .u64 (zZ l p W:Int))/\BrR F w' B v l (p+W) ok/\zA (λj=>j=B) w w':=by
 refine (zTC hL hF h W hW (by omega)).mono ?_;rintro e w' ⟨rfl,h,m⟩;rw[uU hp,Bool.and_true] at h;exact⟨by rw[if_pos hp],h,m⟩
def zMb(F:NP)(ad:Nat->Addr)(l:List UInt8)(e:Ending)(w':World):Prop:=match qY l with
 | .inl h=>e=.returned (.tuple #[zBW h,.nilIface])
 | .inr c=>∃f,e=.returned (.tuple #[zBW ⟨0,0,0,0⟩,zI f])/\yN F ad w' (zI f) [-1] c
def zA7(h:zBV):Array Value:=#[.int .i64 (h.kind:Int),.int .u64 (h.gen:Int),.int .u64 (h.base:Int),.int .i64 (h.records:Int)]
theorem zS1(hL:yE F ad w)(bv:Value)(l:List UInt8)(hb:Sl F w 1 zO bv l)(A1:l.length<=1000000000) :
  Calls Tryz.prog 138 #[bv] w λe w'=>zMb F ad l e w'/\zG w w':=by
 have m0:zG w (w.alloc (.cells #[.int .i64 0,.int .u64 0,.int .u64 0,.int .i64 0] 123)):=(zss w).alloc _;have M0:=oh m0;have Ab:=oh (zK.new w #[.int .i64 0,.int .u64 0,.int .u64 0,.int .i64 0] 123);have HL:=oh (hL.withR m0 (by simp));have Ak:=oh (hb.withR m0);have A2:=oh (λW (m:zG (w.alloc (.cells #[.int .i64 0,.int .u64 0,.int .u64 0,.int .i64 0] 123)) W)=>zQ3 (HL.out.mods m.ext) ⟨#[98,97,99,107,117,112,46,80,101,101,107]⟩);have Ai:=oh A1;clear hL hb m0;have A3:Hid (∀W f c,zG (w.alloc (.cells #[.int .i64 0,.int .u64 0,.int .u64 0,.int .i64 0] 123)) W->yN (yD F w.heap.size) ad W (zI f) [-1] c->qY l=.inr c ->
   zMb F ad l (.returned (.tuple #[zBW ⟨0,0,0,0⟩,zI f])) ((((W.setCell ⟨w.heap.size,0,none⟩ (.int .i64 0)).setCell ⟨w.heap.size,1,none⟩ (.int .u64 0)).setCell ⟨w.heap.size,2,none⟩ (.int .u64 0)).setCell ⟨w.heap.size,3,none⟩ (.int .i64 0))/\zG w ((((W.setCell ⟨w.heap.size,0,none⟩ (.int .i64 0)).setCell ⟨w.heap.size,1,none⟩ (.int .u64 0)).setCell ⟨w.heap.size,2,none⟩ (.int .u64 0)).setCell ⟨w.heap.size,3,none⟩ (.int .i64 0))) :=
  oh λW f c m hE hp=>by
   refine⟨?_,zA.set4 (M0.out.trans m) (.inl (uJ w.heap.size)) _ _ _ _⟩;unfold zMb;rw[hp];exact⟨f,rfl,hE.unR (zA.set4 (zss W) (R:=w.heap.size) (.inr (.inr rfl)) _ _ _ _)⟩
 obtain⟨a,cp,rfl,B9,Ba,E6,Bs⟩:=id Ak.out;unfold maxLen at Ba;by_cases h1:l.length<29
 .have HP:Hid (qY l=.inr 1):=oh (by unfold qY;rw[if_pos (.inl h1)]);have h2:(l.length:Int)<29:=by omega
  clear Bs h1
  go_enter Tryz.func138, Tryz.ntmps138
  go_wp2_with fail;refine (A2.out _ zr).mono ?_;rintro e w1 ⟨f,rfl,hE,hm⟩;have hb:=Ab.out.ext hm;have r0:=hb.k 0 rfl;have r1:=hb.k 1 rfl;have r2:=hb.k 2 rfl;have r3:=hb.k 3 rfl;have rf:=hb.frozen;have A5:=oh (zK.set4 hb (.int .i64 0) (.int .u64 0) (.int .u64 0) (.int .i64 0));have A0:=oh (A3.out w1 f 1 hm hE HP.out);clear hE hm hb;go_wp2_with fail;refine bodyPost_ret (zF rfl _ _ w.heap.size 123 (zA7 ⟨0,0,0,0⟩) _ rfl A5.out Tryz.underlying123 rfl Tryz.headSize) rfl ?_;exact A0.out
 .have h2:¬ (l.length:Int)<29:=by omega
  obtain⟨sg,An⟩:∃sg:ByteArray,sg=⟨(l.take 4).toArray⟩:=⟨_,rfl⟩;have Bc:(convert 27 9 (.slice a 4 cp)).run Tryz.prog (w.alloc (.cells #[.int .i64 0,.int .u64 0,.int .u64 0,.int .i64 0] 123))=.ok (.string sg) (w.alloc (.cells #[.int .i64 0,.int .u64 0,.int .u64 0,.int .i64 0] 123)):=by
   have hs:=Sl.pre Ak.out 4 (by omega);rw[An];exact zBl (P:=Tryz.prog) Tryz.underlying27 Tryz.underlying5 Tryz.underlying9 hs
  have i4:(4:Int)<=(cp:Int):=by omega
  by_cases h3:l.take 4=jB
  .have hs:sg=⟨#[83,67,82,49]⟩:=by rw[An,h3];rfl
   subst hs;clear An;have Df:Hid (qY l=if ¬ ((zCC l).kind=1/\(zCC l).base=0\/(zCC l).kind=2) then .inr 1 else if zZ l (l.length-4) 4≠qR (l.take (l.length-4)) then .inr 5 else .inl (zCC l)):=oh (by
    unfold qY;rw[if_neg (λh=>h.elim h1 (λh=>h h3))])
   obtain⟨w1,Ad⟩:∃w1,w1=(w.alloc (.cells #[.int .i64 0,.int .u64 0,.int .u64 0,.int .i64 0] 123)):=⟨_,rfl⟩;rw[<- Ad] at HL Ak A2 A3 Bc M0 Ab;have hz1':w1.heap.size=w.heap.size+1:=by rw[Ad];simp
   obtain⟨W0,Af⟩:∃W0,W0=w1.alloc (.cells #[.slice a l.length cp,.int .i64 4,.nilIface] 229):=⟨_,rfl⟩;have m1:zG w1 W0:=by rw[Af];exact zr.alloc _
   have hz2':W0.heap.size=w.heap.size+2:=by rw[Af];simp;omega
   have Dg:Hid (BrR (yD (yD F w.heap.size) (w.heap.size+1)) W0 (w.heap.size+1) (.slice a l.length cp) l 4 true):=oh ⟨_,by rw[<- hz1',Af];exact zK.new w1 _ _,Ak.out.plusX m1 (by omega),rfl⟩;have Az:=oh (HL.out.plusX m1 (X:=w.heap.size+1) (by omega) (by omega));have Bn:=oh m1;have A9:=oh (show yD (yD F w.heap.size) (w.heap.size+1) (w.heap.size+1) from .inr rfl);have Be:=oh hz1';have Bo:Hid (W0=(w.alloc (.cells #[.int .i64 0,.int .u64 0,.int .u64 0,.int .i64 0] 123)).alloc (.cells #[.slice a l.length cp,.int .i64 4,.nilIface] 229)):=oh (by rw[Af,Ad]);have A8:=oh (show 29<=l.length by omega);have E7:=oh Ad;rw[Ad] at Bc;clear Af Ad m1 hz1' hz2' Bs h1 h3
   go_enter Tryz.func138, Tryz.ntmps138
   go_wp2_with fail;rw[<- Bo.out];refine (zGI Az.out A9.out Dg.out 1 (by decide) (by have:=A8.out;omega) (by have:=Ai.out;omega)).mono ?_;rintro e W1 ⟨rfl,Cs,mm⟩;have Dh:=oh Cs;have B0:=oh (Az.out.mods (mm.mono (λj (h:j=w.heap.size+1)=>by rw[h];exact A9.out)));have Au:=oh (Bn.out.trans' mm (λi hi (h:i=w.heap.size+1)=>by have:=Be.out;omega));obtain⟨k,hk⟩:∃k,k=zZ l 4 1:=⟨_,rfl⟩;have Di:k<256:=by rw[hk];exact vB l 4 1
   rw[<- hk];have Hk:=oh hk;clear Cs mm hk;have qk:IntKind.i64.wrap (k:Int)=(k:Int):=IntWalk.i64_in _ (by omega);go_wp2_with fail;refine (zGI B0.out A9.out Dh.out 8 (by decide) (by have:=A8.out;omega) (by have:=Ai.out;omega)).mono ?_;rintro e W2 ⟨rfl,Ct,mm⟩;have Dj:=oh Ct;have B1:=oh (B0.out.mods (mm.mono (λj (h:j=w.heap.size+1)=>by rw[h];exact A9.out)));have Bp:=oh (Au.out.trans' mm (λi hi (h:i=w.heap.size+1)=>by have:=Be.out;omega));obtain⟨g,hg⟩:∃g,g=zZ l 5 8:=⟨_,rfl⟩;have E8:g<18446744073709551616:=by rw[hg];exact vB l 5 8
   rw[<- hg];have Hg:=oh hg;clear Ct mm hg;go_wp2_with fail;refine (zGI B1.out A9.out Dj.out 8 (by decide) (by have:=A8.out;omega) (by have:=Ai.out;omega)).mono ?_;rintro e W3 ⟨rfl,Cu,mm⟩;have Dk:=oh Cu;have B2:=oh (B1.out.mods (mm.mono (λj (h:j=w.heap.size+1)=>by rw[h];exact A9.out)));have Bq:=oh (Bp.out.trans' mm (λi hi (h:i=w.heap.size+1)=>by have:=Be.out;omega));obtain⟨b,hb⟩:∃b,b=zZ l 13 8:=⟨_,rfl⟩;have E9:b<18446744073709551616:=by rw[hb];exact vB l 13 8
   rw[<- hb];have Hb:=oh hb;clear Cu mm hb;go_wp2_with fail;refine (zGI B2.out A9.out Dk.out 4 (by decide) (by have:=A8.out;omega) (by have:=Ai.out;omega)).mono ?_;rintro e W4 ⟨rfl,Cv,mm⟩;have Ea:=oh Cv;have Co:=oh (B2.out.mods (mm.mono (λj (h:j=w.heap.size+1)=>by rw[h];exact A9.out)));have Br:=oh (Bq.out.trans' mm (λi hi (h:i=w.heap.size+1)=>by have:=Be.out;omega));obtain⟨r,hr⟩:∃r,r=zZ l 21 4:=⟨_,rfl⟩;have Eb:r<4294967296:=by rw[hr];exact vB l 21 4
   rw[<- hr];have Hr:=oh hr;clear Cv mm hr;have qr:IntKind.i64.wrap (r:Int)=(r:Int):=IntWalk.i64_in _ (by omega);obtain⟨q1,Ap⟩:∃q,((k:Int) == 1)=q:=⟨_,rfl⟩;obtain⟨q2,A6⟩:∃q,((k:Int) == 2)=q:=⟨_,rfl⟩;obtain⟨q3,Dl⟩:∃q,((b:Int) != 0)=q:=⟨_,rfl⟩;obtain⟨n,hn⟩:∃n,n=zZ l (l.length-4) 4:=⟨_,rfl⟩;have Cw:zCC l=⟨k,g,b,r⟩:=by unfold zCC;rw[<- Hk.out,<- Hg.out,<- Hb.out,<- Hr.out]
   have Bt:Hid (qY l=if (q1 && !q3 || q2)=false then .inr 1 else if n≠qR (l.take (l.length-4)) then .inr 5 else .inl ⟨k,g,b,r⟩):=oh (by
    rw[Df.out,Cw,<- hn];have e:(¬ ((zBV.mk k g b r).kind=1/\(zBV.mk k g b r).base=0\/(zBV.mk k g b r).kind=2)) ↔ (q1 && !q3 || q2)=false:=by
     rw[<- Ap,<- A6,<- Dl];show ¬ (k=1/\b=0\/k=2) ↔ _;simp only[pI,Bool.and_eq_false_iff,uS,Bool.not_eq_false',bne_iff_ne];omega
    simp only[e])
   have B3:(q1=true/\q2=false/\q3=true)\/(q1=true/\q2=false/\q3=false)\/(q1=false/\q2=true)\/(q1=false/\q2=false):=by
    cases q1 <;> cases q2 <;> cases q3 <;> simp at Ap A6 ⊢ <;> omega
   have Ec:n<4294967296:=by rw[hn];exact vB l (l.length-4) 4
   have Al:=oh (Br.out.alloc (.cells #[.int .i64 (k:Int),.int .u64 (g:Int),.int .u64 (b:Int),.int .i64 (r:Int)] 123));have Bf:=oh (zK.new W4 #[.int .i64 (k:Int),.int .u64 (g:Int),.int .u64 (b:Int),.int .i64 (r:Int)] 123);have Dm:Hid (yO l ((l.length:Int)-4) 4=(n,none)):=oh (by
    have:=A8.out;unfold yO;rw[if_neg (by omega),if_neg (by omega),hn,show ((l.length:Int)-4).toNat=l.length-4 by omega];rfl)
   have HT:=oh (zDX (HL.out.mods Al.out.ext) (.slice a l.length cp) l (Ak.out.ext Al.out) ((l.length:Int)-4) 4 (by decide));rw[Dm.out] at HT;have i1:((l.length:Int)-4).toNat=l.length-4:=by have:=A8.out;omega
   have i2:(4:Int)<=(l.length:Int):=by have:=A8.out;omega
   have i3:(l.length:Int)<=(cp:Int):=by omega
   have q32:IntKind.u32.wrap (n:Int)=(n:Int):=IntWalk.u32_in _ (by omega);clear hn Cw;rcases B3 with ⟨rfl,rfl,rfl⟩|⟨rfl,rfl,rfl⟩|⟨rfl,rfl⟩|⟨rfl,rfl⟩
   .have HP:Hid (qY l=.inr 1):=oh (by rw[Bt.out];rfl);go_wp2_with fail;refine (A2.out _ Al.out).mono ?_;rintro e W6 ⟨f,rfl,hE,hm⟩;have hb:=Ab.out.ext (Al.out.trans hm);have r0:=hb.k 0 rfl;have r1:=hb.k 1 rfl;have r2:=hb.k 2 rfl;have r3:=hb.k 3 rfl;have rf:=hb.frozen;have A5:=oh (zK.set4 hb (.int .i64 0) (.int .u64 0) (.int .u64 0) (.int .i64 0));have A0:=oh (A3.out W6 f 1 (Al.out.trans hm) hE HP.out);clear hE hm hb;go_wp2_with fail;refine bodyPost_ret (zF rfl _ _ w.heap.size 123 (zA7 ⟨0,0,0,0⟩) _ rfl A5.out Tryz.underlying123 rfl Tryz.headSize) rfl ?_;exact A0.out
   rotate_right
   .have HP:Hid (qY l=.inr 1):=oh (by rw[Bt.out];rfl);go_wp2_with fail;refine (A2.out _ Al.out).mono ?_;rintro e W6 ⟨f,rfl,hE,hm⟩;have hb:=Ab.out.ext (Al.out.trans hm);have r0:=hb.k 0 rfl;have r1:=hb.k 1 rfl;have r2:=hb.k 2 rfl;have r3:=hb.k 3 rfl;have rf:=hb.frozen;have A5:=oh (zK.set4 hb (.int .i64 0) (.int .u64 0) (.int .u64 0) (.int .i64 0));have A0:=oh (A3.out W6 f 1 (Al.out.trans hm) hE HP.out);clear hE hm hb;go_wp2_with fail;refine bodyPost_ret (zF rfl _ _ w.heap.size 123 (zA7 ⟨0,0,0,0⟩) _ rfl A5.out Tryz.underlying123 rfl Tryz.headSize) rfl ?_;exact A0.out
   all_goals
    have HP:Hid (qY l=if n≠qR (l.take (l.length-4)) then .inr 5 else .inl ⟨k,g,b,r⟩):=oh (by rw[Bt.out];rfl);go_wp2_with fail;refine HT.out.mono ?_;rintro e W6 ⟨ev,rfl,hE,hm⟩;have Bu:ev=.nilIface:=hE;subst Bu;have Av:=oh (Al.out.trans hm);have A4:=Bf.out.ext hm;have Dn:=oh (zPO _ _ (Sl.pre (Ak.out.ext Av.out) (l.length-4) (by omega)) n);have Bv:=oh A4;clear hE hm A4;go_wp2_with fail;refine Dn.out.mono ?_;rintro e W7 ⟨rfl,rfl⟩;have A4:=Bv.out;have hb:=Ab.out.ext Av.out;have r0:=hb.k 0 rfl;have r1:=hb.k 1 rfl;have r2:=hb.k 2 rfl;have r3:=hb.k 3 rfl;have rf:=hb.frozen;by_cases Ah:qR (l.take (l.length-4))=n
    .have HP:Hid (qY l=.inl ⟨k,g,b,r⟩):=oh (by rw[HP.out,if_neg (λh=>h Ah.symm)]);rw[uU Ah];have s0:=A4.d 0 (.int .i64 (k:Int)) rfl;have s1:=A4.d 1 (.int .u64 (g:Int)) rfl;have s2:=A4.d 2 (.int .u64 (b:Int)) rfl;have s3:=A4.d 3 (.int .i64 (r:Int)) rfl;have A5:=oh (zK.set4 hb (.int .i64 (k:Int)) (.int .u64 (g:Int)) (.int .u64 (b:Int)) (.int .i64 (r:Int)));have A0:=oh (zA.set4 (M0.out.trans Av.out) (.inl (uJ w.heap.size)) (.int .i64 (k:Int)) (.int .u64 (g:Int)) (.int .u64 (b:Int)) (.int .i64 (r:Int)));clear hb A4 Ah;go_wp2_with fail;refine bodyPost_ret (zF rfl _ _ w.heap.size 123 (zA7 ⟨k,g,b,r⟩) _ rfl A5.out Tryz.underlying123 rfl Tryz.headSize) rfl ?_;exact⟨by unfold zMb;rw[HP.out];rfl,A0.out⟩
    .have HP:Hid (qY l=.inr 5):=oh (by rw[HP.out,if_pos (λh=>Ah h.symm)]);rw[uX Ah];have Bw:=HL.out.mods Av.out.ext;have g5:=Bw.c5;have Do:=oh (λop=>yR Bw op _ [] 5 (.sent 5 (by decide) (by decide)));clear hb A4 Ah Bw r0 r1 r2 r3 rf;go_wp2_with fail;refine (Do.out _).mono ?_;rintro e W8 ⟨f,rfl,hE,hm⟩;have hb:=Ab.out.ext (Av.out.trans hm);have r0:=hb.k 0 rfl;have r1:=hb.k 1 rfl;have r2:=hb.k 2 rfl;have r3:=hb.k 3 rfl;have rf:=hb.frozen;have A5:=oh (zK.set4 hb (.int .i64 0) (.int .u64 0) (.int .u64 0) (.int .i64 0));have A0:=oh (A3.out W8 f 5 (Av.out.trans hm) hE HP.out);clear hE hm hb;go_wp2_with fail;refine bodyPost_ret (zF rfl _ _ w.heap.size 123 (zA7 ⟨0,0,0,0⟩) _ rfl A5.out Tryz.underlying123 rfl Tryz.headSize) rfl ?_;exact A0.out
  .have HP:Hid (qY l=.inr 1):=oh (by unfold qY;rw[if_pos (.inr h3)]);have Dp:¬ sg=⟨#[83,67,82,49]⟩:=λe=>h3 (by
    rw[An] at e;have e2:(l.take 4).toArray=#[83,67,82,49]:=congrArg ByteArray.data e;have e3:=congrArg Array.toList e2;simpa[jB] using e3)
   have Dq:(sg.toList == [83,67,82,49])=false:=uS.2 (λe=>Dp (toList_inj (by rw[e];simp[ByteArray.toList_eq])));clear Bs h1 h3 An
   go_enter Tryz.func138, Tryz.ntmps138
   go_wp2_with fail;refine (A2.out _ zr).mono ?_;rintro e w1 ⟨f,rfl,hE,hm⟩;have hb:=Ab.out.ext hm;have r0:=hb.k 0 rfl;have r1:=hb.k 1 rfl;have r2:=hb.k 2 rfl;have r3:=hb.k 3 rfl;have rf:=hb.frozen;have A5:=oh (zK.set4 hb (.int .i64 0) (.int .u64 0) (.int .u64 0) (.int .i64 0));have A0:=oh (A3.out w1 f 1 hm hE HP.out);clear hE hm hb;go_wp2_with fail;refine bodyPost_ret (zF rfl _ _ w.heap.size 123 (zA7 ⟨0,0,0,0⟩) _ rfl A5.out Tryz.underlying123 rfl Tryz.headSize) rfl ?_;exact A0.out
end
section
variable {F G:NP}{ad:Nat->Addr}{w w' w5:World}{B:Nat}{v:Value}{l:List UInt8}{p q:Nat}{ok ok':Bool}
def zIe(F:NP)(ad:Nat->Addr)(l:List UInt8)(e:Ending)(w':World):Prop:=match jV l with
 | .inl (h,ps)=>∃v,e=.returned (.tuple #[zBW h,v,.nilIface])/\Sl F w' 2 vI v ps
 | .inr c=>∃f el,e=.returned (.tuple #[zBW ⟨0,0,0,0⟩,.slice none 0 0,zI f])/\yN F ad w' (zI f) el c
theorem BrR.past(h5:BrR F w5 B v l q ok')(hb:BrR F w B v l p ok)(m:zA (λj=>j=B) w5 w')(mb:zA G w w')(hG:¬ G B)(hF:F B):BrR F w' B v l p ok:=by
 obtain⟨ev,h1,h2,h3⟩:=hb;obtain⟨_,_,h4,_⟩:=h5;exact⟨ev,h1.mods mb hG,h4.mods (m.mono (λj (h:j=B)=>by rw[h];exact hF)),h3⟩
theorem zDR(l:List UInt8)(n p:Nat)(acc:List zE):qG l (n+1) p acc=(qB l p).elim none (λx=>(qB l x.2).elim none (λy=>qG l n y.2 (acc++[(x.1,y.1)]))):=by
 rw[qG];cases qB l p with
 | none=>rfl
 | some x=>cases h:qB l x.2 <;> simp[Option.elim,h]
theorem zGJ{l:List UInt8}{p:Nat}{x:ByteArray × Nat}(h:qB l p=some x):x.2<=l.length:=by
 unfold qB at h;split at h
 .rename_i h1;cases h;exact h1.2
 .cases h
theorem zMc{l:List UInt8}{h:zBV}(hp:qY l=.inl h):h.kind<256/\h.gen<18446744073709551616/\h.base<18446744073709551616/\h.records<4294967296:=by
 unfold qY at hp;split at hp
 .cases hp
 .split at hp
  .cases hp
  .split at hp
   .cases hp
   .cases hp
    exact⟨vB l 4 1,vB l 5 8,vB l 13 8,vB l 21 4⟩
theorem zNr(hL:yE F ad w)(bv:Value)(l:List UInt8)(hb:Sl F w 1 zO bv l)(A1:l.length<=1000000000) :
  Calls Tryz.prog 79 #[bv] w λe w'=>zIe F ad l e w'/\zG w w':=by
 have m0:zG w (w.alloc (.cells #[.int .i64 0,.int .u64 0,.int .u64 0,.int .i64 0] 123)):=(zss w).alloc _;have M0:=oh m0;have Ab:=oh (zK.new w #[.int .i64 0,.int .u64 0,.int .u64 0,.int .i64 0] 123);have Cg:=oh (λk (h:F k)=>hL.lt k h);have HL:=oh (hL.withR m0 (by simp));have Ak:=oh (hb.withR m0);have Ai:=oh A1;have A2:=oh (λW (m:zG (w.alloc (.cells #[.int .i64 0,.int .u64 0,.int .u64 0,.int .i64 0] 123)) W)=>zQ3 (HL.out.mods m.ext) ⟨#[98,97,99,107,117,112,46,82,101,97,100]⟩);have Am:=zS1 HL.out bv l Ak.out A1;clear hL m0;have A3:Hid (∀W f c el,zG (w.alloc (.cells #[.int .i64 0,.int .u64 0,.int .u64 0,.int .i64 0] 123)) W->yN (yD F w.heap.size) ad W (zI f) el c->jV l=.inr c ->
   zIe F ad l (.returned (.tuple #[zBW ⟨0,0,0,0⟩,.slice none 0 0,zI f])) (((((W.setCell ⟨w.heap.size,0,none⟩ (.int .i64 0)).setCell ⟨w.heap.size,1,none⟩ (.int .u64 0)).setCell ⟨w.heap.size,2,none⟩ (.int .u64 0)).setCell ⟨w.heap.size,3,none⟩ (.int .i64 0)))/\zG w (((((W.setCell ⟨w.heap.size,0,none⟩ (.int .i64 0)).setCell ⟨w.heap.size,1,none⟩ (.int .u64 0)).setCell ⟨w.heap.size,2,none⟩ (.int .u64 0)).setCell ⟨w.heap.size,3,none⟩ (.int .i64 0)))) :=
  oh λW f c el m hE hp=>by
   refine⟨?_,zA.set4 (M0.out.trans m) (.inl (uJ w.heap.size)) _ _ _ _⟩;unfold zIe;rw[hp];exact⟨f,el,rfl,hE.unR (zA.set4 (zss W) (R:=w.heap.size) (.inr (.inr rfl)) _ _ _ _)⟩
 unfold zMb at Am;obtain⟨a,cp,rfl, -⟩:=hb;cases hp:qY l with
 | inr c =>
  rw[hp] at Am;simp only at Am;have Aw:=oh Am;have HP:Hid (jV l=.inr c):=oh (by unfold jV;rw[hp]);clear Am hp
  go_enter Tryz.func79, Tryz.ntmps79
  go_wp2_with fail;refine Aw.out.mono ?_;rintro e w1 ⟨⟨f,rfl,hE⟩,hm⟩;have A7:=oh (hm.alloc (.cells #[.int .i64 0,.int .u64 0,.int .u64 0,.int .i64 0] 123));have HE:=oh (hE.mods ((zss w1).alloc (.cells #[.int .i64 0,.int .u64 0,.int .u64 0,.int .i64 0] 123)));clear hE hm;rw[show zBW ⟨0,0,0,0⟩=.agg #[.int .i64 0,.int .u64 0,.int .u64 0,.int .i64 0] from rfl];unfold zI;go_wp2_with fail;refine (wrap_any (HL.out.mods A7.out.ext) _ _ _ _ HE.out).mono ?_;rintro e w2 ⟨f2,rfl,Aj,Aa⟩;have hb:=Ab.out.ext (A7.out.trans Aa);have r0:=hb.k 0 rfl;have r1:=hb.k 1 rfl;have r2:=hb.k 2 rfl;have r3:=hb.k 3 rfl;have rf:=hb.frozen;have A5:=oh (zK.set4 hb (.int .i64 0) (.int .u64 0) (.int .u64 0) (.int .i64 0));have A0:=oh (A3.out w2 f2 c _ (A7.out.trans Aa) Aj HP.out);clear hb;go_wp2_with fail;refine bodyPost_ret (yQ rfl _ _ w.heap.size 123 (zA7 ⟨0,0,0,0⟩) _ rfl A5.out Tryz.underlying123 rfl Tryz.headSize) rfl ?_;exact A0.out
 | inl h =>
  obtain⟨k,g,b,r⟩:=h;rw[hp] at Am;simp only at Am;have Aw:=oh Am;have Bg:29<=l.length:=by
   apply nM
   intro h;unfold qY at hp;rw[if_pos (.inl (by omega))] at hp;cases hp
  have Aq:=zMc hp;clear Am;rw[show zBW ⟨k,g,b,r⟩=.agg #[.int .i64 (k:Int),.int .u64 (g:Int),.int .u64 (b:Int),.int .i64 (r:Int)] from rfl] at Aw;by_cases Cx:k=1
  .subst Cx;obtain⟨rl,Bh⟩:∃rl,rl=l.take (l.length-4):=⟨_,rfl⟩;have Bx:rl.length=l.length-4:=by rw[Bh];simp
   have Cy:Hid (jV l=match qG rl r 25 [] with|none=>.inr 1|some (ps,p)=>if p=rl.length/\vZ e0 ps=true then .inl (⟨1,g,b,r⟩,ps) else .inr 1):=oh (by
    unfold jV;rw[hp];simp only;rw[if_neg (by simp),Bx,Bh];rfl)
   have Dr:=oh Bh;have Ax:=oh (And.intro Bx Bg);have Ed:r<4294967296:=Aq.2.2.2;clear hp Aq Bg Bh Bx A1;rw[show ((1:Nat):Int)=1 from rfl] at Aw
   go_enter Tryz.func79, Tryz.ntmps79
   go_wp2_with fail;refine Aw.out.mono ?_;rintro e w1 ⟨rfl,hm⟩;have A7:=oh (hm.alloc (.cells #[.int .i64 1,.int .u64 (g:Int),.int .u64 (b:Int),.int .i64 (r:Int)] 123));have Bf:=oh (zK.new w1 #[.int .i64 1,.int .u64 (g:Int),.int .u64 (b:Int),.int .i64 (r:Int)] 123);have By:=oh (show w.heap.size<w1.heap.size from uG (by simp) hm.size);clear hm;have A4:=Bf.out;have c0:=A4.d 0 (.int .i64 1) rfl;go_wp2_with fail;refine (zPP (.slice a l.length cp) l (Ak.out.ext A7.out) (by have:=Ax.out;omega) (by have:=Ai.out;omega)).mono ?_;rintro e w5 ⟨RB,rv,rfl,Bz,Bi,C0,C1⟩;rw[<- Dr.out] at Bz;have hz5':w1.heap.size<RB:=uG (by simp) C0;have Cz:=oh Bz;have Ds:=oh (A7.out.trans Bi);have Dt:=oh ((HL.out.mods A7.out.ext).plusX Bi C0 C1);have C2:=oh (Bf.out.ext Bi);have Ar:=oh (And.intro hz5' C1);have A9:=oh (show yD (yD F w.heap.size) RB RB from .inr rfl);clear Bz Bi C0 C1 hz5' A4 c0;go_wp2_with fail;go_loopg [8,9] r (λm v8 v9 wr=>∃(i:Nat) (acc:List zE) (p:Nat) (ok:Bool),i+m=r/\v9=.int .i64 (i:Int)/\Hid (acc.length=i/\p<=2000000000/\(ok=true->p<=rl.length/\qG rl r 25 []=qG rl (r-i) p acc)/\(ok=false->qG rl r 25 []=none))/\Hid (yA (λ_=>False) wr w5.heap.size 105 2 vI v8 acc/\BrR (yD (yD F w.heap.size) RB) wr RB rv rl p ok/\zA (λj=>j=RB) w5 wr))
   case atStart=>exact⟨0,[],25,true,by omega,rfl,oh ⟨rfl,by omega,λ_=>⟨by have:=Ax.out;omega,by rw[Nat.sub_zero]⟩,λh=>by cases h⟩,oh ⟨yA.nil _ _ _ _ _ _,Cz.out,zA.refl _ _⟩⟩
   case round =>
    obtain⟨i,acc,p,ok,Ee,rfl,HQ,HS⟩:=hrel;obtain⟨pa,pc,rfl, -, -⟩:=HS.out.1.form;have A4:=C2.out.mods HS.out.2.2 (λ(h:w1.heap.size=RB)=>by have:=Ar.out;omega);have c3:=A4.d 3 (.int .i64 (r:Int)) rfl;have HBHr:=oh A4;obtain⟨ev,C3, -,C4⟩:=HS.out.2.1;have e2:=C3.d 2 ev rfl;have Ef:=C3.lt;clear A4 C3;rcases (show (i<r/\ok=true)\/(i<r/\ok=false)\/i=r by cases ok <;> simp <;> omega) with ⟨Du,rfl⟩|⟨Du,rfl⟩|Bj
    focus
     have Bu:ev=.nilIface:=C4;subst Bu;have i1:(i:Int)<(r:Int):=by omega
     have HLr:=oh (Dt.out.mods (HS.out.2.2.mono (λj (h:j=RB)=>by rw[h];exact A9.out)));go_wp2_with fail;refine (zQp HLr.out A9.out HS.out.2.1 HQ.out.2.1 (by have:=Ax.out;have:=Ai.out;omega)).mono ?_;rintro e wa ⟨rfl,C5,ma⟩;obtain⟨s1,C6⟩:∃s,s=(qB rl p).elim e0 (·.1):=⟨_,rfl⟩;obtain⟨q1,Ap⟩:∃s,s=(qB rl p).elim p (·.2):=⟨_,rfl⟩;obtain⟨o1,C7⟩:∃s,s=(true && (qB rl p).isSome):=⟨_,rfl⟩;rw[<- Ap,<- C7] at C5;rw[<- C6];have B4:q1<=2000000000:=by
      rw[Ap];cases hx:qB rl p with
      | none=>exact HQ.out.2.1
      | some x=>have:=zGJ hx;have:=Ax.out;have:=Ai.out;rw[rM];omega
     have HRa:=oh C5;have D0:=oh ma;have HLa:=oh (HLr.out.mods (ma.mono (λj (h:j=RB)=>by rw[h];exact A9.out)));have H1:=oh (And.intro C6 (And.intro Ap C7));have C8:=oh B4;clear C5 ma C6 Ap C7 B4;go_wp2_with fail;refine (zQp HLa.out A9.out HRa.out C8.out (by have:=Ax.out;have:=Ai.out;omega)).mono ?_;rintro e wb ⟨rfl,C9,mb⟩;obtain⟨s2,Ag⟩:∃s,s=(qB rl q1).elim e0 (·.1):=⟨_,rfl⟩;obtain⟨q2,A6⟩:∃s,s=(qB rl q1).elim q1 (·.2):=⟨_,rfl⟩;obtain⟨o2,Ac⟩:∃s,s=(o1 && (qB rl q1).isSome):=⟨_,rfl⟩;rw[<- A6,<- Ac] at C9;rw[<- Ag];have As:=oh ((HS.out.1.mods D0.out (λg hg (h:g=RB)=>by have:=(HS.out.1.lt g hg).1;have:=Ar.out;omega)).mods mb (λg hg (h:g=RB)=>by have:=(HS.out.1.lt g hg).1;have:=Ar.out;omega));have D1:=oh (HS.out.2.2.trans (D0.out.trans mb));have HRb:=oh C9;have Dv:Hid ((acc++[(s1,s2)]).length=i+1/\q2<=2000000000/\(o2=true->q2<=rl.length/\qG rl r 25 []=qG rl (r-(i+1)) q2 (acc++[(s1,s2)]))/\(o2=false->qG rl r 25 []=none)):=oh (by
      obtain⟨rfl,rfl,rfl⟩:=H1.out;have Ae:=(HQ.out.2.2.1 (by simp)).2;rw[show r-i=(r-(i+1))+1 by omega,zDR] at Ae;cases hx:qB rl p with
      | none =>
       rw[hx] at Ae A6 Ag Ac C8;simp only[Option.elim_none,Option.isSome_none,Bool.and_false] at Ae A6 Ag Ac C8;refine⟨by simp[HQ.out.1],?_,λh=>(by rw[Ac] at h;simp at h),λ_=>Ae⟩;rw[A6];cases hy:qB rl p with
       | none=>exact HQ.out.2.1
       | some y=>rw[hx] at hy;cases hy
      | some x =>
       rw[hx] at Ae A6 Ag Ac;simp only[rM,Option.isSome_some] at Ae A6 Ag Ac;have Eg:=zGJ hx;have Bg:=Ax.out;have Eh:=Ai.out;cases hy:qB rl x.2 with
       | none =>
        rw[hy] at Ae A6 Ag Ac;simp only[Option.elim_none,Option.isSome_none,Bool.and_false] at Ae A6 Ag Ac;refine⟨by simp[HQ.out.1],by rw[A6];omega,λh=>(by rw[Ac] at h;simp at h),λ_=>Ae⟩
       | some y =>
        rw[hy] at Ae A6 Ag Ac;simp only[rM,Option.isSome_some] at Ae A6 Ag Ac;have Dw:=zGJ hy;refine⟨by simp[HQ.out.1],by rw[A6];omega,λ_=>⟨by rw[A6];exact Dw,by rw[Ae,A6,Ag];rfl⟩,λh=>(by rw[Ac] at h;simp at h)⟩)
     clear C9 mb Ag A6 Ac;go_wp2_with (at_builtin;refine yC Tryz.elP qX rfl _ _ rfl w5.heap.size _ _ acc [(s1,s2)] rfl rfl (As.out.ext (zr.alloc _)) (Sl.one (F:=λ_=>False) (zM (by simp)) (λf=>f)) (by have:=HQ.out.1;simp only[uD,uF];omega) (by have:=D1.out.size;simp;omega) (λf=>f) ?_;simp only[uD,uF,uV];intro a6 c6 w6 D2 Ca Cb);have Dx:Hid (yA (λ_=>False) w6 w5.heap.size 105 2 vI (.slice a6 (acc.length+1) c6) (acc++[(s1,s2)])/\BrR (yD (yD F w.heap.size) RB) w6 RB rv rl q2 o2/\zA (λj=>j=RB) w5 w6):=oh (by
      have Dy:¬ (Value.slice pa acc.length pc).ownBlock=some RB:=λh=>by have:=(As.out.lt RB h).1;have:=Ar.out;omega
      have m6:zA (λj=>j=RB) w5 w6:=(D1.out.alloc _).trans' Ca (λj hj h=>absurd (As.out.lt j h).1 (by omega));exact⟨D2,Cz.out.past (HRb.out.ext ((zss wb).alloc _)) m6 Ca Dy A9.out,m6⟩)
     clear D2 Ca Cb;go_wp2_with fail;go_roundg (gk-1)
     case measure=>omega
     case rel=>exact⟨i+1,acc++[(s1,s2)],q2,o2,by omega,by go_num,Dv,Dx⟩
    focus
     obtain⟨f0,Dz⟩:=C4;subst Dz;unfold zI at e2;have i1:(i:Int)<(r:Int):=by omega
     have HD:=zQ4 HS.out.2.1;obtain⟨c,hc⟩:∃c,c=(false && decide (p=rl.length)):=⟨_,rfl⟩;rw[<- hc] at HD;have HD:=oh HD;have HB:Hid (jV l=if c && vZ e0 acc then .inl (⟨1,g,b,r⟩,acc) else .inr 1):=oh (by
      rw[Cy.out,HQ.out.2.2.2 (by simp),hc];rfl)
     clear hc;go_wp2_with fail
    rotate_right
    focus
     have E0:=oh Bj;have i1:¬ (i:Int)<(r:Int):=by omega
     clear Bj;have HD:=zQ4 HS.out.2.1;obtain⟨c,hc⟩:∃c,c=(ok && decide (p=rl.length)):=⟨_,rfl⟩;rw[<- hc] at HD;have HD:=oh HD;have HB:Hid (jV l=if c && vZ e0 acc then .inl (⟨1,g,b,r⟩,acc) else .inr 1):=oh (by
      rw[Cy.out,hc];have Bj:=E0.out;cases ok with
      | false=>rw[HQ.out.2.2.2 rfl];rfl
      | true =>
       rw[(HQ.out.2.2.1 rfl).2,Bj,Nat.sub_self,qG];simp only[nN];by_cases h1:p=rl.length <;> by_cases h2:vZ e0 acc=true <;> simp[h1,h2])
     clear hc C4 e2;go_wp2_with fail
    all_goals
     refine HD.out.mono ?_;rintro e w8 ⟨rfl,Bk⟩;have Bl:Hid (zG (w.alloc (.cells #[.int .i64 0,.int .u64 0,.int .u64 0,.int .i64 0] 123)) w8):=oh ((Ds.out.trans' HS.out.2.2 (λj hj (h:j=RB)=>by have:=Ar.out;have:=By.out;simp at hj;omega)).trans Bk);have D3:=oh (HS.out.1.ext Bk);have Cc:=oh (HBHr.out.ext Bk);clear Bk;cases c with
     | false =>
      have HP:Hid (jV l=.inr 1):=oh (by rw[HB.out];rfl);go_wp2_with fail;refine (A2.out _ Bl.out).mono ?_;rintro e w9 ⟨f2,rfl,Aj,Aa⟩;have hb:=Ab.out.ext (Bl.out.trans Aa);have r0:=hb.k 0 rfl;have r1:=hb.k 1 rfl;have r2:=hb.k 2 rfl;have r3:=hb.k 3 rfl;have rf:=hb.frozen;have A5:=oh (zK.set4 hb (.int .i64 0) (.int .u64 0) (.int .u64 0) (.int .i64 0));have A0:=oh (A3.out w9 f2 1 _ (Bl.out.trans Aa) Aj HP.out);clear hb;go_wp2_with fail;refine bodyPost_ret (yQ rfl _ _ w.heap.size 123 (zA7 ⟨0,0,0,0⟩) _ rfl A5.out Tryz.underlying123 rfl Tryz.headSize) rfl ?_;exact A0.out
     | true =>
      go_wp2_with fail;refine (zQq acc _ (D3.out.sl (λ_=>rfl) (by have:=HQ.out.1;omega))).mono ?_;rintro e w9 ⟨rfl,B5⟩;have B6:=oh (Bl.out.trans B5);have Cd:=oh (D3.out.ext B5);have A4:=Cc.out.ext B5;cases Bm:vZ e0 acc with
      | false =>
       have HP:Hid (jV l=.inr 1):=oh (by rw[HB.out,Bm];rfl);clear Bm B5 A4;go_wp2_with fail;refine (A2.out _ B6.out).mono ?_;rintro e w10 ⟨f2,rfl,Aj,Aa⟩;have hb:=Ab.out.ext (B6.out.trans Aa);have r0:=hb.k 0 rfl;have r1:=hb.k 1 rfl;have r2:=hb.k 2 rfl;have r3:=hb.k 3 rfl;have rf:=hb.frozen;have A5:=oh (zK.set4 hb (.int .i64 0) (.int .u64 0) (.int .u64 0) (.int .i64 0));have A0:=oh (A3.out w10 f2 1 _ (B6.out.trans Aa) Aj HP.out);clear hb;go_wp2_with fail;refine bodyPost_ret (yQ rfl _ _ w.heap.size 123 (zA7 ⟨0,0,0,0⟩) _ rfl A5.out Tryz.underlying123 rfl Tryz.headSize) rfl ?_;exact A0.out
      | true =>
       have HP:Hid (jV l=.inl (⟨1,g,b,r⟩,acc)):=oh (by rw[HB.out,Bm];rfl);have s0:=A4.d 0 (.int .i64 1) rfl;have s1:=A4.d 1 (.int .u64 (g:Int)) rfl;have s2:=A4.d 2 (.int .u64 (b:Int)) rfl;have s3:=A4.d 3 (.int .i64 (r:Int)) rfl;have hb:=Ab.out.ext B6.out;have r0:=hb.k 0 rfl;have r1:=hb.k 1 rfl;have r2:=hb.k 2 rfl;have r3:=hb.k 3 rfl;have rf:=hb.frozen;have A5:=oh (zK.set4 hb (.int .i64 1) (.int .u64 (g:Int)) (.int .u64 (b:Int)) (.int .i64 (r:Int)));have A0:=oh (zA.set4 (M0.out.trans B6.out) (.inl (uJ w.heap.size)) (.int .i64 1) (.int .u64 (g:Int)) (.int .u64 (b:Int)) (.int .i64 (r:Int)));have E1:=oh (((Cd.out.mods (zA.set4 (F:=λj=>j=w.heap.size) (zss w9) (R:=w.heap.size) (.inr rfl) (.int .i64 1) (.int .u64 (g:Int)) (.int .u64 (b:Int)) (.int .i64 (r:Int))) (λj hj (h:j=w.heap.size)=>by have:=(Cd.out.lt j hj).1;have:=Ar.out;have:=By.out;omega)).blocks (G:=F) (λj hj f=>by have:=(Cd.out.lt j hj).1;have:=Ar.out;have:=By.out;have:=Cg.out j f;omega)).sl (λ_=>rfl) (by have:=HQ.out.1;omega));clear hb A4 Bm B5;go_wp2_with fail;refine bodyPost_ret (yQ rfl _ _ w.heap.size 123 (zA7 ⟨1,g,b,r⟩) _ rfl A5.out Tryz.underlying123 rfl Tryz.headSize) rfl ?_;refine⟨?_,A0.out⟩;unfold zIe;rw[HP.out];exact⟨_,rfl,E1.out⟩
  .have HP:Hid (jV l=.inr 1):=oh (by unfold jV;rw[hp];simp only;rw[if_pos Cx]);have Di:((k:Int) != 1)=true:=by simp;omega
   clear hp Aq Bg
   go_enter Tryz.func79, Tryz.ntmps79
   go_wp2_with fail;refine Aw.out.mono ?_;rintro e w1 ⟨rfl,hm⟩;have A7:=oh (hm.alloc (.cells #[.int .i64 (k:Int),.int .u64 (g:Int),.int .u64 (b:Int),.int .i64 (r:Int)] 123));clear hm;go_wp2_with fail;refine (A2.out _ A7.out).mono ?_;rintro e w2 ⟨f2,rfl,Aj,Aa⟩;have hb:=Ab.out.ext (A7.out.trans Aa);have r0:=hb.k 0 rfl;have r1:=hb.k 1 rfl;have r2:=hb.k 2 rfl;have r3:=hb.k 3 rfl;have rf:=hb.frozen;have A5:=oh (zK.set4 hb (.int .i64 0) (.int .u64 0) (.int .u64 0) (.int .i64 0));have A0:=oh (A3.out w2 f2 1 _ (A7.out.trans Aa) Aj HP.out);clear hb;go_wp2_with fail;refine bodyPost_ret (yQ rfl _ _ w.heap.size 123 (zA7 ⟨0,0,0,0⟩) _ rfl A5.out Tryz.underlying123 rfl Tryz.headSize) rfl ?_;exact A0.out
end
section
variable {F:NP}{ad:Nat->Addr}{w w':World}{B:Nat}{v:Value}{R:List UInt8}{p q:Nat}{ok:Bool}
--was
end
theorem zTS{k:ByteArray}(h:qP k=true):qH e0 k=true:=by
 rcases zEs e0 k with h1|h1|h1
 .exact h1
 .rw[<- h1] at h;exact absurd h (by decide)
 .unfold qH at h1;rw[show e0.toList=[] from by simp[ByteArray.toList_eq]] at h1;cases hk:k.toList <;> rw[hk] at h1 <;> simp[Op.bytesLess] at h1
section
variable {F:NP}{ad:Nat->Addr}{w w':World}{B:Nat}{v:Value}{R:List UInt8}{p q:Nat}{ok:Bool}
def okP(x:zE):Prop:=qP x.1=true/\x.2.size<=4096
end
section
variable {F:NP}{ad:Nat->Addr}{w w':World}
theorem zMd(hL:yE F ad w)(Rb:Nat)(v:Value)(hv:w.cell? ⟨Rb,0,none⟩=some v)(b0:List UInt8)(B7:Sl F w 1 zO v b0)(A1:b0.length<=1000000000)(h0:zBV)(l0:List zE)(hr:jV b0=.inl (h0,l0)) :
  Calls Tryz.prog 73 #[.slice (some ⟨Rb,0,none⟩) 1 1] w λe w'=>(∃v',e=.returned (.tuple #[v',.nilIface])/\Sl F w' 2 vI v' l0)/\zG w w':=by
 have At:=zNr hL v b0 B7 A1;unfold zIe at At;rw[hr] at At;simp only at At;obtain⟨k0,g0,q0,r0⟩:=h0;rw[show zBW ⟨k0,g0,q0,r0⟩=.agg #[.int .i64 (k0:Int),.int .u64 (g0:Int),.int .u64 (q0:Int),.int .i64 (r0:Int)] from rfl] at At;have At:=oh At;clear hL hr B7 A1
 go_enter Tryz.func73, Tryz.ntmps73
 go_wp2_with fail;refine At.out.mono ?_;rintro e w1 ⟨⟨v1,rfl,D4⟩,B8⟩;have E2:=oh (D4.ext ((zss w1).alloc (.cells #[.int .i64 (k0:Int),.int .u64 (g0:Int),.int .u64 (q0:Int),.int .i64 (r0:Int)] 123)));have A7:=oh (B8.alloc (.cells #[.int .i64 (k0:Int),.int .u64 (g0:Int),.int .u64 (q0:Int),.int .i64 (r0:Int)] 123));clear D4 B8 hv;go_wp2_with fail;go_loopg [5,6,7,27] 0 (λm v5 v6 v7 v27 wr=>v5=v1/\v6=.nilIface/\v7=.int .u64 (g0:Int)/\v27=.int .i64 0/\Hid (zG w1 wr/\wr=(w1.alloc (.cells #[.int .i64 (k0:Int),.int .u64 (g0:Int),.int .u64 (q0:Int),.int .i64 (r0:Int)] 123))))
 case atStart=>exact⟨rfl,rfl,rfl,rfl,oh ⟨(zss w1).alloc _,rfl⟩⟩
 case round =>
  obtain⟨rfl,rfl,rfl,rfl,HQ⟩:=hrel;have E3:=HQ.out.2;subst E3;go_wp2_with fail;go_ret2
  exact⟨⟨_,rfl,E2.out⟩,A7.out⟩
theorem zSK(hL:yE F ad w)(op:ByteArray)(n:Int) : Calls Tryz.prog 87 #[.string op,.pointer none,.int .i64 n] w λe w'=>∃f,e=.returned (zI f)/\yN F ad w' (zI f) [-1] 7/\zG w w':=by
 have g7:=hL.c7;have HL:=oh hL;clear hL
 go_enter Tryz.func87, Tryz.ntmps87
 go_wp2_with fail;refine (yR HL.out _ _ [] 7 (.sent 7 (by decide) (by decide))).mono ?_;rintro e w1 ⟨f,rfl,hE,hm⟩;have HE:=oh hE;have HM:=oh hm;clear hE hm;go_wp2_with fail;go_ret;exact⟨f,rfl,HE.out,HM.out⟩
theorem zNs(hL:yE F ad w)(n:Int) : Calls Tryz.prog 30 #[.pointer none,.int .i64 n] w λe w'=>∃f el,e=.returned (.tuple #[.pointer none,zI f])/\yN F ad w' (zI f) el 7/\zG w w':=by
 have HC:=oh (λop=>zSK hL op n);clear hL
 go_enter Tryz.func30, Tryz.ntmps30
 go_wp2_with fail;refine (HC.out _).mono ?_;rintro e w1 ⟨f,rfl,hE,hm⟩;have HE:=oh hE;have HM:=oh hm;clear hE hm;unfold zI;go_wp2_with fail;go_ret2
 exact⟨f,_,rfl,HE.out,HM.out⟩
theorem zMe(hL:yE F ad w)(Rb:Nat)(v:Value)(hv:w.cell? ⟨Rb,0,none⟩=some v)(b0:List UInt8)(B7:Sl F w 1 zO v b0)(A1:b0.length<=1000000000)(h0:zBV)(l0:List zE)(hr:jV b0=.inl (h0,l0))(n:Int) :
  Calls Tryz.prog 18 #[.pointer none,.int .i64 n,.slice (some ⟨Rb,0,none⟩) 1 1] w λe w'=>∃f el,e=.returned (.tuple #[.pointer none,zI f])/\yN F ad w' (zI f) el 7/\zG w w':=by
 have A7:=oh (zMd hL Rb v hv b0 B7 A1 h0 l0 hr);have HL:=oh hL;clear hL hv B7 A1 hr
 go_enter Tryz.func18, Tryz.ntmps18
 go_wp2_with fail;refine A7.out.mono ?_;rintro e w1 ⟨⟨v1,rfl, -⟩,B8⟩;have Au:=oh B8;clear B8;go_wp2_with fail;refine (zNs (HL.out.mods Au.out.ext) n).mono ?_;rintro e w2 ⟨f,el,rfl,hE,hm⟩;have HE:=oh hE;have HX:=oh (Au.out.trans hm);clear hE hm;unfold zI;go_wp2_with fail;refine (wrap_any (HL.out.mods HX.out.ext) _ _ _ _ HE.out).mono ?_;rintro e w3 ⟨f2,rfl,Aj,Aa⟩;have HF:Hid (yN F ad w3 (zI f2) _ 7/\zG w w3):=oh ⟨Aj,HX.out.trans Aa⟩;clear Aj Aa;go_wp2_with fail;go_ret2
 exact⟨f2,_,rfl,HF.out.1,HF.out.2⟩
end
end Go.Proofs.YtgphfebjjedeaaaGreatDoor
