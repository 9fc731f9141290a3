import Derived.Lib.SmallJoins
import Derived.Test.YtdnbmdghmmpgcaaGreatDoorQ37
namespace Go.Proofs.YtdnbmdghmmpgcaaGreatDoor
open Lib renaming hid->oh
set_option maxHeartbeats 8000000
set_option maxRecDepth 100000
open Go.RowKit
attribute [local go_sem ↓] Go.wp_at_zero Go.wp_at_succ
section
variable {F:Nat->Prop}{ad:Nat->Addr}{w w':World}{B:Nat}{l:List UInt8}
def zCS(h:zBj):Value:=.agg #[.int .i64 (h.kind:Int),.int .u64 (h.gen:Int),.int .u64 (h.base:Int),.int .i64 (h.records:Int)]
theorem zMb(hL:yG F ad w)(h:zBj)(h1:h.kind<256)(h2:h.gen<18446744073709551616)(h3:h.base<18446744073709551616)(h4:h.records<4294967296) :
  Calls Tryz.prog 53 #[zCS h] w λe w'=>∃B,e=.returned (.pointer (some ⟨B,0,none⟩))/\BwR (yB F B) w' B (qW h)/\yG (yB F B) ad w'/\w.heap.size<=B/\zG w w':=by
 obtain⟨k,g,b,r⟩:=h;unfold zCS;simp only at *;obtain⟨w1,hw1⟩:∃w1,w1=w.alloc (.cells #[.int .i64 (k:Int),.int .u64 (g:Int),.int .u64 (b:Int),.int .i64 (r:Int)] 46):=⟨_,rfl⟩;have hz1:w1.heap.size=w.heap.size+1:=by rw[hw1];simp
 obtain⟨w2,hw2⟩:∃w2,w2=w1.alloc (.cells #[.int .u8 83,.int .u8 67,.int .u8 82,.int .u8 49] 5 (4,5)):=⟨_,rfl⟩;have hz2:w2.heap.size=w.heap.size+2:=by rw[hw2];simp;omega
 obtain⟨W0,hW0⟩:∃W0,W0=w2.alloc (.cells #[.slice (some ⟨w.heap.size+1,0,none⟩) 4 4,.nilIface] 199):=⟨_,rfl⟩;have hz:W0.heap.size=w.heap.size+3:=by rw[hW0];simp;omega
 have m1:zG w w1:=by rw[hw1];exact (zA.refl _ w).alloc _
 have m2:zG w1 w2:=by rw[hw2];exact (zA.refl _ w1).alloc _
 have m3:zG w2 W0:=by rw[hW0];exact (zA.refl _ w2).alloc _
 have hBX:zK W0 w.heap.size #[.int .i64 (k:Int),.int .u64 (g:Int),.int .u64 (b:Int),.int .i64 (r:Int)] 46:=zK.ext (by rw[hw1];exact zK.new w _ _:zK w1 w.heap.size _ _) (m2.trans m3);have hBW:zK W0 w2.heap.size #[.slice (some ⟨w.heap.size+1,0,none⟩) 4 4,.nilIface] 199:=by rw[hW0];exact zK.new w2 _ _
 have hcv:(convert 26 26 (.slice (some ⟨w.heap.size+1,0,none⟩) 4 4)).run Tryz.prog (w1.alloc (.cells #[.int .u8 83,.int .u8 67,.int .u8 82,.int .u8 49] 5))=.ok (.slice (some ⟨w.heap.size+1,0,none⟩) 4 4) w2:=by
  rw[hw2];exact Go.Joins.run_convert_bytes_const_at w1 _ _ _ _ _ _ hz1.symm Tryz.underlying26 Tryz.underlying5
 rw[hw1] at hcv;have hsg:Sl (yB F w2.heap.size) W0 1 zT (.slice (some ⟨w.heap.size+1,0,none⟩) 4 4) zBX:=⟨some ⟨w.heap.size+1,0,none⟩,4,rfl,by decide,by simp[maxLen],by decide,.inr ⟨w.heap.size+1,0,rfl,by omega,λf=>f.elim (λg=>by have:=hL.lt _ g;omega) (λe=>by omega),λi x hi j u hu=>by
  have hc:∀o,W0.cell? ⟨w.heap.size+1,o,none⟩=(#[.int .u8 83,.int .u8 67,.int .u8 82,.int .u8 49]:Array Value)[o]?:=λo=>by
   rw[m3.cell (by omega) (λf=>f),hw2];exact Go.Joins.cell_alloc_mark_at w1 _ _ _ _ _ hz1.symm
  rw[hc];have hi4:i<4:=(uC.1 hi).1;have hj:j=0:=by
   have:=(uC.1 hu).1;simp[zT] at this;omega
  subst hj;match i,hi4 with
  | 0,_=>simp[zBX] at hi;subst hi;simpa[zT] using hu
  | 1,_=>simp[zBX] at hi;subst hi;simpa[zT] using hu
  | 2,_=>simp[zBX] at hi;subst hi;simpa[zT] using hu
  | 3,_=>simp[zBX] at hi;subst hi;simpa[zT] using hu⟩⟩
 go_enter Tryz.func53, Tryz.ntmps53
 have hLW:=hL.plusX (m1.trans (m2.trans m3)) (X:=w2.heap.size) (by omega) (by omega);have HF:=oh (show yB F w2.heap.size w2.heap.size from .inr rfl);have HW0:=oh (show BwR (yB F w2.heap.size) W0 w2.heap.size zBX from ⟨_,hBW,hsg⟩);have HX0:=oh (m1.trans (m2.trans m3));have HLT:=oh (λk (h:F k)=>hL.lt k h);have HL0:=oh hLW;have HBX:=oh hBX;have hE:W0=w2.alloc (.cells #[.slice (some ⟨w.heap.size+1,0,none⟩) 4 4,.nilIface] 199):=hW0;rw[hE] at hBX;have b0:=hBX.cell (o:=0) (v:=.int .i64 (k:Int)) rfl;have HWW:=oh hE;have ek:IntKind.u64.wrap (k:Int)=(k:Int):=IntWalk.u64_in _ (by omega);have er:IntKind.u64.wrap (r:Int)=(r:Int):=IntWalk.u64_in _ (by omega);have HZ2:=oh hz2;have HZ3:=oh (show w.heap.size<=w2.heap.size by omega);clear hE hW0 hw2 hw1 hz hz1 hz2;have H1:=oh h1;have H2:=oh h2;have H3:=oh h3;have H4:=oh h4;clear hsg hBW hBX hLW hL m1 m2 m3 h1 h2 h3 h4;go_wp2_with fail;rw[<- HWW.out];refine (zFM HL0.out HF.out HW0.out k 1 (by decide) (by have:=H1.out;omega) (by simp[zBX])).mono ?_;rintro e W1 ⟨rfl,hW1,mm⟩;have HB1:Hid (zK W1 w.heap.size #[.int .i64 (k:Int),.int .u64 (g:Int),.int .u64 (b:Int),.int .i64 (r:Int)] 46):=oh (HBX.out.mods mm (λ(h:w.heap.size=w2.heap.size)=>by have:=HZ2.out;omega));have HX1:=oh (HX0.out.trans' mm (λi hi (h:i=w2.heap.size)=>by have:=HZ2.out;omega));have HL1:=oh (HL0.out.mods (mm.mono (λj (h:j=w2.heap.size)=>.inr h)));have HW1:=oh hW1;have b11:=HB1.out.cell (o:=1) (v:=.int .u64 (g:Int)) rfl;clear mm hW1;go_wp2_with fail;refine (zFM HL1.out HF.out HW1.out g 8 (by decide) (by have:=H2.out;omega) (by simp[zBX,zC])).mono ?_;rintro e W2 ⟨rfl,hW2,mm⟩;have HB2:Hid (zK W2 w.heap.size #[.int .i64 (k:Int),.int .u64 (g:Int),.int .u64 (b:Int),.int .i64 (r:Int)] 46):=oh (HB1.out.mods mm (λ(h:w.heap.size=w2.heap.size)=>by have:=HZ2.out;omega));have HX2:=oh (HX1.out.trans' mm (λi hi (h:i=w2.heap.size)=>by have:=HZ2.out;omega));have HL2:=oh (HL1.out.mods (mm.mono (λj (h:j=w2.heap.size)=>.inr h)));have HW2:=oh hW2;have b22:=HB2.out.cell (o:=2) (v:=.int .u64 (b:Int)) rfl;clear mm hW2;go_wp2_with fail;refine (zFM HL2.out HF.out HW2.out b 8 (by decide) (by have:=H3.out;omega) (by simp[zBX,zC])).mono ?_;rintro e W3 ⟨rfl,hW3,mm⟩;have HB3:Hid (zK W3 w.heap.size #[.int .i64 (k:Int),.int .u64 (g:Int),.int .u64 (b:Int),.int .i64 (r:Int)] 46):=oh (HB2.out.mods mm (λ(h:w.heap.size=w2.heap.size)=>by have:=HZ2.out;omega));have HX3:=oh (HX2.out.trans' mm (λi hi (h:i=w2.heap.size)=>by have:=HZ2.out;omega));have HL3:=oh (HL2.out.mods (mm.mono (λj (h:j=w2.heap.size)=>.inr h)));have HW3:=oh hW3;have b33:=HB3.out.cell (o:=3) (v:=.int .i64 (r:Int)) rfl;clear mm hW3;go_wp2_with fail;refine (zFM HL3.out HF.out HW3.out r 4 (by decide) (by have:=H4.out;omega) (by simp[zBX,zC])).mono ?_;rintro e W4 ⟨rfl,hW4,mm⟩;have HB4:Hid (zK W4 w.heap.size #[.int .i64 (k:Int),.int .u64 (g:Int),.int .u64 (b:Int),.int .i64 (r:Int)] 46):=oh (HB3.out.mods mm (λ(h:w.heap.size=w2.heap.size)=>by have:=HZ2.out;omega));have HX4:=oh (HX3.out.trans' mm (λi hi (h:i=w2.heap.size)=>by have:=HZ2.out;omega));have HL4:=oh (HL3.out.mods (mm.mono (λj (h:j=w2.heap.size)=>.inr h)));have HW4:=oh hW4;clear mm hW4;go_wp2_with fail;go_ret;exact⟨w2.heap.size,rfl,HW4.out,HL4.out,HZ3.out,HX4.out⟩
theorem zSA(hL:yG F ad w)(hF:F B)(h:BwR F w B l)(op:ByteArray)(hlen:l.length<=900000000) :
  Calls Tryz.prog 55 #[.pointer (some ⟨B,0,none⟩),.string op] w λe w'=>∃v,e=.returned (.tuple #[v,.nilIface])/\Sl F w' 1 zT v (zB3 l)/\zA (λj=>j=B) w w':=by
 have HS:=oh h;obtain⟨v,hB,hS⟩:=h;have HCR:=oh (zHZ v l w hS);have HNU:=oh (zFM hL hF HS.out (yC l) 4 (by decide) (zA4 l) hlen);have b0:=hB.cell (o:=0) (v:=v) rfl;have b1:=hB.cell (o:=1) (v:=.nilIface) rfl;have hbl:=hB.lt;have ec:IntKind.u64.wrap (yC l:Int)=(yC l:Int):=IntWalk.u64_in _ (by have:=zA4 l;omega);obtain⟨cs,hcs⟩:∃cs,cs=yC l:=⟨_,rfl⟩;rw[<- hcs] at HCR HNU ec;have HE:=oh (show zB3 l=l++zU 4 cs by rw[hcs];rfl);clear hL hF hB hcs HS;obtain⟨a,c,rfl, -⟩:=hS
 go_enter Tryz.func55, Tryz.ntmps55
 go_wp2_with fail;refine HCR.out.mono ?_;rintro e w1 ⟨rfl,rfl⟩;go_wp2_with fail;refine HNU.out.mono ?_;rintro e w1 ⟨rfl,⟨v',hB1,hS1⟩,mm⟩;have b0:=hB1.cell (o:=0) (v:=v') rfl;have b1:=hB1.cell (o:=1) (v:=.nilIface) rfl;have hbl1:=hB1.lt;have HS1:=oh hS1;have HM1:=oh mm;clear mm hB1;obtain⟨a,c,rfl, -⟩:=hS1;go_wp2_with fail;go_ret2
 refine⟨_,rfl,?_,HM1.out⟩;rw[HE.out];have h:=HS1.out;rw[uA,zC] at h;first|exact h|simpa using h
end
theorem Tryz.headSize:(Tryz.prog.info? 46).map (·.size)=some 4:=by kernel_rfl
section
variable {F:Nat->Prop}{ad:Nat->Addr}{w w':World}{B:Nat}{v:Value}{l:List UInt8}{p:Nat}{ok:Bool}
theorem zEu(hL:yG F ad w)(hF:F B)(h:BrR F w B v l p ok)(W:Nat)(hW:W=1\/W=2\/W=4\/W=8)(hp:p+W<=l.length)(hlen:l.length<=2000000000) :
  Calls Tryz.prog 117 #[.pointer (some ⟨B,0,none⟩),.int .i64 (W:Int)] w λe w'=>e=.returned (.int .u64 (zZ l p W:Int))/\BrR F w' B v l (p+W) ok/\zA (λj=>j=B) w w':=by
 refine (zSv hL hF h W hW (by omega)).mono ?_;rintro e w' ⟨rfl,h,m⟩;rw[uT hp,Bool.and_true] at h;exact⟨by rw[if_pos hp],h,m⟩
def zIi(F:Nat->Prop)(ad:Nat->Addr)(l:List UInt8)(e:Ending)(w':World):Prop:=match zA0 l with
 | .inl h=>e=.returned (.tuple #[zCS h,.nilIface])
 | .inr c=>∃f,e=.returned (.tuple #[zCS ⟨0,0,0,0⟩,zJ f])/\yY F ad w' (zJ f) [-1] c
def zEv(h:zBj):Array Value:=#[.int .i64 (h.kind:Int),.int .u64 (h.gen:Int),.int .u64 (h.base:Int),.int .i64 (h.records:Int)]
theorem zNi(hL:yG F ad w)(bv:Value)(l:List UInt8)(hb:Sl F w 1 zT bv l)(hlen:l.length<=1000000000) :
  Calls Tryz.prog 67 #[bv] w λe w'=>zIi F ad l e w'/\zG w w':=by
 have m0:zG w (w.alloc (.cells #[.int .i64 0,.int .u64 0,.int .u64 0,.int .i64 0] 46)):=(zA.refl _ w).alloc _;have M0:=oh m0;have HB0:=oh (zK.new w #[.int .i64 0,.int .u64 0,.int .u64 0,.int .i64 0] 46);have HL:=oh (hL.withR m0 (by simp));have HSL:=oh (hb.withR m0);have HFORM:=oh (λW (m:zG (w.alloc (.cells #[.int .i64 0,.int .u64 0,.int .u64 0,.int .i64 0] 46)) W)=>zNJ (HL.out.mods m.ext) ⟨#[98,97,99,107,117,112,46,80,101,101,107]⟩);have HLE:=oh hlen;clear hL hb m0;have HEND:Hid (∀W f c,zG (w.alloc (.cells #[.int .i64 0,.int .u64 0,.int .u64 0,.int .i64 0] 46)) W->yY (yB F w.heap.size) ad W (zJ f) [-1] c->zA0 l=.inr c ->
   zIi F ad l (.returned (.tuple #[zCS ⟨0,0,0,0⟩,zJ f])) ((((W.setCell ⟨w.heap.size,0,none⟩ (.int .i64 0)).setCell ⟨w.heap.size,1,none⟩ (.int .u64 0)).setCell ⟨w.heap.size,2,none⟩ (.int .u64 0)).setCell ⟨w.heap.size,3,none⟩ (.int .i64 0))/\zG w ((((W.setCell ⟨w.heap.size,0,none⟩ (.int .i64 0)).setCell ⟨w.heap.size,1,none⟩ (.int .u64 0)).setCell ⟨w.heap.size,2,none⟩ (.int .u64 0)).setCell ⟨w.heap.size,3,none⟩ (.int .i64 0))) :=
  oh λW f c m hE hp=>by
   refine⟨?_,zA.set4 (M0.out.trans m) (.inl (uK w.heap.size)) _ _ _ _⟩;unfold zIi;rw[hp];exact⟨f,rfl,hE.unR (zA.set4 (zA.refl _ W) (R:=w.heap.size) (.inr (.inr rfl)) _ _ _ _)⟩
 obtain⟨a,cp,rfl,hz1,hz2,hz3,hz4⟩:=id HSL.out;unfold maxLen at hz2;by_cases h1:l.length<29
 .have HP:Hid (zA0 l=.inr 1):=oh (by unfold zA0;rw[if_pos (.inl h1)]);have h2:(l.length:Int)<29:=by omega
  clear hz4 h1
  go_enter Tryz.func67, Tryz.ntmps67
  go_wp2_with fail;refine (HFORM.out _ (zA.refl _ _)).mono ?_;rintro e w1 ⟨f,rfl,hE,hm⟩;have hb:=HB0.out.ext hm;have r0:=hb.cell (o:=0) rfl;have r1:=hb.cell (o:=1) rfl;have r2:=hb.cell (o:=2) rfl;have r3:=hb.cell (o:=3) rfl;have rf:=hb.frozen;have HB5:=oh (zK.set4 hb (.int .i64 0) (.int .u64 0) (.int .u64 0) (.int .i64 0));have HFIN:=oh (HEND.out w1 f 1 hm hE HP.out);clear hE hm hb;go_wp2_with fail;refine bodyPost_ret (zF rfl _ _ w.heap.size 46 (zEv ⟨0,0,0,0⟩) _ rfl HB5.out Tryz.underlying46 rfl Tryz.headSize) rfl ?_;exact HFIN.out
 .have h2:¬ (l.length:Int)<29:=by omega
  obtain⟨sg,hsg⟩:∃sg:ByteArray,sg=⟨(l.take 4).toArray⟩:=⟨_,rfl⟩;have hcv:(convert 26 9 (.slice a 4 cp)).run Tryz.prog (w.alloc (.cells #[.int .i64 0,.int .u64 0,.int .u64 0,.int .i64 0] 46))=.ok (.string sg) (w.alloc (.cells #[.int .i64 0,.int .u64 0,.int .u64 0,.int .i64 0] 46)):=by
   have hs:=Sl.pre HSL.out 4 (by omega);rw[hsg];exact zDA (P:=Tryz.prog) Tryz.underlying26 Tryz.underlying5 Tryz.underlying9 hs
  have i4:(4:Int)<=(cp:Int):=by omega
  by_cases h3:l.take 4=zBX
  .have hs:sg=⟨#[83,67,82,49]⟩:=by rw[hsg,h3];rfl
   subst hs;clear hsg;have HPB:Hid (zA0 l=if ¬ ((zCd l).kind=1/\(zCd l).base=0\/(zCd l).kind=2) then .inr 1 else if zZ l (l.length-4) 4≠yC (l.take (l.length-4)) then .inr 5 else .inl (zCd l)):=oh (by
    unfold zA0;rw[if_neg (λh=>h.elim h1 (λh=>h h3))])
   obtain⟨w1,hw1⟩:∃w1,w1=(w.alloc (.cells #[.int .i64 0,.int .u64 0,.int .u64 0,.int .i64 0] 46)):=⟨_,rfl⟩;rw[<- hw1] at HL HSL HFORM HEND hcv M0 HB0;have hz1':w1.heap.size=w.heap.size+1:=by rw[hw1];simp
   obtain⟨W0,hW0⟩:∃W0,W0=w1.alloc (.cells #[.slice a l.length cp,.int .i64 4,.nilIface] 128):=⟨_,rfl⟩;have m1:zG w1 W0:=by rw[hW0];exact (zA.refl _ _).alloc _
   have hz2':W0.heap.size=w.heap.size+2:=by rw[hW0];simp;omega
   have HR0:Hid (BrR (yB (yB F w.heap.size) (w.heap.size+1)) W0 (w.heap.size+1) (.slice a l.length cp) l 4 true):=oh ⟨_,by rw[<- hz1',hW0];exact zK.new w1 _ _,HSL.out.plusX m1 (by omega),rfl⟩;have HL0:=oh (HL.out.plusX m1 (X:=w.heap.size+1) (by omega) (by omega));have HX0:=oh m1;have HFB:=oh (show yB (yB F w.heap.size) (w.heap.size+1) (w.heap.size+1) from .inr rfl);have HZ1:=oh hz1';have HWW:Hid (W0=(w.alloc (.cells #[.int .i64 0,.int .u64 0,.int .u64 0,.int .i64 0] 46)).alloc (.cells #[.slice a l.length cp,.int .i64 4,.nilIface] 128)):=oh (by rw[hW0,hw1]);have HL29:=oh (show 29<=l.length by omega);have HCW:=oh hw1;rw[hw1] at hcv;clear hW0 hw1 m1 hz1' hz2' hz4 h1 h3
   go_enter Tryz.func67, Tryz.ntmps67
   go_wp2_with fail;rw[<- HWW.out];refine (zEu HL0.out HFB.out HR0.out 1 (by decide) (by have:=HL29.out;omega) (by have:=HLE.out;omega)).mono ?_;rintro e W1 ⟨rfl,hR1,mm⟩;have HR1:=oh hR1;have HL1:=oh (HL0.out.mods (mm.mono (λj (h:j=w.heap.size+1)=>by rw[h];exact HFB.out)));have HX1:=oh (HX0.out.trans' mm (λi hi (h:i=w.heap.size+1)=>by have:=HZ1.out;omega));obtain⟨k,hk⟩:∃k,k=zZ l 4 1:=⟨_,rfl⟩;have hk2:k<256:=by rw[hk];exact jH l 4 1
   rw[<- hk];have Hk:=oh hk;clear hR1 mm hk;have qk:IntKind.i64.wrap (k:Int)=(k:Int):=IntWalk.i64_in _ (by omega);go_wp2_with fail;refine (zEu HL1.out HFB.out HR1.out 8 (by decide) (by have:=HL29.out;omega) (by have:=HLE.out;omega)).mono ?_;rintro e W2 ⟨rfl,hR2,mm⟩;have HR2:=oh hR2;have HL2:=oh (HL1.out.mods (mm.mono (λj (h:j=w.heap.size+1)=>by rw[h];exact HFB.out)));have HX2:=oh (HX1.out.trans' mm (λi hi (h:i=w.heap.size+1)=>by have:=HZ1.out;omega));obtain⟨g,hg⟩:∃g,g=zZ l 5 8:=⟨_,rfl⟩;have hg2:g<18446744073709551616:=by rw[hg];exact jH l 5 8
   rw[<- hg];have Hg:=oh hg;clear hR2 mm hg;go_wp2_with fail;refine (zEu HL2.out HFB.out HR2.out 8 (by decide) (by have:=HL29.out;omega) (by have:=HLE.out;omega)).mono ?_;rintro e W3 ⟨rfl,hR3,mm⟩;have HR3:=oh hR3;have HL3:=oh (HL2.out.mods (mm.mono (λj (h:j=w.heap.size+1)=>by rw[h];exact HFB.out)));have HX3:=oh (HX2.out.trans' mm (λi hi (h:i=w.heap.size+1)=>by have:=HZ1.out;omega));obtain⟨b,hb⟩:∃b,b=zZ l 13 8:=⟨_,rfl⟩;have hb2:b<18446744073709551616:=by rw[hb];exact jH l 13 8
   rw[<- hb];have Hb:=oh hb;clear hR3 mm hb;go_wp2_with fail;refine (zEu HL3.out HFB.out HR3.out 4 (by decide) (by have:=HL29.out;omega) (by have:=HLE.out;omega)).mono ?_;rintro e W4 ⟨rfl,hR4,mm⟩;have HR4:=oh hR4;have HL4:=oh (HL3.out.mods (mm.mono (λj (h:j=w.heap.size+1)=>by rw[h];exact HFB.out)));have HX4:=oh (HX3.out.trans' mm (λi hi (h:i=w.heap.size+1)=>by have:=HZ1.out;omega));obtain⟨r,hr⟩:∃r,r=zZ l 21 4:=⟨_,rfl⟩;have hr2:r<4294967296:=by rw[hr];exact jH l 21 4
   rw[<- hr];have Hr:=oh hr;clear hR4 mm hr;have qr:IntKind.i64.wrap (r:Int)=(r:Int):=IntWalk.i64_in _ (by omega);obtain⟨q1,hq1⟩:∃q,((k:Int) == 1)=q:=⟨_,rfl⟩;obtain⟨q2,hq2⟩:∃q,((k:Int) == 2)=q:=⟨_,rfl⟩;obtain⟨q3,hq3⟩:∃q,((b:Int) != 0)=q:=⟨_,rfl⟩;obtain⟨n,hn⟩:∃n,n=zZ l (l.length-4) 4:=⟨_,rfl⟩;have hhd:zCd l=⟨k,g,b,r⟩:=by unfold zCd;rw[<- Hk.out,<- Hg.out,<- Hb.out,<- Hr.out]
   have HPV:Hid (zA0 l=if (q1 && !q3 || q2)=false then .inr 1 else if n≠yC (l.take (l.length-4)) then .inr 5 else .inl ⟨k,g,b,r⟩):=oh (by
    rw[HPB.out,hhd,<- hn];have e:(¬ ((zBj.mk k g b r).kind=1/\(zBj.mk k g b r).base=0\/(zBj.mk k g b r).kind=2)) ↔ (q1 && !q3 || q2)=false:=by
     rw[<- hq1,<- hq2,<- hq3];show ¬ (k=1/\b=0\/k=2) ↔ _;simp only[Bool.or_eq_false_iff,Bool.and_eq_false_iff,uU,Bool.not_eq_false',bne_iff_ne];omega
    simp only[e])
   have hcase:(q1=true/\q2=false/\q3=true)\/(q1=true/\q2=false/\q3=false)\/(q1=false/\q2=true)\/(q1=false/\q2=false):=by
    cases q1 <;> cases q2 <;> cases q3 <;> simp at hq1 hq2 ⊢ <;> omega
   have hn4:n<4294967296:=by rw[hn];exact jH l (l.length-4) 4
   have HX5:=oh (HX4.out.alloc (.cells #[.int .i64 (k:Int),.int .u64 (g:Int),.int .u64 (b:Int),.int .i64 (r:Int)] 46));have HBH:=oh (zK.new W4 #[.int .i64 (k:Int),.int .u64 (g:Int),.int .u64 (b:Int),.int .i64 (r:Int)] 46);have HTK:Hid (qO l ((l.length:Int)-4) 4=(n,none)):=oh (by
    have:=HL29.out;unfold qO;rw[if_neg (by omega),if_neg (by omega),hn,show ((l.length:Int)-4).toNat=l.length-4 by omega];rfl)
   have HT:=oh (zDY (HL.out.mods HX5.out.ext) (.slice a l.length cp) l (HSL.out.ext HX5.out) ((l.length:Int)-4) 4 (by decide));rw[HTK.out] at HT;have i1:((l.length:Int)-4).toNat=l.length-4:=by have:=HL29.out;omega
   have i2:(4:Int)<=(l.length:Int):=by have:=HL29.out;omega
   have i3:(l.length:Int)<=(cp:Int):=by omega
   have q32:IntKind.u32.wrap (n:Int)=(n:Int):=IntWalk.u32_in _ (by omega);clear hn hhd;rcases hcase with ⟨rfl,rfl,rfl⟩|⟨rfl,rfl,rfl⟩|⟨rfl,rfl⟩|⟨rfl,rfl⟩
   .have HP:Hid (zA0 l=.inr 1):=oh (by rw[HPV.out];rfl);go_wp2_with fail;refine (HFORM.out _ HX5.out).mono ?_;rintro e W6 ⟨f,rfl,hE,hm⟩;have hb:=HB0.out.ext (HX5.out.trans hm);have r0:=hb.cell (o:=0) rfl;have r1:=hb.cell (o:=1) rfl;have r2:=hb.cell (o:=2) rfl;have r3:=hb.cell (o:=3) rfl;have rf:=hb.frozen;have HB5:=oh (zK.set4 hb (.int .i64 0) (.int .u64 0) (.int .u64 0) (.int .i64 0));have HFIN:=oh (HEND.out W6 f 1 (HX5.out.trans hm) hE HP.out);clear hE hm hb;go_wp2_with fail;refine bodyPost_ret (zF rfl _ _ w.heap.size 46 (zEv ⟨0,0,0,0⟩) _ rfl HB5.out Tryz.underlying46 rfl Tryz.headSize) rfl ?_;exact HFIN.out
   rotate_right
   .have HP:Hid (zA0 l=.inr 1):=oh (by rw[HPV.out];rfl);go_wp2_with fail;refine (HFORM.out _ HX5.out).mono ?_;rintro e W6 ⟨f,rfl,hE,hm⟩;have hb:=HB0.out.ext (HX5.out.trans hm);have r0:=hb.cell (o:=0) rfl;have r1:=hb.cell (o:=1) rfl;have r2:=hb.cell (o:=2) rfl;have r3:=hb.cell (o:=3) rfl;have rf:=hb.frozen;have HB5:=oh (zK.set4 hb (.int .i64 0) (.int .u64 0) (.int .u64 0) (.int .i64 0));have HFIN:=oh (HEND.out W6 f 1 (HX5.out.trans hm) hE HP.out);clear hE hm hb;go_wp2_with fail;refine bodyPost_ret (zF rfl _ _ w.heap.size 46 (zEv ⟨0,0,0,0⟩) _ rfl HB5.out Tryz.underlying46 rfl Tryz.headSize) rfl ?_;exact HFIN.out
   all_goals
    have HP:Hid (zA0 l=if n≠yC (l.take (l.length-4)) then .inr 5 else .inl ⟨k,g,b,r⟩):=oh (by rw[HPV.out];rfl);go_wp2_with fail;refine HT.out.mono ?_;rintro e W6 ⟨ev,rfl,hE,hm⟩;have hev:ev=.nilIface:=hE;subst hev;have HX6:=oh (HX5.out.trans hm);have hbh:=HBH.out.ext hm;have HHO:=oh (zGg _ _ (Sl.pre (HSL.out.ext HX6.out) (l.length-4) (by omega)) n);have HBH6:=oh hbh;clear hE hm hbh;go_wp2_with fail;refine HHO.out.mono ?_;rintro e W7 ⟨rfl,rfl⟩;have hbh:=HBH6.out;have hb:=HB0.out.ext HX6.out;have r0:=hb.cell (o:=0) rfl;have r1:=hb.cell (o:=1) rfl;have r2:=hb.cell (o:=2) rfl;have r3:=hb.cell (o:=3) rfl;have rf:=hb.frozen;by_cases hcs:yC (l.take (l.length-4))=n
    .have HP:Hid (zA0 l=.inl ⟨k,g,b,r⟩):=oh (by rw[HP.out,if_neg (λh=>h hcs.symm)]);rw[uT hcs];have s0:=hbh.cell (o:=0) (v:=.int .i64 (k:Int)) rfl;have s1:=hbh.cell (o:=1) (v:=.int .u64 (g:Int)) rfl;have s2:=hbh.cell (o:=2) (v:=.int .u64 (b:Int)) rfl;have s3:=hbh.cell (o:=3) (v:=.int .i64 (r:Int)) rfl;have HB5:=oh (zK.set4 hb (.int .i64 (k:Int)) (.int .u64 (g:Int)) (.int .u64 (b:Int)) (.int .i64 (r:Int)));have HFIN:=oh (zA.set4 (M0.out.trans HX6.out) (.inl (uK w.heap.size)) (.int .i64 (k:Int)) (.int .u64 (g:Int)) (.int .u64 (b:Int)) (.int .i64 (r:Int)));clear hb hbh hcs;go_wp2_with fail;refine bodyPost_ret (zF rfl _ _ w.heap.size 46 (zEv ⟨k,g,b,r⟩) _ rfl HB5.out Tryz.underlying46 rfl Tryz.headSize) rfl ?_;exact⟨by unfold zIi;rw[HP.out];rfl,HFIN.out⟩
    .have HP:Hid (zA0 l=.inr 5):=oh (by rw[HP.out,if_pos (λh=>hcs h.symm)]);rw[uX hcs];have hL6:=HL.out.mods HX6.out.ext;have g5:=hL6.c5;have HNW:=oh (λop=>yW hL6 op _ [] 5 (.sent 5 (by decide) (by decide)));clear hb hbh hcs hL6 r0 r1 r2 r3 rf;go_wp2_with fail;refine (HNW.out _).mono ?_;rintro e W8 ⟨f,rfl,hE,hm⟩;have hb:=HB0.out.ext (HX6.out.trans hm);have r0:=hb.cell (o:=0) rfl;have r1:=hb.cell (o:=1) rfl;have r2:=hb.cell (o:=2) rfl;have r3:=hb.cell (o:=3) rfl;have rf:=hb.frozen;have HB5:=oh (zK.set4 hb (.int .i64 0) (.int .u64 0) (.int .u64 0) (.int .i64 0));have HFIN:=oh (HEND.out W8 f 5 (HX6.out.trans hm) hE HP.out);clear hE hm hb;go_wp2_with fail;refine bodyPost_ret (zF rfl _ _ w.heap.size 46 (zEv ⟨0,0,0,0⟩) _ rfl HB5.out Tryz.underlying46 rfl Tryz.headSize) rfl ?_;exact HFIN.out
  .have HP:Hid (zA0 l=.inr 1):=oh (by unfold zA0;rw[if_pos (.inr h3)]);have hne:¬ sg=⟨#[83,67,82,49]⟩:=λe=>h3 (by
    rw[hsg] at e;have e2:(l.take 4).toArray=#[83,67,82,49]:=congrArg ByteArray.data e;have e3:=congrArg Array.toList e2;simpa[zBX] using e3)
   have hne2:(sg.toList == [83,67,82,49])=false:=uU.2 (λe=>hne (toList_inj (by rw[e];simp[ByteArray.toList_eq])));clear hz4 h1 h3 hsg
   go_enter Tryz.func67, Tryz.ntmps67
   go_wp2_with fail;refine (HFORM.out _ (zA.refl _ _)).mono ?_;rintro e w1 ⟨f,rfl,hE,hm⟩;have hb:=HB0.out.ext hm;have r0:=hb.cell (o:=0) rfl;have r1:=hb.cell (o:=1) rfl;have r2:=hb.cell (o:=2) rfl;have r3:=hb.cell (o:=3) rfl;have rf:=hb.frozen;have HB5:=oh (zK.set4 hb (.int .i64 0) (.int .u64 0) (.int .u64 0) (.int .i64 0));have HFIN:=oh (HEND.out w1 f 1 hm hE HP.out);clear hE hm hb;go_wp2_with fail;refine bodyPost_ret (zF rfl _ _ w.heap.size 46 (zEv ⟨0,0,0,0⟩) _ rfl HB5.out Tryz.underlying46 rfl Tryz.headSize) rfl ?_;exact HFIN.out
end
section
variable {F G:Nat->Prop}{ad:Nat->Addr}{w w' w5:World}{B:Nat}{v:Value}{l:List UInt8}{p q:Nat}{ok ok':Bool}
def zIj(F:Nat->Prop)(ad:Nat->Addr)(l:List UInt8)(e:Ending)(w':World):Prop:=match zBY l with
 | .inl (h,ps)=>∃v,e=.returned (.tuple #[zCS h,v,.nilIface])/\Sl F w' 2 yS v ps
 | .inr c=>∃f el,e=.returned (.tuple #[zCS ⟨0,0,0,0⟩,.slice none 0 0,zJ f])/\yY F ad w' (zJ f) el c
theorem BrR.past(h5:BrR F w5 B v l q ok')(hb:BrR F w B v l p ok)(m:zA (λj=>j=B) w5 w')(mb:zA G w w')(hG:¬ G B)(hF:F B):BrR F w' B v l p ok:=by
 obtain⟨ev,h1,h2,h3⟩:=hb;obtain⟨_,_,h4,_⟩:=h5;exact⟨ev,h1.mods mb hG,h4.mods (m.mono (λj (h:j=B)=>by rw[h];exact hF)),h3⟩
theorem zI9(l:List UInt8)(n p:Nat)(acc:List zD):jP l (n+1) p acc=(vY l p).elim none (λx=>(vY l x.2).elim none (λy=>jP l n y.2 (acc++[(x.1,y.1)]))):=by
 rw[jP];cases vY l p with
 | none=>rfl
 | some x=>cases h:vY l x.2 <;> simp[Option.elim,h]
theorem zIk{l:List UInt8}{p:Nat}{x:ByteArray × Nat}(h:vY l p=some x):x.2<=l.length:=by
 unfold vY at h;split at h
 .rename_i h1;cases h;exact h1.2
 .cases h
theorem zRG{l:List UInt8}{h:zBj}(hp:zA0 l=.inl h):h.kind<256/\h.gen<18446744073709551616/\h.base<18446744073709551616/\h.records<4294967296:=by
 unfold zA0 at hp;split at hp
 .cases hp
 .split at hp
  .cases hp
  .split at hp
   .cases hp
   .cases hp
    exact⟨jH l 4 1,jH l 5 8,jH l 13 8,jH l 21 4⟩
theorem zNj(hL:yG F ad w)(bv:Value)(l:List UInt8)(hb:Sl F w 1 zT bv l)(hlen:l.length<=1000000000) :
  Calls Tryz.prog 20 #[bv] w λe w'=>zIj F ad l e w'/\zG w w':=by
 have m0:zG w (w.alloc (.cells #[.int .i64 0,.int .u64 0,.int .u64 0,.int .i64 0] 46)):=(zA.refl _ w).alloc _;have M0:=oh m0;have HB0:=oh (zK.new w #[.int .i64 0,.int .u64 0,.int .u64 0,.int .i64 0] 46);have HLT:=oh (λk (h:F k)=>hL.lt k h);have HL:=oh (hL.withR m0 (by simp));have HSL:=oh (hb.withR m0);have HLE:=oh hlen;have HFORM:=oh (λW (m:zG (w.alloc (.cells #[.int .i64 0,.int .u64 0,.int .u64 0,.int .i64 0] 46)) W)=>zNJ (HL.out.mods m.ext) ⟨#[98,97,99,107,117,112,46,82,101,97,100]⟩);have hpk:=zNi HL.out bv l HSL.out hlen;clear hL m0;have HEND:Hid (∀W f c el,zG (w.alloc (.cells #[.int .i64 0,.int .u64 0,.int .u64 0,.int .i64 0] 46)) W->yY (yB F w.heap.size) ad W (zJ f) el c->zBY l=.inr c ->
   zIj F ad l (.returned (.tuple #[zCS ⟨0,0,0,0⟩,.slice none 0 0,zJ f])) (((((W.setCell ⟨w.heap.size,0,none⟩ (.int .i64 0)).setCell ⟨w.heap.size,1,none⟩ (.int .u64 0)).setCell ⟨w.heap.size,2,none⟩ (.int .u64 0)).setCell ⟨w.heap.size,3,none⟩ (.int .i64 0)))/\zG w (((((W.setCell ⟨w.heap.size,0,none⟩ (.int .i64 0)).setCell ⟨w.heap.size,1,none⟩ (.int .u64 0)).setCell ⟨w.heap.size,2,none⟩ (.int .u64 0)).setCell ⟨w.heap.size,3,none⟩ (.int .i64 0)))) :=
  oh λW f c el m hE hp=>by
   refine⟨?_,zA.set4 (M0.out.trans m) (.inl (uK w.heap.size)) _ _ _ _⟩;unfold zIj;rw[hp];exact⟨f,el,rfl,hE.unR (zA.set4 (zA.refl _ W) (R:=w.heap.size) (.inr (.inr rfl)) _ _ _ _)⟩
 unfold zIi at hpk;obtain⟨a,cp,rfl, -⟩:=hb;cases hp:zA0 l with
 | inr c =>
  rw[hp] at hpk;simp only at hpk;have HPK:=oh hpk;have HP:Hid (zBY l=.inr c):=oh (by unfold zBY;rw[hp]);clear hpk hp
  go_enter Tryz.func20, Tryz.ntmps20
  go_wp2_with fail;refine HPK.out.mono ?_;rintro e w1 ⟨⟨f,rfl,hE⟩,hm⟩;have HM1:=oh (hm.alloc (.cells #[.int .i64 0,.int .u64 0,.int .u64 0,.int .i64 0] 46));have HE:=oh (hE.mods ((zA.refl _ w1).alloc (.cells #[.int .i64 0,.int .u64 0,.int .u64 0,.int .i64 0] 46)));clear hE hm;rw[show zCS ⟨0,0,0,0⟩=.agg #[.int .i64 0,.int .u64 0,.int .u64 0,.int .i64 0] from rfl];unfold zJ;go_wp2_with fail;refine (wrap_any (HL.out.mods HM1.out.ext) _ _ _ _ HE.out).mono ?_;rintro e w2 ⟨f2,rfl,hE2,hm2⟩;have hb:=HB0.out.ext (HM1.out.trans hm2);have r0:=hb.cell (o:=0) rfl;have r1:=hb.cell (o:=1) rfl;have r2:=hb.cell (o:=2) rfl;have r3:=hb.cell (o:=3) rfl;have rf:=hb.frozen;have HB5:=oh (zK.set4 hb (.int .i64 0) (.int .u64 0) (.int .u64 0) (.int .i64 0));have HFIN:=oh (HEND.out w2 f2 c _ (HM1.out.trans hm2) hE2 HP.out);clear hb;go_wp2_with fail;refine bodyPost_ret (zAA rfl _ _ w.heap.size 46 (zEv ⟨0,0,0,0⟩) _ rfl HB5.out Tryz.underlying46 rfl Tryz.headSize) rfl ?_;exact HFIN.out
 | inl h =>
  obtain⟨k,g,b,r⟩:=h;rw[hp] at hpk;simp only at hpk;have HPK:=oh hpk;have h29:29<=l.length:=by
   apply Nat.le_of_not_lt
   intro h;unfold zA0 at hp;rw[if_pos (.inl (by omega))] at hp;cases hp
  have hbnd:=zRG hp;clear hpk;rw[show zCS ⟨k,g,b,r⟩=.agg #[.int .i64 (k:Int),.int .u64 (g:Int),.int .u64 (b:Int),.int .i64 (r:Int)] from rfl] at HPK;by_cases hk1:k=1
  .subst hk1;obtain⟨rl,hrl⟩:∃rl,rl=l.take (l.length-4):=⟨_,rfl⟩;have hrn:rl.length=l.length-4:=by rw[hrl];simp
   have HP0:Hid (zBY l=match jP rl r 25 [] with|none=>.inr 1|some (ps,p)=>if p=rl.length/\vS e0 ps=true then .inl (⟨1,g,b,r⟩,ps) else .inr 1):=oh (by
    unfold zBY;rw[hp];simp only;rw[if_neg (by simp),hrn,hrl];rfl)
   have HRL:=oh hrl;have HRN:=oh (And.intro hrn h29);have hr4:r<4294967296:=hbnd.2.2.2;clear hp hbnd h29 hrl hrn hlen;rw[show ((1:Nat):Int)=1 from rfl] at HPK
   go_enter Tryz.func20, Tryz.ntmps20
   go_wp2_with fail;refine HPK.out.mono ?_;rintro e w1 ⟨rfl,hm⟩;have HM1:=oh (hm.alloc (.cells #[.int .i64 1,.int .u64 (g:Int),.int .u64 (b:Int),.int .i64 (r:Int)] 46));have HBH:=oh (zK.new w1 #[.int .i64 1,.int .u64 (g:Int),.int .u64 (b:Int),.int .i64 (r:Int)] 46);have HRZ:=oh (show w.heap.size<w1.heap.size from uI (by simp) hm.size);clear hm;have hbh:=HBH.out;have c0:=hbh.cell (o:=0) (v:=.int .i64 1) rfl;go_wp2_with fail;refine (zJm (.slice a l.length cp) l (HSL.out.ext HM1.out) (by have:=HRN.out;omega) (by have:=HLE.out;omega)).mono ?_;rintro e w5 ⟨RB,rv,rfl,hR5,hm5,hz5,hz6⟩;rw[<- HRL.out] at hR5;have hz5':w1.heap.size<RB:=uI (by simp) hz5;have HR5:=oh hR5;have HM5:=oh (HM1.out.trans hm5);have HL5:=oh ((HL.out.mods HM1.out.ext).plusX hm5 hz5 hz6);have HBH5:=oh (HBH.out.ext hm5);have HZ5:=oh (And.intro hz5' hz6);have HFB:=oh (show yB (yB F w.heap.size) RB RB from .inr rfl);clear hR5 hm5 hz5 hz6 hz5' hbh c0;go_wp2_with fail;go_loopg [8,9] r (λm v8 v9 wr=>∃(i:Nat) (acc:List zD) (p:Nat) (ok:Bool),i+m=r/\v9=.int .i64 (i:Int)/\Hid (acc.length=i/\p<=2000000000/\(ok=true->p<=rl.length/\jP rl r 25 []=jP rl (r-i) p acc)/\(ok=false->jP rl r 25 []=none))/\Hid (yA (λ_=>False) wr w5.heap.size 111 2 yS v8 acc/\BrR (yB (yB F w.heap.size) RB) wr RB rv rl p ok/\zA (λj=>j=RB) w5 wr))
   case atStart=>exact⟨0,[],25,true,by omega,rfl,oh ⟨rfl,by omega,λ_=>⟨by have:=HRN.out;omega,by rw[Nat.sub_zero]⟩,λh=>by cases h⟩,oh ⟨yA.nil _ _ _ _ _ _,HR5.out,zA.refl _ _⟩⟩
   case round =>
    obtain⟨i,acc,p,ok,him,rfl,HQ,HS⟩:=hrel;obtain⟨pa,pc,rfl, -, -⟩:=HS.out.1.form;have hbh:=HBH5.out.mods HS.out.2.2 (λ(h:w1.heap.size=RB)=>by have:=HZ5.out;omega);have c3:=hbh.cell (o:=3) (v:=.int .i64 (r:Int)) rfl;have HBHr:=oh hbh;obtain⟨ev,hBr, -,hOr⟩:=HS.out.2.1;have e2:=hBr.cell (o:=2) (v:=ev) rfl;have hrb:=hBr.lt;clear hbh hBr;rcases (show (i<r/\ok=true)\/(i<r/\ok=false)\/i=r by cases ok <;> simp <;> omega) with ⟨hlt,rfl⟩|⟨hlt,rfl⟩|hir
    focus
     have hev:ev=.nilIface:=hOr;subst hev;have i1:(i:Int)<(r:Int):=by omega
     have HLr:=oh (HL5.out.mods (HS.out.2.2.mono (λj (h:j=RB)=>by rw[h];exact HFB.out)));go_wp2_with fail;refine (zM8 HLr.out HFB.out HS.out.2.1 HQ.out.2.1 (by have:=HRN.out;have:=HLE.out;omega)).mono ?_;rintro e wa ⟨rfl,hRa,ma⟩;obtain⟨s1,hs1⟩:∃s,s=(vY rl p).elim e0 (·.1):=⟨_,rfl⟩;obtain⟨q1,hq1⟩:∃s,s=(vY rl p).elim p (·.2):=⟨_,rfl⟩;obtain⟨o1,ho1⟩:∃s,s=(true && (vY rl p).isSome):=⟨_,rfl⟩;rw[<- hq1,<- ho1] at hRa;rw[<- hs1];have hq1b:q1<=2000000000:=by
      rw[hq1];cases hx:vY rl p with
      | none=>exact HQ.out.2.1
      | some x=>have:=zIk hx;have:=HRN.out;have:=HLE.out;rw[nJ];omega
     have HRa:=oh hRa;have HMA:=oh ma;have HLa:=oh (HLr.out.mods (ma.mono (λj (h:j=RB)=>by rw[h];exact HFB.out)));have H1:=oh (And.intro hs1 (And.intro hq1 ho1));have HQ1:=oh hq1b;clear hRa ma hs1 hq1 ho1 hq1b;go_wp2_with fail;refine (zM8 HLa.out HFB.out HRa.out HQ1.out (by have:=HRN.out;have:=HLE.out;omega)).mono ?_;rintro e wb ⟨rfl,hRb,mb⟩;obtain⟨s2,hs2⟩:∃s,s=(vY rl q1).elim e0 (·.1):=⟨_,rfl⟩;obtain⟨q2,hq2⟩:∃s,s=(vY rl q1).elim q1 (·.2):=⟨_,rfl⟩;obtain⟨o2,ho2⟩:∃s,s=(o1 && (vY rl q1).isSome):=⟨_,rfl⟩;rw[<- hq2,<- ho2] at hRb;rw[<- hs2];have HOWN:=oh ((HS.out.1.mods HMA.out (λg hg (h:g=RB)=>by have:=(HS.out.1.lt g hg).1;have:=HZ5.out;omega)).mods mb (λg hg (h:g=RB)=>by have:=(HS.out.1.lt g hg).1;have:=HZ5.out;omega));have HMB:=oh (HS.out.2.2.trans (HMA.out.trans mb));have HRb:=oh hRb;have HQN:Hid ((acc++[(s1,s2)]).length=i+1/\q2<=2000000000/\(o2=true->q2<=rl.length/\jP rl r 25 []=jP rl (r-(i+1)) q2 (acc++[(s1,s2)]))/\(o2=false->jP rl r 25 []=none)):=oh (by
      obtain⟨rfl,rfl,rfl⟩:=H1.out;have hst:=(HQ.out.2.2.1 (by simp)).2;rw[show r-i=(r-(i+1))+1 by omega,zI9] at hst;cases hx:vY rl p with
      | none =>
       rw[hx] at hst hq2 hs2 ho2 HQ1;simp only[Option.elim_none,Option.isSome_none,Bool.and_false] at hst hq2 hs2 ho2 HQ1;refine⟨by simp[HQ.out.1],?_,λh=>(by rw[ho2] at h;simp at h),λ_=>hst⟩;rw[hq2];cases hy:vY rl p with
       | none=>exact HQ.out.2.1
       | some y=>rw[hx] at hy;cases hy
      | some x =>
       rw[hx] at hst hq2 hs2 ho2;simp only[nJ,mK] at hst hq2 hs2 ho2;have hx2:=zIk hx;have h29:=HRN.out;have hle:=HLE.out;cases hy:vY rl x.2 with
       | none =>
        rw[hy] at hst hq2 hs2 ho2;simp only[Option.elim_none,Option.isSome_none,Bool.and_false] at hst hq2 hs2 ho2;refine⟨by simp[HQ.out.1],by rw[hq2];omega,λh=>(by rw[ho2] at h;simp at h),λ_=>hst⟩
       | some y =>
        rw[hy] at hst hq2 hs2 ho2;simp only[nJ,mK] at hst hq2 hs2 ho2;have hy2:=zIk hy;refine⟨by simp[HQ.out.1],by rw[hq2];omega,λ_=>⟨by rw[hq2];exact hy2,by rw[hst,hq2,hs2];rfl⟩,λh=>(by rw[ho2] at h;simp at h)⟩)
     clear hRb mb hs2 hq2 ho2;go_wp2_with (at_builtin;refine yH Tryz.elP yR rfl _ _ rfl w5.heap.size _ _ acc [(s1,s2)] rfl rfl (HOWN.out.ext ((zA.refl _ _).alloc _)) (Sl.one (F:=λ_=>False) (zO (by simp)) (λf=>f)) (by have:=HQ.out.1;simp only[uD,uF];omega) (by have:=HMB.out.size;simp;omega) (λf=>f) ?_;simp only[uD,uF,uS];intro a6 c6 w6 hO6 hm6 hat6);have HF6:Hid (yA (λ_=>False) w6 w5.heap.size 111 2 yS (.slice a6 (acc.length+1) c6) (acc++[(s1,s2)])/\BrR (yB (yB F w.heap.size) RB) w6 RB rv rl q2 o2/\zA (λj=>j=RB) w5 w6):=oh (by
      have hnb:¬ (Value.slice pa acc.length pc).ownBlock=some RB:=λh=>by have:=(HOWN.out.lt RB h).1;have:=HZ5.out;omega
      have m6:zA (λj=>j=RB) w5 w6:=(HMB.out.alloc _).trans' hm6 (λj hj h=>absurd (HOWN.out.lt j h).1 (by omega));exact⟨hO6,HR5.out.past (HRb.out.ext ((zA.refl _ wb).alloc _)) m6 hm6 hnb HFB.out,m6⟩)
     clear hO6 hm6 hat6;go_wp2_with fail;go_roundg (gk-1)
     case measure=>omega
     case rel=>exact⟨i+1,acc++[(s1,s2)],q2,o2,by omega,by go_num,HQN,HF6⟩
    focus
     obtain⟨f0,hf0⟩:=hOr;subst hf0;unfold zJ at e2;have i1:(i:Int)<(r:Int):=by omega
     have HD:=zNK HS.out.2.1;obtain⟨c,hc⟩:∃c,c=(false && decide (p=rl.length)):=⟨_,rfl⟩;rw[<- hc] at HD;have HD:=oh HD;have HB:Hid (zBY l=if c && vS e0 acc then .inl (⟨1,g,b,r⟩,acc) else .inr 1):=oh (by
      rw[HP0.out,HQ.out.2.2.2 (by simp),hc];rfl)
     clear hc;go_wp2_with fail
    rotate_right
    focus
     have HIR:=oh hir;have i1:¬ (i:Int)<(r:Int):=by omega
     clear hir;have HD:=zNK HS.out.2.1;obtain⟨c,hc⟩:∃c,c=(ok && decide (p=rl.length)):=⟨_,rfl⟩;rw[<- hc] at HD;have HD:=oh HD;have HB:Hid (zBY l=if c && vS e0 acc then .inl (⟨1,g,b,r⟩,acc) else .inr 1):=oh (by
      rw[HP0.out,hc];have hir:=HIR.out;cases ok with
      | false=>rw[HQ.out.2.2.2 rfl];rfl
      | true =>
       rw[(HQ.out.2.2.1 rfl).2,hir,Nat.sub_self,jP];simp only[nK];by_cases h1:p=rl.length <;> by_cases h2:vS e0 acc=true <;> simp[h1,h2])
     clear hc hOr e2;go_wp2_with fail
    all_goals
     refine HD.out.mono ?_;rintro e w8 ⟨rfl,hm8⟩;have HX8:Hid (zG (w.alloc (.cells #[.int .i64 0,.int .u64 0,.int .u64 0,.int .i64 0] 46)) w8):=oh ((HM5.out.trans' HS.out.2.2 (λj hj (h:j=RB)=>by have:=HZ5.out;have:=HRZ.out;simp at hj;omega)).trans hm8);have HO8:=oh (HS.out.1.ext hm8);have HBH8:=oh (HBHr.out.ext hm8);clear hm8;cases c with
     | false =>
      have HP:Hid (zBY l=.inr 1):=oh (by rw[HB.out];rfl);go_wp2_with fail;refine (HFORM.out _ HX8.out).mono ?_;rintro e w9 ⟨f2,rfl,hE2,hm2⟩;have hb:=HB0.out.ext (HX8.out.trans hm2);have r0:=hb.cell (o:=0) rfl;have r1:=hb.cell (o:=1) rfl;have r2:=hb.cell (o:=2) rfl;have r3:=hb.cell (o:=3) rfl;have rf:=hb.frozen;have HB5:=oh (zK.set4 hb (.int .i64 0) (.int .u64 0) (.int .u64 0) (.int .i64 0));have HFIN:=oh (HEND.out w9 f2 1 _ (HX8.out.trans hm2) hE2 HP.out);clear hb;go_wp2_with fail;refine bodyPost_ret (zAA rfl _ _ w.heap.size 46 (zEv ⟨0,0,0,0⟩) _ rfl HB5.out Tryz.underlying46 rfl Tryz.headSize) rfl ?_;exact HFIN.out
     | true =>
      go_wp2_with fail;refine (zIB acc _ (HO8.out.sl (λ_=>rfl) (by have:=HQ.out.1;omega))).mono ?_;rintro e w9 ⟨rfl,hm9⟩;have HX9:=oh (HX8.out.trans hm9);have HO9:=oh (HO8.out.ext hm9);have hbh:=HBH8.out.ext hm9;cases hri:vS e0 acc with
      | false =>
       have HP:Hid (zBY l=.inr 1):=oh (by rw[HB.out,hri];rfl);clear hri hm9 hbh;go_wp2_with fail;refine (HFORM.out _ HX9.out).mono ?_;rintro e w10 ⟨f2,rfl,hE2,hm2⟩;have hb:=HB0.out.ext (HX9.out.trans hm2);have r0:=hb.cell (o:=0) rfl;have r1:=hb.cell (o:=1) rfl;have r2:=hb.cell (o:=2) rfl;have r3:=hb.cell (o:=3) rfl;have rf:=hb.frozen;have HB5:=oh (zK.set4 hb (.int .i64 0) (.int .u64 0) (.int .u64 0) (.int .i64 0));have HFIN:=oh (HEND.out w10 f2 1 _ (HX9.out.trans hm2) hE2 HP.out);clear hb;go_wp2_with fail;refine bodyPost_ret (zAA rfl _ _ w.heap.size 46 (zEv ⟨0,0,0,0⟩) _ rfl HB5.out Tryz.underlying46 rfl Tryz.headSize) rfl ?_;exact HFIN.out
      | true =>
       have HP:Hid (zBY l=.inl (⟨1,g,b,r⟩,acc)):=oh (by rw[HB.out,hri];rfl);have s0:=hbh.cell (o:=0) (v:=.int .i64 1) rfl;have s1:=hbh.cell (o:=1) (v:=.int .u64 (g:Int)) rfl;have s2:=hbh.cell (o:=2) (v:=.int .u64 (b:Int)) rfl;have s3:=hbh.cell (o:=3) (v:=.int .i64 (r:Int)) rfl;have hb:=HB0.out.ext HX9.out;have r0:=hb.cell (o:=0) rfl;have r1:=hb.cell (o:=1) rfl;have r2:=hb.cell (o:=2) rfl;have r3:=hb.cell (o:=3) rfl;have rf:=hb.frozen;have HB5:=oh (zK.set4 hb (.int .i64 1) (.int .u64 (g:Int)) (.int .u64 (b:Int)) (.int .i64 (r:Int)));have HFIN:=oh (zA.set4 (M0.out.trans HX9.out) (.inl (uK w.heap.size)) (.int .i64 1) (.int .u64 (g:Int)) (.int .u64 (b:Int)) (.int .i64 (r:Int)));have HSF:=oh (((HO9.out.mods (zA.set4 (F:=λj=>j=w.heap.size) (zA.refl _ w9) (R:=w.heap.size) (.inr rfl) (.int .i64 1) (.int .u64 (g:Int)) (.int .u64 (b:Int)) (.int .i64 (r:Int))) (λj hj (h:j=w.heap.size)=>by have:=(HO9.out.lt j hj).1;have:=HZ5.out;have:=HRZ.out;omega)).blocks (G:=F) (λj hj f=>by have:=(HO9.out.lt j hj).1;have:=HZ5.out;have:=HRZ.out;have:=HLT.out j f;omega)).sl (λ_=>rfl) (by have:=HQ.out.1;omega));clear hb hbh hri hm9;go_wp2_with fail;refine bodyPost_ret (zAA rfl _ _ w.heap.size 46 (zEv ⟨1,g,b,r⟩) _ rfl HB5.out Tryz.underlying46 rfl Tryz.headSize) rfl ?_;refine⟨?_,HFIN.out⟩;unfold zIj;rw[HP.out];exact⟨_,rfl,HSF.out⟩
  .have HP:Hid (zBY l=.inr 1):=oh (by unfold zBY;rw[hp];simp only;rw[if_pos hk1]);have hk2:((k:Int) != 1)=true:=by simp;omega
   clear hp hbnd h29
   go_enter Tryz.func20, Tryz.ntmps20
   go_wp2_with fail;refine HPK.out.mono ?_;rintro e w1 ⟨rfl,hm⟩;have HM1:=oh (hm.alloc (.cells #[.int .i64 (k:Int),.int .u64 (g:Int),.int .u64 (b:Int),.int .i64 (r:Int)] 46));clear hm;go_wp2_with fail;refine (HFORM.out _ HM1.out).mono ?_;rintro e w2 ⟨f2,rfl,hE2,hm2⟩;have hb:=HB0.out.ext (HM1.out.trans hm2);have r0:=hb.cell (o:=0) rfl;have r1:=hb.cell (o:=1) rfl;have r2:=hb.cell (o:=2) rfl;have r3:=hb.cell (o:=3) rfl;have rf:=hb.frozen;have HB5:=oh (zK.set4 hb (.int .i64 0) (.int .u64 0) (.int .u64 0) (.int .i64 0));have HFIN:=oh (HEND.out w2 f2 1 _ (HM1.out.trans hm2) hE2 HP.out);clear hb;go_wp2_with fail;refine bodyPost_ret (zAA rfl _ _ w.heap.size 46 (zEv ⟨0,0,0,0⟩) _ rfl HB5.out Tryz.underlying46 rfl Tryz.headSize) rfl ?_;exact HFIN.out
end
end Go.Proofs.YtdnbmdghmmpgcaaGreatDoor
