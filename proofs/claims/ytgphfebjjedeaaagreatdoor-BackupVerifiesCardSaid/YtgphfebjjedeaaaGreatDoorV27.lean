import Derived.Test.YtgphfebjjedeaaaGreatDoorV13
import Derived.Test.YtgphfebjjedeaaaGreatDoorV20
import Derived.Laws.StructEq
import Derived.BigQuiet
namespace Go.Proofs.YtgphfebjjedeaaaGreatDoor
open Lib renaming hid->oh
set_option maxHeartbeats 8000000
set_option maxRecDepth 100000
section
open Go.RowKit
attribute [local go_sem ↓] Go.wp_at_zero Go.wp_at_succ
section
variable {P P' F F':NP}{ad:Nat->Addr}{w w':World}{d:Nat}{D:zT}
theorem DkS.off(h:DkS w P d D) : Calls Tryz.prog 146 #[.pointer (some ⟨d,0,none⟩)] w λe w'=>e=.returned (.bool D.off)/\w=w':=by
 obtain⟨bl,gs,ws,wv,kv,h1,h2⟩:=h;have c:=h1.offC;clear h1 h2
 go_enter Tryz.func146, Tryz.ntmps146
 go_wp2_with fail;go_ret;exact⟨rfl,rfl⟩
theorem zFE(h:DkS w P d D)(ho:D.off=false)(op:ByteArray)(q:Nat)(h3:3<=q)(h64:q<=64) :
  Calls Tryz.prog 87 #[.string op,.pointer (some ⟨d,0,none⟩),.int .i64 (q:Int)] w λe w'=>e=.returned .nilIface/\w=w':=by
 have HO:=oh h.off;rw[ho] at HO;have e1:decide ((q:Int)<3)=false:=by simp;omega
 have e2:decide (64<(q:Int))=false:=by simp;omega
 clear h ho
 go_enter Tryz.func87, Tryz.ntmps87
 go_wp2_with fail;refine HO.out.mono ?_;rintro e w1 ⟨rfl,rfl⟩;go_wp2_with fail;go_ret;exact⟨rfl,rfl⟩
theorem DkS.flush(hL:yE F ad w)(hP:∀k,P k->F k)(h:DkS w P d D)(ho:D.off=false)(hl:D.lit=false) :
  Calls Tryz.prog 44 #[.pointer (some ⟨d,0,none⟩)] w λe w'=>∃P' F',e=.returned .nilIface/\DkS w' P' d D.flushed/\zU P P' F F' ad w w':=by
 obtain⟨bl,gs,ws,wv,kv,h1,h2⟩:=h;exact zM6 hL hP h1 h2 ho hl
def zQ7(F P:NP)(ad:Nat->Addr)(d:Nat)(w:World)(D':zT)(e:Ending)(w':World):Prop :=
 ∃P' F',e=.returned .nilIface/\DkS w' P' d D'/\zU P P' F F' ad w w'
theorem zFF(hL:yE F ad w)(hP:∀k,P k->F k)(h:DkS w P d D)(hw:zFX D)(hfew:D.waiting.length<1000000)(s:jM)(hs:zC9 s=true)(hg:s.gen<18446744073709551616)(hz:s.size=D.size)(i:Nat)(hi:i<2)(hb:8<=D.blocks) :
  Calls Tryz.prog 96 #[.pointer (some ⟨d,0,none⟩),zAK s,.int .i64 (i:Int)] w (zQ7 F P ad d w ((D.wrote i (zAT s i)).flushed)):=by
 have m0:zG w (w.alloc (.cells #[.int .u64 (s.gen:Int),.int .i64 (s.blocks:Int),.int .i64 (s.size:Int),.int .i64 (s.root:Int),.int .i64 (s.keys:Int)] 93)):=(zss w).alloc _;have HM0:=oh m0;have HL:=oh (λW (m:zG w W)=>hL.mods m.ext);have HDK:=oh (λW (m:zG w W)=>h.at m);have HN:=oh (λW (m:zG w W)=>zU.ext hL hP m);have HP:=oh hP;have HSL:=oh (zMy (hL.mods m0.ext) s hs hg i hi);have HSV:Hid (zAK s=.agg #[.int .u64 (s.gen:Int),.int .i64 (s.blocks:Int),.int .i64 (s.size:Int),.int .i64 (s.root:Int),.int .i64 (s.keys:Int)]):=oh rfl;have hlen:(zAT s i).length=D.size:=by rw[zBa hs i,hz]
 have HLEN:=oh hlen;have HW:=oh hw;have HFEW:=oh hfew;have HI:=oh (show i<D.blocks by omega);have HLIM:=oh h.lim;rw[HSV.out] at HSL ⊢;clear h hw hL hP hs hg hz hi m0 hlen hfew hb
 go_enter Tryz.func96, Tryz.ntmps96
 go_wp2_with fail;refine HSL.out.mono ?_;rintro e w1 ⟨a1,c1,rfl,hO1,m1⟩;have HM1:=oh (HM0.out.trans m1);have HS1:=oh (hO1.sl (λ_=>rfl) (by rw[HLEN.out];have:=HLIM.out;omega));clear hO1 m1;go_wp2_with fail;refine (DkS.write (HL.out _ HM1.out) HP.out (HDK.out _ HM1.out) i HI.out HW.out.off HW.out.lit _ _ HS1.out HLEN.out HFEW.out).mono ?_;rintro e w2 ⟨P2,F2,rfl,h2,n2⟩;have H2:=oh h2;have N2:=oh ((HN.out _ HM1.out).trans n2);clear h2 n2;go_wp2_with fail;refine (DkS.flush N2.out.env N2.out.sub H2.out HW.out.off HW.out.lit).mono ?_;rintro e w3 ⟨P3,F3,rfl,h3,n3⟩;have H3:=oh h3;have N3:=oh (N2.out.trans n3);clear h3 n3;go_wp2_with fail;go_ret;exact⟨P3,F3,rfl,H3.out,N3.out⟩
end
theorem zIG{F:NP}{ad:Nat->Addr}{w:World}(hL:yE F ad w)(m:zBQ)(hm:zCA m=true)(hg:m.gen<18446744073709551616)(i z:Nat)(hi:zBR m.gen i=true)(h1:256<=z)(h2:z<=1024)(bv:Value)(hb:Sl F w 1 zO bv (qM m i z)) :
  Calls Tryz.prog 219 #[bv,.int .i64 (i:Int),.int .u64 (m.gen:Int),.int .i64 (m.blocks:Int)] w λe w'=>∃uv,e=.returned (.tuple #[zCq m uv,.nilIface])/\yA (λ_=>False) w' w.heap.size 3 1 yL uv (yP m)/\(yP m).length<=256/\zG w w':=by
 obtain⟨o1,o2,o3,o4,o5,o6⟩:=(zAN m).1 hm;have hi6:i<6:=by
  unfold zBR at hi;simp only[pC,uR] at hi;unfold place at hi;omega
 have hlen:(qM m i z).length=z:=zAU hm i h1;have hpc:=zGw hm hi6 h1 h2;have hop:yT (qM m i z) (i:Int)=.inl (zCB m i):=zEH (p:=zCB m i) (size:=z) hpc hg;have HB:Hid (∀w',zG w w'->Sl F w' 1 zO bv (qM m i z)):=oh (λw' k=>hb.ext k);have HL:Hid (∀w',zG w w'->yE F ad w'):=oh (λw' k=>hL.mods k.ext);have z5 : 5 < w.heap.size:=uG (by decide) hL.size;have G5:Hid (∀w',zG w w'->w'.cell? ⟨5,0,none⟩=some (.iface 506 (.pointer (some (ad 5))))):=oh (λw' m=>(hL.mods m.ext).c5);have HOP:Hid (∀w',zG w w' -> Calls Tryz.prog 217 #[bv,.int .i64 (i:Int)] w' λe w''=>∃pv,e=.returned (.tuple #[qF (zCB m i) pv,.nilIface])/\Sl F w'' 1 zO pv (qW m)/\zG w' w''):=oh (λw' k=>by
  refine (zFS (HL.out w' k) bv _ (HB.out w' k) (by rw[hlen];exact h1) (by rw[hlen];exact h2) (i:Int)).mono ?_;rintro e w'' ⟨hk,⟨p,pv,h3,h4,h5⟩|⟨pg,kk,f,h3,_⟩⟩
  .rw[hop] at h3;cases h3
   exact⟨pv,h4,h5,hk⟩
  .rw[hop] at h3;cases h3)
 have hml:=zBC m;have hn0:zZ (qW m) 0 4=m.blocks:=by
  have:qW m=[]++(zV 4 m.blocks++(zV 4 m.used.length++zCf m.blocks m.used)):=by simp[qW]
  rw[this,vC [] _ 4 m.blocks 0 rfl (by have:(256:Nat) ^ 4=4294967296:=(by decide);omega)]
 have HSD:Hid (∀w',zG w w'->∀pv,Sl F w' 1 zO pv (qW m) -> Calls Tryz.prog 296 #[qF (zCB m i) pv] w' λe w''=>∃uv,e=.returned (zCq m uv)/\yA (λ_=>False) w'' w'.heap.size 3 1 yL uv (yP m)/\(yP m).length<=256/\zG w' w''):=oh (λw' k pv hs=>by
  have:=zLV (HL.out w' k) (zCB m i) pv hs (by show 4<=(qW m).length;omega) (by show zZ (qW m) 0 4<=256;omega) (by show (qW m).length<=100000;omega) hg;rw[zQA hm i] at this;exact this)
 have HSL:Hid (∀w',zG w w'->∀uv,Sl F w' 1 yL uv (yP m) -> Calls Tryz.prog 156 #[zCq m uv,.int .i64 (i:Int),.int .i64 (z:Int)] w' λe w''=>∃a c,e=.returned (.tuple #[.slice a z c,.nilIface])/\Sl F w'' 1 zO (.slice a z c) (qM m i z)/\zG w' w''):=oh (λw' k uv hs=>(zH3 (HL.out w' k) m hm hg uv hs i z hi h1 h2).mono (λe w'' ⟨a,c,g1,g2,g3⟩=>⟨a,c,g1,g2.sl (λ_=>rfl) (by rw[hlen];omega),g3⟩));have HON:Hid (∀w',Calls Tryz.prog 234 #[.int .u64 (m.gen:Int),.int .i64 (i:Int)] w' λe w''=>e=.returned (.bool true)/\zG w' w''):=oh (λw'=>(zN7 m.gen hg i (by omega) w').mono (λe w'' h=>⟨by rw[h.1,hi],h.2⟩));have HEQ:Hid (∀w',zG w w'->∀v,Sl F w' 1 zO v (qM m i z) -> Calls Tryz.prog 297 #[v,bv] w' λe w''=>e=.returned (.bool true)/\zG w' w''):=oh (λw' k v hs=>(zCx v bv _ _ hs (HB.out w' k)).mono (λe w'' h=>⟨by rw[h.1];simp,h.2⟩));have HPG:Hid (∀v,qF (zCB m i) v=.agg #[.int .i64 5,.int .i64 (i:Int),.int .u64 (m.gen:Int),v]):=oh (λ_=>rfl);have HMV:Hid (∀v,zCq m v=.agg #[.int .u64 (m.gen:Int),.int .i64 (m.blocks:Int),v]):=oh (λ_=>rfl);have HML:=oh hml;obtain⟨ba,bc,rfl, -⟩:=hb;obtain⟨bl,hbl⟩:∃n,n=(qM m i z).length:=⟨_,rfl⟩;rw[<- hbl] at HB HOP HEQ hlen ⊢;obtain⟨g,hgg⟩:∃g,g=m.gen:=⟨_,rfl⟩;obtain⟨b,hb2⟩:∃b,b=m.blocks:=⟨_,rfl⟩;rw[<- hgg,<- hb2] at HMV ⊢;rw[<- hgg] at HPG HON hg;rw[<- hb2] at o1 o2;clear hL hm hi o3 o4 o5 o6 hpc hop hml hn0 hbl hgg hb2;obtain rfl:bl=z:=hlen;obtain⟨W0,hW0⟩:∃W0,W0=w.alloc (.cells #[.int .u64 0,.int .i64 0,.slice none 0 0] 173):=⟨_,rfl⟩;have hM0:zG w W0:=by rw[hW0];exact (zss w).alloc _
 have hB0:zK W0 w.heap.size #[.int .u64 0,.int .i64 0,.slice none 0 0] 173:=by rw[hW0];exact zK.new w _ _
 have HM0:=oh hM0;have HR0:=oh hB0;have hz0:=hB0.lt;have g5:=G5.out _ (zss w);have hmax:max (i:Int) (-1)=(i:Int):=by omega
 clear hM0 hB0
 go_enter Tryz.func219, Tryz.ntmps219
 go_wp2_with fail;rw[<- hW0];refine (jY (HL.out _ HM0.out) _ _ _ _ 5 (.sent 5 (by decide) (by decide))).mono ?_;rintro e w1 ⟨f1,rfl, -,m1⟩;have HM1:=oh (HM0.out.trans m1);have HR1:=oh (HR0.out.ext m1);clear m1 g5 hW0;go_wp2_with fail;refine (HOP.out _ HM1.out).mono ?_;rintro e w2 ⟨pv,rfl,hs2,m2⟩;obtain⟨pa,pc,rfl, -⟩:=_root_.id hs2;have HS2:=oh hs2;have HM2:=oh (HM1.out.trans m2);have HR2:=oh (HR1.out.ext m2);obtain⟨N,hN⟩:∃N,N=(qW m).length:=⟨_,rfl⟩;rw[<- hN] at HS2 ⊢;have hz2:w.heap.size<w2.heap.size:=HR2.out.lt;clear m2 hs2 hN;rw[HPG.out];go_upto_if 26 with fail
 obtain⟨W3,hW3⟩:∃W,W=w2.alloc (.cells #[.int .i64 5,.int .i64 (i:Int),.int .u64 (g:Int),.slice pa N pc] 272):=⟨_,rfl⟩;have m3:zG w2 W3:=by rw[hW3];exact (zss w2).alloc _
 have hP3:zK W3 w2.heap.size #[.int .i64 5,.int .i64 (i:Int),.int .u64 (g:Int),.slice pa N pc] 272:=by rw[hW3];exact zK.new w2 _ _
 obtain⟨X,hX⟩:∃X,X=w2.heap.size:=⟨_,rfl⟩;rw[<- hX] at hP3 hz2;rw[<- hW3,<- hX];have HP3:=oh hP3;have HS3:=oh (HS2.out.ext m3);have HM3:=oh (HM2.out.trans m3);have HR3:=oh (HR2.out.ext m3);clear m3 hP3 hW3 hX HR2 HM2 HS2 HR1 HM1 HR0 HM0;go_wp2_with fail;refine (HON.out _).mono ?_;rintro e w4 ⟨rfl,m4⟩;have HP4:=oh (HP3.out.ext m4);have HS4:=oh (HS3.out.ext m4);have HM4:=oh (HM3.out.trans m4);have HR4:=oh (HR3.out.ext m4);have p0:=HP4.out.k 0 rfl;have p1:=HP4.out.k 1 rfl;have p2:=HP4.out.k 2 rfl;have p3:=HP4.out.k 3 rfl;clear m4 HP3 HS3 HM3 HR3;go_wp2_with fail;rw[<- HPG.out];refine (HSD.out _ HM4.out _ HS4.out).mono ?_;rintro e w5 ⟨uv,rfl,ho5,hu256,m5⟩;rw[HMV.out];have hlo:∀j,uv.ownBlock=some j->w.heap.size<j:=λj hj=>by have:=(ho5.lt j hj).1;have:=HP4.out.lt;omega
 have hu5:Sl F w5 1 yL uv (yP m):=(ho5.blocks (G:=F) (λj hj f=>by have:=hlo j hj;have:=(HL.out _ zr).lt j f;omega)).sl (λ_=>rfl) (by omega);have HO5:=oh ho5;have HZ4:=oh HM4.out.size;have H256:=oh hu256;have HLO:=oh hlo;have hz5:X<w5.heap.size:=by have:=HP4.out.lt;have:=m5.size;omega
 clear ho5 hu256 hlo;obtain⟨ua,uc,rfl, -⟩:=_root_.id hu5;obtain⟨U,hU⟩:∃U,U=(yP m).length:=⟨_,rfl⟩;have HU5:=oh hu5;rw[<- hU] at HU5 HO5 HLO ⊢;have HM5:=oh (HM4.out.trans m5);have HR5:=oh (HR4.out.ext m5);have HMVU:=oh (HMV.out (.slice ua U uc));clear m5 hu5 hU p0 p1 p2 p3 HP4 HS4 HM4 HR4;go_wp2_with fail;obtain⟨W6,hW6⟩:∃W,W=w5.alloc (.cells #[.int .u64 (g:Int),.int .i64 (b:Int),.slice ua U uc] 173):=⟨_,rfl⟩;have m6:zG w5 W6:=by rw[hW6];exact (zss w5).alloc _
 have hY6:zK W6 w5.heap.size #[.int .u64 (g:Int),.int .i64 (b:Int),.slice ua U uc] 173:=by rw[hW6];exact zK.new w5 _ _
 obtain⟨Y,hY⟩:∃Y,Y=w5.heap.size:=⟨_,rfl⟩;rw[<- hY] at hY6 hz5;rw[<- hW6,<- hY,<- HMVU.out];have HY6:=oh hY6;have HU6:=oh (HU5.out.ext m6);have HO6:=oh (HO5.out.ext m6);have HM6:=oh (HM5.out.trans m6);have HR6:=oh (HR5.out.ext m6);clear m6 hY6 hW6 hY HU5 HM5 HR5;refine (HSL.out _ HM6.out _ HU6.out).mono ?_;rintro e w7 ⟨a7,c7,rfl,hs7,m7⟩;have HY7:=oh (HY6.out.ext m7);have HU7:=oh (HU6.out.ext m7);have HO7:=oh (HO6.out.ext m7);have HM7:=oh (HM6.out.trans m7);have HR7:=oh (HR6.out.ext m7);have HS7:=oh hs7;have y1:=HY7.out.k 1 rfl;clear m7 hs7 HY6 HU6 HM6 HR6;go_wp2_with fail;refine (HEQ.out _ HM7.out _ HS7.out).mono ?_;rintro e w8 ⟨rfl,m8⟩;have HY8:=oh (HY7.out.ext m8);have HU8:=oh (HU7.out.ext m8);have HO8:=oh (HO7.out.ext m8);have HM8:=oh (HM7.out.trans m8);have HR8:=oh (HR7.out.ext m8);have y0:=HY8.out.k 0 rfl;have y1:=HY8.out.k 1 rfl;have y2:=HY8.out.k 2 rfl;have r0:=HR8.out.k 0 rfl;have r1:=HR8.out.k 1 rfl;have r2:=HR8.out.k 2 rfl;have rf:=HR8.out.frozen;clear m8 HY7 HU7 HM7 HR7 HS7;go_wp2_with fail;have HRB:Hid (zK (((w8.setCell ⟨w.heap.size,0,none⟩ (.int .u64 (g:Int))).setCell ⟨w.heap.size,1,none⟩ (.int .i64 (b:Int))).setCell ⟨w.heap.size,2,none⟩ (.slice ua U uc)) w.heap.size #[.int .u64 (g:Int),.int .i64 (b:Int),.slice ua U uc] 173):=oh (by simpa using ((HR8.out.set 0 (.int .u64 (g:Int))).set 1 (.int .i64 (b:Int))).set 2 (.slice ua U uc));have HMR:Hid (zA (λj=>j=w.heap.size) w8 (((w8.setCell ⟨w.heap.size,0,none⟩ (.int .u64 (g:Int))).setCell ⟨w.heap.size,1,none⟩ (.int .i64 (b:Int))).setCell ⟨w.heap.size,2,none⟩ (.slice ua U uc))):=oh (zA.setCell (F:=λj=>j=w.heap.size) (zA.setCell (F:=λj=>j=w.heap.size) (zA.setCell (F:=λj=>j=w.heap.size) (zss w8) (p:=⟨w.heap.size,0,none⟩) (.inr rfl) _) (p:=⟨w.heap.size,1,none⟩) (.inr rfl) _) (p:=⟨w.heap.size,2,none⟩) (.inr rfl) _);refine bodyPost_ret (zF rfl _ _ w.heap.size 173 #[.int .u64 (g:Int),.int .i64 (b:Int),.slice ua U uc] _ rfl HRB.out Tryz.underlying173 rfl Tryz.mapSize) rfl ?_;refine⟨.slice ua U uc,by rw[HMV.out];rfl,?_,H256.out,HM8.out.trans' HMR.out (λi hi h=>by have h':i=w.heap.size:=h;omega)⟩;exact (HO8.out.mods HMR.out (λj hj h=>by have:=HLO.out j hj;omega)).rebase HZ4.out
theorem zKe{F:NP}{ad:Nat->Addr}{w:World}(hL:yE F ad w)(m:zBQ)(hm:zCA m=true)(hg:m.gen<18446744073709551616)(z:Nat)(h1:256<=z)(h2:z<=1024)(av bv:Value)(ha:Sl F w 1 zO av (qM m (place m.gen 0) z))(hb:Sl F w 1 zO bv (qM m (place m.gen 1) z)) :
  Calls Tryz.prog 151 #[av,bv,.int .u64 (m.gen:Int),.int .i64 (m.blocks:Int)] w λe w'=>∃uv,e=.returned (.tuple #[zCq m uv,.slice none 0 0,.nilIface])/\yA (λ_=>False) w' w.heap.size 3 1 yL uv (yP m)/\(yP m).length<=256/\zG w w':=by
 have HL:Hid (∀w',zG w w'->yE F ad w'):=oh (λw' k=>hL.mods k.ext);have p0:zBR m.gen (place m.gen 0)=true:=by unfold zBR;simp
 have p1:zBR m.gen (place m.gen 1)=true:=by unfold zBR;simp
 have HOA:Hid (∀w',zG w w' -> Calls Tryz.prog 219 #[av,.int .i64 (place m.gen 0:Int),.int .u64 (m.gen:Int),.int .i64 (m.blocks:Int)] w' λe w''=>∃uv,e=.returned (.tuple #[zCq m uv,.nilIface])/\yA (λ_=>False) w'' w'.heap.size 3 1 yL uv (yP m)/\(yP m).length<=256/\zG w' w''):=oh (λw' k=>zIG (HL.out w' k) m hm hg _ z p0 h1 h2 av (ha.ext k));have HOB:Hid (∀w',zG w w' -> Calls Tryz.prog 219 #[bv,.int .i64 (place m.gen 1:Int),.int .u64 (m.gen:Int),.int .i64 (m.blocks:Int)] w' λe w''=>∃uv,e=.returned (.tuple #[zCq m uv,.nilIface])/\yA (λ_=>False) w'' w'.heap.size 3 1 yL uv (yP m)/\(yP m).length<=256/\zG w' w''):=oh (λw' k=>zIG (HL.out w' k) m hm hg _ z p1 h1 h2 bv (hb.ext k));have HPL:=oh (λw'=>zDs m.gen hg w');have HMV:Hid (∀v,zCq m v=.agg #[.int .u64 (m.gen:Int),.int .i64 (m.blocks:Int),v]):=oh (λ_=>rfl);have HPV:Hid (zDE m.gen=.agg #[.int .i64 (place m.gen 0:Int),.int .i64 (place m.gen 1:Int)]):=oh rfl;obtain⟨aa,ac,rfl, -⟩:=ha;obtain⟨ba,bc,rfl, -⟩:=hb;obtain⟨an,han⟩:∃n,n=(qM m (place m.gen 0) z).length:=⟨_,rfl⟩;obtain⟨bn,hbn⟩:∃n,n=(qM m (place m.gen 1) z).length:=⟨_,rfl⟩;rw[<- han] at HOA ⊢;rw[<- hbn] at HOB ⊢;obtain⟨g,hgg⟩:∃g,g=m.gen:=⟨_,rfl⟩;obtain⟨b,hb2⟩:∃b,b=m.blocks:=⟨_,rfl⟩;rw[<- hgg] at HOA HOB HPL HMV HPV ⊢;rw[<- hb2] at HOA HOB HMV ⊢;obtain⟨q0,hq0⟩:∃q,q=place g 0:=⟨_,rfl⟩;obtain⟨q1,hq1⟩:∃q,q=place g 1:=⟨_,rfl⟩;rw[<- hq0] at HOA HPV;rw[<- hq1] at HOB HPV;clear hL hm hg h1 h2 p0 p1 han hbn hgg hb2 hq0 hq1;obtain⟨W0,hW0⟩:∃W0,W0=w.alloc (.cells #[.int .u64 0,.int .i64 0,.slice none 0 0] 173):=⟨_,rfl⟩;have hM0:zG w W0:=by rw[hW0];exact (zss w).alloc _
 have hB0:zK W0 w.heap.size #[.int .u64 0,.int .i64 0,.slice none 0 0] 173:=by rw[hW0];exact zK.new w _ _
 have HM0:=oh hM0;have HR0:=oh hB0;have hz0:=hB0.lt;clear hM0 hB0
 go_enter Tryz.func151, Tryz.ntmps151
 go_wp2_with fail;rw[<- hW0];refine (HPL.out _).mono ?_;rintro e w1 ⟨rfl,m1⟩;rw[HPV.out];have HM1:=oh (HM0.out.trans m1);have HR1:=oh (HR0.out.ext m1);have hz1:w.heap.size<w1.heap.size:=HR1.out.lt;clear m1 hW0;go_wp2_with fail;obtain⟨W2,hW2⟩:∃W,W=w1.alloc (.cells #[.int .i64 (q0:Int),.int .i64 (q1:Int)] 65):=⟨_,rfl⟩;have m2:zG w1 W2:=by rw[hW2];exact (zss w1).alloc _
 have hP2:zK W2 w1.heap.size #[.int .i64 (q0:Int),.int .i64 (q1:Int)] 65:=by rw[hW2];exact zK.new w1 _ _
 obtain⟨X,hX⟩:∃X,X=w1.heap.size:=⟨_,rfl⟩;rw[<- hX] at hP2 hz1;rw[<- hW2,<- hX];have HM2:=oh (HM1.out.trans m2);have HR2:=oh (HR1.out.ext m2);have HP2:=oh hP2;clear m2 hP2 hW2 hX HM1 HR1;refine (HOA.out _ HM2.out).mono ?_;rintro e w3 ⟨uv,rfl,ho3,h256,m3⟩;rw[HMV.out];obtain⟨ua,uc,rfl, -, -⟩:=_root_.id ho3.form;obtain⟨U,hU⟩:∃U,U=(yP m).length:=⟨_,rfl⟩;rw[<- hU] at ho3 ⊢;have HO3:=oh (ho3.rebase HM2.out.size);have HLO:Hid (∀j,(Value.slice ua U uc).ownBlock=some j->w.heap.size<j):=oh (λj hj=>by have:=(ho3.lt j hj).1;have:=HP2.out.lt;omega);have H256:=oh h256;have HM3:=oh (HM2.out.trans m3);have HR3:=oh (HR2.out.ext m3);have HP3:=oh (HP2.out.ext m3);have c1:=HP3.out.k 1 rfl;have hx3:=HP3.out.lt;clear m3 ho3 hU h256 HM2 HR2 HP2;go_wp2_with fail;obtain⟨W4,hW4⟩:∃W,W=w3.alloc (.cells #[.int .u64 (g:Int),.int .i64 (b:Int),.slice ua U uc] 173):=⟨_,rfl⟩;have m4:zG w3 W4:=by rw[hW4];exact (zss w3).alloc _
 have hY4:zK W4 w3.heap.size #[.int .u64 (g:Int),.int .i64 (b:Int),.slice ua U uc] 173:=by rw[hW4];exact zK.new w3 _ _
 obtain⟨Y,hY⟩:∃Y,Y=w3.heap.size:=⟨_,rfl⟩;rw[<- hY] at hY4 hx3;rw[<- hW4,<- hY];have HM4:=oh (HM3.out.trans m4);have HR4:=oh (HR3.out.ext m4);have HO4:=oh (HO3.out.ext m4);have HY4:=oh hY4;clear m4 hY4 hW4 hY HM3 HR3 HP3 HO3 c1;refine (HOB.out _ HM4.out).mono ?_;rintro e w5 ⟨uv2,rfl,ho5, -,m5⟩;obtain⟨ub,ud,rfl, -, -⟩:=_root_.id ho5.form;rw[HMV.out];have HM5:=oh (HM4.out.trans m5);have HR5:=oh (HR4.out.ext m5);have HO5:=oh (HO4.out.ext m5);have HY5:=oh (HY4.out.ext m5);have hy5:=HY5.out.lt;clear m5 ho5 HM4 HR4 HO4 HY4;obtain⟨V,hV⟩:∃V,V=(yP m).length:=⟨_,rfl⟩;rw[<- hV];clear hV;go_upto_if 36 with fail
 obtain⟨W6,hW6⟩:∃W,W=w5.alloc (.cells #[.int .u64 (g:Int),.int .i64 (b:Int),.slice ub V ud] 173):=⟨_,rfl⟩;have m6:zG w5 W6:=by rw[hW6];exact (zss w5).alloc _
 rw[<- hW6];have HM6:=oh (HM5.out.trans m6);have HR6:=oh (HR5.out.ext m6);have HO6:=oh (HO5.out.ext m6);have HY6:=oh (HY5.out.ext m6);have y0:=HY6.out.k 0 rfl;have y1:=HY6.out.k 1 rfl;have y2:=HY6.out.k 2 rfl;have r0:=HR6.out.k 0 rfl;have r1:=HR6.out.k 1 rfl;have r2:=HR6.out.k 2 rfl;have rf:=HR6.out.frozen;clear m6 hW6 HM5 HR5 HO5 HY5;go_wp2_with fail;have HRB:Hid (zK (((W6.setCell ⟨w.heap.size,0,none⟩ (.int .u64 (g:Int))).setCell ⟨w.heap.size,1,none⟩ (.int .i64 (b:Int))).setCell ⟨w.heap.size,2,none⟩ (.slice ua U uc)) w.heap.size #[.int .u64 (g:Int),.int .i64 (b:Int),.slice ua U uc] 173):=oh (by simpa using ((HR6.out.set 0 (.int .u64 (g:Int))).set 1 (.int .i64 (b:Int))).set 2 (.slice ua U uc));have HMR:Hid (zA (λj=>j=w.heap.size) W6 (((W6.setCell ⟨w.heap.size,0,none⟩ (.int .u64 (g:Int))).setCell ⟨w.heap.size,1,none⟩ (.int .i64 (b:Int))).setCell ⟨w.heap.size,2,none⟩ (.slice ua U uc))):=oh (zA.setCell (F:=λj=>j=w.heap.size) (zA.setCell (F:=λj=>j=w.heap.size) (zA.setCell (F:=λj=>j=w.heap.size) (zss W6) (p:=⟨w.heap.size,0,none⟩) (.inr rfl) _) (p:=⟨w.heap.size,1,none⟩) (.inr rfl) _) (p:=⟨w.heap.size,2,none⟩) (.inr rfl) _);refine bodyPost_ret (yQ rfl _ _ w.heap.size 173 #[.int .u64 (g:Int),.int .i64 (b:Int),.slice ua U uc] _ rfl HRB.out Tryz.underlying173 rfl Tryz.mapSize) rfl ?_;exact⟨.slice ua U uc,by rw[HMV.out];rfl,HO6.out.mods HMR.out (λj hj h=>by have:=HLO.out j hj;omega),H256.out,HM6.out.trans' HMR.out (λi hi h=>by have h':i=w.heap.size:=h;omega)⟩
theorem Tryz.idx2_0(a0 a1:Int)(w:World):(Instr.index 65 (.agg #[.int .i64 a0,.int .i64 a1]) (.int .i64 0)).run Tryz.prog w=.ok (.int .i64 a0) w:=by kernel_rfl
theorem Tryz.idx2_1(a0 a1:Int)(w:World):(Instr.index 65 (.agg #[.int .i64 a0,.int .i64 a1]) (.int .i64 1)).run Tryz.prog w=.ok (.int .i64 a1) w:=by kernel_rfl
theorem zTG(a b:Nat)(k:Nat)(hk:k<2)(w:World):(Instr.index 65 (.agg #[.int .i64 (a:Int),.int .i64 (b:Int)]) (.int .i64 (k:Int))).run Tryz.prog w=.ok (.int .i64 ((if k=0 then a else b:Nat):Int)) w:=by
 match k,hk with
 | 0,_=>exact Tryz.idx2_0 _ _ w
 | 1,_=>exact Tryz.idx2_1 _ _ w
theorem Tryz.geoField1(a b:Int)(w:World):(Instr.field 39 (.agg #[.int .i64 a,.int .i64 b]) 1).run Tryz.prog w=.ok (.int .i64 b) w:=by kernel_rfl
theorem Tryz.geoField0(a b:Int)(w:World):(Instr.field 39 (.agg #[.int .i64 a,.int .i64 b]) 0).run Tryz.prog w=.ok (.int .i64 a) w:=by kernel_rfl
def zGZ(D:zT)(m:zBQ):Nat->zT
 | 0=>D
 | 1=>D.wrote (place m.gen 0) (qM m (place m.gen 0) D.size)
 | _=>(D.wrote (place m.gen 0) (qM m (place m.gen 0) D.size)).wrote (place m.gen 1) (qM m (place m.gen 1) D.size)
def zED(m:zBQ)(k:Nat):Nat:=if k=0 then place m.gen 0 else place m.gen 1
theorem zJl(D:zT)(m:zBQ):∀k,k<2->(zGZ D m k).wrote (zED m k) (qM m (zED m k) D.size)=zGZ D m (k+1)
 | 0,_=>rfl
 | 1,_=>rfl
 | k+2,h=>by omega
theorem zF6{D:zT}(hw:zFX D){m:zBQ}(hm:zCA m=true)(hb:8<=D.blocks)(hs:256<=D.size):∀k,k<=2->zFX (zGZ D m k)/\(zGZ D m k).blocks=D.blocks/\(zGZ D m k).size=D.size/\(zGZ D m k).waiting.length=D.waiting.length+k
 | 0,_=>⟨hw,rfl,rfl,rfl⟩
 | k+1,hk=>by
  obtain⟨h1,h2,h3,h4⟩:=zF6 hw hm hb hs k (by omega);have hp:zED m k<6:=by unfold zED place;split <;> omega
  rw[<- zJl D m k (by omega)];refine⟨h1.wrote (by rw[h2];omega) (by rw[h3,zAU hm _ hs]),h2,h3,?_⟩;show (_++_:List _).length=_;rw[uC,h4];rfl
section
variable {P P' F F':NP}{ad:Nat->Addr}{w w':World}{d:Nat}{D:zT}
theorem zLt(hL:yE F ad w)(hP:∀k,P k->F k)(h:DkS w P d D)(hw:zFX D)(hfew:D.waiting.length<900000)(m:zBQ)(hm:zCA m=true)(hg:m.gen<18446744073709551616)(uv:Value)(hu:Sl F w 1 yL uv (yP m))(hb8:8<=D.blocks)(h1:256<=D.size)(h2:D.size<=1024) :
  Calls Tryz.prog 95 #[.pointer (some ⟨d,0,none⟩),zCq m uv] w (zQ7 F P ad d w (zGZ D m 2)):=by
 have HFEW:=oh hfew;have HWET:=oh (zF6 hw hm hb8 h1);have HSTEP:=oh (zJl D m);have HPLC:Hid (∀k,k<2->zBR m.gen (zED m k)=true/\zED m k<D.blocks):=oh (λk hk=>by
  unfold zED zBR;refine⟨by split <;> simp,?_⟩;unfold place;split <;> omega)
 have HLEN:Hid (∀k,(qM m (zED m k) D.size).length=D.size):=oh (λk=>zAU hm _ h1);have HSEAL:Hid (∀{F1:NP} {w1:World},yE F1 ad w1->Sl F1 w1 1 yL uv (yP m)->∀k,k<2 -> Calls Tryz.prog 156 #[zCq m uv,.int .i64 (zED m k:Int),.int .i64 (D.size:Int)] w1 λe w'=>∃a c,e=.returned (.tuple #[.slice a D.size c,.nilIface])/\Sl F1 w' 1 zO (.slice a D.size c) (qM m (zED m k) D.size)/\zG w1 w'):=oh (λe1 s1 k hk=>(zH3 e1 m hm hg uv s1 _ D.size (HPLC.out k hk).1 h1 h2).mono (λe w' ⟨a,c,g1,g2,g3⟩=>⟨a,c,g1,g2.sl (λ_=>rfl) (by rw[HLEN.out];omega),g3⟩));have HPV:Hid (zDE m.gen=.agg #[.int .i64 (place m.gen 0:Int),.int .i64 (place m.gen 1:Int)]):=oh rfl;have HIX:Hid (∀k:Nat,k<2->∀w,(Instr.index 65 (.agg #[.int .i64 (place m.gen 0:Int),.int .i64 (place m.gen 1:Int)]) (.int .i64 (k:Int))).run Tryz.prog w=.ok (.int .i64 (zED m k:Int)) w):=oh (λk hk w=>zTG _ _ k hk w);have HPL:=oh (λw'=>zDs m.gen hg w');have HMV:Hid (∀v,zCq m v=.agg #[.int .u64 (m.gen:Int),.int .i64 (m.blocks:Int),v]):=oh (λ_=>rfl);obtain⟨ua,uc,rfl, -⟩:=_root_.id hu;obtain⟨U,hU⟩:∃U,U=(yP m).length:=⟨_,rfl⟩;rw[<- hU] at HSEAL hu ⊢;obtain⟨g,hgg⟩:∃g,g=m.gen:=⟨_,rfl⟩;obtain⟨b,hb2⟩:∃b,b=m.blocks:=⟨_,rfl⟩;have HMVU:=oh (HMV.out (.slice ua U uc));rw[HMVU.out];rw[<- hgg] at HPL HMV HPV HMVU HIX ⊢;rw[<- hb2] at HMV HMVU ⊢;rw[HMVU.out] at HSEAL;obtain⟨q0,hq0⟩:∃q,q=place g 0:=⟨_,rfl⟩;obtain⟨q1,hq1⟩:∃q,q=place g 1:=⟨_,rfl⟩;rw[<- hq0,<- hq1] at HPV HIX;obtain⟨W0,hW0⟩:∃W0,W0=w.alloc (.cells #[.int .u64 (g:Int),.int .i64 (b:Int),.slice ua U uc] 173):=⟨_,rfl⟩;have hM0:zG w W0:=by rw[hW0];exact (zss w).alloc _
 have hB0:zK W0 w.heap.size #[.int .u64 (g:Int),.int .i64 (b:Int),.slice ua U uc] 173:=by rw[hW0];exact zK.new w _ _
 have HM0:=oh hM0;have HX0:=oh hB0;have HD0:=oh (h.at hM0);have HN0:=oh (zU.ext hL hP hM0);have HU0:=oh (hu.ext hM0);have HPX:Hid (¬ P w.heap.size):=oh (λf=>pD _ (hL.lt _ (hP _ f)));have x0:=hB0.k 0 rfl;clear hU hgg hb2 hq0 hq1 hM0 hB0 h hw hL hP hm hg hu h1 h2 hb8
 go_enter Tryz.func95, Tryz.ntmps95
 go_wp2_with fail;rw[<- hW0];refine (HPL.out _).mono ?_;rintro e w1 ⟨rfl,m1⟩;rw[HPV.out];have HX1:=oh (HX0.out.ext m1);have HD1:=oh (HD0.out.at m1);have HN1:=oh (HN0.out.trans (zU.ext HN0.out.env HN0.out.sub m1));have HU1:=oh (HU0.out.ext m1);obtain⟨X,hX⟩:∃X,X=w.heap.size:=⟨_,rfl⟩;rw[<- hX] at HX1 HPX;have HXL:=oh HX1.out.lt;clear m1 hW0 x0 HX0 HD0 HN0 HU0 HM0;go_wp2_with fail;rw[<- hX];clear hX;go_loopg [13] 2 (λr v13 wr=>∃(k:Nat) (P1 F1:NP),k+r=2/\v13=.int .i64 k/\Hid (DkS wr P1 d (zGZ D m k)/\zU P P1 F F1 ad w wr/\Sl F1 wr 1 yL (.slice ua U uc) (yP m)/\zK wr X #[.int .u64 (g:Int),.int .i64 (b:Int),.slice ua U uc] 173 /\ ¬ P1 X))
 case atStart=>exact⟨0,P,F,rfl,rfl,oh ⟨HD1.out,HN1.out,HU1.out,HX1.out,HPX.out⟩⟩
 case round =>
  clear HX1 HD1 HN1 HU1 HXL HPX;obtain⟨k,P1,F1,hk,rfl,HW⟩:=hrel;by_cases hlt:k<2
  .have ix:=HIX.out k hlt;obtain⟨hD,hN,hU,hB,hnX⟩:=HW.out;obtain⟨k1,k2,k3,k4⟩:=HWET.out k (by omega);have HGEO:Hid (∀W,zG wr W -> Calls Tryz.prog 90 #[.pointer (some ⟨d,0,none⟩)] W λe w'=>e=.returned (.agg #[.int .i64 (D.blocks:Int),.int .i64 (D.size:Int)])/\zG W w'):=oh (λW m=>by
    have:=DkS.geo (hD.at m);rw[k2,k3] at this;exact this)
   have HSL:=oh (λW (m:zG wr W)=>HSEAL.out (hN.env.mods m.ext) (hU.ext m) k hlt);have HSX:=oh (λW (m:zG wr W)=>(⟨(hB.ext m).cell rfl,(hB.ext m).cell rfl,(hB.ext m).cell rfl⟩:W.cell? ⟨X,0,none⟩=some (.int .u64 (g:Int))/\W.cell? ⟨X,1,none⟩=some (.int .i64 (b:Int))/\W.cell? ⟨X,2,none⟩=some (.slice ua U uc)));have HWT:=oh k1;have HLT:=oh hlt;have HFW:Hid ((zGZ D m k).waiting.length<1000000):=oh (by have:=HFEW.out;omega);have HST:=oh (HSTEP.out k hlt);have HBK:Hid ((zGZ D m k).blocks=D.blocks/\(zGZ D m k).size=D.size):=oh ⟨k2,k3⟩;have HXW:=oh hB.lt;have zd:=HSX.out _ (zss wr).drew;have gf:=Tryz.geoField1;clear hD hN hU hB hnX k1 k2 k3 k4;go_wp2_with fail;go_region_held3 (λw'=>w'.cell? ⟨X,0,none⟩=some (.int .u64 (g:Int))/\w'.cell? ⟨X,1,none⟩=some (.int .i64 (b:Int))/\w'.cell? ⟨X,2,none⟩=some (.slice ua U uc))
    (first|(with_reducible exact zd)|(with_reducible exact z5)|(with_reducible exact z6)|fail)
    (first
     | (go_at_call 90;(with_reducible refine (HGEO.out _ (zss wr).drew).mono ?_);rintro e w5 ⟨rfl,m5⟩;have xw5:=(zss wr).drew.trans m5;have z5:=HSX.out _ xw5)
     | (go_at_call 156;(with_reducible refine (HSL.out _ xw5).mono ?_);rintro e w6 ⟨a6,c6,rfl,s6,m6⟩;have xw6:=xw5.trans m6;have z6:=HSX.out _ xw6)
     | fail)
   have HX6:=oh xw6;have HS6:=oh s6;clear zd z5 z6 xw5 xw6 m5 m6 s6 gf ix;obtain⟨hD,hN,hU,hB,hnX⟩:=HW.out;have N6:=hN.trans (zU.ext hN.env hN.sub HX6.out);have WR:=DkS.write (ad:=ad) N6.env N6.sub (hD.at HX6.out) (zED m k) (by rw[HBK.out.1];exact (HPLC.out k HLT.out).2) HWT.out.off HWT.out.lit _ _ HS6.out (by rw[HBK.out.2];exact HLEN.out k) HFW.out;rw[HST.out] at WR;have WR:=oh WR;have HN6:=oh N6;have HU6:=oh (hU.ext HX6.out);have HB6:=oh (hB.ext HX6.out);have HNX:=oh hnX;clear hD hN hU hB hnX N6;go_wp2_with fail;refine WR.out.mono ?_;intro e w7 H7a;obtain⟨P7,F7,rfl,h7,n7⟩:=H7a;have H7:=oh (And.intro h7 (And.intro (HN6.out.trans n7) (And.intro (n7.sl HN6.out.sub HU6.out) (And.intro (n7.blk HB6.out HNX.out) (n7.not HB6.out.lt HNX.out)))));clear h7 n7;go_wp2_with fail;go_roundg (gk-1)
   case measure=>omega
   case rel=>exact⟨k+1,P7,F7,by omega,by go_num,H7⟩
  .obtain rfl:k=2:=by omega
   go_wp2_with fail;go_ret;exact⟨P1,F1,rfl,HW.out.1,HW.out.2.1⟩
end
section
variable {P P' F F':NP}{ad:Nat->Addr}{w w':World}{d:Nat}{D:zT}
theorem Tryz.bothSize:(Tryz.prog.info? 239).map (·.size)=some 2:=by kernel_rfl
def zAI(Y sz:Nat)(W:World)(v:Value)(l:List UInt8):Prop:=∃g,v=zAd sz g/\Y<g/\zK W g (qT l) 5
theorem zAI.mods{Y sz:Nat}{v:Value}{l:List UInt8}{G:NP}(h:zAI Y sz w v l)(m:zA G w w')(hG:∀g,Y<g->g<w.heap.size->¬ G g):zAI Y sz w' v l:=by
 obtain⟨g,h1,h2,h3⟩:=h;exact⟨g,h1,h2,h3.mods m (hG g h2 h3.lt)⟩
theorem zOJ(hL:yE F ad w)(h:DkS w P d D)(ho:D.off=false)(a b:Nat)(ha:a<D.blocks)(hb:b<D.blocks) :
  Calls Tryz.prog 147 #[.pointer (some ⟨d,0,none⟩),.agg #[.int .i64 (a:Int),.int .i64 (b:Int)]] w λe w'=>∃v0 v1,e=.returned (.tuple #[.agg #[v0,v1],.nilIface])/\zAI w.heap.size D.size w' v0 (D.look a)/\zAI w.heap.size D.size w' v1 (D.look b)/\zG w w':=by
 have HRD:Hid (∀W,zG w W->∀k,k<2 -> Calls Tryz.prog 216 #[.pointer (some ⟨d,0,none⟩),.int .i64 ((if k=0 then a else b:Nat):Int)] W λe w'=>∃g,e=.returned (.tuple #[zAd D.size g,.nilIface])/\W.heap.size<=g/\zK w' g (qT (D.look (if k=0 then a else b))) 5 /\ zG W w'):=oh (λW m k hk=>(DkS.read (hL.mods m.ext) (h.at m) (if k=0 then a else b) (by split <;> assumption) ho).mono (λe w' ⟨g,h1,h2,h3,_,h5⟩=>⟨g,h1,h2,h3,h5⟩));have HIX:=oh (zTG a b);clear hL h ho ha hb;obtain⟨W0,hW0⟩:∃W0,W0=((w.alloc (.cells #[.int .i64 (a:Int),.int .i64 (b:Int)] 65)).alloc (.cells #[.slice none 0 0,.slice none 0 0] 239)).alloc (.cells #[.slice none 0 0,.slice none 0 0] 239):=⟨_,rfl⟩;have hM0:zG w W0:=by rw[hW0];exact (((zss w).alloc _).alloc _).alloc _
 have hBX:zK W0 w.heap.size #[.int .i64 (a:Int),.int .i64 (b:Int)] 65:=by rw[hW0];exact ((zK.new w _ _).alloc _).alloc _
 have hBR:zK W0 (w.heap.size+1) #[.slice none 0 0,.slice none 0 0] 239:=by rw[hW0];exact zK.alloc (show zK _ (w.heap.size+1) _ _ from zM (by simp)) _
 have hBY:zK W0 (w.heap.size+2) #[.slice none 0 0,.slice none 0 0] 239:=by rw[hW0];exact zM (by simp)
 have HM0:=oh hM0;have HX0:=oh hBX;have HR0:=oh hBR;have HY0:=oh hBY;clear hM0 hBX hBR hBY
 go_enter Tryz.func147, Tryz.ntmps147
 go_wp2_with fail;rw[<- hW0];obtain⟨Y,hY⟩:∃Y,Y=w.heap.size+1+1:=⟨_,rfl⟩;have hY2:w.heap.size+2=Y:=by omega
 rw[hY2] at HY0;rw[<- hY];have hYw:w.heap.size+1<Y:=by omega
 have HYW:=oh hYw;clear hW0 hY hY2;go_loopg [12] 2 (λr v12 wr=>∃(k:Nat) (v0 v1:Value),k+r=2/\v12=.int .i64 k/\Hid (zG w wr/\zK wr (w.heap.size+1) #[.slice none 0 0,.slice none 0 0] 239 /\ zK wr Y #[v0,v1] 239 /\ (0<k->zAI Y D.size wr v0 (D.look a))/\(1<k->zAI Y D.size wr v1 (D.look b))))
 case atStart=>exact⟨0,_,_,rfl,rfl,oh ⟨HM0.out,HR0.out,HY0.out,λh=>by omega,λh=>by omega⟩⟩
 case round =>
  clear HX0 HR0 HY0 HM0;obtain⟨k,v0,v1,hk,rfl,HW⟩:=hrel;by_cases hlt:k<2
  .have ix:=HIX.out k hlt;obtain⟨q,hq⟩:∃q,q=(if k=0 then a else b):=⟨_,rfl⟩;have HR:=oh (HRD.out wr HW.out.1 k hlt);rw[<- hq] at ix HR;have HQ:=oh hq;clear hq;go_wp2_with fail;refine HR.out.mono ?_;rintro e w1 ⟨g,rfl,hg,hB,m1⟩;unfold zAd;have hY1:=HW.out.2.2.1.ext m1;have yc:∃x,w1.cell? ⟨Y,k,none⟩=some x:=by
    rcases (by omega:k=0\/k=1) with rfl|rfl
    .exact⟨_,hY1.k 0 rfl⟩
    .exact⟨_,hY1.k 1 rfl⟩
   obtain⟨x,yc⟩:=yc;have yf:=hY1.frozen;have i1:(0:Int)<=(k:Int):=by omega
   have i2:(k:Int)<2:=by omega
   have HM1:=oh m1;have HB1:=oh hB;have hgY:Y<g:=uG HW.out.2.2.1.lt hg;have HGY:=oh hgY;have HY1:=oh hY1;clear m1 hB hY1 ix hg;go_wp2_with fail;go_roundg (gk-1)
   case measure=>omega
   case rel =>
    have HMS:zA (λj=>j=Y) w1 (w1.setCell ⟨Y,k,none⟩ (.slice (some ⟨g,0,none⟩) D.size D.size)):=zA.setCell (F:=λj=>j=Y) (zss w1) (p:=⟨Y,k,none⟩) (.inr rfl) _;have hE:zG w (w1.setCell ⟨Y,k,none⟩ (.slice (some ⟨g,0,none⟩) D.size D.size)):=(HW.out.1.trans HM1.out).trans' HMS (λi hi h=>by have h':i=Y:=h;have:=HYW.out;omega);have hRk:=(HW.out.2.1.ext HM1.out).mods HMS (by have:=HYW.out;omega);have hnew:zAI Y D.size (w1.setCell ⟨Y,k,none⟩ (.slice (some ⟨g,0,none⟩) D.size D.size)) (zAd D.size g) (D.look q):=⟨g,rfl,HGY.out,HB1.out.mods HMS (by have:=HGY.out;omega)⟩;rw[HQ.out] at hnew;have hset:=HY1.out.set k (.slice (some ⟨g,0,none⟩) D.size D.size);rcases (by omega:k=0\/k=1) with rfl|rfl
    .exact⟨1,.slice (some ⟨g,0,none⟩) D.size D.size,v1,by omega,by go_num,oh ⟨hE,hRk,hset,λ_=>hnew,λh=>by omega⟩⟩
    .exact⟨2,v0,.slice (some ⟨g,0,none⟩) D.size D.size,by omega,by go_num,oh ⟨hE,hRk,hset,λ_=>(HW.out.2.2.2.1 (by omega)).mods (HM1.out.ext (F:=λj=>j=Y) |>.trans HMS) (λj hj _ h=>by omega),λ_=>hnew⟩⟩
  .obtain rfl:k=2:=by omega
   obtain⟨g0,rfl,hg0,hB0⟩:=HW.out.2.2.2.1 (by omega);obtain⟨g1,rfl,hg1,hB1⟩:=HW.out.2.2.2.2 (by omega);have y0:=HW.out.2.2.1.k 0 rfl;have y1:=HW.out.2.2.1.k 1 rfl;have r0:=HW.out.2.1.k 0 rfl;have r1:=HW.out.2.1.k 1 rfl;have rf:=HW.out.2.1.frozen;simp only[zAd] at y0 y1;go_wp2_with fail;have HRB:Hid (zK ((wr.setCell ⟨w.heap.size+1,0,none⟩ (.slice (some ⟨g0,0,none⟩) D.size D.size)).setCell ⟨w.heap.size+1,1,none⟩ (.slice (some ⟨g1,0,none⟩) D.size D.size)) (w.heap.size+1) #[.slice (some ⟨g0,0,none⟩) D.size D.size,.slice (some ⟨g1,0,none⟩) D.size D.size] 239):=oh (by simpa using (HW.out.2.1.set 0 (.slice (some ⟨g0,0,none⟩) D.size D.size)).set 1 (.slice (some ⟨g1,0,none⟩) D.size D.size));have HMR:Hid (zA (λj=>j=w.heap.size+1) wr ((wr.setCell ⟨w.heap.size+1,0,none⟩ (.slice (some ⟨g0,0,none⟩) D.size D.size)).setCell ⟨w.heap.size+1,1,none⟩ (.slice (some ⟨g1,0,none⟩) D.size D.size))):=oh (zA.setCell (F:=λj=>j=w.heap.size+1) (zA.setCell (F:=λj=>j=w.heap.size+1) (zss wr) (p:=⟨w.heap.size+1,0,none⟩) (.inr rfl) _) (p:=⟨w.heap.size+1,1,none⟩) (.inr rfl) _);refine bodyPost_ret (zF rfl _ _ (w.heap.size+1) 239 #[.slice (some ⟨g0,0,none⟩) D.size D.size,.slice (some ⟨g1,0,none⟩) D.size D.size] _ rfl HRB.out Tryz.underlying239 rfl Tryz.bothSize) rfl ?_;have:=HYW.out;exact⟨zAd D.size g0,zAd D.size g1,rfl,⟨g0,rfl,by omega,hB0.mods HMR.out (by omega)⟩,⟨g1,rfl,by omega,hB1.mods HMR.out (by omega)⟩,HW.out.1.trans' HMR.out (λi hi h=>by have h':i=w.heap.size+1:=h;omega)⟩
end
end
section
open Go.RowKit
theorem Tryz.eqGeo(n:Nat)(a b c d:Int)(w:World):(Op.equalIn (n+2) 39 (.agg #[.int .i64 a,.int .i64 b]) (.agg #[.int .i64 c,.int .i64 d])).run Tryz.prog w=.ok (decide (a=c) && decide (b=d)) w:=by
 have u3:=Tryz.underlying3;have a3:=Tryz.isAgg3;have z3:=Tryz.sizeOf3;have hS:Tryz.prog.underlying 39 = some (.struct (Tryz.prog.fieldsOf 39)):=by kernel_rfl
 have hp:Tryz.prog.stoodInHeld 39 = false:=by kernel_rfl
 rw[run_equalIn_agg w (n+1) 39 _ _ hS hp];simp only[Program.fieldsOf,Tryz.underlying39];go_simp;by_cases h1:a=c <;> by_cases h2:b=d <;> simp[h1,h2]
theorem Tryz.eqSuper(n:Nat)(g b z r k:Int)(w:World):(Op.equalIn (n+3) 93 (.agg #[.int .u64 g,.int .i64 b,.int .i64 z,.int .i64 r,.int .i64 k]) (.agg #[.int .u64 g,.int .i64 b,.int .i64 z,.int .i64 r,.int .i64 k])).run Tryz.prog w=.ok true w:=by
 have u3:=Tryz.underlying3;have a3:=Tryz.isAgg3;have z3:=Tryz.sizeOf3;have u4:=Tryz.underlying34;have a4:=Tryz.isAgg34;have z4:=Tryz.sizeOf34;have a5:=Tryz.isAgg39;have z5:=Tryz.sizeOf39;have hS:Tryz.prog.underlying 93 = some (.struct (Tryz.prog.fieldsOf 93)):=by kernel_rfl
 have hp:Tryz.prog.stoodInHeld 93 = false:=by kernel_rfl
 have eg:=Tryz.eqGeo n b z b z;rw[run_equalIn_agg w (n+2) 93 _ _ hS hp];simp only[Program.fieldsOf,Tryz.underlying93];go_simp;done
end
section
open Go.RowKit
attribute [local go_sem ↓] Go.wp_at_zero Go.wp_at_succ
abbrev stC(d:Nat)(cv sv:Value)(s:jM)(home root keys:Int)(il:Value)(dead:Bool):Array Value :=
 #[.pointer (some ⟨d,0,none⟩),cv,sv,.int .u64 (s.gen:Int),.int .i64 (s.blocks:Int),.int .i64 (s.size:Int),.int .i64 (s.root:Int),.int .i64 (s.keys:Int),.int .i64 home,.int .i64 root,.int .i64 keys,il,.bool dead]
def zIH(W:World)(S g b z r k:Nat)(home:Int):World :=
 (((((W.setCell ⟨S,3,none⟩ (.int .u64 (g:Int))).setCell ⟨S,4,none⟩ (.int .i64 (b:Int))).setCell ⟨S,5,none⟩ (.int .i64 (z:Int))).setCell ⟨S,6,none⟩ (.int .i64 (r:Int))).setCell ⟨S,7,none⟩ (.int .i64 (k:Int))).setCell ⟨S,8,none⟩ (.int .i64 home)
theorem zLu{W:World}{S g b z r k:Nat}{home:Int}:zA (λj=>j=S) W (zIH W S g b z r k home) :=
 zA.setCell (F:=λj=>j=S) (zA.setCell (F:=λj=>j=S) (zA.setCell (F:=λj=>j=S) (zA.setCell (F:=λj=>j=S) (zA.setCell (F:=λj=>j=S) (zA.setCell (F:=λj=>j=S) (zss W) (p:=⟨S,3,none⟩) (.inr rfl) _) (p:=⟨S,4,none⟩) (.inr rfl) _) (p:=⟨S,5,none⟩) (.inr rfl) _) (p:=⟨S,6,none⟩) (.inr rfl) _) (p:=⟨S,7,none⟩) (.inr rfl) _) (p:=⟨S,8,none⟩) (.inr rfl) _
theorem zNS{W:World}{S d:Nat}{cv sv il:Value}{s0:jM}{h0 root keys:Int}{dead:Bool}{t:TypeId}(h:zK W S (stC d cv sv s0 h0 root keys il dead) t)(g b z r k:Nat)(home:Int):zK (zIH W S g b z r k home) S (stC d cv sv ⟨g,b,z,r,k⟩ home root keys il dead) t:=by
 have:=(((((h.set 3 (.int .u64 (g:Int))).set 4 (.int .i64 (b:Int))).set 5 (.int .i64 (z:Int))).set 6 (.int .i64 (r:Int))).set 7 (.int .i64 (k:Int))).set 8 (.int .i64 home);simpa[stC,zIH] using this
section
variable {P P' F F':NP}{ad:Nat->Addr}{w w':World}{d:Nat}{D:zT}
theorem zLv(hL:yE F ad w)(h:DkS w P d D)(ho:D.off=false)(s:jM)(hs0:zBB (D.look 0) 0=some s)(hs1:zBB (D.look 1) 1=some s)(hb:s.blocks=D.blocks)(hz:s.size=D.size)(hl0:(D.look 0).length=D.size)(hl1:(D.look 1).length=D.size)
  (S:Nat) (hPS:¬ P S) (hFS:F S) (cv sv il:Value) (s0:jM) (h0 root keys:Int) (dead:Bool) (hB:zK w S (stC d cv sv s0 h0 root keys il dead) 149) :
  Calls Tryz.prog 91 #[.pointer (some ⟨S,0,none⟩)] w λe w'=>e=.returned .nilIface/\zK w' S (stC d cv sv s 0 root keys il dead) 149 /\ zA (λj=>j=S) w w':=by
 obtain⟨q1,q2,q3,q4,q5,q6⟩:=h.lim;have HL:Hid (∀w',zA F w w'->yE F ad w'):=oh (λw' k=>hL.mods k);have HFS:=oh hFS;have HBT:=oh (zOJ hL h ho 0 1 (by omega) (by omega));have hf:∀{g:Nat},w.heap.size<g->¬ F g:=λhg f=>by have:=hL.lt _ f;omega
 have HROW:Hid (∀{W:World} {v:Value} {l:List UInt8},l.length=D.size->zAI w.heap.size D.size W v l->Sl F W 1 zO v l):=oh (λhlen ⟨g,h1,h2,h3⟩=>by rw[h1];exact zFU h3 hlen (hf h2) (by omega));clear hf;have HCH:Hid (∀W,zA F w W->∀av bv,zAI w.heap.size D.size W av (D.look 0)->zAI w.heap.size D.size W bv (D.look 1) -> Calls Tryz.prog 148 #[av,bv] W λe w'=>∃ev,e=.returned (.tuple #[zAK s,.int .i64 0,ev])/\zCa F ad w' ev none/\zG W w'):=oh (λW m av bv ha hbv=>by
  obtain⟨g,b,z,r,k⟩:=s;exact zHL (HL.out W m) av bv _ _ (HROW.out hl0 ha) (HROW.out hl1 hbv) (by omega) (by omega) (by omega) (by omega) (λe=>by rw[hs0] at e;cases e) (λe=>by rw[hs1] at e;cases e) hs0 hs1 (uJ _))
 have HOP:Hid (∀W,zA F w W->∀bv,zAI w.heap.size D.size W bv (D.look 1) -> Calls Tryz.prog 149 #[bv,.int .i64 1] W λe w'=>e=.returned (.tuple #[zAK s,.nilIface])/\zG W w'):=oh (λW m bv hb=>by
  refine (zES (HL.out W m) bv _ (HROW.out hl1 hb) (by omega) (by omega) 1 (by omega) (λe=>by rw[hs1] at e;cases e)).mono ?_;rintro e w' ⟨ev,h1,h2,h3⟩;rw[hs1] at h1 h2;cases h2
  exact⟨h1,h3⟩)
 have HGE:Hid (∀W,DkS W P d D -> Calls Tryz.prog 90 #[.pointer (some ⟨d,0,none⟩)] W λe w'=>e=.returned (.agg #[.int .i64 (D.blocks:Int),.int .i64 (D.size:Int)])/\zG W w'):=oh (λW m=>m.geo);have HD:=oh h;have HSV:Hid (zAK s=.agg #[.int .u64 (s.gen:Int),.int .i64 (D.blocks:Int),.int .i64 (D.size:Int),.int .i64 (s.root:Int),.int .i64 (s.keys:Int)]):=oh (by rw[zAK,hb,hz]);have HS5:Hid (s=⟨s.gen,D.blocks,D.size,s.root,s.keys⟩):=oh (by rw[<- hb,<- hz]);obtain⟨DB,hDB⟩:∃n,n=D.blocks:=⟨_,rfl⟩;obtain⟨DZ,hDZ⟩:∃n,n=D.size:=⟨_,rfl⟩;rw[<- hDB,<- hDZ] at HSV HS5 HGE;rw[<- hDZ] at HBT HROW HCH HOP;clear hDB hDZ;obtain⟨g,hgg⟩:∃g,g=s.gen:=⟨_,rfl⟩;obtain⟨r,hr⟩:∃g,g=s.root:=⟨_,rfl⟩;obtain⟨k,hk⟩:∃g,g=s.keys:=⟨_,rfl⟩;rw[<- hgg,<- hr,<- hk] at HSV HS5;have hS:=hB.lt;have c0:=hB.d 0 (.pointer (some ⟨d,0,none⟩)) rfl;have HB:=oh hB;have HPS:=oh hPS;clear hgg hr hk hFS hL h ho hs0 hs1 hb hz hl0 hl1 hB hPS q1 q2 q3 q4 q5 q6
 go_enter Tryz.func91, Tryz.ntmps91
 go_wp2_with fail;refine HBT.out.mono ?_;rintro e w1 ⟨v0,v1,rfl,hv0,hv1,m1⟩;obtain⟨a0,rfl, -, -⟩:=_root_.id hv0;obtain⟨a1,rfl, -, -⟩:=_root_.id hv1;have HV0:=oh hv0;have HV1:=oh hv1;simp only[zAd] at HV0 HV1 ⊢;have HM1:=oh m1;have HB1:=oh (HB.out.ext m1);have hz1:S<w1.heap.size:=HB1.out.lt;clear m1 c0 hv0 hv1;go_upto_if 16 with fail
 obtain⟨W2,hW2⟩:∃W,W=w1.alloc (.cells #[.slice (some ⟨a0,0,none⟩) DZ DZ,.slice (some ⟨a1,0,none⟩) DZ DZ] 239):=⟨_,rfl⟩;have m2:zG w1 W2:=by rw[hW2];exact (zss w1).alloc _
 have hY2:zK W2 w1.heap.size #[.slice (some ⟨a0,0,none⟩) DZ DZ,.slice (some ⟨a1,0,none⟩) DZ DZ] 239:=by rw[hW2];exact zK.new w1 _ _
 obtain⟨Y,hY⟩:∃Y,Y=w1.heap.size:=⟨_,rfl⟩;rw[<- hY] at hY2 hz1;rw[<- hW2,<- hY];have HM2:=oh (HM1.out.trans m2);have HB2:=oh (HB1.out.ext m2);have HV02:=oh (zAI.mods HV0.out m2 (λ_ _ _ f=>f));have HV12:=oh (zAI.mods HV1.out m2 (λ_ _ _ f=>f));have HY2:=oh hY2;have y0:=hY2.k 0 rfl;have y1:=hY2.k 1 rfl;clear m2 hY2 hW2 hY HM1 HB1 HV0 HV1;go_wp2_with fail;refine (HCH.out _ HM2.out.ext _ _ HV02.out HV12.out).mono ?_;rintro e w3 ⟨ev,rfl,hE,m3⟩;cases hE
 rw[HSV.out];have HM3:=oh (HM2.out.trans m3);have hB3:=HB2.out.ext m3;have HB3:=oh hB3;have HV03:=oh (zAI.mods HV02.out m3 (λ_ _ _ f=>f));have HV13:=oh (zAI.mods HV12.out m3 (λ_ _ _ f=>f));have HY3:=oh (HY2.out.ext m3);have s3:=hB3.k 3 rfl;have s4:=hB3.k 4 rfl;have s5:=hB3.k 5 rfl;have s6:=hB3.k 6 rfl;have s7:=hB3.k 7 rfl;have s8:=hB3.k 8 rfl;have sf:=hB3.frozen;clear m3 hB3 y0 y1 HM2 HB2 HV02 HV12 HY2;go_upto_if 34 with fail
 obtain⟨W4,hW4⟩:∃W,W=zIH w3 S g DB DZ r k 0:=⟨_,rfl⟩;have m4:zA (λj=>j=S) w3 W4:=by rw[hW4];exact zLu
 have hB4:zK W4 S (stC d cv sv ⟨g,DB,DZ,r,k⟩ 0 root keys il dead) 149:=by rw[hW4];exact zNS HB3.out _ _ _ _ _ _
 unfold zIH at hW4;rw[<- hW4];have hSY:Y≠S:=by omega
 have HM4:Hid (zA (λj=>j=S) w W4):=oh (HM3.out.ext.trans m4);have HB4:=oh hB4;have HD4:=oh ((HD.out.at HM3.out).far m4 (λj hj h=>HPS.out (h ▸ hj)));have HV14:=oh (zAI.mods HV13.out m4 (λj hj _ h=>by omega));have HY4:=oh (HY3.out.mods m4 hSY);clear m4 hB4 hW4 s3 s4 s5 s6 s7 s8 sf HM3 HB3 HV03 HV13 HY3;have HSX:=oh (λW (m:zG W4 W)=>(⟨(HB4.out.ext m).cell rfl,(HB4.out.ext m).cell rfl,(HB4.out.ext m).cell rfl⟩:W.cell? ⟨S,0,none⟩=some (.pointer (some ⟨d,0,none⟩))/\W.cell? ⟨S,4,none⟩=some (.int .i64 (DB:Int))/\W.cell? ⟨S,5,none⟩=some (.int .i64 (DZ:Int))));have zd:=HSX.out _ (zss W4).drew;have eqg:∀(a b c d:Int) (w:World),(Op.equalIn 10000 39 (.agg #[.int .i64 a,.int .i64 b]) (.agg #[.int .i64 c,.int .i64 d])).run Tryz.prog w=.ok (decide (a=c) && decide (b=d)) w:=λa b c d w=>Tryz.eqGeo 9998 a b c d w
 go_wp2_with fail;go_region_held3 (λw'=>w'.cell? ⟨S,0,none⟩=some (.pointer (some ⟨d,0,none⟩))/\w'.cell? ⟨S,4,none⟩=some (.int .i64 (DB:Int))/\w'.cell? ⟨S,5,none⟩=some (.int .i64 (DZ:Int)))
  (first|(with_reducible exact zd)|(with_reducible exact z5)|fail)
  (first
   | (go_at_call 90;(with_reducible refine (HGE.out _ (HD4.out.at (zss W4).drew)).mono ?_);rintro e w5 ⟨rfl,m5⟩;have xw5:=(zss W4).drew.trans m5;have z5:=HSX.out _ xw5)
   | fail)
 have HX5:=oh xw5;have HB5:=oh (HB4.out.ext xw5);have HV15:=oh (zAI.mods HV14.out xw5 (λ_ _ _ f=>f));have HY5:=oh (HY4.out.ext xw5);have HM5:Hid (zA (λj=>j=S) w w5):=oh (HM4.out.trans xw5.ext);clear zd z5 xw5 m5;have hM5F:zA F w w5:=HM5.out.mono (λj h=>by have h':j=S:=h;rw[h'];exact HFS.out);have HOP2:=oh (λW (m:zG w5 W)=>HOP.out W (hM5F.trans m.ext) _ (zAI.mods HV15.out m (λ_ _ _ f=>f)));have HSX2:=oh (λW (m:zG w5 W)=>(⟨(HB5.out.ext m).cell rfl,(HY5.out.ext m).cell rfl,(HY5.out.ext m).cell rfl⟩:W.cell? ⟨S,8,none⟩=some (.int .i64 0)/\W.cell? ⟨Y,0,none⟩=some (.slice (some ⟨a0,0,none⟩) DZ DZ)/\W.cell? ⟨Y,1,none⟩=some (.slice (some ⟨a1,0,none⟩) DZ DZ)));have zd:=HSX2.out _ (zss w5).drew;have za:=HSX2.out _ ((zss w5).alloc (.cells #[.int .u64 0,.int .i64 0,.int .i64 0,.int .i64 0,.int .i64 0] 93)).drew;have n1:S≠w5.heap.size:=λe=>by have:=HB5.out.lt;omega
 have n2:Y≠w5.heap.size:=λe=>by have:=HY5.out.lt;omega
 have wa:IntKind.i64.wrap (1-0)=1:=by decide
 have wb:IntKind.i64.wrap 1=1:=by decide
 clear hM5F;go_wp2_with fail;go_region_held3 (λw'=>w'.cell? ⟨S,8,none⟩=some (.int .i64 0)/\w'.cell? ⟨Y,0,none⟩=some (.slice (some ⟨a0,0,none⟩) DZ DZ)/\w'.cell? ⟨Y,1,none⟩=some (.slice (some ⟨a1,0,none⟩) DZ DZ))
  (first|(with_reducible exact zd)|(with_reducible exact z5)|(with_reducible exact z7)|(with_reducible exact z6)|(with_reducible exact za)|fail)
  (first
   | (go_at_call 149;((with_reducible refine (HOP2.out _ (zss w5).drew).mono ?_);rintro e w6 ⟨rfl,m6⟩;rw[HSV.out];have x6:=(zss w5).drew.trans m6;have z5:=HSX2.out _ x6;have z7:=HSX2.out _ (x6.alloc (.cells #[.int .u64 0,.int .i64 0,.int .i64 0,.int .i64 0,.int .i64 0] 93));have hB:zK (w6.alloc (.cells #[.int .u64 0,.int .i64 0,.int .i64 0,.int .i64 0,.int .i64 0] 93)) w6.heap.size #[.int .u64 0,.int .i64 0,.int .i64 0,.int .i64 0,.int .i64 0] 93:=zK.new w6 _ _;have b0:=hB.d 0 (.int .u64 0) rfl;have b1:=hB.d 1 (.int .i64 0) rfl;have b2:=hB.d 2 (.int .i64 0) rfl;have b3:=hB.d 3 (.int .i64 0) rfl;have b4:=hB.d 4 (.int .i64 0) rfl;have bf:=hB.frozen;have lo:w5.heap.size<=w6.heap.size:=x6.size;have z6:=HSX2.out _ (x6.alloc (.cells #[.int .u64 (g:Int),.int .i64 (DB:Int),.int .i64 (DZ:Int),.int .i64 (r:Int),.int .i64 (k:Int)] 93));have HP3:∃X3 w3,X3=w6.heap.size/\w3=w6.alloc (.cells #[.int .u64 (g:Int),.int .i64 (DB:Int),.int .i64 (DZ:Int),.int .i64 (r:Int),.int .i64 (k:Int)] 93)/\zK w3 X3 #[.int .u64 (g:Int),.int .i64 (DB:Int),.int .i64 (DZ:Int),.int .i64 (r:Int),.int .i64 (k:Int)] 93 /\ zG w5 w3:=⟨_,_,rfl,rfl,zK.new w6 _ _,x6.alloc _⟩))
   | (go_at_call 149;((with_reducible refine (HOP2.out _ ((zss w5).alloc (.cells #[.int .u64 0,.int .i64 0,.int .i64 0,.int .i64 0,.int .i64 0] 93)).drew).mono ?_);rintro e w6 ⟨rfl,m6⟩;rw[HSV.out];have x6:=((zss w5).alloc (.cells #[.int .u64 0,.int .i64 0,.int .i64 0,.int .i64 0,.int .i64 0] 93)).drew.trans m6;have z5:=HSX2.out _ x6;have z7:=z5;have hB:zK w6 w5.heap.size #[.int .u64 0,.int .i64 0,.int .i64 0,.int .i64 0,.int .i64 0] 93:=zK.ext (w:=(w5.alloc (.cells #[.int .u64 0,.int .i64 0,.int .i64 0,.int .i64 0,.int .i64 0] 93)).drew) (zK.new w5 _ _) m6;have b0:=hB.d 0 (.int .u64 0) rfl;have b1:=hB.d 1 (.int .i64 0) rfl;have b2:=hB.d 2 (.int .i64 0) rfl;have b3:=hB.d 3 (.int .i64 0) rfl;have b4:=hB.d 4 (.int .i64 0) rfl;have bf:=hB.frozen;have lo:w5.heap.size<=w5.heap.size:=uJ _;have z6:=HSX2.out _ (zA.set5 (F:=λ_=>False) x6 (R:=w5.heap.size) (.inl lo) (.int .u64 (g:Int)) (.int .i64 (DB:Int)) (.int .i64 (DZ:Int)) (.int .i64 (r:Int)) (.int .i64 (k:Int)));have HP3:∃X3 w3,X3=w5.heap.size/\w3=(((((w6.setCell ⟨w5.heap.size,0,none⟩ (.int .u64 (g:Int))).setCell ⟨w5.heap.size,1,none⟩ (.int .i64 (DB:Int))).setCell ⟨w5.heap.size,2,none⟩ (.int .i64 (DZ:Int))).setCell ⟨w5.heap.size,3,none⟩ (.int .i64 (r:Int))).setCell ⟨w5.heap.size,4,none⟩ (.int .i64 (k:Int)))/\zK w3 X3 #[.int .u64 (g:Int),.int .i64 (DB:Int),.int .i64 (DZ:Int),.int .i64 (r:Int),.int .i64 (k:Int)] 93 /\ zG w5 w3:=⟨_,_,rfl,rfl,zK.set5 hB (.int .u64 (g:Int)) (.int .i64 (DB:Int)) (.int .i64 (DZ:Int)) (.int .i64 (r:Int)) (.int .i64 (k:Int)),zA.set5 (F:=λ_=>False) x6 (R:=w5.heap.size) (.inl lo) (.int .u64 (g:Int)) (.int .i64 (DB:Int)) (.int .i64 (DZ:Int)) (.int .i64 (r:Int)) (.int .i64 (k:Int))⟩))
   | fail)
 all_goals
  obtain⟨X3,w3,hX3,hw3,hC,hM3⟩:=HP3;rw[<- hw3,<- hX3];have HB6:=oh (HB5.out.ext hM3);have HM6:Hid (zA (λj=>j=S) w w3):=oh (HM5.out.trans hM3.ext);have x0:=hC.k 0 rfl;have x1:=hC.k 1 rfl;have x2:=hC.k 2 rfl;have x3:=hC.k 3 rfl;have x4:=hC.k 4 rfl;have s3:=HB6.out.k 3 rfl;have s4:=HB6.out.k 4 rfl;have s5:=HB6.out.k 5 rfl;have s6:=HB6.out.k 6 rfl;have s7:=HB6.out.k 7 rfl;have eqs:∀(w:World),(Op.equalIn 10000 93 (.agg #[.int .u64 (g:Int),.int .i64 (DB:Int),.int .i64 (DZ:Int),.int .i64 (r:Int),.int .i64 (k:Int)]) (.agg #[.int .u64 (g:Int),.int .i64 (DB:Int),.int .i64 (DZ:Int),.int .i64 (r:Int),.int .i64 (k:Int)])).run Tryz.prog w=.ok true w:=λw=>Tryz.eqSuper 9997 _ _ _ _ _ w
  clear hw3 hX3 hC hM3 zd za z5 z7 z6 x6 m6 hB b0 b1 b2 b3 b4 bf lo n1 n2;go_wp2_with fail;go_quiet (fail)
  go_wp2_with fail;go_ret;exact⟨rfl,by rw[HS5.out];exact HB6.out.ext ((zss w3).drewN nq),HM6.out.drewN nq⟩
end
end
end Go.Proofs.YtgphfebjjedeaaaGreatDoor
