import Derived.Test.YtalpfcaakpgkmaaGreatDoorR14
import Derived.Test.YtalpfcaakpgkmaaGreatDoorR22
import Derived.Laws.StructEq
import Derived.BigQuiet
namespace Go.Proofs.YtalpfcaakpgkmaaGreatDoor
open Lib renaming hid->oh
set_option maxHeartbeats 8000000
set_option maxRecDepth 100000
section
open Go.RowKit
attribute [local go_sem ↓] Go.wp_at_zero Go.wp_at_succ
section
variable {P P' F F':NP}{ad:Nat->Addr}{w w':World}{d:Nat}{D:zJ}
theorem DkS.off(h:DkS w P d D) : Calls Tryz.prog 91 #[.pointer (some ⟨d,0,none⟩)] w λe w'=>e=.returned (.bool D.off)/\w=w':=by
 obtain⟨bl,gs,ws,wv,kv,h1,h2⟩:=h;have c:=h1.offC;clear h1 h2
 go_enter Tryz.func91, Tryz.ntmps91
 go_wp2_with fail;go_ret;exact⟨rfl,rfl⟩
theorem zFV(h:DkS w P d D)(ho:D.off=false)(op:ByteArray)(q:Nat)(h3:3<=q)(Ez:q<=64) :
  Calls Tryz.prog 44 #[.string op,.pointer (some ⟨d,0,none⟩),.int .i64 (q:Int)] w λe w'=>e=.returned .nilIface/\w=w':=by
 have HO:=oh h.off;rw[ho] at HO;have e1:decide ((q:Int)<3)=false:=by simp;omega
 have e2:decide (64<(q:Int))=false:=by simp;omega
 clear h ho
 go_enter Tryz.func44, Tryz.ntmps44
 go_wp2_with fail;refine HO.out.mono ?_;rintro e w1 ⟨rfl,rfl⟩;go_wp2_with fail;go_ret;exact⟨rfl,rfl⟩
theorem DkS.flush(hL:yH F ad w)(hP:∀k,P k->F k)(h:DkS w P d D)(ho:D.off=false)(hl:D.lit=false) :
  Calls Tryz.prog 64 #[.pointer (some ⟨d,0,none⟩)] w λe w'=>∃P' F',e=.returned .nilIface/\DkS w' P' d D.flushed/\zX P P' F F' ad w w':=by
 obtain⟨bl,gs,ws,wv,kv,h1,h2⟩:=h;exact zMu hL hP h1 h2 ho hl
def zQd(F P:NP)(ad:Nat->Addr)(d:Nat)(w:World)(D':zJ)(e:Ending)(w':World):Prop :=
 ∃P' F',e=.returned .nilIface/\DkS w' P' d D'/\zX P P' F F' ad w w'
theorem zDr(hL:yH F ad w)(hP:∀k,P k->F k)(h:DkS w P d D)(hw:zCs D)(A9:D.waiting.length<1000000)(s:yG)(hs:zBe s=true)(hg:s.gen<18446744073709551616)(hz:s.size=D.size)(i:Nat)(hi:i<2)(hb:8<=D.blocks) :
  Calls Tryz.prog 84 #[.pointer (some ⟨d,0,none⟩),yL s,.int .i64 (i:Int)] w (zQd F P ad d w ((D.wrote i (yK s i)).flushed)):=by
 have m0:zF w (w.alloc (.cells #[.int .u64 (s.gen:Int),.int .i64 (s.blocks:Int),.int .i64 (s.size:Int),.int .i64 (s.root:Int),.int .i64 (s.keys:Int)] 55)):=(zss w).alloc _;have A8:=oh m0;have HL:=oh (λW (m:zF w W)=>hL.mods m.ext);have E5:=oh (λW (m:zF w W)=>h.at m);have HN:=oh (λW (m:zF w W)=>zX.ext hL hP m);have HP:=oh hP;have Ap:=oh (zMm (hL.mods m0.ext) s hs hg i hi);have Ai:Hid (yL s=.agg #[.int .u64 (s.gen:Int),.int .i64 (s.blocks:Int),.int .i64 (s.size:Int),.int .i64 (s.root:Int),.int .i64 (s.keys:Int)]):=oh rfl;have A0:(yK s i).length=D.size:=by rw[zAh hs i,hz]
 have A5:=oh A0;have HW:=oh hw;have Aj:=oh A9;have HI:=oh (show i<D.blocks by omega);have Bp:=oh h.lim;rw[Ai.out] at Ap ⊢;clear h hw hL hP hs hg hz hi m0 A0 A9 hb
 go_enter Tryz.func84, Tryz.ntmps84
 go_wp2_with fail;refine Ap.out.mono ?_;rintro e w1 ⟨a1,c1,rfl,Cp,m1⟩;have A3:=oh (A8.out.trans m1);have E6:=oh (Cp.sl (λ_=>rfl) (by rw[A5.out];have:=Bp.out;omega));clear Cp m1;go_wp2_with fail;refine (DkS.write (HL.out _ A3.out) HP.out (E5.out _ A3.out) i HI.out HW.out.off HW.out.lit _ _ E6.out A5.out Aj.out).mono ?_;rintro e w2 ⟨P2,F2,rfl,h2,n2⟩;have H2:=oh h2;have N2:=oh ((HN.out _ A3.out).trans n2);clear h2 n2;go_wp2_with fail;refine (DkS.flush N2.out.env N2.out.sub H2.out HW.out.off HW.out.lit).mono ?_;rintro e w3 ⟨P3,F3,rfl,h3,n3⟩;have H3:=oh h3;have N3:=oh (N2.out.trans n3);clear h3 n3;go_wp2_with fail;go_ret;exact⟨P3,F3,rfl,H3.out,N3.out⟩
end
theorem zIR{F:NP}{ad:Nat->Addr}{w:World}(hL:yH F ad w)(m:qW)(hm:zA6 m=true)(hg:m.gen<18446744073709551616)(i z:Nat)(hi:zAw m.gen i=true)(h1:256<=z)(h2:z<=1024)(bv:Value)(hb:Sl F w 1 zZ bv (yO m i z)) :
  Calls Tryz.prog 154 #[bv,.int .i64 (i:Int),.int .u64 (m.gen:Int),.int .i64 (m.blocks:Int)] w λe w'=>∃uv,e=.returned (.tuple #[zDU m uv,.nilIface])/\yC (λ_=>False) w' w.heap.size 3 1 yI uv (yF m)/\(yF m).length<=256/\zF w w':=by
 obtain⟨o1,o2,o3,o4,o5,o6⟩:=(vV m).1 hm;have E7:i<6:=by
  unfold zAw at hi;simp only[pA,uO] at hi;unfold place at hi;omega
 have A0:(yO m i z).length=z:=zAL hm i h1;have Cq:=zEh hm E7 h1 h2;have Bq:zV (yO m i z) (i:Int)=.inl (zBy m i):=zCX (p:=zBy m i) (size:=z) Cq hg;have HB:Hid (∀w',zF w w'->Sl F w' 1 zZ bv (yO m i z)):=oh (λw' k=>hb.ext k);have HL:Hid (∀w',zF w w'->yH F ad w'):=oh (λw' k=>hL.mods k.ext);have z5 : 2 < w.heap.size:=uF (by decide) hL.size;have G5:Hid (∀w',zF w w'->w'.cell? ⟨2,0,none⟩=some (.iface 448 (.pointer (some (ad 5))))):=oh (λw' m=>(hL.mods m.ext).c5);have Aw:Hid (∀w',zF w w' -> Calls Tryz.prog 160 #[bv,.int .i64 (i:Int)] w' λe w''=>∃pv,e=.returned (.tuple #[qC (zBy m i) pv,.nilIface])/\Sl F w'' 1 zZ pv (qX m)/\zF w' w''):=oh (λw' k=>by
  refine (zDL (HL.out w' k) bv _ (HB.out w' k) (by rw[A0];exact h1) (by rw[A0];exact h2) (i:Int)).mono ?_;rintro e w'' ⟨hk,⟨p,pv,h3,h4,h5⟩|⟨pg,kk,f,h3,_⟩⟩
  .rw[Bq] at h3;cases h3
   exact⟨pv,h4,h5,hk⟩
  .rw[Bq] at h3;cases h3)
 have Cr:=zBQ m;have E8:qK (qX m) 0 4=m.blocks:=by
  have:qX m=[]++(yD 4 m.blocks++(yD 4 m.used.length++zCw m.blocks m.used)):=by simp[qX]
  rw[this,zAo [] _ 4 m.blocks 0 rfl (by have:(256:Nat) ^ 4=4294967296:=(by decide);omega)]
 have E9:Hid (∀w',zF w w'->∀pv,Sl F w' 1 zZ pv (qX m) -> Calls Tryz.prog 239 #[qC (zBy m i) pv] w' λe w''=>∃uv,e=.returned (zDU m uv)/\yC (λ_=>False) w'' w'.heap.size 3 1 yI uv (yF m)/\(yF m).length<=256/\zF w' w''):=oh (λw' k pv hs=>by
  have:=zLf (HL.out w' k) (zBy m i) pv hs (by show 4<=(qX m).length;omega) (by show qK (qX m) 0 4<=256;omega) (by show (qX m).length<=100000;omega) hg;rw[zP2 hm i] at this;exact this)
 have Ap:Hid (∀w',zF w w'->∀uv,Sl F w' 1 yI uv (yF m) -> Calls Tryz.prog 119 #[zDU m uv,.int .i64 (i:Int),.int .i64 (z:Int)] w' λe w''=>∃a c,e=.returned (.tuple #[.slice a z c,.nilIface])/\Sl F w'' 1 zZ (.slice a z c) (yO m i z)/\zF w' w''):=oh (λw' k uv hs=>(zIG (HL.out w' k) m hm hg uv hs i z hi h1 h2).mono (λe w'' ⟨a,c,g1,g2,g3⟩=>⟨a,c,g1,g2.sl (λ_=>rfl) (by rw[A0];omega),g3⟩));have Cs:Hid (∀w',Calls Tryz.prog 201 #[.int .u64 (m.gen:Int),.int .i64 (i:Int)] w' λe w''=>e=.returned (.bool true)/\zF w' w''):=oh (λw'=>(zN2 m.gen hg i (by omega) w').mono (λe w'' h=>⟨by rw[h.1,hi],h.2⟩));have Ct:Hid (∀w',zF w w'->∀v,Sl F w' 1 zZ v (yO m i z) -> Calls Tryz.prog 240 #[v,bv] w' λe w''=>e=.returned (.bool true)/\zF w' w''):=oh (λw' k v hs=>(zDJ v bv _ _ hs (HB.out w' k)).mono (λe w'' h=>⟨by rw[h.1];simp,h.2⟩));have Br:Hid (∀v,qC (zBy m i) v=.agg #[.int .i64 5,.int .i64 (i:Int),.int .u64 (m.gen:Int),v]):=oh (λ_=>rfl);have Af:Hid (∀v,zDU m v=.agg #[.int .u64 (m.gen:Int),.int .i64 (m.blocks:Int),v]):=oh (λ_=>rfl);have G0:=oh Cr;obtain⟨ba,bc,rfl, -⟩:=hb;obtain⟨bl,Cu⟩:∃n,n=(yO m i z).length:=⟨_,rfl⟩;rw[<- Cu] at HB Aw Ct A0 ⊢;obtain⟨g,Aa⟩:∃g,g=m.gen:=⟨_,rfl⟩;obtain⟨b,Aq⟩:∃b,b=m.blocks:=⟨_,rfl⟩;rw[<- Aa,<- Aq] at Af ⊢;rw[<- Aa] at Br Cs hg;rw[<- Aq] at o1 o2;clear hL hm hi o3 o4 o5 o6 Cq Bq Cr E8 Cu Aa Aq;obtain rfl:bl=z:=A0;obtain⟨W0,A1⟩:∃W0,W0=w.alloc (.cells #[.int .u64 0,.int .i64 0,.slice none 0 0] 133):=⟨_,rfl⟩;have A6:zF w W0:=by rw[A1];exact (zss w).alloc _
 have Ab:zG W0 w.heap.size #[.int .u64 0,.int .i64 0,.slice none 0 0] 133:=by rw[A1];exact zG.new w _ _
 have A8:=oh A6;have Ax:=oh Ab;have G1:=Ab.lt;have g5:=G5.out _ (zss w);have Ea:max (i:Int) (-1)=(i:Int):=by omega
 clear A6 Ab
 go_enter Tryz.func154, Tryz.ntmps154
 go_wp2_with fail;rw[<- A1];refine (zAF (HL.out _ A8.out) _ _ _ _ 5 (.sent 5 (by decide) (by decide))).mono ?_;rintro e w1 ⟨f1,rfl, -,m1⟩;have A3:=oh (A8.out.trans m1);have Cv:=oh (Ax.out.ext m1);clear m1 g5 A1;go_wp2_with fail;refine (Aw.out _ A3.out).mono ?_;rintro e w2 ⟨pv,rfl,Bs,m2⟩;obtain⟨pa,pc,rfl, -⟩:=_root_.id Bs;have Bt:=oh Bs;have Ar:=oh (A3.out.trans m2);have Bu:=oh (Cv.out.ext m2);obtain⟨N,hN⟩:∃N,N=(qX m).length:=⟨_,rfl⟩;rw[<- hN] at Bt ⊢;have Eb:w.heap.size<w2.heap.size:=Bu.out.lt;clear m2 Bs hN;rw[Br.out];go_upto_if 26 with fail
 obtain⟨W3,Be⟩:∃W,W=w2.alloc (.cells #[.int .i64 5,.int .i64 (i:Int),.int .u64 (g:Int),.slice pa N pc] 221):=⟨_,rfl⟩;have m3:zF w2 W3:=by rw[Be];exact (zss w2).alloc _
 have Bv:zG W3 w2.heap.size #[.int .i64 5,.int .i64 (i:Int),.int .u64 (g:Int),.slice pa N pc] 221:=by rw[Be];exact zG.new w2 _ _
 obtain⟨X,hX⟩:∃X,X=w2.heap.size:=⟨_,rfl⟩;rw[<- hX] at Bv Eb;rw[<- Be,<- hX];have Ay:=oh Bv;have Cw:=oh (Bt.out.ext m3);have As:=oh (Ar.out.trans m3);have Cx:=oh (Bu.out.ext m3);clear m3 Bv Be hX Bu Ar Bt Cv A3 Ax A8;go_wp2_with fail;refine (Cs.out _).mono ?_;rintro e w4 ⟨rfl,m4⟩;have Ak:=oh (Ay.out.ext m4);have Cy:=oh (Cw.out.ext m4);have At:=oh (As.out.trans m4);have Cz:=oh (Cx.out.ext m4);have p0:=Ak.out.k 0 rfl;have p1:=Ak.out.k 1 rfl;have p2:=Ak.out.k 2 rfl;have p3:=Ak.out.k 3 rfl;clear m4 Ay Cw As Cx;go_wp2_with fail;rw[<- Br.out];refine (E9.out _ At.out _ Cy.out).mono ?_;rintro e w5 ⟨uv,rfl,Bf,Ag,m5⟩;rw[Af.out];have Bw:∀j,uv.ownBlock=some j->w.heap.size<j:=λj hj=>by have:=(Bf.lt j hj).1;have:=Ak.out.lt;omega
 have Bx:Sl F w5 1 yI uv (yF m):=(Bf.blocks (G:=F) (λj hj f=>by have:=Bw j hj;have:=(HL.out _ zr).lt j f;omega)).sl (λ_=>rfl) (by omega);have D0:=oh Bf;have Ec:=oh At.out.size;have By:=oh Ag;have D1:=oh Bw;have Ed:X<w5.heap.size:=by have:=Ak.out.lt;have:=m5.size;omega
 clear Bf Ag Bw;obtain⟨ua,uc,rfl, -⟩:=_root_.id Bx;obtain⟨U,hU⟩:∃U,U=(yF m).length:=⟨_,rfl⟩;have Bz:=oh Bx;rw[<- hU] at Bz D0 D1 ⊢;have Az:=oh (At.out.trans m5);have D2:=oh (Cz.out.ext m5);have A4:=oh (Af.out (.slice ua U uc));clear m5 Bx hU p0 p1 p2 p3 Ak Cy At Cz;go_wp2_with fail;obtain⟨W6,Bg⟩:∃W,W=w5.alloc (.cells #[.int .u64 (g:Int),.int .i64 (b:Int),.slice ua U uc] 133):=⟨_,rfl⟩;have m6:zF w5 W6:=by rw[Bg];exact (zss w5).alloc _
 have C0:zG W6 w5.heap.size #[.int .u64 (g:Int),.int .i64 (b:Int),.slice ua U uc] 133:=by rw[Bg];exact zG.new w5 _ _
 obtain⟨Y,hY⟩:∃Y,Y=w5.heap.size:=⟨_,rfl⟩;rw[<- hY] at C0 Ed;rw[<- Bg,<- hY,<- A4.out];have D3:=oh C0;have B0:=oh (Bz.out.ext m6);have Ee:=oh (D0.out.ext m6);have B1:=oh (Az.out.trans m6);have D4:=oh (D2.out.ext m6);clear m6 C0 Bg hY Bz Az D2;refine (Ap.out _ B1.out _ B0.out).mono ?_;rintro e w7 ⟨a7,c7,rfl,D5,m7⟩;have C1:=oh (D3.out.ext m7);have D6:=oh (B0.out.ext m7);have Ef:=oh (Ee.out.ext m7);have C2:=oh (B1.out.trans m7);have D7:=oh (D4.out.ext m7);have D8:=oh D5;have y1:=C1.out.k 1 rfl;clear m7 D5 D3 B0 B1 D4;go_wp2_with fail;refine (Ct.out _ C2.out _ D8.out).mono ?_;rintro e w8 ⟨rfl,m8⟩;have C3:=oh (C1.out.ext m8);have G2:=oh (D6.out.ext m8);have Eg:=oh (Ef.out.ext m8);have Eh:=oh (C2.out.trans m8);have B2:=oh (D7.out.ext m8);have y0:=C3.out.k 0 rfl;have y1:=C3.out.k 1 rfl;have y2:=C3.out.k 2 rfl;have r0:=B2.out.k 0 rfl;have r1:=B2.out.k 1 rfl;have r2:=B2.out.k 2 rfl;have rf:=B2.out.frozen;clear m8 C1 D6 C2 D7 D8;go_wp2_with fail;have C4:Hid (zG (((w8.setCell ⟨w.heap.size,0,none⟩ (.int .u64 (g:Int))).setCell ⟨w.heap.size,1,none⟩ (.int .i64 (b:Int))).setCell ⟨w.heap.size,2,none⟩ (.slice ua U uc)) w.heap.size #[.int .u64 (g:Int),.int .i64 (b:Int),.slice ua U uc] 133):=oh (by simpa using ((B2.out.set 0 (.int .u64 (g:Int))).set 1 (.int .i64 (b:Int))).set 2 (.slice ua U uc));have Au:Hid (zA (λj=>j=w.heap.size) w8 (((w8.setCell ⟨w.heap.size,0,none⟩ (.int .u64 (g:Int))).setCell ⟨w.heap.size,1,none⟩ (.int .i64 (b:Int))).setCell ⟨w.heap.size,2,none⟩ (.slice ua U uc))):=oh (zA.setCell (F:=λj=>j=w.heap.size) (zA.setCell (F:=λj=>j=w.heap.size) (zA.setCell (F:=λj=>j=w.heap.size) (zss w8) (p:=⟨w.heap.size,0,none⟩) (.inr rfl) _) (p:=⟨w.heap.size,1,none⟩) (.inr rfl) _) (p:=⟨w.heap.size,2,none⟩) (.inr rfl) _);refine bodyPost_ret (zC rfl _ _ w.heap.size 133 #[.int .u64 (g:Int),.int .i64 (b:Int),.slice ua U uc] _ rfl C4.out Tryz.underlying133 rfl Tryz.mapSize) rfl ?_;refine⟨.slice ua U uc,by rw[Af.out];rfl,?_,By.out,Eh.out.trans' Au.out (λi hi h=>by have h':i=w.heap.size:=h;omega)⟩;exact (Eg.out.mods Au.out (λj hj h=>by have:=D1.out j hj;omega)).rebase Ec.out
theorem Tryz.idx2_0(a0 a1:Int)(w:World):(Instr.index 181 (.agg #[.int .i64 a0,.int .i64 a1]) (.int .i64 0)).run Tryz.prog w=.ok (.int .i64 a0) w:=by kernel_rfl
theorem Tryz.idx2_1(a0 a1:Int)(w:World):(Instr.index 181 (.agg #[.int .i64 a0,.int .i64 a1]) (.int .i64 1)).run Tryz.prog w=.ok (.int .i64 a1) w:=by kernel_rfl
theorem zSw(a b:Nat)(k:Nat)(hk:k<2)(w:World):(Instr.index 181 (.agg #[.int .i64 (a:Int),.int .i64 (b:Int)]) (.int .i64 (k:Int))).run Tryz.prog w=.ok (.int .i64 ((if k=0 then a else b:Nat):Int)) w:=by
 match k,hk with
 | 0,_=>exact Tryz.idx2_0 _ _ w
 | 1,_=>exact Tryz.idx2_1 _ _ w
theorem Tryz.geoField1(a b:Int)(w:World):(Instr.field 53 (.agg #[.int .i64 a,.int .i64 b]) 1).run Tryz.prog w=.ok (.int .i64 b) w:=by kernel_rfl
theorem Tryz.geoField0(a b:Int)(w:World):(Instr.field 53 (.agg #[.int .i64 a,.int .i64 b]) 0).run Tryz.prog w=.ok (.int .i64 a) w:=by kernel_rfl
def zEG(D:zJ)(m:qW):Nat->zJ
 | 0=>D
 | 1=>D.wrote (place m.gen 0) (yO m (place m.gen 0) D.size)
 | _=>(D.wrote (place m.gen 0) (yO m (place m.gen 0) D.size)).wrote (place m.gen 1) (yO m (place m.gen 1) D.size)
def zEX(m:qW)(k:Nat):Nat:=if k=0 then place m.gen 0 else place m.gen 1
theorem zJr(D:zJ)(m:qW):∀k,k<2->(zEG D m k).wrote (zEX m k) (yO m (zEX m k) D.size)=zEG D m (k+1)
 | 0,_=>rfl
 | 1,_=>rfl
 | k+2,h=>by omega
theorem zE0{D:zJ}(hw:zCs D){m:qW}(hm:zA6 m=true)(hb:8<=D.blocks)(hs:256<=D.size):∀k,k<=2->zCs (zEG D m k)/\(zEG D m k).blocks=D.blocks/\(zEG D m k).size=D.size/\(zEG D m k).waiting.length=D.waiting.length+k
 | 0,_=>⟨hw,rfl,rfl,rfl⟩
 | k+1,hk=>by
  obtain⟨h1,h2,h3,h4⟩:=zE0 hw hm hb hs k (by omega);have hp:zEX m k<6:=by unfold zEX place;split <;> omega
  rw[<- zJr D m k (by omega)];refine⟨h1.wrote (by rw[h2];omega) (by rw[h3,zAL hm _ hs]),h2,h3,?_⟩;show (_++_:List _).length=_;rw[uC,h4];rfl
section
variable {P P' F F':NP}{ad:Nat->Addr}{w w':World}{d:Nat}{D:zJ}
theorem zHF(hL:yH F ad w)(hP:∀k,P k->F k)(h:DkS w P d D)(hw:zCs D)(A9:D.waiting.length<900000)(m:qW)(hm:zA6 m=true)(hg:m.gen<18446744073709551616)(uv:Value)(hu:Sl F w 1 yI uv (yF m))(D9:8<=D.blocks)(h1:256<=D.size)(h2:D.size<=1024) :
  Calls Tryz.prog 83 #[.pointer (some ⟨d,0,none⟩),zDU m uv] w (zQd F P ad d w (zEG D m 2)):=by
 have Aj:=oh A9;have C5:=oh (zE0 hw hm D9 h1);have B3:=oh (zJr D m);have B4:Hid (∀k,k<2->zAw m.gen (zEX m k)=true/\zEX m k<D.blocks):=oh (λk hk=>by
  unfold zEX zAw;refine⟨by split <;> simp,?_⟩;unfold place;split <;> omega)
 have A5:Hid (∀k,(yO m (zEX m k) D.size).length=D.size):=oh (λk=>zAL hm _ h1);have A7:Hid (∀{F1:NP} {w1:World},yH F1 ad w1->Sl F1 w1 1 yI uv (yF m)->∀k,k<2 -> Calls Tryz.prog 119 #[zDU m uv,.int .i64 (zEX m k:Int),.int .i64 (D.size:Int)] w1 λe w'=>∃a c,e=.returned (.tuple #[.slice a D.size c,.nilIface])/\Sl F1 w' 1 zZ (.slice a D.size c) (yO m (zEX m k) D.size)/\zF w1 w'):=oh (λe1 s1 k hk=>(zIG e1 m hm hg uv s1 _ D.size (B4.out k hk).1 h1 h2).mono (λe w' ⟨a,c,g1,g2,g3⟩=>⟨a,c,g1,g2.sl (λ_=>rfl) (by rw[A5.out];omega),g3⟩));have C6:Hid (zC3 m.gen=.agg #[.int .i64 (place m.gen 0:Int),.int .i64 (place m.gen 1:Int)]):=oh rfl;have B5:Hid (∀k:Nat,k<2->∀w,(Instr.index 181 (.agg #[.int .i64 (place m.gen 0:Int),.int .i64 (place m.gen 1:Int)]) (.int .i64 (k:Int))).run Tryz.prog w=.ok (.int .i64 (zEX m k:Int)) w):=oh (λk hk w=>zSw _ _ k hk w);have Da:=oh (λw'=>zDN m.gen hg w');have Af:Hid (∀v,zDU m v=.agg #[.int .u64 (m.gen:Int),.int .i64 (m.blocks:Int),v]):=oh (λ_=>rfl);obtain⟨ua,uc,rfl, -⟩:=_root_.id hu;obtain⟨U,hU⟩:∃U,U=(yF m).length:=⟨_,rfl⟩;rw[<- hU] at A7 hu ⊢;obtain⟨g,Aa⟩:∃g,g=m.gen:=⟨_,rfl⟩;obtain⟨b,Aq⟩:∃b,b=m.blocks:=⟨_,rfl⟩;have A4:=oh (Af.out (.slice ua U uc));rw[A4.out];rw[<- Aa] at Da Af C6 A4 B5 ⊢;rw[<- Aq] at Af A4 ⊢;rw[A4.out] at A7;obtain⟨q0,Db⟩:∃q,q=place g 0:=⟨_,rfl⟩;obtain⟨q1,Dc⟩:∃q,q=place g 1:=⟨_,rfl⟩;rw[<- Db,<- Dc] at C6 B5;obtain⟨W0,A1⟩:∃W0,W0=w.alloc (.cells #[.int .u64 (g:Int),.int .i64 (b:Int),.slice ua U uc] 133):=⟨_,rfl⟩;have A6:zF w W0:=by rw[A1];exact (zss w).alloc _
 have Ab:zG W0 w.heap.size #[.int .u64 (g:Int),.int .i64 (b:Int),.slice ua U uc] 133:=by rw[A1];exact zG.new w _ _
 have A8:=oh A6;have Bh:=oh Ab;have Dd:=oh (h.at A6);have Bi:=oh (zX.ext hL hP A6);have De:=oh (hu.ext A6);have C7:Hid (¬ P w.heap.size):=oh (λf=>pB _ (hL.lt _ (hP _ f)));have x0:=Ab.k 0 rfl;clear hU Aa Aq Db Dc A6 Ab h hw hL hP hm hg hu h1 h2 D9
 go_enter Tryz.func83, Tryz.ntmps83
 go_wp2_with fail;rw[<- A1];refine (Da.out _).mono ?_;rintro e w1 ⟨rfl,m1⟩;rw[C6.out];have Bj:=oh (Bh.out.ext m1);have Df:=oh (Dd.out.at m1);have Dg:=oh (Bi.out.trans (zX.ext Bi.out.env Bi.out.sub m1));have Dh:=oh (De.out.ext m1);obtain⟨X,hX⟩:∃X,X=w.heap.size:=⟨_,rfl⟩;rw[<- hX] at Bj C7;have Ei:=oh Bj.out.lt;clear m1 A1 x0 Bh Dd Bi De A8;go_wp2_with fail;rw[<- hX];clear hX;go_loopg [13] 2 (λr v13 wr=>∃(k:Nat) (P1 F1:NP),k+r=2/\v13=.int .i64 k/\Hid (DkS wr P1 d (zEG D m k)/\zX P P1 F F1 ad w wr/\Sl F1 wr 1 yI (.slice ua U uc) (yF m)/\zG wr X #[.int .u64 (g:Int),.int .i64 (b:Int),.slice ua U uc] 133 /\ ¬ P1 X))
 case atStart=>exact⟨0,P,F,rfl,rfl,oh ⟨Df.out,Dg.out,Dh.out,Bj.out,C7.out⟩⟩
 case round =>
  clear Bj Df Dg Dh Ei C7;obtain⟨k,P1,F1,hk,rfl,HW⟩:=hrel;by_cases Al:k<2
  .have ix:=B5.out k Al;obtain⟨hD,hN,hU,hB,Bk⟩:=HW.out;obtain⟨k1,k2,k3,k4⟩:=C5.out k (by omega);have C8:Hid (∀W,zF wr W -> Calls Tryz.prog 47 #[.pointer (some ⟨d,0,none⟩)] W λe w'=>e=.returned (.agg #[.int .i64 (D.blocks:Int),.int .i64 (D.size:Int)])/\zF W w'):=oh (λW m=>by
    have:=DkS.geo (hD.at m);rw[k2,k3] at this;exact this)
   have Ap:=oh (λW (m:zF wr W)=>A7.out (hN.env.mods m.ext) (hU.ext m) k Al);have Av:=oh (λW (m:zF wr W)=>(⟨(hB.ext m).cell rfl,(hB.ext m).cell rfl,(hB.ext m).cell rfl⟩:W.cell? ⟨X,0,none⟩=some (.int .u64 (g:Int))/\W.cell? ⟨X,1,none⟩=some (.int .i64 (b:Int))/\W.cell? ⟨X,2,none⟩=some (.slice ua U uc)));have Di:=oh k1;have Ej:=oh Al;have Ek:Hid ((zEG D m k).waiting.length<1000000):=oh (by have:=Aj.out;omega);have El:=oh (B3.out k Al);have Dj:Hid ((zEG D m k).blocks=D.blocks/\(zEG D m k).size=D.size):=oh ⟨k2,k3⟩;have G3:=oh hB.lt;have zd:=Av.out _ (zss wr).drew;have gf:=Tryz.geoField1;clear hD hN hU hB Bk k1 k2 k3 k4;go_wp2_with fail;go_region_held3 (λw'=>w'.cell? ⟨X,0,none⟩=some (.int .u64 (g:Int))/\w'.cell? ⟨X,1,none⟩=some (.int .i64 (b:Int))/\w'.cell? ⟨X,2,none⟩=some (.slice ua U uc))
    (first|(with_reducible exact zd)|(with_reducible exact z5)|(with_reducible exact z6)|fail)
    (first
     | (go_at_call 47;(with_reducible refine (C8.out _ (zss wr).drew).mono ?_);rintro e w5 ⟨rfl,m5⟩;have xw5:=(zss wr).drew.trans m5;have z5:=Av.out _ xw5)
     | (go_at_call 119;(with_reducible refine (Ap.out _ xw5).mono ?_);rintro e w6 ⟨a6,c6,rfl,s6,m6⟩;have xw6:=xw5.trans m6;have z6:=Av.out _ xw6)
     | fail)
   have Bl:=oh xw6;have Em:=oh s6;clear zd z5 z6 xw5 xw6 m5 m6 s6 gf ix;obtain⟨hD,hN,hU,hB,Bk⟩:=HW.out;have N6:=hN.trans (zX.ext hN.env hN.sub Bl.out);have WR:=DkS.write (ad:=ad) N6.env N6.sub (hD.at Bl.out) (zEX m k) (by rw[Dj.out.1];exact (B4.out k Ej.out).2) Di.out.off Di.out.lit _ _ Em.out (by rw[Dj.out.2];exact A5.out k) Ek.out;rw[El.out] at WR;have WR:=oh WR;have Dk:=oh N6;have B0:=oh (hU.ext Bl.out);have Ac:=oh (hB.ext Bl.out);have Dl:=oh Bk;clear hD hN hU hB Bk N6;go_wp2_with fail;refine WR.out.mono ?_;intro e w7 H7a;obtain⟨P7,F7,rfl,h7,n7⟩:=H7a;have H7:=oh (And.intro h7 (And.intro (Dk.out.trans n7) (And.intro (n7.sl Dk.out.sub B0.out) (And.intro (n7.blk Ac.out Dl.out) (n7.not Ac.out.lt Dl.out)))));clear h7 n7;go_wp2_with fail;go_roundg (gk-1)
   case measure=>omega
   case rel=>exact⟨k+1,P7,F7,by omega,by go_num,H7⟩
  .obtain rfl:k=2:=by omega
   go_wp2_with fail;go_ret;exact⟨P1,F1,rfl,HW.out.1,HW.out.2.1⟩
theorem Tryz.bothSize:(Tryz.prog.info? 178).map (·.size)=some 2:=by kernel_rfl
def qD(Y sz:Nat)(W:World)(v:Value)(l:List UInt8):Prop:=∃g,v=zAT sz g/\Y<g/\zG W g (qA l) 5
theorem qD.mods{Y sz:Nat}{v:Value}{l:List UInt8}{G:NP}(h:qD Y sz w v l)(m:zA G w w')(hG:∀g,Y<g->g<w.heap.size->¬ G g):qD Y sz w' v l:=by
 obtain⟨g,h1,h2,h3⟩:=h;exact⟨g,h1,h2,h3.mods m (hG g h2 h3.lt)⟩
theorem zHh(hL:yH F ad w)(h:DkS w P d D)(ho:D.off=false)(a b:Nat)(ha:a<D.blocks)(hb:b<D.blocks) :
  Calls Tryz.prog 94 #[.pointer (some ⟨d,0,none⟩),.agg #[.int .i64 (a:Int),.int .i64 (b:Int)]] w λe w'=>∃v0 v1,e=.returned (.tuple #[.agg #[v0,v1],.nilIface])/\qD w.heap.size D.size w' v0 (D.look a)/\qD w.heap.size D.size w' v1 (D.look b)/\zF w w':=by
 have En:Hid (∀W,zF w W->∀k,k<2 -> Calls Tryz.prog 159 #[.pointer (some ⟨d,0,none⟩),.int .i64 ((if k=0 then a else b:Nat):Int)] W λe w'=>∃g,e=.returned (.tuple #[zAT D.size g,.nilIface])/\W.heap.size<=g/\zG w' g (qA (D.look (if k=0 then a else b))) 5 /\ zF W w'):=oh (λW m k hk=>(DkS.read (hL.mods m.ext) (h.at m) (if k=0 then a else b) (by split <;> assumption) ho).mono (λe w' ⟨g,h1,h2,h3,_,h5⟩=>⟨g,h1,h2,h3,h5⟩));have B5:=oh (zSw a b);clear hL h ho ha hb;obtain⟨W0,A1⟩:∃W0,W0=((w.alloc (.cells #[.int .i64 (a:Int),.int .i64 (b:Int)] 181)).alloc (.cells #[.slice none 0 0,.slice none 0 0] 178)).alloc (.cells #[.slice none 0 0,.slice none 0 0] 178):=⟨_,rfl⟩;have A6:zF w W0:=by rw[A1];exact (((zss w).alloc _).alloc _).alloc _
 have Dm:zG W0 w.heap.size #[.int .i64 (a:Int),.int .i64 (b:Int)] 181:=by rw[A1];exact ((zG.new w _ _).alloc _).alloc _
 have Dn:zG W0 (w.heap.size+1) #[.slice none 0 0,.slice none 0 0] 178:=by rw[A1];exact zG.alloc (show zG _ (w.heap.size+1) _ _ from zS (by simp)) _
 have Do:zG W0 (w.heap.size+2) #[.slice none 0 0,.slice none 0 0] 178:=by rw[A1];exact zS (by simp)
 have A8:=oh A6;have Bh:=oh Dm;have Ax:=oh Dn;have C9:=oh Do;clear A6 Dm Dn Do
 go_enter Tryz.func94, Tryz.ntmps94
 go_wp2_with fail;rw[<- A1];obtain⟨Y,hY⟩:∃Y,Y=w.heap.size+1+1:=⟨_,rfl⟩;have Ah:w.heap.size+2=Y:=by omega
 rw[Ah] at C9;rw[<- hY];have Eo:w.heap.size+1<Y:=by omega
 have Ca:=oh Eo;clear A1 hY Ah;go_loopg [12] 2 (λr v12 wr=>∃(k:Nat) (v0 v1:Value),k+r=2/\v12=.int .i64 k/\Hid (zF w wr/\zG wr (w.heap.size+1) #[.slice none 0 0,.slice none 0 0] 178 /\ zG wr Y #[v0,v1] 178 /\ (0<k->qD Y D.size wr v0 (D.look a))/\(1<k->qD Y D.size wr v1 (D.look b))))
 case atStart=>exact⟨0,_,_,rfl,rfl,oh ⟨A8.out,Ax.out,C9.out,λh=>by omega,λh=>by omega⟩⟩
 case round =>
  clear Bh Ax C9 A8;obtain⟨k,v0,v1,hk,rfl,HW⟩:=hrel;by_cases Al:k<2
  .have ix:=B5.out k Al;obtain⟨q,hq⟩:∃q,q=(if k=0 then a else b):=⟨_,rfl⟩;have HR:=oh (En.out wr HW.out.1 k Al);rw[<- hq] at ix HR;have HQ:=oh hq;clear hq;go_wp2_with fail;refine HR.out.mono ?_;rintro e w1 ⟨g,rfl,hg,hB,m1⟩;unfold zAT;have B6:=HW.out.2.2.1.ext m1;have yc:∃x,w1.cell? ⟨Y,k,none⟩=some x:=by
    rcases (by omega:k=0\/k=1) with rfl|rfl
    .exact⟨_,B6.k 0 rfl⟩
    .exact⟨_,B6.k 1 rfl⟩
   obtain⟨x,yc⟩:=yc;have yf:=B6.frozen;have i1:(0:Int)<=(k:Int):=by omega
   have i2:(k:Int)<2:=by omega
   have A3:=oh m1;have B7:=oh hB;have Ep:Y<g:=uF HW.out.2.2.1.lt hg;have Dp:=oh Ep;have Eq:=oh B6;clear m1 hB B6 ix hg;go_wp2_with fail;go_roundg (gk-1)
   case measure=>omega
   case rel =>
    have Bm:zA (λj=>j=Y) w1 (w1.setCell ⟨Y,k,none⟩ (.slice (some ⟨g,0,none⟩) D.size D.size)):=zA.setCell (F:=λj=>j=Y) (zss w1) (p:=⟨Y,k,none⟩) (.inr rfl) _;have hE:zF w (w1.setCell ⟨Y,k,none⟩ (.slice (some ⟨g,0,none⟩) D.size D.size)):=(HW.out.1.trans A3.out).trans' Bm (λi hi h=>by have h':i=Y:=h;have:=Ca.out;omega);have Dq:=(HW.out.2.1.ext A3.out).mods Bm (by have:=Ca.out;omega);have Am:qD Y D.size (w1.setCell ⟨Y,k,none⟩ (.slice (some ⟨g,0,none⟩) D.size D.size)) (zAT D.size g) (D.look q):=⟨g,rfl,Dp.out,B7.out.mods Bm (by have:=Dp.out;omega)⟩;rw[HQ.out] at Am;have B8:=Eq.out.set k (.slice (some ⟨g,0,none⟩) D.size D.size);rcases (by omega:k=0\/k=1) with rfl|rfl
    .exact⟨1,.slice (some ⟨g,0,none⟩) D.size D.size,v1,by omega,by go_num,oh ⟨hE,Dq,B8,λ_=>Am,λh=>by omega⟩⟩
    .exact⟨2,v0,.slice (some ⟨g,0,none⟩) D.size D.size,by omega,by go_num,oh ⟨hE,Dq,B8,λ_=>(HW.out.2.2.2.1 (by omega)).mods (A3.out.ext (F:=λj=>j=Y) |>.trans Bm) (λj hj _ h=>by omega),λ_=>Am⟩⟩
  .obtain rfl:k=2:=by omega
   obtain⟨g0,rfl,G4,Ab⟩:=HW.out.2.2.2.1 (by omega);obtain⟨g1,rfl,G6,Er⟩:=HW.out.2.2.2.2 (by omega);have y0:=HW.out.2.2.1.k 0 rfl;have y1:=HW.out.2.2.1.k 1 rfl;have r0:=HW.out.2.1.k 0 rfl;have r1:=HW.out.2.1.k 1 rfl;have rf:=HW.out.2.1.frozen;simp only[zAT] at y0 y1;go_wp2_with fail;have C4:Hid (zG ((wr.setCell ⟨w.heap.size+1,0,none⟩ (.slice (some ⟨g0,0,none⟩) D.size D.size)).setCell ⟨w.heap.size+1,1,none⟩ (.slice (some ⟨g1,0,none⟩) D.size D.size)) (w.heap.size+1) #[.slice (some ⟨g0,0,none⟩) D.size D.size,.slice (some ⟨g1,0,none⟩) D.size D.size] 178):=oh (by simpa using (HW.out.2.1.set 0 (.slice (some ⟨g0,0,none⟩) D.size D.size)).set 1 (.slice (some ⟨g1,0,none⟩) D.size D.size));have Au:Hid (zA (λj=>j=w.heap.size+1) wr ((wr.setCell ⟨w.heap.size+1,0,none⟩ (.slice (some ⟨g0,0,none⟩) D.size D.size)).setCell ⟨w.heap.size+1,1,none⟩ (.slice (some ⟨g1,0,none⟩) D.size D.size))):=oh (zA.setCell (F:=λj=>j=w.heap.size+1) (zA.setCell (F:=λj=>j=w.heap.size+1) (zss wr) (p:=⟨w.heap.size+1,0,none⟩) (.inr rfl) _) (p:=⟨w.heap.size+1,1,none⟩) (.inr rfl) _);refine bodyPost_ret (zC rfl _ _ (w.heap.size+1) 178 #[.slice (some ⟨g0,0,none⟩) D.size D.size,.slice (some ⟨g1,0,none⟩) D.size D.size] _ rfl C4.out Tryz.underlying178 rfl Tryz.bothSize) rfl ?_;have:=Ca.out;exact⟨zAT D.size g0,zAT D.size g1,rfl,⟨g0,rfl,by omega,Ab.mods Au.out (by omega)⟩,⟨g1,rfl,by omega,Er.mods Au.out (by omega)⟩,HW.out.1.trans' Au.out (λi hi h=>by have h':i=w.heap.size+1:=h;omega)⟩
end
end
section
open Go.RowKit
theorem Tryz.eqGeo(n:Nat)(a b c d:Int)(w:World):(Op.equalIn (n+2) 53 (.agg #[.int .i64 a,.int .i64 b]) (.agg #[.int .i64 c,.int .i64 d])).run Tryz.prog w=.ok (decide (a=c) && decide (b=d)) w:=by
 have u3:=Tryz.underlying3;have a3:=Tryz.isAgg3;have z3:=Tryz.sizeOf3;have hS:Tryz.prog.underlying 53 = some (.struct (Tryz.prog.fieldsOf 53)):=by kernel_rfl
 have hp:Tryz.prog.stoodInHeld 53 = false:=by kernel_rfl
 rw[run_equalIn_agg w (n+1) 53 _ _ hS hp];simp only[Program.fieldsOf,Tryz.underlying53];go_simp;by_cases h1:a=c <;> by_cases h2:b=d <;> simp[h1,h2]
theorem Tryz.eqSuper(n:Nat)(g b z r k:Int)(w:World):(Op.equalIn (n+3) 55 (.agg #[.int .u64 g,.int .i64 b,.int .i64 z,.int .i64 r,.int .i64 k]) (.agg #[.int .u64 g,.int .i64 b,.int .i64 z,.int .i64 r,.int .i64 k])).run Tryz.prog w=.ok true w:=by
 have u3:=Tryz.underlying3;have a3:=Tryz.isAgg3;have z3:=Tryz.sizeOf3;have u4:=Tryz.underlying32;have a4:=Tryz.isAgg32;have z4:=Tryz.sizeOf32;have a5:=Tryz.isAgg53;have z5:=Tryz.sizeOf53;have hS:Tryz.prog.underlying 55 = some (.struct (Tryz.prog.fieldsOf 55)):=by kernel_rfl
 have hp:Tryz.prog.stoodInHeld 55 = false:=by kernel_rfl
 have eg:=Tryz.eqGeo n b z b z;rw[run_equalIn_agg w (n+2) 55 _ _ hS hp];simp only[Program.fieldsOf,Tryz.underlying55];go_simp;done
end
section
open Go.RowKit
attribute [local go_sem ↓] Go.wp_at_zero Go.wp_at_succ
abbrev stC(d:Nat)(cv sv:Value)(s:yG)(home root keys:Int)(il:Value)(dead:Bool):Array Value :=
 #[.pointer (some ⟨d,0,none⟩),cv,sv,.int .u64 (s.gen:Int),.int .i64 (s.blocks:Int),.int .i64 (s.size:Int),.int .i64 (s.root:Int),.int .i64 (s.keys:Int),.int .i64 home,.int .i64 root,.int .i64 keys,il,.bool dead]
def zEI(W:World)(S g b z r k:Nat)(home:Int):World :=
 (((((W.setCell ⟨S,3,none⟩ (.int .u64 (g:Int))).setCell ⟨S,4,none⟩ (.int .i64 (b:Int))).setCell ⟨S,5,none⟩ (.int .i64 (z:Int))).setCell ⟨S,6,none⟩ (.int .i64 (r:Int))).setCell ⟨S,7,none⟩ (.int .i64 (k:Int))).setCell ⟨S,8,none⟩ (.int .i64 home)
theorem zE1{W:World}{S g b z r k:Nat}{home:Int}:zA (λj=>j=S) W (zEI W S g b z r k home) :=
 zA.setCell (F:=λj=>j=S) (zA.setCell (F:=λj=>j=S) (zA.setCell (F:=λj=>j=S) (zA.setCell (F:=λj=>j=S) (zA.setCell (F:=λj=>j=S) (zA.setCell (F:=λj=>j=S) (zss W) (p:=⟨S,3,none⟩) (.inr rfl) _) (p:=⟨S,4,none⟩) (.inr rfl) _) (p:=⟨S,5,none⟩) (.inr rfl) _) (p:=⟨S,6,none⟩) (.inr rfl) _) (p:=⟨S,7,none⟩) (.inr rfl) _) (p:=⟨S,8,none⟩) (.inr rfl) _
theorem zFp{W:World}{S d:Nat}{cv sv il:Value}{s0:yG}{h0 root keys:Int}{dead:Bool}{t:TypeId}(h:zG W S (stC d cv sv s0 h0 root keys il dead) t)(g b z r k:Nat)(home:Int):zG (zEI W S g b z r k home) S (stC d cv sv ⟨g,b,z,r,k⟩ home root keys il dead) t:=by
 have:=(((((h.set 3 (.int .u64 (g:Int))).set 4 (.int .i64 (b:Int))).set 5 (.int .i64 (z:Int))).set 6 (.int .i64 (r:Int))).set 7 (.int .i64 (k:Int))).set 8 (.int .i64 home);simpa[stC,zEI] using this
section
variable {P P' F F':NP}{ad:Nat->Addr}{w w':World}{d:Nat}{D:zJ}
theorem zLu(hL:yH F ad w)(h:DkS w P d D)(ho:D.off=false)(s:yG)(Cb:openS (D.look 0) 0=some s)(B9:openS (D.look 1) 1=some s)(hb:s.blocks=D.blocks)(hz:s.size=D.size)(Dr:(D.look 0).length=D.size)(Cc:(D.look 1).length=D.size)
  (S:Nat) (Ds:¬ P S) (Dt:F S) (cv sv il:Value) (s0:yG) (h0 root keys:Int) (dead:Bool) (hB:zG w S (stC d cv sv s0 h0 root keys il dead) 106) :
  Calls Tryz.prog 48 #[.pointer (some ⟨S,0,none⟩)] w λe w'=>e=.returned .nilIface/\zG w' S (stC d cv sv s 0 root keys il dead) 106 /\ zA (λj=>j=S) w w':=by
 obtain⟨q1,q2,q3,q4,q5,q6⟩:=h.lim;have HL:Hid (∀w',zA F w w'->yH F ad w'):=oh (λw' k=>hL.mods k);have Es:=oh Dt;have Du:=oh (zHh hL h ho 0 1 (by omega) (by omega));have hf:∀{g:Nat},w.heap.size<g->¬ F g:=λhg f=>by have:=hL.lt _ f;omega
 have Ad:Hid (∀{W:World} {v:Value} {l:List UInt8},l.length=D.size->qD w.heap.size D.size W v l->Sl F W 1 zZ v l):=oh (λA0 ⟨g,h1,h2,h3⟩=>by rw[h1];exact zCq h3 A0 (hf h2) (by omega));clear hf;have Dv:Hid (∀W,zA F w W->∀av bv,qD w.heap.size D.size W av (D.look 0)->qD w.heap.size D.size W bv (D.look 1) -> Calls Tryz.prog 95 #[av,bv] W λe w'=>∃ev,e=.returned (.tuple #[yL s,.int .i64 0,ev])/\zAb F ad w' ev none/\zF W w'):=oh (λW m av bv ha Et=>by
  obtain⟨g,b,z,r,k⟩:=s;exact zCo (HL.out W m) av bv _ _ (Ad.out Dr ha) (Ad.out Cc Et) (by omega) (by omega) (by omega) (by omega) (λe=>by rw[Cb] at e;cases e) (λe=>by rw[B9] at e;cases e) Cb B9 (uD _))
 have Aw:Hid (∀W,zA F w W->∀bv,qD w.heap.size D.size W bv (D.look 1) -> Calls Tryz.prog 96 #[bv,.int .i64 1] W λe w'=>e=.returned (.tuple #[yL s,.nilIface])/\zF W w'):=oh (λW m bv hb=>by
  refine (vF (HL.out W m) bv _ (Ad.out Cc hb) (by omega) (by omega) 1 (by omega) (λe=>by rw[B9] at e;cases e)).mono ?_;rintro e w' ⟨ev,h1,h2,h3⟩;rw[B9] at h1 h2;cases h2
  exact⟨h1,h3⟩)
 have Dw:Hid (∀W,DkS W P d D -> Calls Tryz.prog 47 #[.pointer (some ⟨d,0,none⟩)] W λe w'=>e=.returned (.agg #[.int .i64 (D.blocks:Int),.int .i64 (D.size:Int)])/\zF W w'):=oh (λW m=>m.geo);have HD:=oh h;have Ai:Hid (yL s=.agg #[.int .u64 (s.gen:Int),.int .i64 (D.blocks:Int),.int .i64 (D.size:Int),.int .i64 (s.root:Int),.int .i64 (s.keys:Int)]):=oh (by rw[yL,hb,hz]);have Cd:Hid (s=⟨s.gen,D.blocks,D.size,s.root,s.keys⟩):=oh (by rw[<- hb,<- hz]);obtain⟨DB,Dx⟩:∃n,n=D.blocks:=⟨_,rfl⟩;obtain⟨DZ,Ce⟩:∃n,n=D.size:=⟨_,rfl⟩;rw[<- Dx,<- Ce] at Ai Cd Dw;rw[<- Ce] at Du Ad Dv Aw;clear Dx Ce;obtain⟨g,Aa⟩:∃g,g=s.gen:=⟨_,rfl⟩;obtain⟨r,hr⟩:∃g,g=s.root:=⟨_,rfl⟩;obtain⟨k,hk⟩:∃g,g=s.keys:=⟨_,rfl⟩;rw[<- Aa,<- hr,<- hk] at Ai Cd;have hS:=hB.lt;have c0:=hB.d 0 (.pointer (some ⟨d,0,none⟩)) rfl;have HB:=oh hB;have Eu:=oh Ds;clear Aa hr hk Dt hL h ho Cb B9 hb hz Dr Cc hB Ds q1 q2 q3 q4 q5 q6
 go_enter Tryz.func48, Tryz.ntmps48
 go_wp2_with fail;refine Du.out.mono ?_;rintro e w1 ⟨v0,v1,rfl,Cf,Cg,m1⟩;obtain⟨a0,rfl, -, -⟩:=_root_.id Cf;obtain⟨a1,rfl, -, -⟩:=_root_.id Cg;have Ch:=oh Cf;have Ci:=oh Cg;simp only[zAT] at Ch Ci ⊢;have A3:=oh m1;have B7:=oh (HB.out.ext m1);have Ev:S<w1.heap.size:=B7.out.lt;clear m1 c0 Cf Cg;go_upto_if 16 with fail
 obtain⟨W2,Bn⟩:∃W,W=w1.alloc (.cells #[.slice (some ⟨a0,0,none⟩) DZ DZ,.slice (some ⟨a1,0,none⟩) DZ DZ] 178):=⟨_,rfl⟩;have m2:zF w1 W2:=by rw[Bn];exact (zss w1).alloc _
 have Ah:zG W2 w1.heap.size #[.slice (some ⟨a0,0,none⟩) DZ DZ,.slice (some ⟨a1,0,none⟩) DZ DZ] 178:=by rw[Bn];exact zG.new w1 _ _
 obtain⟨Y,hY⟩:∃Y,Y=w1.heap.size:=⟨_,rfl⟩;rw[<- hY] at Ah Ev;rw[<- Bn,<- hY];have Ar:=oh (A3.out.trans m2);have Dy:=oh (B7.out.ext m2);have An:=oh (qD.mods Ch.out m2 (λ_ _ _ f=>f));have Ao:=oh (qD.mods Ci.out m2 (λ_ _ _ f=>f));have Dz:=oh Ah;have y0:=Ah.k 0 rfl;have y1:=Ah.k 1 rfl;clear m2 Ah Bn hY A3 B7 Ch Ci;go_wp2_with fail;refine (Dv.out _ Ar.out.ext _ _ An.out Ao.out).mono ?_;rintro e w3 ⟨ev,rfl,hE,m3⟩;cases hE
 rw[Ai.out];have As:=oh (Ar.out.trans m3);have Ae:=Dy.out.ext m3;have E0:=oh Ae;have Cj:=oh (qD.mods An.out m3 (λ_ _ _ f=>f));have Ba:=oh (qD.mods Ao.out m3 (λ_ _ _ f=>f));have E1:=oh (Dz.out.ext m3);have s3:=Ae.k 3 rfl;have s4:=Ae.k 4 rfl;have s5:=Ae.k 5 rfl;have s6:=Ae.k 6 rfl;have s7:=Ae.k 7 rfl;have s8:=Ae.k 8 rfl;have sf:=Ae.frozen;clear m3 Ae y0 y1 Ar Dy An Ao Dz;go_upto_if 34 with fail
 obtain⟨W4,Bb⟩:∃W,W=zEI w3 S g DB DZ r k 0:=⟨_,rfl⟩;have m4:zA (λj=>j=S) w3 W4:=by rw[Bb];exact zE1
 have E2:zG W4 S (stC d cv sv ⟨g,DB,DZ,r,k⟩ 0 root keys il dead) 106:=by rw[Bb];exact zFp E0.out _ _ _ _ _ _
 unfold zEI at Bb;rw[<- Bb];have Ew:Y≠S:=by omega
 have At:Hid (zA (λj=>j=S) w W4):=oh (As.out.ext.trans m4);have Bo:=oh E2;have Ex:=oh ((HD.out.at As.out).far m4 (λj hj h=>Eu.out (h ▸ hj)));have Ck:=oh (qD.mods Ba.out m4 (λj hj _ h=>by omega));have Ey:=oh (E1.out.mods m4 Ew);clear m4 E2 Bb s3 s4 s5 s6 s7 s8 sf As E0 Cj Ba E1;have Av:=oh (λW (m:zF W4 W)=>(⟨(Bo.out.ext m).cell rfl,(Bo.out.ext m).cell rfl,(Bo.out.ext m).cell rfl⟩:W.cell? ⟨S,0,none⟩=some (.pointer (some ⟨d,0,none⟩))/\W.cell? ⟨S,4,none⟩=some (.int .i64 (DB:Int))/\W.cell? ⟨S,5,none⟩=some (.int .i64 (DZ:Int))));have zd:=Av.out _ (zss W4).drew;have eqg:∀(a b c d:Int) (w:World),(Op.equalIn 10000 53 (.agg #[.int .i64 a,.int .i64 b]) (.agg #[.int .i64 c,.int .i64 d])).run Tryz.prog w=.ok (decide (a=c) && decide (b=d)) w:=λa b c d w=>Tryz.eqGeo 9998 a b c d w
 go_wp2_with fail;go_region_held3 (λw'=>w'.cell? ⟨S,0,none⟩=some (.pointer (some ⟨d,0,none⟩))/\w'.cell? ⟨S,4,none⟩=some (.int .i64 (DB:Int))/\w'.cell? ⟨S,5,none⟩=some (.int .i64 (DZ:Int)))
  (first|(with_reducible exact zd)|(with_reducible exact z5)|fail)
  (first
   | (go_at_call 47;(with_reducible refine (Dw.out _ (Ex.out.at (zss W4).drew)).mono ?_);rintro e w5 ⟨rfl,m5⟩;have xw5:=(zss W4).drew.trans m5;have z5:=Av.out _ xw5)
   | fail)
 have G7:=oh xw5;have Cl:=oh (Bo.out.ext xw5);have Cm:=oh (qD.mods Ck.out xw5 (λ_ _ _ f=>f));have Cn:=oh (Ey.out.ext xw5);have Az:Hid (zA (λj=>j=S) w w5):=oh (At.out.trans xw5.ext);clear zd z5 xw5 m5;have Bc:zA F w w5:=Az.out.mono (λj h=>by have h':j=S:=h;rw[h'];exact Es.out);have Bd:=oh (λW (m:zF w5 W)=>Aw.out W (Bc.trans m.ext) _ (qD.mods Cm.out m (λ_ _ _ f=>f)));have A2:=oh (λW (m:zF w5 W)=>(⟨(Cl.out.ext m).cell rfl,(Cn.out.ext m).cell rfl,(Cn.out.ext m).cell rfl⟩:W.cell? ⟨S,8,none⟩=some (.int .i64 0)/\W.cell? ⟨Y,0,none⟩=some (.slice (some ⟨a0,0,none⟩) DZ DZ)/\W.cell? ⟨Y,1,none⟩=some (.slice (some ⟨a1,0,none⟩) DZ DZ)));have zd:=A2.out _ (zss w5).drew;have za:=A2.out _ ((zss w5).alloc (.cells #[.int .u64 0,.int .i64 0,.int .i64 0,.int .i64 0,.int .i64 0] 55)).drew;have n1:S≠w5.heap.size:=λe=>by have:=Cl.out.lt;omega
 have n2:Y≠w5.heap.size:=λe=>by have:=Cn.out.lt;omega
 have wa:IntKind.i64.wrap (1-0)=1:=by decide
 have wb:IntKind.i64.wrap 1=1:=by decide
 clear Bc;go_wp2_with fail;go_region_held3 (λw'=>w'.cell? ⟨S,8,none⟩=some (.int .i64 0)/\w'.cell? ⟨Y,0,none⟩=some (.slice (some ⟨a0,0,none⟩) DZ DZ)/\w'.cell? ⟨Y,1,none⟩=some (.slice (some ⟨a1,0,none⟩) DZ DZ))
  (first|(with_reducible exact zd)|(with_reducible exact z5)|(with_reducible exact z7)|(with_reducible exact z6)|(with_reducible exact za)|fail)
  (first
   | (go_at_call 96;((with_reducible refine (Bd.out _ (zss w5).drew).mono ?_);rintro e w6 ⟨rfl,m6⟩;rw[Ai.out];have x6:=(zss w5).drew.trans m6;have z5:=A2.out _ x6;have z7:=A2.out _ (x6.alloc (.cells #[.int .u64 0,.int .i64 0,.int .i64 0,.int .i64 0,.int .i64 0] 55));have hB:zG (w6.alloc (.cells #[.int .u64 0,.int .i64 0,.int .i64 0,.int .i64 0,.int .i64 0] 55)) w6.heap.size #[.int .u64 0,.int .i64 0,.int .i64 0,.int .i64 0,.int .i64 0] 55:=zG.new w6 _ _;have b0:=hB.d 0 (.int .u64 0) rfl;have b1:=hB.d 1 (.int .i64 0) rfl;have b2:=hB.d 2 (.int .i64 0) rfl;have b3:=hB.d 3 (.int .i64 0) rfl;have b4:=hB.d 4 (.int .i64 0) rfl;have bf:=hB.frozen;have lo:w5.heap.size<=w6.heap.size:=x6.size;have z6:=A2.out _ (x6.alloc (.cells #[.int .u64 (g:Int),.int .i64 (DB:Int),.int .i64 (DZ:Int),.int .i64 (r:Int),.int .i64 (k:Int)] 55));have Ay:∃X3 w3,X3=w6.heap.size/\w3=w6.alloc (.cells #[.int .u64 (g:Int),.int .i64 (DB:Int),.int .i64 (DZ:Int),.int .i64 (r:Int),.int .i64 (k:Int)] 55)/\zG w3 X3 #[.int .u64 (g:Int),.int .i64 (DB:Int),.int .i64 (DZ:Int),.int .i64 (r:Int),.int .i64 (k:Int)] 55 /\ zF w5 w3:=⟨_,_,rfl,rfl,zG.new w6 _ _,x6.alloc _⟩))
   | (go_at_call 96;((with_reducible refine (Bd.out _ ((zss w5).alloc (.cells #[.int .u64 0,.int .i64 0,.int .i64 0,.int .i64 0,.int .i64 0] 55)).drew).mono ?_);rintro e w6 ⟨rfl,m6⟩;rw[Ai.out];have x6:=((zss w5).alloc (.cells #[.int .u64 0,.int .i64 0,.int .i64 0,.int .i64 0,.int .i64 0] 55)).drew.trans m6;have z5:=A2.out _ x6;have z7:=z5;have hB:zG w6 w5.heap.size #[.int .u64 0,.int .i64 0,.int .i64 0,.int .i64 0,.int .i64 0] 55:=zG.ext (w:=(w5.alloc (.cells #[.int .u64 0,.int .i64 0,.int .i64 0,.int .i64 0,.int .i64 0] 55)).drew) (zG.new w5 _ _) m6;have b0:=hB.d 0 (.int .u64 0) rfl;have b1:=hB.d 1 (.int .i64 0) rfl;have b2:=hB.d 2 (.int .i64 0) rfl;have b3:=hB.d 3 (.int .i64 0) rfl;have b4:=hB.d 4 (.int .i64 0) rfl;have bf:=hB.frozen;have lo:w5.heap.size<=w5.heap.size:=uD _;have z6:=A2.out _ (zA.set5 (F:=λ_=>False) x6 (R:=w5.heap.size) (.inl lo) (.int .u64 (g:Int)) (.int .i64 (DB:Int)) (.int .i64 (DZ:Int)) (.int .i64 (r:Int)) (.int .i64 (k:Int)));have Ay:∃X3 w3,X3=w5.heap.size/\w3=(((((w6.setCell ⟨w5.heap.size,0,none⟩ (.int .u64 (g:Int))).setCell ⟨w5.heap.size,1,none⟩ (.int .i64 (DB:Int))).setCell ⟨w5.heap.size,2,none⟩ (.int .i64 (DZ:Int))).setCell ⟨w5.heap.size,3,none⟩ (.int .i64 (r:Int))).setCell ⟨w5.heap.size,4,none⟩ (.int .i64 (k:Int)))/\zG w3 X3 #[.int .u64 (g:Int),.int .i64 (DB:Int),.int .i64 (DZ:Int),.int .i64 (r:Int),.int .i64 (k:Int)] 55 /\ zF w5 w3:=⟨_,_,rfl,rfl,zG.set5 hB (.int .u64 (g:Int)) (.int .i64 (DB:Int)) (.int .i64 (DZ:Int)) (.int .i64 (r:Int)) (.int .i64 (k:Int)),zA.set5 (F:=λ_=>False) x6 (R:=w5.heap.size) (.inl lo) (.int .u64 (g:Int)) (.int .i64 (DB:Int)) (.int .i64 (DZ:Int)) (.int .i64 (r:Int)) (.int .i64 (k:Int))⟩))
   | fail)
 all_goals
  obtain⟨X3,w3,E3,E4,hC,Co⟩:=Ay;rw[<- E4,<- E3];have Ac:=oh (Cl.out.ext Co);have B1:Hid (zA (λj=>j=S) w w3):=oh (Az.out.trans Co.ext);have x0:=hC.k 0 rfl;have x1:=hC.k 1 rfl;have x2:=hC.k 2 rfl;have x3:=hC.k 3 rfl;have x4:=hC.k 4 rfl;have s3:=Ac.out.k 3 rfl;have s4:=Ac.out.k 4 rfl;have s5:=Ac.out.k 5 rfl;have s6:=Ac.out.k 6 rfl;have s7:=Ac.out.k 7 rfl;have eqs:∀(w:World),(Op.equalIn 10000 55 (.agg #[.int .u64 (g:Int),.int .i64 (DB:Int),.int .i64 (DZ:Int),.int .i64 (r:Int),.int .i64 (k:Int)]) (.agg #[.int .u64 (g:Int),.int .i64 (DB:Int),.int .i64 (DZ:Int),.int .i64 (r:Int),.int .i64 (k:Int)])).run Tryz.prog w=.ok true w:=λw=>Tryz.eqSuper 9997 _ _ _ _ _ w
  clear E4 E3 hC Co zd za z5 z7 z6 x6 m6 hB b0 b1 b2 b3 b4 bf lo n1 n2;go_wp2_with fail;go_quiet (fail)
  go_wp2_with fail;go_ret;exact⟨rfl,by rw[Cd.out];exact Ac.out.ext ((zss w3).drewN nq),B1.out.drewN nq⟩
end
end
end Go.Proofs.YtalpfcaakpgkmaaGreatDoor
