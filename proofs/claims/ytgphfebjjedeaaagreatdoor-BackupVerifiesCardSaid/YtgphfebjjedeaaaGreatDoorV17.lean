import Derived.Test.YtgphfebjjedeaaaGreatDoorV16
import Derived.Laws.MakeOwn
namespace Go.Proofs.YtgphfebjjedeaaaGreatDoor
open Lib renaming hid->oh
set_option maxHeartbeats 4000000
set_option maxRecDepth 100000
section
open Go.RowKit
attribute [local go_sem ↓] Go.wp_at_zero Go.wp_at_succ
def CaA.get(C:CaA)(id:Int):yF ⊕ Err :=
 match C.check id with
 | some e=>.inr e
 | none=>match C.vw id.toNat with
  | .inl p=>.inl p
  | .inr (l,k)=>.inr (-1 :: l,k)
def zHt:yF:=⟨0,0,0,[]⟩
def zN8(F:NP)(ad:Nat->Addr)(w:World)(r:yF ⊕ Err)(e:Ending):Prop :=
 (∃p pv,r=.inl p/\e=.returned (.tuple #[qF p pv,.nilIface])/\Sl F w 1 zO pv p.body)\/(∃(er:Err) (f:Nat),r=.inr er/\e=.returned (.tuple #[qF zHt (.slice none 0 0),zI f])/\yN F ad w (zI f) er.1 er.2)
section
variable {P P' F F' Pd Pd':NP}{ad:Nat->Addr}{w w':World}{d c sb:Nat}{bvs:List Value}{C:CaA}{D:zT}
theorem zU.res(hL:yE F ad w)(hP:∀k,P k->F k)(o:Obj):zU P P F (yD F w.heap.size) ad w (w.alloc o) :=
 ⟨Stp.ext (λk h=>hL.lt k (hP k h)) ((zss w).alloc o),λk h=>.inl (hP k h),λ_ h=>.inl h,λk hk h=>h.elim id (λe=>by omega),hL.withR ((zss w).alloc o) (by simp)⟩
theorem zU.resD{R:Nat}(n:zU P P' F F' ad w w'){w2:World}(m:zA (λk=>k=R) w' w2)(hR:w.heap.size<=R)(hF:F' R):zU P P' F F' ad w w2 :=
 ⟨⟨n.stp.mods.trans' m (λi hi e=>by omega),n.stp.old,λk h=>uG (n.stp.bd k h) m.size⟩,n.sub,n.grow,n.oldF,n.env.mods (m.mono (λk hk=>hk ▸ hF))⟩
theorem CaR.outer(h:CaR F w d c sb bvs Pd C){G:NP}(hG:∀k,k<w.heap.size->¬ F k->¬ G k):CaR G w d c sb bvs Pd C :=
 ⟨h.own,h.row,h.lenB,h.n64,λi s bv h1 h2=>(h.body i s bv h1 h2).step zr hG,h.disk,h.cd,h.sd,h.ne⟩
theorem CaR.far(h:CaR F w d c sb bvs Pd C){Q:NP}(m:zA Q w w')(hQ:∀k,caF c sb Pd k->¬ Q k)(hF:∀k,Q k->F k):CaR F w' d c sb bvs Pd C :=
 ⟨h.own.mods m (hQ c (.inr (.inl rfl))),h.row.at m (hQ sb (.inr (.inr rfl))),h.lenB,h.n64,λi s bv h1 h2=>(h.body i s bv h1 h2).mods (m.mono hF),h.disk.far m (λk hk=>hQ k (.inl hk)),h.cd,h.sd,h.ne⟩
theorem zOu(hL:yE F ad w)(hP:∀k,caF c sb Pd k->F k)(h:CaR F w d c sb bvs Pd C)(hI:vR C)(hc:C.cost<=1000000)(id:Int) :
  Calls Tryz.prog 329 #[.pointer (some ⟨c,0,none⟩),.int .i64 id] w λe w'=>∃(bvs':List Value) (Pd' F':NP) (C':CaA),CaR F' w' d c sb bvs' Pd' C'/\Sim C C' /\
   zU (caF c sb Pd) (caF c sb Pd') F F' ad w w'/\zN8 F' ad w' (C.get id) e:=by
 have hX0:=zU.res hL hP gE;have hC0:CaR (yD F w.heap.size) (w.alloc gE) d c sb bvs Pd C :=
  (h.outer (G:=yD F w.heap.size) (λk hk hn hF=>hF.elim hn (λe=>by omega))).at ((zss w).alloc _)
 have hB0:zK (w.alloc gE) w.heap.size _ _:=zK.new w _ _;have hnR:¬ caF c sb Pd w.heap.size:=λf=>by have:=h.bdP _ f;omega
 have HN0:=oh hnR;have HC0:=oh hC0;have HX0:=oh hX0;have HB0:=oh hB0;have HI:=oh hI;have HCO:=oh hc;have HSZ:Hid (w.heap.size<(w.alloc gE).heap.size):=oh (by simp);have hb8:=hI.b8;have hb256:=hI.b256;clear h hL hP hI hc hX0 hC0 hB0 hnR
 go_enter Tryz.func329, Tryz.ntmps329
 go_wp2_with fail;refine (zG0 HX0.out.env HC0.out _ id).mono ?_;rintro e w1 ⟨ev,rfl,hE,hm⟩;have HM1:=oh hm;have HC1:=oh (HC0.out.at hm);have HB1:=oh (HB0.out.ext hm);have HX1:=oh (HX0.out.trans (zU.ext HX0.out.env HX0.out.sub hm));have HS1:Hid (w.heap.size<w1.heap.size):=oh (uG HSZ.out hm.size);clear hm;cases hck:C.check id with
 | some er =>
  rw[hck] at hE;obtain⟨el,ek⟩:=er;obtain⟨f,rfl,hE⟩:=hE;have HE:=oh hE;have HK:Hid (C.get id=.inr (el,ek)):=oh (by unfold CaA.get;rw[hck]);have r0:=HB1.out.k 0 rfl;have r1:=HB1.out.k 1 rfl;have r2:=HB1.out.k 2 rfl;have r3:=HB1.out.k 3 rfl;have rf:=HB1.out.frozen;clear hE hck;go_wp2_with fail;refine bodyPost_ret (zF rfl _ _ w.heap.size 272 gE _ rfl (HB1.out.set4 (.int .i64 0) (.int .i64 0) (.int .u64 0) (.slice none 0 0)) Tryz.underlying272 rfl Tryz.pageSize) rfl ?_;have mR:zA (yD F w.heap.size) w1 _:=zA.set4 (zA.refl (yD F w.heap.size) w1) (R:=w.heap.size) (.inr (.inr rfl)) (.int .i64 0) (.int .i64 0) (.int .u64 0) (.slice none 0 0);have mR':zA (λk=>k=w.heap.size) w1 _:=zA.set4 (zA.refl (λk=>k=w.heap.size) w1) (R:=w.heap.size) (.inr rfl) (.int .i64 0) (.int .i64 0) (.int .u64 0) (.slice none 0 0);exact⟨bvs,Pd,yD F w.heap.size,C,HC1.out.far mR' (λk hk e=>HN0.out (e ▸ hk)) (λk hk=>.inr hk),Sim.refl HI.out,HX1.out.resD mR' (uJ _) (.inr rfl),.inr ⟨(el,ek),f,HK.out,rfl,HE.out.mods mR⟩⟩
 | none =>
  rw[hck] at hE;cases hE
  obtain⟨n,rfl⟩:∃n:Nat,id=n:=⟨id.toNat,by unfold CaA.check at hck;split at hck;cases hck;omega⟩;have hn:n<C.disk.blocks:=by unfold CaA.check at hck;split at hck;cases hck;omega
  have HCK:=oh hck;have HN:=oh hn;clear hck hn;go_wp2_with fail;refine (zM4 HX1.out.env HX1.out.sub HC1.out HI.out HCO.out n HN.out).mono ?_;rintro e w2 ⟨bvs2,Pd2,F2,C2,hC2,hS2,hX2,hld⟩;have HC2:=oh hC2;have HSi2:=oh hS2;have HX2:=oh (HX1.out.trans hX2);have HB2:=oh (hX2.blk HB1.out HN0.out);have HF2:Hid (F2 w.heap.size):=oh (hX2.grow _ (.inr rfl));have HN2:Hid (¬ caF c sb Pd2 w.heap.size):=oh (hX2.not HS1.out HN0.out);have HS2:Hid (w.heap.size<w2.heap.size):=oh (uG HS1.out hX2.size);clear hC2 hS2 hX2;rcases hld with ⟨i,s,rfl,hs,hh,hv⟩|⟨pg,k,f,rfl,hv,hE⟩
  .obtain⟨ba,bn,bc,hb⟩:=HC2.out.bvAt hs;obtain⟨e0,e1,e2,e3,e4,e5,e6,e7⟩:=HC2.out.cell8 hs hb;obtain⟨d0,d1,d2⟩:=HC2.out.c3;have hlt:i<C2.slots.length:=(uB.1 hs).1;have hn2:=HC2.out.n64;have h1:(0:Int)<=(i:Int):=by omega
   have h2:(i:Int)<(C2.slots.length:Int):=by omega
   have HBD:=oh (HC2.out.body i s _ hs hb);have HV:Hid (C.get (n:Int)=.inl s.page):=oh (by unfold CaA.get;rw[HCK.out];simp only[uK];rw[hv]);have HLB:Hid (s.page.body.length<=100000):=oh (by
    have:=HSi2.out.inv.page i s hs (qA.1 hh).1;have:=jE this.2.2.1;have:=HSi2.out.inv.s1024;omega)
   clear hs hh hv hb e4 e5 e6 e7 d0 d2;go_wp2_with fail;refine (zEW HX2.out.env.lt s.page (.slice ba bn bc) HBD.out HLB.out).mono ?_;rintro e w3 ⟨pv,rfl,hpv,hm3⟩;obtain⟨pa,pcap,rfl,_⟩:=_root_.id hpv;obtain⟨p,hp⟩:∃p,p=s.page:=⟨_,rfl⟩;rw[<- hp] at hpv HV ⊢;obtain⟨pk,pi,pg,l⟩:=p;have HPV:=oh hpv;have HM3:=oh hm3;have HB3:=oh (HB2.out.ext hm3);have r0:=HB3.out.k 0 rfl;have r1:=HB3.out.k 1 rfl;have r2:=HB3.out.k 2 rfl;have r3:=HB3.out.k 3 rfl;have rf:=HB3.out.frozen;clear hpv hm3 hp e0 e1 e2 e3 d1;simp only[qF];go_wp2_with fail;refine bodyPost_ret (zF rfl _ _ w.heap.size 272 #[.int .i64 pk,.int .i64 pi,.int .u64 (pg:Int),.slice pa l.length pcap] _ rfl (HB3.out.set4 _ _ _ _) Tryz.underlying272 rfl Tryz.pageSize) rfl ?_;have mR':zA (λk=>k=w.heap.size) w3 _:=zA.set4 (zA.refl (λk=>k=w.heap.size) w3) (R:=w.heap.size) (.inr rfl) (.int .i64 pk) (.int .i64 pi) (.int .u64 (pg:Int)) (.slice pa l.length pcap);have mR:=mR'.mono (G:=F2) (λk hk=>hk ▸ HF2.out);have n3:=zU.ext HX2.out.env HX2.out.sub HM3.out;exact⟨bvs2,Pd2,F2,C2,(HC2.out.at HM3.out).far mR' (λk hk e=>HN2.out (e ▸ hk)) (λk hk=>hk ▸ HF2.out),HSi2.out,(HX2.out.trans n3).resD mR' (uJ _) HF2.out,.inl ⟨⟨pk,pi,pg,l⟩,.slice pa l.length pcap,HV.out,rfl,HPV.out.mods mR⟩⟩
  .have HE:=oh hE;have HV:Hid (C.get (n:Int)=.inr (-1 :: pg,k)):=oh (by unfold CaA.get;rw[HCK.out];simp only[uK];rw[hv]);clear hE hv;go_wp2_with fail;refine (wrap_any HX2.out.env _ _ pg k HE.out).mono ?_;rintro e w3 ⟨f3,rfl,hE3,hm3⟩;have HE3:=oh hE3;have HM3:=oh hm3;have HB3:=oh (HB2.out.ext hm3);have r0:=HB3.out.k 0 rfl;have r1:=HB3.out.k 1 rfl;have r2:=HB3.out.k 2 rfl;have r3:=HB3.out.k 3 rfl;have rf:=HB3.out.frozen;clear hE3 hm3;go_wp2_with fail;refine bodyPost_ret (zF rfl _ _ w.heap.size 272 gE _ rfl (HB3.out.set4 (.int .i64 0) (.int .i64 0) (.int .u64 0) (.slice none 0 0)) Tryz.underlying272 rfl Tryz.pageSize) rfl ?_;have mR':zA (λk=>k=w.heap.size) w3 _:=zA.set4 (zA.refl (λk=>k=w.heap.size) w3) (R:=w.heap.size) (.inr rfl) (.int .i64 0) (.int .i64 0) (.int .u64 0) (.slice none 0 0);have mR:=mR'.mono (G:=F2) (λk hk=>hk ▸ HF2.out);have n3:=zU.ext HX2.out.env HX2.out.sub HM3.out;exact⟨bvs2,Pd2,F2,C2,(HC2.out.at HM3.out).far mR' (λk hk e=>HN2.out (e ▸ hk)) (λk hk=>hk ▸ HF2.out),HSi2.out,(HX2.out.trans n3).resD mR' (uJ _) HF2.out,.inr ⟨(-1 :: pg,k),f3,HV.out,rfl,HE3.out.mods mR⟩⟩
end
def CaA.putE(C:CaA)(p:yF):Option Err :=
 match C.check p.id with
 | some e=>some e
 | none=>zQF (qC p C.disk.size)
def zS7(C C':CaA)(p:yF):Prop:=(C.putE p=none/\C'.disk.blocks=C.disk.blocks/\C'.disk.size=C.disk.size/\vR C'/\∀G,zB9 C G->zB9 C' (G.put p))\/(C.putE p≠none/\C'=C)
section
variable {P P' F F' Pd Pd':NP}{ad:Nat->Addr}{w w':World}{d c sb:Nat}{bvs:List Value}{C:CaA}{D:zT}
theorem zN9{w:World}{p:Addr}{x:Value}(h:w.cell? p=some x)(v:Value):(w.setCell p v).cell? p=some v:=World.cell?_setCell_same w p v h
theorem zHu{w:World}{b o o':Nat}(h:o≠o')(v:Value):(w.setCell ⟨b,o,none⟩ v).cell? ⟨b,o',none⟩=w.cell? ⟨b,o',none⟩:=World.cell?_setCell_other w _ _ v (λe=>h (by injection e))
theorem zSO{w:World}{b i:Nat}{x:Value}(h:w.cell? ⟨b,i * 8+7,none⟩=some x)(v0 v1 v2 v3 v4 v5 v6:Value):(((((((w.setCell ⟨b,i * 8,none⟩ v0).setCell ⟨b,i * 8+1,none⟩ v1).setCell ⟨b,i * 8+2,none⟩ v2).setCell ⟨b,i * 8+3,none⟩ v3).setCell ⟨b,i * 8+4,none⟩ v4).setCell ⟨b,i * 8+5,none⟩ v5).setCell ⟨b,i * 8+6,none⟩ v6).cell? ⟨b,i * 8+7,none⟩=some x:=by
 rw[zHu (by omega),zHu (by omega),zHu (by omega),zHu (by omega),zHu (by omega),zHu (by omega),zHu (by omega)];exact h
theorem zOv(hL:yE F ad w)(hP:∀k,caF c sb Pd k->F k)(h:CaR F w d c sb bvs Pd C)(hI:vR C)(hc:C.cost<=1000000)(p:yF)(bv:Value)(hb:Sl F w 1 zO bv p.body)(hg:p.gen<18446744073709551616) :
  Calls Tryz.prog 277 #[.pointer (some ⟨c,0,none⟩),qF p bv] w λe w'=>∃(bvs':List Value) (Pd' F':NP) (C':CaA) (ev:Value),e=.returned ev/\CaR F' w' d c sb bvs' Pd' C' /\
   zU (caF c sb Pd) (caF c sb Pd') F F' ad w w'/\zCa F' ad w' ev (C.putE p)/\zS7 C C' p:=by
 obtain⟨ba,bcap,rfl,_⟩:=_root_.id hb;obtain⟨pk,pi,pg,l⟩:=p;simp only[qF];have m0:zG w (w.alloc (.cells #[.int .i64 pk,.int .i64 pi,.int .u64 (pg:Int),.slice ba l.length bcap] 272)):=(zss w).alloc _;have hB0:zK (w.alloc (.cells #[.int .i64 pk,.int .i64 pi,.int .u64 (pg:Int),.slice ba l.length bcap] 272)) w.heap.size _ _:=zK.new w _ _;have hnR:¬ caF c sb Pd w.heap.size:=λf=>by have:=h.bdP _ f;omega
 have HN0:=oh hnR;have HNS:Hid (w.heap.size≠sb):=oh (λe=>hnR (.inr (.inr e)));have HC0:=oh (h.at m0);have HX0:=oh (zU.ext hL hP m0);have HB0:=oh hB0;have HS0:=oh (hb.ext m0);have HI:=oh hI;have HCO:=oh hc;have HG:=oh hg;have hb8:=hI.b8;have hb256:=hI.b256;have gf1:=Tryz.geoF1;clear h hL hP hI hc hB0 hnR m0 hb hg
 go_enter Tryz.func277, Tryz.ntmps277
 go_wp2_with fail;refine (zG0 HX0.out.env HC0.out _ pi).mono ?_;rintro e w1 ⟨ev,rfl,hE,hm⟩;have HM1:=oh hm;have HC1:=oh (HC0.out.at hm);have HB1:=oh (HB0.out.ext hm);have HX1:=oh (HX0.out.trans (zU.ext HX0.out.env HX0.out.sub hm));have HS1:=oh (HS0.out.ext hm);clear hm;cases hck:C.check pi with
 | some er =>
  rw[hck] at hE;obtain⟨el,ek⟩:=er;obtain⟨f,rfl,hE⟩:=hE;have HE:=oh hE;have HK:Hid (C.putE ⟨pk,pi,pg,l⟩=some (el,ek)):=oh (by unfold CaA.putE;simp only[hck]);clear hE hck;go_wp2_with fail;go_ret;exact⟨bvs,Pd,F,C,_,rfl,HC1.out,HX1.out,by rw[HK.out];exact⟨f,rfl,HE.out⟩,.inr ⟨by rw[HK.out];simp,rfl⟩⟩
 | none =>
  rw[hck] at hE;cases hE
  obtain⟨n,rfl⟩:∃n:Nat,pi=n:=⟨pi.toNat,by unfold CaA.check at hck;split at hck;cases hck;omega⟩;have hn:n<C.disk.blocks:=by unfold CaA.check at hck;split at hck;cases hck;omega
  have HCK:=oh hck;have HN:=oh hn;obtain⟨c0,_,_⟩:=HC1.out.c3;have r0:=HB1.out.k 0 rfl;have r1:=HB1.out.k 1 rfl;have r2:=HB1.out.k 2 rfl;have r3:=HB1.out.k 3 rfl;have HC1d:=oh (HC1.out.at (zss w1).drew);have HL1d:=oh (HX1.out.env.mods (zss w1).drew);have HS1d:=oh (HS1.out.ext (zss w1).drew);clear hck hn;go_wp2_with fail;go_region_held3 (λw'=>w'.cell? ⟨c,0,none⟩=some (.pointer (some ⟨d,0,none⟩))/\w'.cell? ⟨w.heap.size,0,none⟩=some (.int .i64 pk)/\w'.cell? ⟨w.heap.size,1,none⟩=some (.int .i64 (n:Int))/\w'.cell? ⟨w.heap.size,2,none⟩=some (.int .u64 (pg:Int))/\w'.cell? ⟨w.heap.size,3,none⟩=some (.slice ba l.length bcap))
   (first|exact⟨zD hm2 c0,zD hm2 r0,zD hm2 r1,zD hm2 r2,zD hm2 r3⟩|exact⟨zD hm3 (zD hm2 c0),zD hm3 (zD hm2 r0),zD hm3 (zD hm2 r1),zD hm3 (zD hm2 r2),zD hm3 (zD hm2 r3)⟩|go_keep)
   (first
    | (go_at_call 90;refine (HC1d.out.disk.geo).mono ?_;rintro e w2 ⟨rfl,hm2⟩)
    | (go_at_call 310;refine (zGS (HL1d.out.mods hm2.ext) ⟨pk,n,pg,l⟩ (.slice ba l.length bcap) (HS1d.out.ext hm2) C.disk.size).mono ?_;rintro e w3 ⟨ev,rfl,hE,hm3⟩))
  have HM3:Hid (zG w1 w3):=oh (hm2.ofDrew.trans hm3);have HL3:=oh (HX1.out.env.mods HM3.out.ext);cases hpc:qC ⟨pk,n,pg,l⟩ C.disk.size with
  | some er =>
   rw[hpc] at hE;obtain⟨el,ek⟩:=er;obtain⟨f,rfl,hE⟩:=hE;have HE:=oh hE;have HK:Hid (C.putE ⟨pk,n,pg,l⟩=some (-1 :: el,ek)):=oh (by unfold CaA.putE;simp only[HCK.out,hpc];rfl);have HLe:Hid (yE F ad w3):=oh HL3.out;clear hE hpc hm2 hm3;go_wp2_with fail;refine (wrap_any HLe.out _ _ el ek HE.out).mono ?_;rintro e w4 ⟨f4,rfl,hE4,hm4⟩;have HE4:=oh hE4;have HM4:=oh hm4;clear hE4 hm4;go_wp2_with fail;go_ret;exact⟨bvs,Pd,F,C,_,rfl,HC1.out.at (HM3.out.trans HM4.out),HX1.out.trans (zU.ext HX1.out.env HX1.out.sub (HM3.out.trans HM4.out)),by rw[HK.out];exact⟨f4,rfl,HE4.out⟩,.inr ⟨by rw[HK.out];simp,rfl⟩⟩
  | none =>
   rw[hpc] at hE;cases hE
   have HK:Hid (C.putE ⟨pk,n,pg,l⟩=none):=oh (by unfold CaA.putE;simp only[HCK.out,hpc];rfl);have HPC:=oh hpc;have HLB:Hid (l.length<=1000):=oh (by have:=jE hpc;have:=HI.out.s1024;simp only at *;omega);have r1':=zD HM3.out r1;clear hpc hm2 hm3 r0 r1 r2 r3 c0;go_wp2_with fail;refine (zHr (HC1.out.at HM3.out) n).mono ?_;rintro e w4 ⟨hm4,hat⟩;have HM4:=oh hm4;have HC4:=oh ((HC1.out.at HM3.out).at hm4);have HX4:=oh (HX1.out.trans (zU.ext HX1.out.env HX1.out.sub (HM3.out.trans hm4)));have HB4:=oh (HB1.out.ext (HM3.out.trans hm4));have HS4:=oh (HS1.out.ext (HM3.out.trans hm4));clear hm4 r1';have tail:∀(w5:World) (C2:CaA) (bvs2:List Value) (Pd2 F2:NP) (i:Nat) (s:zX),CaR F2 w5 d c sb bvs2 Pd2 C2->Sim C C2->zU (caF c sb Pd) (caF c sb Pd2) F F2 ad w w5->zK w5 w.heap.size #[.int .i64 pk,.int .i64 (n:Int),.int .u64 (pg:Int),.slice ba l.length bcap] 272 -> Sl F2 w5 1 zO (.slice ba l.length bcap) l->C2.slots[i]? = some s ->
     (s.has n=true\/(s.full=false/\∀(j:Nat) (t:zX),C2.slots[j]? = some t->t.has n=false))->∃n2:Nat,Hid (CaR F2 w5 d c sb bvs2 Pd2 C2/\Sim C C2/\zU (caF c sb Pd) (caF c sb Pd2) F F2 ad w w5/\C2.slots[i]? = some s/\(s.has n=true\/(s.full=false/\∀(j:Nat) (t:zX),C2.slots[j]? = some t->t.has n=false))/\n2=C2.slots.length)/\w5.cell? ⟨c,1,none⟩=some (.slice (some ⟨sb,0,none⟩) n2 n2)/\i<n2/\n2<=64 /\
     (w5.cell? ⟨w.heap.size,0,none⟩=some (.int .i64 pk)/\w5.cell? ⟨w.heap.size,1,none⟩=some (.int .i64 (n:Int))/\w5.cell? ⟨w.heap.size,2,none⟩=some (.int .u64 (pg:Int))/\w5.cell? ⟨w.heap.size,3,none⟩=some (.slice ba l.length bcap)) /\
     (∃q0 q1 q2 qa qn qc q4 q5 q6,(w5.cell? ⟨sb,i * 8,none⟩=some (.int .i64 q0)/\w5.cell? ⟨sb,i * 8+1,none⟩=some (.int .i64 q1)/\w5.cell? ⟨sb,i * 8+2,none⟩=some (.int .u64 q2)/\w5.cell? ⟨sb,i * 8+3,none⟩=some (.slice qa qn qc))/\(w5.cell? ⟨sb,i * 8+4,none⟩=some (.bool q4)/\w5.cell? ⟨sb,i * 8+5,none⟩=some (.bool q5)/\w5.cell? ⟨sb,i * 8+6,none⟩=some (.bool q6)/\w5.cell? ⟨sb,i * 8+7,none⟩=some (.int .i64 0)))/\(∀o,w5.frozen? ⟨sb,o,none⟩=false)/\Hid (Sl F2 w5.drew 1 zO (.slice ba l.length bcap) l)/\Hid (Bd F2 w5.drew):=by
    intro w5 C2 bvs2 Pd2 F2 i s hC hS hX hB hSl hs hx;obtain⟨ba,bn,bc,hb⟩:=hC.bvAt hs;obtain⟨e0,e1,e2,e3,e4,e5,e6,e7⟩:=hC.cell8 hs hb;rw[hS.inv.pins i s hs] at e7;exact⟨_,oh ⟨hC,hS,hX,hs,hx,rfl⟩,hC.c3.2.1,(uB.1 hs).1,hC.n64,⟨hB.cell rfl,hB.cell rfl,hB.cell rfl,hB.cell rfl⟩,⟨_,_,_,_,_,_,_,_,_,⟨e0,e1,e2,e3⟩,e4,e5,e6,e7⟩,hC.frz.2,oh (hSl.ext zr.drew),oh hX.env.lt⟩
   have TL:=oh tail;clear tail;have fin:∀(w5:World) (C2:CaA) (bvs2:List Value) (Pd2 F2:NP) (i:Nat) (s:zX) (n2:Nat),(CaR F2 w5 d c sb bvs2 Pd2 C2/\Sim C C2/\zU (caF c sb Pd) (caF c sb Pd2) F F2 ad w w5/\C2.slots[i]? = some s/\(s.has n=true\/(s.full=false/\∀(j:Nat) (t:zX),C2.slots[j]? = some t->t.has n=false))/\n2=C2.slots.length) ->
     ∀(w6:World) (pa:Option Addr) (pcap:Nat),zG w5.drew w6->Sl F2 w6 1 zO (.slice pa l.length pcap) l->∃(bvs':List Value) (Pd' F':NP) (C':CaA),CaR F' (w6.setCells sb (i * 8) (qJ ⟨⟨pk,n,pg,l⟩,true,true,true,0⟩ (.slice pa l.length pcap))) d c sb bvs' Pd' C' /\
     zU (caF c sb Pd) (caF c sb Pd') F F' ad w (w6.setCells sb (i * 8) (qJ ⟨⟨pk,n,pg,l⟩,true,true,true,0⟩ (.slice pa l.length pcap)))/\zCa F' ad (w6.setCells sb (i * 8) (qJ ⟨⟨pk,n,pg,l⟩,true,true,true,0⟩ (.slice pa l.length pcap))) .nilIface (C.putE ⟨pk,n,pg,l⟩)/\zS7 C C' ⟨pk,n,pg,l⟩:=by
    intro w5 C2 bvs2 Pd2 F2 i s n2 ⟨hC,hS,hX,hs,hx,_⟩ w6 pa pcap hm6 hpv;have hok:zKA ⟨pk,n,pg,l⟩ C2.disk.size:=⟨by rw[hS.size];exact HPC.out,HG.out⟩;have hn2:n<C2.disk.blocks:=by rw[hS.blocks];exact HN.out
    have q2:=(hC.at hm6.ofDrew).slot' hX.sub (i:=i) (uB.1 hs).1 ⟨⟨pk,n,pg,l⟩,true,true,true,0⟩ (.slice pa l.length pcap) hpv;have q3:zA (caF c sb Pd2) w6 (w6.setCells sb (i * 8) (qJ ⟨⟨pk,n,pg,l⟩,true,true,true,0⟩ (.slice pa l.length pcap))):=zA.setMany (.inr (.inr (.inr rfl))) _ _ _ zr;have n2':=zU.ext hX.env hX.sub hm6.ofDrew;have n3:=zU.same n2'.env n2'.sub q3;refine⟨_,Pd2,F2,zKB C2 i ⟨pk,n,pg,l⟩,q2,(hX.trans n2').trans n3,by rw[HK.out];rfl,.inl ⟨HK.out,hS.blocks,hS.size,?_,λG hG=>?_⟩⟩
    .exact zRg hS.inv hs ⟨pk,n,pg,l⟩ n rfl hn2 hok hx
    .exact (zN4 hS.inv (hS.rel hG) hs ⟨pk,n,pg,l⟩ n rfl hn2 hok hx).2
   have FN:=oh fin;clear fin;rcases hat with ⟨i,s,hs,hh,rfl⟩|⟨hno,rfl⟩
   .obtain⟨n2,HH,d1,hlt,h64,⟨r0,r1,r2,r3⟩,⟨q0,q1,q2,qa,qn,qc,q4,q5,q6,⟨e0,e1,e2,e3⟩,e4,e5,e6,e7⟩,z1,HSl,HBd⟩:=TL.out w4 C bvs Pd F i s HC4.out (Sim.refl HI.out) HX4.out HB4.out HS4.out hs (.inl hh);have h1:(0:Int)<=(i:Int):=by omega
    have h2:(i:Int)<(n2:Int):=by omega
    have hcs:c≠sb:=HC4.out.ne;have hsc:sb≠c:=Ne.symm hcs;have hbs:w.heap.size≠sb:=HNS.out;have hsb:sb≠w.heap.size:=Ne.symm HNS.out;clear hs hh;go_wp2_with fail;go_region_held3 (λw'=>w'.cell? ⟨c,1,none⟩=some (.slice (some ⟨sb,0,none⟩) n2 n2)/\w'.cell? ⟨w.heap.size,0,none⟩=some (.int .i64 pk)/\w'.cell? ⟨w.heap.size,1,none⟩=some (.int .i64 (n:Int))/\w'.cell? ⟨w.heap.size,2,none⟩=some (.int .u64 (pg:Int))/\w'.cell? ⟨w.heap.size,3,none⟩=some (.slice ba l.length bcap)/\w'.cell? ⟨sb,i * 8+7,none⟩=some (.int .i64 0))
     (first|(with_reducible exact⟨y1,y2,y3,y4,y5,x7⟩)|(go_keep;done)|(refine⟨?_,?_,?_,?_,?_,zN9 (x:=.int .i64 0) (zSO x7 _ _ _ _ _ _ _) _⟩ <;> go_keep))
     (first
      | (go_at_call 349;refine (zEW HBd.out ⟨pk,n,pg,l⟩ (.slice ba l.length bcap) HSl.out (by have:=HLB.out;simp only;omega)).mono ?_;rintro e w6 ⟨pv,rfl,hpv,hm6⟩;obtain⟨pa,pcap,rfl,_⟩:=_root_.id hpv;simp only[qF];have x0:=zD hm6 e0;have x1:=zD hm6 e1;have x2:=zD hm6 e2;have x3:=zD hm6 e3;have x4:=zD hm6 e4;have x5:=zD hm6 e5;have x6:=zD hm6 e6;have x7:=zD hm6 e7;have y1:=zD hm6 d1;have y2:=zD hm6 r0;have y3:=zD hm6 r1;have y4:=zD hm6 r2;have y5:=zD hm6 r3;have z6:∀o,w6.frozen? ⟨sb,o,none⟩=false:=λo=>(hm6.frozen (yH e0) (λf=>f)).trans (z1 o)))
    obtain⟨bvs',Pd',F',C',k1,k2,k3,k4⟩:=FN.out _ _ _ _ _ _ _ _ HH.out w6 pa pcap hm6 hpv;have K:=oh (And.intro k1 (And.intro k2 (And.intro k3 k4)));clear k1 k2 k3 k4 hpv hm6 x0 x1 x2 x3 x4 x5 x6 x7 y1 y2 y3 y4 y5 z6;go_wp2_with fail;go_ret;exact⟨bvs',Pd',F',C',_,rfl,K.out.1,K.out.2.1,K.out.2.2.1,K.out.2.2.2⟩
   .have HNO:=oh hno;clear hno;go_wp2_with fail;refine (zHs HX4.out.env HX4.out.sub HC4.out HI.out HCO.out).mono ?_;rintro e w5 ⟨i,s,bvs2,Pd2,F2,C2,rfl,hC2,hS2,hX2,hs2,hf2,hsub⟩;have hPF:=HX4.out.sub;obtain⟨n2,HH,d1,hlt,h64,⟨r0,r1,r2,r3⟩,⟨q0,q1,q2,qa,qn,qc,q4,q5,q6,⟨e0,e1,e2,e3⟩,e4,e5,e6,e7⟩,z1,HSl,HBd⟩:=TL.out w5 C2 bvs2 Pd2 F2 i s hC2 hS2 (HX4.out.trans hX2) (hX2.blk HB4.out HN0.out) (hX2.sl hPF HS4.out) hs2 (.inr ⟨hf2,hsub.no HNO.out⟩);have h1:(0:Int)<=(i:Int):=by omega
    have h2:(i:Int)<(n2:Int):=by omega
    have hcs:c≠sb:=HC4.out.ne;have hsc:sb≠c:=Ne.symm hcs;have hbs:w.heap.size≠sb:=HNS.out;have hsb:sb≠w.heap.size:=Ne.symm HNS.out;clear hC2 hS2 hX2 hs2 hf2 hsub hPF;go_wp2_with fail;go_region_held3 (λw'=>w'.cell? ⟨c,1,none⟩=some (.slice (some ⟨sb,0,none⟩) n2 n2)/\w'.cell? ⟨w.heap.size,0,none⟩=some (.int .i64 pk)/\w'.cell? ⟨w.heap.size,1,none⟩=some (.int .i64 (n:Int))/\w'.cell? ⟨w.heap.size,2,none⟩=some (.int .u64 (pg:Int))/\w'.cell? ⟨w.heap.size,3,none⟩=some (.slice ba l.length bcap)/\w'.cell? ⟨sb,i * 8+7,none⟩=some (.int .i64 0))
     (first|(with_reducible exact⟨y1,y2,y3,y4,y5,x7⟩)|(go_keep;done)|(refine⟨?_,?_,?_,?_,?_,zN9 (x:=.int .i64 0) (zSO x7 _ _ _ _ _ _ _) _⟩ <;> go_keep))
     (first
      | (go_at_call 349;refine (zEW HBd.out ⟨pk,n,pg,l⟩ (.slice ba l.length bcap) HSl.out (by have:=HLB.out;simp only;omega)).mono ?_;rintro e w6 ⟨pv,rfl,hpv,hm6⟩;obtain⟨pa,pcap,rfl,_⟩:=_root_.id hpv;simp only[qF];have x0:=zD hm6 e0;have x1:=zD hm6 e1;have x2:=zD hm6 e2;have x3:=zD hm6 e3;have x4:=zD hm6 e4;have x5:=zD hm6 e5;have x6:=zD hm6 e6;have x7:=zD hm6 e7;have y1:=zD hm6 d1;have y2:=zD hm6 r0;have y3:=zD hm6 r1;have y4:=zD hm6 r2;have y5:=zD hm6 r3;have z6:∀o,w6.frozen? ⟨sb,o,none⟩=false:=λo=>(hm6.frozen (yH e0) (λf=>f)).trans (z1 o)))
    obtain⟨bvs',Pd',F',C',k1,k2,k3,k4⟩:=FN.out _ _ _ _ _ _ _ _ HH.out w6 pa pcap hm6 hpv;have K:=oh (And.intro k1 (And.intro k2 (And.intro k3 k4)));clear k1 k2 k3 k4 hpv hm6 x0 x1 x2 x3 x4 x5 x6 x7 y1 y2 y3 y4 y5 z6;go_wp2_with fail;go_ret;exact⟨bvs',Pd',F',C',_,rfl,K.out.1,K.out.2.1,K.out.2.2.1,K.out.2.2.2⟩
end
theorem zIv{P:Program}(t e:TypeId)(i:TypeInfo)(z:Value)(ht:P.underlying t=some (.slice e))(hi:P.info? e=some i)(hz:i.zero=some z)
  (kl kc:IntKind) (n c:Nat) (hnc:n<=c) (hbytes:i.bytes * c<=281474976710656) (h63:c<=9223372036854775807) (w:World) :
  (Instr.makeSlice t (.int kl (n:Int)) (.int kc (c:Int))).run P w=.ok (.slice (some ⟨w.heap.size,0,none⟩) n c) (w.alloc (.cells (madeCells z.cells (c * i.size)) e)):=by
 have hb:(i.bytes:Int) * (c:Int)<=281474976710656:=by
  have h:((i.bytes * c:Nat):Int)<=281474976710656:=by omega
  rwa [Int.natCast_mul] at h
 have hr:=run_make (P:=P) w t e i z ht hi hz kl kc n c (by omega) (by omega) hb (by omega);simp only[uK] at hr;exact hr
theorem Tryz.slotI:(Tryz.prog.info? 455).map (λi=>(i.zero,i.size,i.bytes))=some (some (.agg #[.int .i64 0,.int .i64 0,.int .u64 0,.slice none 0 0,.bool false,.bool false,.bool false,.int .i64 0]),8,64):=by kernel_rfl
def zBb:Array Value:=#[.int .i64 0,.int .i64 0,.int .u64 0,.slice none 0 0,.bool false,.bool false,.bool false,.int .i64 0]
theorem Tryz.mkSlots(n:Nat)(hn:n<=64)(w:World):(Instr.makeSlice 234 (.int .i64 (n:Int)) (.int .i64 (n:Int))).run Tryz.prog w=.ok (.slice (some ⟨w.heap.size,0,none⟩) n n) (w.alloc (.cells (madeCells zBb (n * 8)) 455)):=by
 obtain⟨i,hi,hz,hs,hb⟩:=zE8 Tryz.slotI;have:=zIv (P:=Tryz.prog) 234 455 i _ Tryz.underlying234 hi hz .i64 .i64 n n (uJ _) (by rw[hb];omega) (by omega) w;rw[hs] at this;exact this
theorem zLD{w:World}{sb n:Nat}(h:zK w sb (madeCells zBb (n * 8)) 455):zBx w sb (List.replicate n qS) (List.replicate n (.slice none 0 0)):=by
 refine⟨_,h,by simp[madeCells,zBb],λi s bv hs hb j v hv=>?_⟩;have e1:=zDi hs;have hi:i<n:=by have:=(uB.1 hs).1;simpa using this
 have e2:bv=.slice none 0 0:=by
  rw[tW,if_pos hi] at hb;injection hb with hb;exact hb.symm
 subst e1 e2;have hj:j<8:=by have:=(uB.1 hv).1;rw[jU] at this;exact this
 have hlt:i * 8+j<n * 8:=by omega
 have e3:(i * 8+j) % 8=j:=by omega
 have:(madeCells zBb (n * 8))[i * 8+j]? = (qJ qS (.slice none 0 0))[j]?:=by
  have hz:zBb.size=8:=rfl;unfold madeCells;rw[Array.getElem?_map,Array.getElem?_range,if_pos hlt,Option.map_some,hz,e3];clear h hb hs hv hlt e3 hi hz;obtain rfl|rfl|rfl|rfl|rfl|rfl|rfl|rfl:j=0\/j=1\/j=2\/j=3\/j=4\/j=5\/j=6\/j=7:=by omega
  all_goals rfl
 rw[this];exact hv
section
variable {P P' F F' Pd Pd':NP}{ad:Nat->Addr}{w w':World}{d c sb:Nat}{bvs:List Value}{C:CaA}{D:zT}
def zS8(C C':CaA)(id:Nat):Prop:=vR C'/\C'.disk.blocks=C.disk.blocks/\C'.disk.size=C.disk.size/\∀G,zB9 C G->zB9 C' (G.drop id)
def zQX(F:NP)(ad:Nat->Addr)(w:World)(d c sb:Nat)(Pd:NP)(C:CaA)(id:Nat)(e:Ending)(w':World):Prop :=
 ∃(b:Bool) (bvs':List Value) (C':CaA),e=.returned (.bool b)/\CaR F w' d c sb bvs' Pd C'/\zU (caF c sb Pd) (caF c sb Pd) F F ad w w'/\zS8 C C' id
theorem zM5(hL:yE F ad w)(hP:∀k,caF c sb Pd k->F k)(h:CaR F w d c sb bvs Pd C)(hI:vR C)(id:Nat) :
  Calls Tryz.prog 344 #[.pointer (some ⟨c,0,none⟩),.int .i64 (id:Int)] w (zQX F ad w d c sb Pd C id):=by
 have HC:=oh h;have HL:=oh hL;have HP:=oh hP;have HI:=oh hI;clear h hL hP hI
 go_enter Tryz.func344, Tryz.ntmps344
 go_wp2_with fail;refine (zHr HC.out id).mono ?_;rintro e w1 ⟨hm,hat⟩;have HM:=oh hm;have HC1:=oh (HC.out.at hm);clear hm;rcases hat with ⟨i,s,hs,hh,rfl⟩|⟨hno,rfl⟩
 .obtain⟨ba,bn,bc,hb⟩:=HC1.out.bvAt hs;obtain⟨e0,e1,e2,e3,e4,e5,e6,e7⟩:=HC1.out.cell8 hs hb;obtain⟨d0,d1,d2⟩:=HC1.out.c3;obtain⟨z0,z1⟩:=HC1.out.frz;have hlt:i<C.slots.length:=(uB.1 hs).1;have hn:=HC1.out.n64;have HS:=oh hs;have HH:=oh hh;obtain⟨n,hnn⟩:∃n,n=C.slots.length:=⟨_,rfl⟩;rw[<- hnn] at hn hlt d1;have HNN:=oh hnn;have h1:(0:Int)<=(i:Int):=by omega
  have h2:(i:Int)<(n:Int):=by omega
  have h3:decide ((0:Int)<=(i:Int))=true:=by simp
  clear hs hh hb hnn;go_wp2_with fail;go_ret;have q2:=HC1.out.slot' HP.out (i:=i) (by rw[<- HNN.out];exact hlt) qS (.slice none 0 0) (Sl.nil _ _ _ _);have q3:zA (caF c sb Pd) w1 (w1.setCells sb (i * 8) (qJ qS (.slice none 0 0))):=zA.setMany (.inr (.inr (.inr rfl))) _ _ _ zr;have n1:=zU.ext (P:=caF c sb Pd) HL.out HP.out HM.out;have n2:=zU.same n1.env n1.sub q3;exact⟨_,_,_,rfl,q2,n1.trans n2,(zOh HI.out HS.out),rfl,rfl,λG hG=>(zP6 HI.out hG HS.out HH.out).2⟩
 .have HNO:=oh hno;clear hno;go_wp2_with fail;go_ret;exact⟨_,_,_,rfl,HC1.out,zU.ext HL.out HP.out HM.out,HI.out,rfl,rfl,λG hG=>zKx hG HNO.out⟩
def zOw(F:NP)(ad:Nat->Addr)(w:World)(d:Nat)(Pd:NP)(D:zT)(n:Nat)(e:Ending)(w':World):Prop :=
 ∃(c sb:Nat) (bvs:List Value) (F':NP),e=.returned (.tuple #[.pointer (some ⟨c,0,none⟩),.nilIface])/\CaR F' w' d c sb bvs Pd ⟨D,List.replicate n qS,0⟩/\zU Pd (caF c sb Pd) F F' ad w w'
theorem zQY(hL:yE F ad w)(hP:∀k,Pd k->F k)(hD:DkS w Pd d D)(n:Nat)(h3:3<=n)(h64:n<=64) :
  Calls Tryz.prog 88 #[.pointer (some ⟨d,0,none⟩),.int .i64 (n:Int)] w (zOw F ad w d Pd D n):=by
 have hmk:=Tryz.mkSlots n h64;have a1:decide ((n:Int)<3)=false:=by simp;omega
 have a2:decide ((64:Int)<(n:Int))=false:=by simp;omega
 have HL:=oh hL;have HP:=oh hP;have HD:=oh hD;clear hL hP hD
 go_enter Tryz.func88, Tryz.ntmps88
 go_wp2_with fail;go_ret2
 have hD:=HD.out;have hB:zK ((w.alloc (.cells (madeCells zBb (n * 8)) 455)).alloc (.cells #[.pointer (some ⟨d,0,none⟩),.slice (some ⟨w.heap.size,0,none⟩) n n,.int .i64 0] 236)) w.heap.size (madeCells zBb (n * 8)) 455:=(zK.new w _ _).alloc _;have hB2:zK ((w.alloc (.cells (madeCells zBb (n * 8)) 455)).alloc (.cells #[.pointer (some ⟨d,0,none⟩),.slice (some ⟨w.heap.size,0,none⟩) n n,.int .i64 0] 236)) (w.heap.size+1) #[.pointer (some ⟨d,0,none⟩),.slice (some ⟨w.heap.size,0,none⟩) n n,.int .i64 0] 236:=zM (by simp);have m1:zG w ((w.alloc (.cells (madeCells zBb (n * 8)) 455)).alloc (.cells #[.pointer (some ⟨d,0,none⟩),.slice (some ⟨w.heap.size,0,none⟩) n n,.int .i64 0] 236)):=((zss w).alloc _).alloc _;have hbd:=hD.bd;have st:Stp Pd (caF (w.heap.size+1) w.heap.size Pd) w ((w.alloc (.cells (madeCells zBb (n * 8)) 455)).alloc (.cells #[.pointer (some ⟨d,0,none⟩),.slice (some ⟨w.heap.size,0,none⟩) n n,.int .i64 0] 236)) :=
  ⟨m1.ext,λk hk hf=>by
   rcases hf with hf|rfl|rfl
   .exact hf
   .omega
   .omega,λk hf=>by
   rcases hf with hf|rfl|rfl
   .exact uG (hbd k hf) m1.size
   .exact hB2.lt
   .exact hB.lt⟩
 refine⟨w.heap.size+1,w.heap.size,List.replicate n (.slice none 0 0),_,rfl,⟨by simpa using hB2,zLD hB,by simp,by simpa using h64,λi s bv hs hb=>?_,hD.at m1,λf=>by have:=hbd _ f;omega,λf=>by have:=hbd _ f;omega,by omega⟩,zU.of HL.out HP.out st⟩;have hi:i<n:=by have:=(uB.1 hs).1;simpa using this
 have e1:=zDi hs;have e2:bv=.slice none 0 0:=by rw[tW,if_pos hi] at hb;injection hb with hb;exact hb.symm
 subst e1 e2;exact Sl.nil _ _ _ _
end
end
section
open Go.RowKit
def qK:List Nat->List (Nat × Nat)->List Nat
 | l,[]=>l
 | l,(i,g) :: r=>qK (l.set i g) r
theorem zBF:∀(r:List (Nat × Nat)) (l:List Nat),(qK l r).length=l.length
 | [],_=>rfl
 | (i,g) :: r,l=>by rw[qK,zBF r,tG]
theorem zFx:∀(r:List (Nat × Nat)) (l:List Nat) (p:Nat × Nat),qK l (r++[p])=(qK l r).set p.1 p.2
 | [],_,_=>rfl
 | (i,g) :: r,l,p=>by rw[wX,qK,zFx r,qK]
theorem zKO{l:List Nat}{i g k:Nat}(h:k∈l.set i g):k∈l\/k=g:=by
 obtain⟨j,hj,e⟩:=wI h;rw[List.getElem_set] at e;split at e
 .exact .inr e.symm
 .left;rw[<- e];exact wL _
theorem zEX:∀(r:List (Nat × Nat)) (l:List Nat) (k:Nat),k∈qK l r->k∈l\/k∈r.map (·.2)
 | [],_,_,h=>.inl h
 | (i,g) :: r,l,k,h=>by
  rw[qK] at h;rcases zEX r _ k h with h|h
  .rcases zKO h with h|h
   .exact .inl h
   .exact .inr (by simp[h])
  .exact .inr (by simp[h])
theorem zJI:∀(l:List Nat) (i g:Nat),l.Nodup->g ∉ l->(l.set i g).Nodup
 | [],_,_,_,_=>by simp
 | a :: l,0,g,h,hg=>by
  rw[pT,wF];exact⟨λhm=>hg (uI _ hm),(wF.1 h).2⟩
 | a :: l,i+1,g,h,hg=>by
  rw[mE,wF];refine⟨λhm=>?_,zJI l i g (wF.1 h).2 (λhm=>hg (uI _ hm))⟩;rcases zKO hm with hm|rfl
  .exact (wF.1 h).1 hm
  .exact hg uH
theorem zE9:∀(r:List (Nat × Nat)) (l:List Nat),(l++r.map (·.2)).Nodup->(qK l r).Nodup
 | [],l,h=>by simpa[qK] using h
 | (i,g) :: r,l,h=>by
  rw[qK];rw[wO,wG] at h;obtain⟨h1,h2,h3⟩:=h;rw[wF] at h2;refine zE9 r _ ?_;rw[wG];refine⟨zJI l i g h1 (λhm=>h3 g hm g uH rfl),h2.2,λa ha b hb e=>?_⟩;subst e;rcases zKO ha with ha|rfl
  .exact h3 a ha a (uI _ hb) rfl
  .exact h2.1 hb
theorem zG1(R:Nat->List UInt8->Prop):∀(W:List (Nat × List UInt8)) (ws:List Nat) (gs:List Nat) (L:List (List UInt8)),ws.length=W.length->gs.length=L.length ->
  (∀(i g:Nat) (b:List UInt8),gs[i]? = some g->L[i]? = some b->R g b)->(∀(i g:Nat) (p:Nat × List UInt8),ws[i]? = some g->W[i]? = some p->R g p.2) ->
  ∀(i g:Nat) (b:List UInt8),(qK gs ((W.map (·.1)).zip ws))[i]? = some g->(settle L W)[i]? = some b->R g b
 | [],ws,gs,L,_,_,h1,_,i,g,b,hg,hb=>h1 i g b (by simpa[qK] using hg) hb
 | (j,c) :: W,[],gs,L,hl,_,_,_,_,_,_,_,_=>by simp at hl
 | (j,c) :: W,x :: ws,gs,L,hl,hl2,h1,h2,i,g,b,hg,hb=>by
  rw[wO,List.zip_cons_cons,qK] at hg;rw[settle] at hb;refine zG1 R W ws (gs.set j x) (L.set j c) (by simpa using hl) (by simpa using hl2) (λi' g' b' hg' hb'=>?_) (λi' g' p' hg' hp'=>h2 (i'+1) g' p' (by simpa using hg') (by simpa using hp')) i g b hg hb;rcases zL hg' with ⟨rfl,rfl⟩|⟨hne,hg'⟩
  .rcases zL hb' with ⟨_,rfl⟩|⟨hne,_⟩
   .exact h2 0 g' (i',b') (by simp) (by simp)
   .exact absurd rfl hne
  .rcases zL hb' with ⟨e,_⟩|⟨_,hb'⟩
   .exact absurd e hne
   .exact h1 i' g' b' hg' hb'
section
variable {P F:NP}{ad:Nat->Addr}{w w':World}{d bl:Nat}{gs ws:List Nat}{wv kv:Value}{D:zT}
theorem zOA{l:List Nat}{m:List Nat}(h:l.length=m.length):(l.zip m).map (·.2)=m:=List.map_snd_zip (by omega)
theorem DkR.waitC2(h:DkR w d bl gs ws wv kv D)(k:Nat)(p:Nat × List UInt8)(hk:D.waiting[k]? = some p):∃b c g,wv=.slice (some ⟨b,0,none⟩) D.waiting.length c/\ws[k]? = some g /\
  w.cell? ⟨b,k * 2,none⟩=some (.int .i64 (p.1:Int))/\w.cell? ⟨b,k * 2+1,none⟩=some (zAd D.size g)/\b ∉ d :: bl :: (gs++ws)/\p.1<D.blocks:=by
 obtain⟨b,off,n,c,g,h1,h2,h3,h4,_,_⟩:=h.waitC k p hk;have hr:=h.wrow k g p h2 hk;obtain⟨_,a',c',hv⟩:=h.wvC;rcases h.wait.1.2 with ⟨e,_⟩|⟨g',cap,cur,e,_⟩
 .rw[h1] at e;cases e
 .rw[h1] at e hv;simp only[Value.slice.injEq,Option.some.injEq,Addr.mk.injEq] at e hv;obtain⟨⟨rfl,rfl,_⟩,_,_⟩:=e;refine⟨b,c,g,by rw[h1,hv.2.1],h2,by simpa using h3,by simpa using h4,h.wait.2 b (by rw[h1];rfl),hr.1⟩
theorem DkR.settled{w1 wr:World}(h:DkR w1 d bl gs ws wv kv D)(m:zA (λx=>x=bl) w1 wr){cap:Nat}{rest:List Value}(h1:D.blocks<=cap)(h2:cap<=9223372036854775807)
  (hd:zK w1 d #[.int .i64 D.blocks,.int .i64 D.size,.slice (some ⟨bl,0,none⟩) D.blocks cap,wv,.bool D.lit,.int .i64 D.after,.int .i64 D.torn,.int .i64 D.cut,kv,.bool D.off,.int .i64 D.count] 135)
  (hb:zK wr bl (((qK gs ((D.waiting.map (·.1)).zip ws)).map (zAd D.size))++rest).toArray 27) (hl:gs.length+rest.length=cap) :
  DkR (wr.setCell ⟨d,3,none⟩ (.slice none 0 0)) d bl (qK gs ((D.waiting.map (·.1)).zip ws)) [] (.slice none 0 0) kv { D with lasting:=settle D.lasting D.waiting,waiting:=[] }:=by
 have hz:((D.waiting.map (·.1)).zip ws).map (·.2)=ws:=zOA (by simp[h.lenW]);have hmem:∀k,k∈qK gs ((D.waiting.map (·.1)).zip ws)->k∈gs++ws:=λk hk=>by
  rcases zEX _ _ k hk with h|h
  .exact wR _ h
  .rw[hz] at h;exact wQ _ h
 have hnd:=h.nodup;have hdb:d≠bl:=λe=>(wF.1 hnd).1 (by rw[e];exact uH)
 have hng:∀k,k∈gs++ws->k≠bl/\k≠d:=λk hk=>⟨λe=>(wF.1 (wF.1 hnd).2).1 (e ▸ hk),λe=>(wF.1 hnd).1 (e ▸ uI _ hk)⟩
 have hrow:∀(g:Nat) (b:List UInt8),(g∈gs++ws/\b.length=D.size/\zK w1 g (qT b) 5)->zK (wr.setCell ⟨d,3,none⟩ (.slice none 0 0)) g (qT b) 5:=λg b ⟨k1,_,k3⟩=>(k3.mods m (hng g k1).1).set_other (hng g k1).2 _
 have R:=zG1 (λg b=>g∈gs++ws/\b.length=D.size/\zK w1 g (qT b) 5) D.waiting ws gs D.lasting h.lenW (by rw[h.lenB,h.lenL])
  (λi g b hg hb=>⟨wR _ (wD hg),h.row i g b hg hb⟩) (λi g p hg hp=>⟨wQ _ (wD hg),(h.wrow i g p hg hp).2⟩)
 have nd:(d :: bl :: (qK gs ((D.waiting.map (·.1)).zip ws)++[])).Nodup:=by
  rw[wJ,wF,wF];refine⟨λhm=>?_,λhm=>(hng bl (hmem bl hm)).1 rfl,zE9 _ _ ?_⟩
  .rw[uP] at hm;rcases hm with hm|hm
   .exact hdb hm
   .exact (hng d (hmem d hm)).2 rfl
  .rw[hz];exact (wF.1 (wF.1 hnd).2).2
 have hsub:∀k,k∈d :: bl :: (qK gs ((D.waiting.map (·.1)).zip ws)++[])->k∈d :: bl :: (gs++ws):=λk hk=>by
  simp only[wJ,uP] at hk ⊢;rcases hk with hk|hk|hk
  .exact .inl hk
  .exact .inr (.inl hk)
  .exact .inr (.inr (hmem k hk))
 refine⟨⟨cap,h1,h2,?_,rest,hb.set_other (λe=>hdb e.symm) _,by rw[zBF];exact hl⟩,by rw[zBF];exact h.lenB,by rw[zCQ];exact h.lenL,rfl,?_,λg hg=>by simp[Value.ownBlock],h.few2,yA.nil _ _ _ _ _ _,
  λi g b hg hb=>⟨(R i g b hg hb).2.1,hrow g b (R i g b hg hb)⟩,λi g p hg=>by simp at hg,nd,h.b8,h.b256,h.s256,h.s1024,by simp⟩
 .have:=(hd.mods m hdb).set 3 (.slice none 0 0);simpa using this
 .have k1:=(h.keep.mods m (λg hg e=>h.keep.2 g hg (e ▸ uI _ uH))).mods (zA.at (λk=>k=d) wr d 3 (.slice none 0 0) rfl) (λg hg e=>h.keep.2 g hg (e ▸ uH));exact⟨k1.1,λg hg hm=>k1.2 g hg (hsub g hm)⟩
def zSe(F P:NP)(ad:Nat->Addr)(w:World)(d:Nat)(D':zT)(e:Ending)(w':World):Prop:=∃P' F',e=.returned .nilIface/\DkS w' P' d D'/\zU P P' F F' ad w w'
theorem zM6(hL:yE F ad w)(hP:∀k,P k->F k)(h:DkR w d bl gs ws wv kv D)(hD:∀k,P k ↔ dkF d bl gs ws wv kv k)(ho:D.off=false)(hl:D.lit=false) :
  Calls Tryz.prog 44 #[.pointer (some ⟨d,0,none⟩)] w (zSe F P ad w d D.flushed):=by
 have c9:=h.offC;rw[ho] at c9;have HL:=oh hL;have HD:=oh h;have HP:=oh hP;have HDD:=oh hD;have HO:=oh ho;clear h hL hP hD ho
 go_enter Tryz.func44, Tryz.ntmps44
 go_wp2_with fail;refine (zHp HD.out hl).mono ?_;rintro e w1 ⟨rfl,hD1,hm1⟩;obtain⟨D1,hDe⟩:∃x,x=D.burns.2:=⟨_,rfl⟩;have hfl:D.flushed = { D1 with lasting:=settle D1.lasting D1.waiting,waiting:=[] }:=by rw[hDe];unfold zT.burns zT.flushed;simp[hl]
 rw[<- hDe] at hD1;have HFL:=oh hfl;have HD1:=oh hD1;have HM1:=oh hm1;obtain⟨cap,a1,a2,a3,rest,a4,a5⟩:=HD1.out.own;have hb256:=hD1.b256;have hn6:=hD1.few;obtain⟨n,hn⟩:∃n,n=D1.waiting.length:=⟨_,rfl⟩;obtain⟨c3,av,cv,hv⟩:=hD1.wvC;rw[hv,<- hn] at c3;rw[<- hn] at hn6;have HV:=oh hv;have HN:=oh hn;have A3:=oh a3;have A4:=oh a4;clear hD1 hm1 hfl hDe hv hn a3 a4;go_wp2_with fail;go_loopg [24] n (λm i wr=>∃k:Nat,k+m=n/\i=.int .i64 k/\Hid (zA (λx=>x=bl) w1 wr/\zK wr bl (((qK gs (((D1.waiting.map (·.1)).zip ws).take k)).map (zAd D1.size))++rest).toArray 27))
 case atStart=>exact⟨0,by omega,rfl,oh ⟨zA.refl _ _,A4.out⟩⟩
 case round =>
  obtain⟨k,hk,rfl,HW⟩:=hrel;have hdb:d≠bl:=λe=>(wF.1 HD1.out.nodup).1 (by rw[e];exact uH)
  have d3:=((A3.out.mods HW.out.1 hdb).d 3 wv rfl);by_cases hlt:k<n
  .obtain⟨p,hp⟩:∃p,D1.waiting[k]? = some p:=⟨_,uA (by rw[<- HN.out];exact hlt)⟩;obtain⟨b,c,g,e1,e2,e3,e4,e5,e6⟩:=HD1.out.waitC2 k p hp;rw[HV.out] at e1;simp only[Value.slice.injEq] at e1;obtain⟨rfl,_,rfl⟩:=e1;have hbb:b≠bl:=λe=>e5 (e ▸ uI _ uH)
   have x0:=(HW.out.1.cell (yH e3) hbb).trans e3;have x1:=(HW.out.1.cell (yH e4) hbb).trans e4;simp only[zAd] at x1;have d2:=((A3.out.mods HW.out.1 hdb).d 2 (.slice (some ⟨bl,0,none⟩) D1.blocks cap) rfl);have hlen:((qK gs (((D1.waiting.map (·.1)).zip ws).take k)).map (zAd D1.size)++rest).length=cap:=by rw[uC,wP,zBF];exact a5
   obtain⟨v0,hv0⟩:∃v0,wr.cell? ⟨bl,p.1,none⟩=some v0:=⟨_,HW.out.2.cell (by rw[List.getElem?_toArray];exact uA (by rw[hlen];omega))⟩;have fb:=HW.out.2.frozen;have hdl:d<wr.heap.size:=yH d2;have hbl:bl<wr.heap.size:=yH hv0;have hbq:b<wr.heap.size:=yH x0;have HE2:=oh e2;have HPP:=oh hp;obtain⟨pi,pb⟩:=p;simp only at *;have h1:(0:Int)<=(pi:Int):=by omega
   have h2:(pi:Int)<(D1.blocks:Int):=by omega
   have HLEN:=oh hlen;have HNX:Hid (∀wz,wz=(wr.setCell ⟨bl,pi,none⟩ (.slice (some ⟨g,0,none⟩) D1.size D1.size)).alloc (.cells #[.int .i64 (pi:Int),.slice (some ⟨g,0,none⟩) D1.size D1.size] 192)->zA (λx=>x=bl) w1 wz/\zK wz bl (((qK gs (((D1.waiting.map (·.1)).zip ws).take (k+1))).map (zAd D1.size))++rest).toArray 27):=oh (by
    rintro _ rfl;refine⟨(HW.out.1.setCell (.inr rfl) _).alloc _,?_⟩;have q:=((HW.out.2.set pi (.slice (some ⟨g,0,none⟩) D1.size D1.size)).alloc (.cells #[.int .i64 (pi:Int),.slice (some ⟨g,0,none⟩) D1.size D1.size] 192));have e:(((qK gs (((D1.waiting.map (·.1)).zip ws).take (k+1))).map (zAd D1.size))++rest).toArray=((((qK gs (((D1.waiting.map (·.1)).zip ws).take k)).map (zAd D1.size))++rest).toArray.setIfInBounds pi (.slice (some ⟨g,0,none⟩) D1.size D1.size)):=by
     rw[qD _ k (pi,g) (by rw[List.getElem?_zip_eq_some];exact⟨by simp[HPP.out],HE2.out⟩),zFx];simp only[List.map_set,List.setIfInBounds_toArray];rw[List.set_append_left _ _ (by rw[wP,zBF,HD1.out.lenB];omega)];rfl
    rw[e];exact q)
   clear hp e2 e3 e4 e5 hlen d3;go_wp2_with fail;go_region
   go_wp2_with fail;go_roundg (gk-1)
   case measure=>omega
   case rel=>exact⟨k+1,by omega,by go_num,oh (by have:=HNX.out _ rfl;exact⟨this.1.drew,this.2⟩)⟩
  .obtain rfl:k=n:=by omega
   have HZ:Hid (((D1.waiting.map (·.1)).zip ws).take k=(D1.waiting.map (·.1)).zip ws):=oh (wB (by simp[HD1.out.lenW,HN.out]));have f3:wr.frozen? ⟨d,3,none⟩=false:=(A3.out.mods HW.out.1 hdb).frozen 3;rw[HV.out] at d3;go_wp2_with fail;go_ret;have hW2:=HW.out.2;rw[HZ.out] at hW2;have hs:=HD1.out.settled HW.out.1 a1 a2 A3.out hW2 a5;have hbl:P bl:=(HDD.out bl).2 (.inl (uI _ uH));have hd:P d:=(HDD.out d).2 (.inl uH);have m1:zA P w w1:=HM1.out.mono (λx hx=>hx ▸ hd);have m2:zA P w wr:=m1.trans (HW.out.1.mono (λx hx=>hx ▸ hbl));have m3:=m2.setCell (p:=⟨d,3,none⟩) (.inr hd) (.slice none 0 0);have hbd:Bd P w:=λx hx=>HD.out.bdF x ((HDD.out x).1 hx)
   have st:Stp P (dkF d bl (qK gs ((D1.waiting.map (·.1)).zip ws)) [] (.slice none 0 0) kv) w (wr.setCell ⟨d,3,none⟩ (.slice none 0 0)):=by
    have hsub:∀x,dkF d bl (qK gs ((D1.waiting.map (·.1)).zip ws)) [] (.slice none 0 0) kv x->P x:=λx hx=>by
     rcases hx with hx|hx|hx
     .simp only[wJ,uP] at hx;rcases hx with rfl|rfl|hx
      .exact hd
      .exact hbl
      .refine (HDD.out x).2 (.inl (uI _ (uI _ ?_)));rcases zEX _ _ x hx with hx|hx
       .exact wR _ hx
       .rw[zOA (by simp[HD1.out.lenW])] at hx;exact wQ _ hx
     .simp[Value.ownBlock] at hx
     .exact (HDD.out x).2 (.inr (.inr hx))
    exact⟨m3,λx _ hx=>hsub x hx,λx hx=>uG (hbd x (hsub x hx)) m3.size⟩
   refine⟨_,_,rfl,⟨bl,_,_,_,kv,?_,λk=>pB⟩,zU.of HL.out HP.out st⟩;rw[HFL.out];exact hs
end
end
section
open Go.RowKit
attribute [local go_sem ↓] Go.wp_at_zero Go.wp_at_succ
theorem zQZ(b s:Nat)(h1:8<=b)(h2:b<=256)(h3:256<=s)(h4:s<=1024)(w:World) :
  Calls Tryz.prog 71 #[.agg #[.int .i64 (b:Int),.int .i64 (s:Int)]] w λe w'=>e=.returned (.bool true)/\zG w w':=by
 have a1:decide ((8:Int)<=(b:Int))=true:=by simp;omega
 have a2:decide ((b:Int)<=256)=true:=by simp;omega
 have a3:decide ((256:Int)<=(s:Int))=true:=by simp;omega
 have a4:decide ((s:Int)<=1024)=true:=by simp;omega
 clear h1 h2 h3 h4
 go_enter Tryz.func71, Tryz.ntmps71
 go_wp2
 go_ret;exact⟨rfl,zr.alloc _⟩
def zLE(size:Nat)(g:Nat):List Value:=[zAd size g]
theorem zRo(size:Nat):zCg (zLE size) 1:=⟨λ_=>rfl,by intro x u hu;simp[zLE,zAd] at hu;subst hu;rfl⟩
theorem Tryz.elR:ElT Tryz.prog 42 27 (.slice none 0 0) 1 24:=⟨Tryz.underlying42,by kernel_rfl,rfl,by decide,by decide⟩
section
variable {F:NP}{ad:Nat->Addr}{w w':World}
def zOx(w:World)(B0 B1 b s:Nat)(wr:World)(gs:List Nat)(v:Value):Prop :=
 zG w wr/\B1<wr.heap.size/\zK wr B0 #[.int .i64 (b:Int),.int .i64 (s:Int)] 39 /\ zK wr B1 #[.int .i64 (b:Int),.int .i64 (s:Int),v,.slice none 0 0,.bool false,.int .i64 0,.int .i64 0,.int .i64 0,.slice none 0 0,.bool false,.int .i64 0] 135 /\
   yA (λx=>x∈B0 :: B1 :: gs) wr B0 27 1 (zLE s) v gs/\(B0 :: B1 :: gs).Nodup/\∀g,g∈gs->B1<g/\zK wr g (qT (List.replicate s 0)) 5
theorem zLF(s:Nat):qT (List.replicate s 0)=Array.replicate s (.int .u8 0):=by
 rw[qT,List.map_replicate,List.toArray_replicate];rfl
theorem zOx.step{B0 B1 b s:Nat}{wr w4:World}{gs:List Nat}{v v':Value}(h:zOx w B0 B1 b s wr gs v)(hw:w.heap.size<=B0)(hB:B0<B1)
  (hown:yA (λx=>x∈B0 :: B1 :: gs) w4 B0 27 1 (zLE s) v' (gs++[wr.heap.size])) (hgrow:((wr.drew.alloc (.cells (Array.replicate s (.int .u8 0)) 5)).alloc (.cells #[.slice (some ⟨wr.heap.size,0,none⟩) s s] 27)).grownBy w4 v.ownBlock)
  (hat:v'.ownBlock=v.ownBlock\/v'.ownBlock=some (wr.heap.size+2)):zOx w B0 B1 b s (w4.setCell ⟨B1,2,none⟩ v') (gs++[wr.heap.size]) v':=by
 obtain⟨h1,h2,h3,h4,h6,h7,h8⟩:=h;have mg:=zA.of_grown hgrow;have m0:zG wr ((wr.drew.alloc (.cells (Array.replicate s (.int .u8 0)) 5)).alloc (.cells #[.slice (some ⟨wr.heap.size,0,none⟩) s s] 27)):=((zss wr).drew.alloc _).alloc _;have e1:((wr.drew.alloc (.cells (Array.replicate s (.int .u8 0)) 5)).alloc (.cells #[.slice (some ⟨wr.heap.size,0,none⟩) s s] 27)).heap.size=wr.heap.size+2:=by simp
 have hsz:=mg.size;rw[e1] at hsz;have e3:wr.drew.heap.size=wr.heap.size:=rfl;have mA:zA (λx=>v.ownBlock=some x) wr w4:=m0.ext.trans mg;have hv0:∀x,v.ownBlock=some x->w.heap.size<=x/\x<wr.heap.size:=λx hx=>by have:=h6.lt x hx;omega
 have hvn:∀x,x∈B0 :: B1 :: gs->¬ v.ownBlock=some x:=λx hx e=>h6.2 x e hx
 have hlt:∀x,x∈B0 :: B1 :: gs->x<wr.heap.size:=λx hx=>by
  simp only[uP] at hx;rcases hx with rfl|rfl|hx
  .exact h3.lt
  .exact h4.lt
  .exact (h8 x hx).2.lt
 have far:∀(x:Nat) (c:Array Value) (t:TypeId),x∈B0 :: B1 :: gs->x≠B1->zK wr x c t->zK (w4.setCell ⟨B1,2,none⟩ v') x c t:=λx c t hx hne hb=>(hb.mods mA (hvn x hx)).set_other hne _
 have hmem:∀x,x∈B0 :: B1 :: (gs++[wr.heap.size])->x∈B0 :: B1 :: gs\/x=wr.heap.size:=λx hx=>by
  simp only[uP,uN,rV,or_false] at hx ⊢;rcases hx with h|h|h|h <;> simp[h]
 have hnew:zK (w4.setCell ⟨B1,2,none⟩ v') wr.heap.size (qT (List.replicate s 0)) 5:=by
  rw[zLF];exact (((zK.new wr.drew _ _).alloc _).mods mg (λe=>by have:=hv0 _ e;omega)).set_other (by simp only;omega) _
 refine⟨(h1.trans' mA (λi hi e=>by have:=(hv0 i e).1;omega)).setCell (.inl (by simp only;omega)) _,?_,far B0 _ _ uH (by omega) h3,?_,?_,?_,λg hg=>?_⟩
 .simp only[World.setCell,Array.size_modify];omega
 .have:=(h4.mods mA (hvn B1 (uI _ uH))).set 2 v';simpa using this
 .have hno:∀x,v'.ownBlock=some x->x≠B1:=λx hx e=>hown.2 x hx (e ▸ uI _ uH)
  have k1:=hown.mods (zA.at (λx=>x=B1) w4 B1 2 v' rfl) hno;refine⟨k1.1,λx hx hm=>?_⟩;rcases hmem x hm with hm|rfl
  .exact k1.2 x hx hm
  .rcases hat with e|e
   .have:=(hv0 _ (e ▸ hx)).2;omega
   .rw[e] at hx;injection hx with hx;omega
 .have e:B0 :: B1 :: (gs++[wr.heap.size])=(B0 :: B1 :: gs)++[wr.heap.size]:=by simp
  rw[e,wG];exact⟨h7,by simp,λx hx y hy e=>by have:=hlt x hx;simp at hy;omega⟩
 .rw[uN] at hg;rcases hg with hg|hg
  .exact⟨(h8 g hg).1,far g _ _ (uI _ (uI _ hg)) (λe=>by have:=(h8 g hg).1;omega) (h8 g hg).2⟩
  .simp at hg;subst hg;exact⟨h2,hnew⟩
theorem zLG(s:Nat):∀gs:List Nat,gs.map (zAd s)=gs.flatMap (zLE s)
 | []=>rfl
 | x :: r=>by rw[wO,uZ,zLG s r];rfl
theorem zOx.disk{B0 B1 b s:Nat}{wr:World}{gs:List Nat}{cap:Nat}{a:Option Addr}(h:zOx w B0 B1 b s wr gs (.slice a b cap))(hl:gs.length=b)(hw:w.heap.size<=B0)(hB:B0<B1)(h1:8<=b)(h2:b<=256)(h3:256<=s)(h4:s<=1024) :
  ∃P,DkS wr P B1 (zBN b s)/\∀k,P k->w.heap.size<=k:=by
 obtain⟨k1,k2,k3,k4,k6,k7,k8⟩:=h;rcases k6.1.2 with ⟨e,_⟩|⟨bl,cap',cur,e,hb,hblk,hc,hm,hs,ht⟩
 .cases e;omega
 .simp only[Value.slice.injEq] at e;obtain⟨rfl,_,rfl⟩:=e;have hnb:=k6.2 bl rfl;simp only[uP,not_or] at hnb;have hnd:=(wF.1 k7).2;unfold maxLen at hm;refine⟨dkF B1 bl gs [] (.slice none 0 0) (.slice none 0 0),⟨bl,gs,[],.slice none 0 0,.slice none 0 0,⟨⟨cap,by show b<=cap;omega,by omega,k4,cur.toList.drop gs.length,?_,?_⟩,hl,by simp[zBN],rfl,yA.nil _ _ _ _ _ _,λg hg=>by simp[Value.ownBlock] at hg,by simp[zBN],yA.nil _ _ _ _ _ _,
   λi g b' hg hb'=>?_,λi g p hg=>by simp at hg,?_,h1,h2,h3,h4,by simp[zBN]⟩,λk=>pB⟩,λk hk=>?_⟩
  .have e2:(gs.map (zAd (zBN b s).size)++cur.toList.drop gs.length).toArray=cur:=by
    have:gs.map (zAd (zBN b s).size)=cur.toList.take gs.length:=by
     have h5:cur.toList.take (gs.length * 1)=gs.flatMap (zLE s):=by simpa using ht
     rw[uY] at h5;rw[h5];exact zLG s gs
    rw[this,wC,Array.toArray_toList]
   rw[e2];exact hblk
  .simp;omega
  .rw[show (zBN b s).lasting=List.replicate b (List.replicate s 0) by rfl,tW] at hb';split at hb'
   .injection hb' with hb';subst hb';exact⟨by simp[zBN],(k8 g (wD hg)).2⟩
   .cases hb'
  .rw[wJ,wF,wF];refine⟨?_,hnb.2.2,(wF.1 hnd).2⟩;rw[uP];rintro (e|e)
   .exact hnb.2.1 e.symm
   .exact (wF.1 hnd).1 e
  .have hB1:w.heap.size<=B1:=by omega
   rcases hk with hk|hk|hk
   .simp only[wJ,uP] at hk;rcases hk with rfl|rfl|hk
    .exact hB1
    .omega
    .have:=(k8 k hk).1;omega
   .simp[Value.ownBlock] at hk
   .simp[Value.ownBlock] at hk
theorem zLH(b s:Nat)(h1:8<=b)(h2:b<=256)(h3:256<=s)(h4:s<=1024) :
  Calls Tryz.prog 17 #[.agg #[.int .i64 (b:Int),.int .i64 (s:Int)]] w λe w'=>∃d P,e=.returned (.tuple #[.pointer (some ⟨d,0,none⟩),.nilIface])/\DkS w' P d (zBN b s)/\(∀k,P k->w.heap.size<=k)/\zG w w':=by
 have hmk:=zHl (P:=Tryz.prog) 27 5 (.int .u8 0) 1 Tryz.underlying27 Tryz.mkB rfl s (by omega) (by omega)
 go_enter Tryz.func17, Tryz.ntmps17
 go_wp2_with fail;refine (zQZ b s h1 h2 h3 h4 _).mono ?_;rintro e w1 ⟨rfl,hm⟩;have k0:=(zK.new w #[.int .i64 (b:Int),.int .i64 (s:Int)] 39).ext hm;have c0:=k0.d 0 (.int .i64 (b:Int)) rfl;have c1:=k0.d 1 (.int .i64 (s:Int)) rfl;have HM:Hid (zG w w1):=oh (((zss w).alloc _).trans hm);have HS:Hid (w.heap.size<w1.heap.size):=oh k0.lt;have K0:=oh k0;have hsz:=HS.out;clear k0 hm;go_wp2_with fail;go_loopg [15] b (λm i wr=>∃(cap:Nat) (gs:List Nat) (a:Option Addr),gs.length+m=b/\i=.int .i64 gs.length/\Hid (zOx w w.heap.size w1.heap.size b s wr gs (.slice a gs.length cap)))
 case atStart=>exact⟨0,[],none,by simp,rfl,oh ⟨HM.out.alloc _,by simp,K0.out.alloc _,zK.new w1 _ _,yA.nil _ _ _ _ _ _,by simp;omega,by simp⟩⟩
 case round =>
  obtain⟨cap,gs,a,hk,rfl,HW⟩:=hrel;obtain⟨hW1,hW2,hW3,hW4,hW6,hW7,hW8⟩:=HW.out;have d2:=hW4.d 2 (.slice a gs.length cap) rfl;have f2:=hW4.frozen 2;have g0:=hW3.d 0 (.int .i64 (b:Int)) rfl;have g1:=hW3.d 1 (.int .i64 (s:Int)) rfl;have l0:=yH g0;have l1:=yH d2;have HO:Hid (yA (λx=>x∈w.heap.size :: w1.heap.size :: gs) wr.drew w.heap.size 27 1 (zLE s) (.slice a gs.length cap) gs):=oh (hW6.ext zr.drew);have HLT:Hid (∀x,x∈w.heap.size :: w1.heap.size :: gs->x<wr.heap.size):=oh (λx hx=>by
   simp only[uP] at hx;rcases hx with rfl|rfl|hx
   .exact l0
   .exact l1
   .exact (hW8 x hx).2.lt)
  have HDN:Hid (¬ (Value.slice a gs.length cap).ownBlock=some w1.heap.size):=oh (λe=>hW6.2 _ e (by simp));have HDB:Hid (w.heap.size<=wr.heap.size):=oh hW1.size;obtain⟨k,hkk⟩:∃k,k=gs.length:=⟨_,rfl⟩;have HGL:=oh hkk;have hmkd:∀x:Obj,((wr.alloc x).cell? ⟨w1.heap.size,2,none⟩=some (.slice a gs.length cap)/\(wr.alloc x).cell? ⟨w.heap.size,1,none⟩=some (.int .i64 (s:Int))):=λx=>⟨zP d2 x,zP g1 x⟩
  have hmkd2:∀x y:Obj,((wr.alloc x).alloc y).cell? ⟨w1.heap.size,2,none⟩=some (.slice a gs.length cap):=λx y=>zP (zP d2 x) y
  clear hW1 hW2 hW3 hW4 hW6 hW7 hW8 hkk;by_cases hlt:gs.length<b
  .go_wp2_with fail;go_region_law
    ((refine zHq (enc:=zLE s) (F:=λx=>x∈w.heap.size :: w1.heap.size :: gs) (G:=λ_=>False) Tryz.elR (zRo s) (by rfl) _ _ (by rfl) w.heap.size (.slice a gs.length cap) (.slice (some ⟨wr.heap.size+1,0,none⟩) 1 1) gs [wr.heap.size] (by rfl) (by rfl) (HO.out.ext (((zA.refl _ wr.drew).alloc _).alloc _)) (Sl.one (x:=wr.heap.size) (t := 27) (fz:=(0,0)) (zM (by simp)) (λf=>f)) (by simp;omega) (by have:=HDB.out;simp;omega) (λf=>by have:=HLT.out _ f;simp at this;omega) ?_;intro a' c' w4 hown hgrow hat;obtain⟨k4,k5⟩:=zJG (zA.of_grown hgrow) (zJH (zJH (w:=wr.drew) ⟨d2,f2⟩ _) _) HDN.out))
   all_goals
    have HNX:=oh (HW.out.step (uJ _) hsz hown hgrow (by simpa using hat));clear hown hgrow hat k4 k5;go_wp2_with fail;go_roundg (gk-1)
    case measure=>omega
    case rel=>exact⟨c',gs++[wr.heap.size],a',by simp;omega,by simp,by simpa using HNX⟩
  .have hkb:gs.length=b:=by omega
   have HKB:=oh hkb;clear hkb;go_wp2_with fail;go_ret2
   have hN:=HW.out;rw[HKB.out] at hN;obtain⟨P,q1,q2⟩:=hN.disk HKB.out (uJ _) hsz h1 h2 h3 h4;exact⟨w1.heap.size,P,rfl,q1,q2,hN.1⟩
end
end
end Go.Proofs.YtgphfebjjedeaaaGreatDoor
