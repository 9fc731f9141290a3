import Derived.Test.YteabpacpngaoaaaGreatDoorC20
namespace Go.Proofs.YteabpacpngaoaaaGreatDoor
open Lib renaming hid->oh
set_option maxHeartbeats 4000000
set_option maxRecDepth 100000
section
open Go.RowKit
attribute [local go_sem ↓] Go.wp_at_zero Go.wp_at_succ
def qJ.get(C:qJ)(id:Int):zX ⊕ Err :=
 match C.check id with
 | some e=>.inr e
 | none=>match C.vw id.toNat with
  | .inl p=>.inl p
  | .inr (l,k)=>.inr (-1 :: l,k)
def zHb:zX:=⟨0,0,0,[]⟩
def zNM(F:Nat->Prop)(ad:Nat->Addr)(w:World)(r:zX ⊕ Err)(e:Ending):Prop :=
 (∃p pv,r=.inl p/\e=.returned (.tuple #[qA p pv,.nilIface])/\Sl F w 1 zZ pv p.body)\/(∃(er:Err) (f:Nat),r=.inr er/\e=.returned (.tuple #[qA zHb (.slice none 0 0),zL f])/\vB F ad w (zL f) er.1 er.2)
section
variable {P P' F F' Pd Pd':Nat->Prop}{ad:Nat->Addr}{w w':World}{d c sb:Nat}{bvs:List Value}{C:qJ}{D:zI}
theorem zY.res(hL:yG F ad w)(hP:∀k,P k->F k)(o:Obj):zY P P F (qE F w.heap.size) ad w (w.alloc o) :=
 ⟨Stp.ext (λk h=>hL.lt k (hP k h)) ((zA.refl _ w).alloc o),λk h=>.inl (hP k h),λ_ h=>.inl h,λk hk h=>h.elim id (λe=>by omega),hL.withR ((zA.refl _ w).alloc o) (by simp)⟩
theorem zY.resD{R:Nat}(n:zY P P' F F' ad w w'){w2:World}(m:zA (λk=>k=R) w' w2)(hR:w.heap.size<=R)(hF:F' R):zY P P' F F' ad w w2 :=
 ⟨⟨n.stp.mods.trans' m (λi hi e=>by omega),n.stp.old,λk h=>Nat.lt_of_lt_of_le (n.stp.bd k h) m.size⟩,n.sub,n.grow,n.oldF,n.env.mods (m.mono (λk hk=>hk ▸ hF))⟩
theorem CaR.outer(h:CaR F w d c sb bvs Pd C){G:Nat->Prop}(hG:∀k,k<w.heap.size->¬ F k->¬ G k):CaR G w d c sb bvs Pd C :=
 ⟨h.own,h.row,h.lenB,h.n64,λi s bv h1 h2=>(h.body i s bv h1 h2).step (zA.refl _ _) hG,h.disk,h.cd,h.sd,h.ne⟩
theorem CaR.far(h:CaR F w d c sb bvs Pd C){Q:Nat->Prop}(m:zA Q w w')(hQ:∀k,caF c sb Pd k->¬ Q k)(hF:∀k,Q k->F k):CaR F w' d c sb bvs Pd C :=
 ⟨h.own.mods m (hQ c (.inr (.inl rfl))),h.row.at m (hQ sb (.inr (.inr rfl))),h.lenB,h.n64,λi s bv h1 h2=>(h.body i s bv h1 h2).mods (m.mono hF),h.disk.far m (λk hk=>hQ k (.inl hk)),h.cd,h.sd,h.ne⟩
theorem zN7[zW](hL:yG F ad w)(hP:∀k,caF c sb Pd k->F k)(h:CaR F w d c sb bvs Pd C)(hI:yI C)(hc:C.cost<=1000000)(id:Int)(hlo:C.check id=none->vQ<=id.toNat) :
  Calls Tryz.prog 214 #[.pointer (some ⟨c,0,none⟩),.int .i64 id] w λe w'=>∃(bvs':List Value) (Pd' F':Nat->Prop) (C':qJ),CaR F' w' d c sb bvs' Pd' C'/\Sim C C' /\
   zY (caF c sb Pd) (caF c sb Pd') F F' ad w w'/\zNM F' ad w' (C.get id) e:=by
 have hX0:=zY.res hL hP (.cells #[.int .i64 0,.int .i64 0,.int .u64 0,.slice none 0 0] 192);have hC0:CaR (qE F w.heap.size) (w.alloc (.cells #[.int .i64 0,.int .i64 0,.int .u64 0,.slice none 0 0] 192)) d c sb bvs Pd C :=
  (h.outer (G:=qE F w.heap.size) (λk hk hn hF=>hF.elim hn (λe=>by omega))).at ((zA.refl _ w).alloc _)
 have hB0:zH (w.alloc (.cells #[.int .i64 0,.int .i64 0,.int .u64 0,.slice none 0 0] 192)) w.heap.size _ _:=zH.new w _ _;have hnR:¬ caF c sb Pd w.heap.size:=λf=>by have:=h.bdP _ f;omega
 have HN0:=oh hnR;have HC0:=oh hC0;have HX0:=oh hX0;have HB0:=oh hB0;have HI:=oh hI;have HCO:=oh hc;have HSZ:Hid (w.heap.size<(w.alloc (.cells #[.int .i64 0,.int .i64 0,.int .u64 0,.slice none 0 0] 192)).heap.size):=oh (by simp);have hb8:=hI.b8;have hb256:=hI.b256;have HLO:=oh hlo;clear h hL hP hI hc hX0 hC0 hB0 hnR hlo
 go_enter Tryz.func214, Tryz.ntmps214
 go_wp2_with fail;refine (zGX HX0.out.env HC0.out _ id).mono ?_;rintro e w1 ⟨ev,rfl,hE,hm⟩;have HM1:=oh hm;have HC1:=oh (HC0.out.at hm);have HB1:=oh (HB0.out.ext hm);have HX1:=oh (HX0.out.trans (zY.ext HX0.out.env HX0.out.sub hm));have HS1:Hid (w.heap.size<w1.heap.size):=oh (Nat.lt_of_lt_of_le HSZ.out hm.size);clear hm;cases hck:C.check id with
 | some er =>
  rw[hck] at hE;obtain⟨el,ek⟩:=er;obtain⟨f,rfl,hE⟩:=hE;have HE:=oh hE;have HK:Hid (C.get id=.inr (el,ek)):=oh (by unfold qJ.get;rw[hck]);have r0:=HB1.out.cell (o:=0) rfl;have r1:=HB1.out.cell (o:=1) rfl;have r2:=HB1.out.cell (o:=2) rfl;have r3:=HB1.out.cell (o:=3) rfl;have rf:=HB1.out.frozen;clear hE hck;go_wp2_with fail;refine bodyPost_ret (zC rfl _ _ w.heap.size 192 #[.int .i64 0,.int .i64 0,.int .u64 0,.slice none 0 0] _ rfl (HB1.out.set4 (.int .i64 0) (.int .i64 0) (.int .u64 0) (.slice none 0 0)) Tryz.underlying192 rfl Tryz.pageSize) rfl ?_;have mR:zA (qE F w.heap.size) w1 _:=zA.set4 (zA.refl (qE F w.heap.size) w1) (R:=w.heap.size) (.inr (.inr rfl)) (.int .i64 0) (.int .i64 0) (.int .u64 0) (.slice none 0 0);have mR':zA (λk=>k=w.heap.size) w1 _:=zA.set4 (zA.refl (λk=>k=w.heap.size) w1) (R:=w.heap.size) (.inr rfl) (.int .i64 0) (.int .i64 0) (.int .u64 0) (.slice none 0 0);exact⟨bvs,Pd,qE F w.heap.size,C,HC1.out.far mR' (λk hk e=>HN0.out (e ▸ hk)) (λk hk=>.inr hk),Sim.refl HI.out,HX1.out.resD mR' (Nat.le_refl _) (.inr rfl),.inr ⟨(el,ek),f,HK.out,rfl,HE.out.mods mR⟩⟩
 | none =>
  rw[hck] at hE;cases hE
  obtain⟨n,rfl⟩:∃n:Nat,id=n:=⟨id.toNat,by unfold qJ.check at hck;split at hck;cases hck;omega⟩;have hn:n<C.disk.blocks:=by unfold qJ.check at hck;split at hck;cases hck;omega
  have HCK:=oh hck;have HN:=oh hn;have HLN:Hid (vQ<=n):=oh (by have:=HLO.out hck;simpa using this);clear hck hn;go_wp2_with fail;refine (zMG HX1.out.env HX1.out.sub HC1.out HI.out HCO.out n HN.out HLN.out).mono ?_;rintro e w2 ⟨bvs2,Pd2,F2,C2,hC2,hS2,hX2,hld⟩;have HC2:=oh hC2;have HSi2:=oh hS2;have HX2:=oh (HX1.out.trans hX2);have HB2:=oh (hX2.blk HB1.out HN0.out);have HF2:Hid (F2 w.heap.size):=oh (hX2.grow _ (.inr rfl));have HN2:Hid (¬ caF c sb Pd2 w.heap.size):=oh (hX2.not HS1.out HN0.out);have HS2:Hid (w.heap.size<w2.heap.size):=oh (Nat.lt_of_lt_of_le HS1.out hX2.size);clear hC2 hS2 hX2;rcases hld with ⟨i,s,rfl,hs,hh,hv⟩|⟨pg,k,f,rfl,hv,hE⟩
  .obtain⟨ba,bn,bc,hb⟩:=HC2.out.bvAt hs;obtain⟨e0,e1,e2,e3,e4,e5,e6,e7⟩:=HC2.out.cell8 hs hb;obtain⟨d0,d1,d2⟩:=HC2.out.c3;have hlt:i<C2.slots.length:=(List.getElem?_eq_some_iff.1 hs).1;have hn2:=HC2.out.n64;have h1:(0:Int)<=(i:Int):=by omega
   have h2:(i:Int)<(C2.slots.length:Int):=by omega
   have HBD:=oh (HC2.out.body i s _ hs hb);have HV:Hid (C.get (n:Int)=.inl s.page):=oh (by unfold qJ.get;rw[HCK.out];simp only[Int.toNat_natCast];rw[hv]);have HLB:Hid (s.page.body.length<=100000):=oh (by
    have:=HSi2.out.inv.page i s hs (yO.1 hh).1;have:=yZ this.2.2.1;have:=HSi2.out.inv.s1024;omega)
   clear hs hh hv hb e4 e5 e6 e7 d0 d2;go_wp2_with fail;refine (zEX HX2.out.env.lt s.page (.slice ba bn bc) HBD.out HLB.out).mono ?_;rintro e w3 ⟨pv,rfl,hpv,hm3⟩;obtain⟨pa,pcap,rfl,_⟩:=_root_.id hpv;obtain⟨p,hp⟩:∃p,p=s.page:=⟨_,rfl⟩;rw[<- hp] at hpv HV ⊢;obtain⟨pk,pi,pg,l⟩:=p;have HPV:=oh hpv;have HM3:=oh hm3;have HB3:=oh (HB2.out.ext hm3);have r0:=HB3.out.cell (o:=0) rfl;have r1:=HB3.out.cell (o:=1) rfl;have r2:=HB3.out.cell (o:=2) rfl;have r3:=HB3.out.cell (o:=3) rfl;have rf:=HB3.out.frozen;clear hpv hm3 hp e0 e1 e2 e3 d1;simp only[qA];go_wp2_with fail;refine bodyPost_ret (zC rfl _ _ w.heap.size 192 #[.int .i64 pk,.int .i64 pi,.int .u64 (pg:Int),.slice pa l.length pcap] _ rfl (HB3.out.set4 _ _ _ _) Tryz.underlying192 rfl Tryz.pageSize) rfl ?_;have mR':zA (λk=>k=w.heap.size) w3 _:=zA.set4 (zA.refl (λk=>k=w.heap.size) w3) (R:=w.heap.size) (.inr rfl) (.int .i64 pk) (.int .i64 pi) (.int .u64 (pg:Int)) (.slice pa l.length pcap);have mR:=mR'.mono (G:=F2) (λk hk=>hk ▸ HF2.out);have n3:=zY.ext HX2.out.env HX2.out.sub HM3.out;exact⟨bvs2,Pd2,F2,C2,(HC2.out.at HM3.out).far mR' (λk hk e=>HN2.out (e ▸ hk)) (λk hk=>hk ▸ HF2.out),HSi2.out,(HX2.out.trans n3).resD mR' (Nat.le_refl _) HF2.out,.inl ⟨⟨pk,pi,pg,l⟩,.slice pa l.length pcap,HV.out,rfl,HPV.out.mods mR⟩⟩
  .have HE:=oh hE;have HV:Hid (C.get (n:Int)=.inr (-1 :: pg,k)):=oh (by unfold qJ.get;rw[HCK.out];simp only[Int.toNat_natCast];rw[hv]);clear hE hv;go_wp2_with fail;refine (wrap_any HX2.out.env _ _ pg k HE.out).mono ?_;rintro e w3 ⟨f3,rfl,hE3,hm3⟩;have HE3:=oh hE3;have HM3:=oh hm3;have HB3:=oh (HB2.out.ext hm3);have r0:=HB3.out.cell (o:=0) rfl;have r1:=HB3.out.cell (o:=1) rfl;have r2:=HB3.out.cell (o:=2) rfl;have r3:=HB3.out.cell (o:=3) rfl;have rf:=HB3.out.frozen;clear hE3 hm3;go_wp2_with fail;refine bodyPost_ret (zC rfl _ _ w.heap.size 192 #[.int .i64 0,.int .i64 0,.int .u64 0,.slice none 0 0] _ rfl (HB3.out.set4 (.int .i64 0) (.int .i64 0) (.int .u64 0) (.slice none 0 0)) Tryz.underlying192 rfl Tryz.pageSize) rfl ?_;have mR':zA (λk=>k=w.heap.size) w3 _:=zA.set4 (zA.refl (λk=>k=w.heap.size) w3) (R:=w.heap.size) (.inr rfl) (.int .i64 0) (.int .i64 0) (.int .u64 0) (.slice none 0 0);have mR:=mR'.mono (G:=F2) (λk hk=>hk ▸ HF2.out);have n3:=zY.ext HX2.out.env HX2.out.sub HM3.out;exact⟨bvs2,Pd2,F2,C2,(HC2.out.at HM3.out).far mR' (λk hk e=>HN2.out (e ▸ hk)) (λk hk=>hk ▸ HF2.out),HSi2.out,(HX2.out.trans n3).resD mR' (Nat.le_refl _) HF2.out,.inr ⟨(-1 :: pg,k),f3,HV.out,rfl,HE3.out.mods mR⟩⟩
end
def qJ.putE(C:qJ)(p:zX):Option Err :=
 match C.check p.id with
 | some e=>some e
 | none=>zPM (yY p C.disk.size)
def zRy[zW](C C':qJ)(p:zX):Prop:=(C.putE p=none/\C'.disk.blocks=C.disk.blocks/\C'.disk.size=C.disk.size/\yI C'/\∀G,qW C G->qW C' (G.put p))\/(C.putE p≠none/\C'=C)
section
variable {P P' F F' Pd Pd':Nat->Prop}{ad:Nat->Addr}{w w':World}{d c sb:Nat}{bvs:List Value}{C:qJ}{D:zI}
theorem zNN{w:World}{p:Addr}{x:Value}(h:w.cell? p=some x)(v:Value):(w.setCell p v).cell? p=some v:=World.cell?_setCell_same w p v h
theorem zHc{w:World}{b o o':Nat}(h:o≠o')(v:Value):(w.setCell ⟨b,o,none⟩ v).cell? ⟨b,o',none⟩=w.cell? ⟨b,o',none⟩:=World.cell?_setCell_other w _ _ v (λe=>h (by injection e))
theorem zRF{w:World}{b i:Nat}{x:Value}(h:w.cell? ⟨b,i * 8+7,none⟩=some x)(v0 v1 v2 v3 v4 v5 v6:Value):(((((((w.setCell ⟨b,i * 8,none⟩ v0).setCell ⟨b,i * 8+1,none⟩ v1).setCell ⟨b,i * 8+2,none⟩ v2).setCell ⟨b,i * 8+3,none⟩ v3).setCell ⟨b,i * 8+4,none⟩ v4).setCell ⟨b,i * 8+5,none⟩ v5).setCell ⟨b,i * 8+6,none⟩ v6).cell? ⟨b,i * 8+7,none⟩=some x:=by
 rw[zHc (by omega),zHc (by omega),zHc (by omega),zHc (by omega),zHc (by omega),zHc (by omega),zHc (by omega)];exact h
theorem zN8[zW](hL:yG F ad w)(hP:∀k,caF c sb Pd k->F k)(h:CaR F w d c sb bvs Pd C)(hI:yI C)(hc:C.cost<=1000000)(p:zX)(bv:Value)(hb:Sl F w 1 zZ bv p.body)(hg:p.gen<18446744073709551616)(hlo:vQ<=p.id.toNat) :
  Calls Tryz.prog 153 #[.pointer (some ⟨c,0,none⟩),qA p bv] w λe w'=>∃(bvs':List Value) (Pd' F':Nat->Prop) (C':qJ) (ev:Value),e=.returned ev/\CaR F' w' d c sb bvs' Pd' C' /\
   zY (caF c sb Pd) (caF c sb Pd') F F' ad w w'/\zBw F' ad w' ev (C.putE p)/\zRy C C' p:=by
 obtain⟨ba,bcap,rfl,_⟩:=_root_.id hb;obtain⟨pk,pi,pg,l⟩:=p;simp only[qA];have m0:zF w (w.alloc (.cells #[.int .i64 pk,.int .i64 pi,.int .u64 (pg:Int),.slice ba l.length bcap] 192)):=(zA.refl _ w).alloc _;have hB0:zH (w.alloc (.cells #[.int .i64 pk,.int .i64 pi,.int .u64 (pg:Int),.slice ba l.length bcap] 192)) w.heap.size _ _:=zH.new w _ _;have hnR:¬ caF c sb Pd w.heap.size:=λf=>by have:=h.bdP _ f;omega
 have HN0:=oh hnR;have HNS:Hid (w.heap.size≠sb):=oh (λe=>hnR (.inr (.inr e)));have HC0:=oh (h.at m0);have HX0:=oh (zY.ext hL hP m0);have HB0:=oh hB0;have HS0:=oh (hb.ext m0);have HI:=oh hI;have HCO:=oh hc;have HG:=oh hg;have hb8:=hI.b8;have hb256:=hI.b256;have gf1:=Tryz.geoF1;have HLO:=oh hlo;clear h hL hP hI hc hB0 hnR m0 hb hg hlo
 go_enter Tryz.func153, Tryz.ntmps153
 go_wp2_with fail;refine (zGX HX0.out.env HC0.out _ pi).mono ?_;rintro e w1 ⟨ev,rfl,hE,hm⟩;have HM1:=oh hm;have HC1:=oh (HC0.out.at hm);have HB1:=oh (HB0.out.ext hm);have HX1:=oh (HX0.out.trans (zY.ext HX0.out.env HX0.out.sub hm));have HS1:=oh (HS0.out.ext hm);clear hm;cases hck:C.check pi with
 | some er =>
  rw[hck] at hE;obtain⟨el,ek⟩:=er;obtain⟨f,rfl,hE⟩:=hE;have HE:=oh hE;have HK:Hid (C.putE ⟨pk,pi,pg,l⟩=some (el,ek)):=oh (by unfold qJ.putE;simp only[hck]);clear hE hck;go_wp2_with fail;go_ret;exact⟨bvs,Pd,F,C,_,rfl,HC1.out,HX1.out,by rw[HK.out];exact⟨f,rfl,HE.out⟩,.inr ⟨by rw[HK.out];simp,rfl⟩⟩
 | none =>
  rw[hck] at hE;cases hE
  obtain⟨n,rfl⟩:∃n:Nat,pi=n:=⟨pi.toNat,by unfold qJ.check at hck;split at hck;cases hck;omega⟩;have hn:n<C.disk.blocks:=by unfold qJ.check at hck;split at hck;cases hck;omega
  have HCK:=oh hck;have HN:=oh hn;obtain⟨c0,_,_⟩:=HC1.out.c3;have r0:=HB1.out.cell (o:=0) rfl;have r1:=HB1.out.cell (o:=1) rfl;have r2:=HB1.out.cell (o:=2) rfl;have r3:=HB1.out.cell (o:=3) rfl;have HC1d:=oh (HC1.out.at (zA.refl _ w1).drew);have HL1d:=oh (HX1.out.env.mods (zA.refl _ w1).drew);have HS1d:=oh (HS1.out.ext (zA.refl _ w1).drew);clear hck hn;go_wp2_with fail;go_region_held3 (λw'=>w'.cell? ⟨c,0,none⟩=some (.pointer (some ⟨d,0,none⟩))/\w'.cell? ⟨w.heap.size,0,none⟩=some (.int .i64 pk)/\w'.cell? ⟨w.heap.size,1,none⟩=some (.int .i64 (n:Int))/\w'.cell? ⟨w.heap.size,2,none⟩=some (.int .u64 (pg:Int))/\w'.cell? ⟨w.heap.size,3,none⟩=some (.slice ba l.length bcap))
   (first|exact⟨zE hm2 c0,zE hm2 r0,zE hm2 r1,zE hm2 r2,zE hm2 r3⟩|exact⟨zE hm3 (zE hm2 c0),zE hm3 (zE hm2 r0),zE hm3 (zE hm2 r1),zE hm3 (zE hm2 r2),zE hm3 (zE hm2 r3)⟩|go_keep)
   (first
    | (go_at_call 45;refine (HC1d.out.disk.geo).mono ?_;rintro e w2 ⟨rfl,hm2⟩)
    | (go_at_call 207;refine (zGA (HL1d.out.mods hm2.ext) ⟨pk,n,pg,l⟩ (.slice ba l.length bcap) (HS1d.out.ext hm2) C.disk.size).mono ?_;rintro e w3 ⟨ev,rfl,hE,hm3⟩))
  have HM3:Hid (zF w1 w3):=oh (hm2.ofDrew.trans hm3);have HL3:=oh (HX1.out.env.mods HM3.out.ext);cases hpc:yY ⟨pk,n,pg,l⟩ C.disk.size with
  | some er =>
   rw[hpc] at hE;obtain⟨el,ek⟩:=er;obtain⟨f,rfl,hE⟩:=hE;have HE:=oh hE;have HK:Hid (C.putE ⟨pk,n,pg,l⟩=some (-1 :: el,ek)):=oh (by unfold qJ.putE;simp only[HCK.out,hpc];rfl);have HLe:Hid (yG F ad w3):=oh HL3.out;clear hE hpc hm2 hm3;go_wp2_with fail;refine (wrap_any HLe.out _ _ el ek HE.out).mono ?_;rintro e w4 ⟨f4,rfl,hE4,hm4⟩;have HE4:=oh hE4;have HM4:=oh hm4;clear hE4 hm4;go_wp2_with fail;go_ret;exact⟨bvs,Pd,F,C,_,rfl,HC1.out.at (HM3.out.trans HM4.out),HX1.out.trans (zY.ext HX1.out.env HX1.out.sub (HM3.out.trans HM4.out)),by rw[HK.out];exact⟨f4,rfl,HE4.out⟩,.inr ⟨by rw[HK.out];simp,rfl⟩⟩
  | none =>
   rw[hpc] at hE;cases hE
   have HK:Hid (C.putE ⟨pk,n,pg,l⟩=none):=oh (by unfold qJ.putE;simp only[HCK.out,hpc];rfl);have HPC:=oh hpc;have HLB:Hid (l.length<=1000):=oh (by have:=yZ hpc;have:=HI.out.s1024;simp only at *;omega);have r1':=zE HM3.out r1;clear hpc hm2 hm3 r0 r1 r2 r3 c0;go_wp2_with fail;refine (zHZ (HC1.out.at HM3.out) n).mono ?_;rintro e w4 ⟨hm4,hat⟩;have HM4:=oh hm4;have HC4:=oh ((HC1.out.at HM3.out).at hm4);have HX4:=oh (HX1.out.trans (zY.ext HX1.out.env HX1.out.sub (HM3.out.trans hm4)));have HB4:=oh (HB1.out.ext (HM3.out.trans hm4));have HS4:=oh (HS1.out.ext (HM3.out.trans hm4));clear hm4 r1';have tail:∀(w5:World) (C2:qJ) (bvs2:List Value) (Pd2 F2:Nat->Prop) (i:Nat) (s:zS),CaR F2 w5 d c sb bvs2 Pd2 C2->Sim C C2->zY (caF c sb Pd) (caF c sb Pd2) F F2 ad w w5->zH w5 w.heap.size #[.int .i64 pk,.int .i64 (n:Int),.int .u64 (pg:Int),.slice ba l.length bcap] 192 -> Sl F2 w5 1 zZ (.slice ba l.length bcap) l->C2.slots[i]? = some s ->
     (s.has n=true\/(s.full=false/\∀(j:Nat) (t:zS),C2.slots[j]? = some t->t.has n=false))->∃n2:Nat,Hid (CaR F2 w5 d c sb bvs2 Pd2 C2/\Sim C C2/\zY (caF c sb Pd) (caF c sb Pd2) F F2 ad w w5/\C2.slots[i]? = some s/\(s.has n=true\/(s.full=false/\∀(j:Nat) (t:zS),C2.slots[j]? = some t->t.has n=false))/\n2=C2.slots.length)/\w5.cell? ⟨c,1,none⟩=some (.slice (some ⟨sb,0,none⟩) n2 n2)/\i<n2/\n2<=64 /\
     (w5.cell? ⟨w.heap.size,0,none⟩=some (.int .i64 pk)/\w5.cell? ⟨w.heap.size,1,none⟩=some (.int .i64 (n:Int))/\w5.cell? ⟨w.heap.size,2,none⟩=some (.int .u64 (pg:Int))/\w5.cell? ⟨w.heap.size,3,none⟩=some (.slice ba l.length bcap)) /\
     (∃q0 q1 q2 qa qn qc q4 q5 q6,(w5.cell? ⟨sb,i * 8,none⟩=some (.int .i64 q0)/\w5.cell? ⟨sb,i * 8+1,none⟩=some (.int .i64 q1)/\w5.cell? ⟨sb,i * 8+2,none⟩=some (.int .u64 q2)/\w5.cell? ⟨sb,i * 8+3,none⟩=some (.slice qa qn qc))/\(w5.cell? ⟨sb,i * 8+4,none⟩=some (.bool q4)/\w5.cell? ⟨sb,i * 8+5,none⟩=some (.bool q5)/\w5.cell? ⟨sb,i * 8+6,none⟩=some (.bool q6)/\w5.cell? ⟨sb,i * 8+7,none⟩=some (.int .i64 0)))/\(∀o,w5.frozen? ⟨sb,o,none⟩=false)/\Hid (Sl F2 w5.drew 1 zZ (.slice ba l.length bcap) l)/\Hid (Bd F2 w5.drew):=by
    intro w5 C2 bvs2 Pd2 F2 i s hC hS hX hB hSl hs hx;obtain⟨ba,bn,bc,hb⟩:=hC.bvAt hs;obtain⟨e0,e1,e2,e3,e4,e5,e6,e7⟩:=hC.cell8 hs hb;rw[hS.inv.pins i s hs] at e7;exact⟨_,oh ⟨hC,hS,hX,hs,hx,rfl⟩,hC.c3.2.1,(List.getElem?_eq_some_iff.1 hs).1,hC.n64,⟨hB.cell rfl,hB.cell rfl,hB.cell rfl,hB.cell rfl⟩,⟨_,_,_,_,_,_,_,_,_,⟨e0,e1,e2,e3⟩,e4,e5,e6,e7⟩,hC.frz.2,oh (hSl.ext (zA.refl _ _).drew),oh hX.env.lt⟩
   have TL:=oh tail;clear tail;have fin:∀(w5:World) (C2:qJ) (bvs2:List Value) (Pd2 F2:Nat->Prop) (i:Nat) (s:zS) (n2:Nat),(CaR F2 w5 d c sb bvs2 Pd2 C2/\Sim C C2/\zY (caF c sb Pd) (caF c sb Pd2) F F2 ad w w5/\C2.slots[i]? = some s/\(s.has n=true\/(s.full=false/\∀(j:Nat) (t:zS),C2.slots[j]? = some t->t.has n=false))/\n2=C2.slots.length) ->
     ∀(w6:World) (pa:Option Addr) (pcap:Nat),zF w5.drew w6->Sl F2 w6 1 zZ (.slice pa l.length pcap) l->∃(bvs':List Value) (Pd' F':Nat->Prop) (C':qJ),CaR F' (w6.setCells sb (i * 8) (qK ⟨⟨pk,n,pg,l⟩,true,true,true,0⟩ (.slice pa l.length pcap))) d c sb bvs' Pd' C' /\
     zY (caF c sb Pd) (caF c sb Pd') F F' ad w (w6.setCells sb (i * 8) (qK ⟨⟨pk,n,pg,l⟩,true,true,true,0⟩ (.slice pa l.length pcap)))/\zBw F' ad (w6.setCells sb (i * 8) (qK ⟨⟨pk,n,pg,l⟩,true,true,true,0⟩ (.slice pa l.length pcap))) .nilIface (C.putE ⟨pk,n,pg,l⟩)/\zRy C C' ⟨pk,n,pg,l⟩:=by
    intro w5 C2 bvs2 Pd2 F2 i s n2 ⟨hC,hS,hX,hs,hx,_⟩ w6 pa pcap hm6 hpv;have hok:zJj ⟨pk,n,pg,l⟩ C2.disk.size:=⟨by rw[hS.size];exact HPC.out,HG.out⟩;have hn2:n<C2.disk.blocks:=by rw[hS.blocks];exact HN.out
    have q2:=(hC.at hm6.ofDrew).slot' hX.sub (i:=i) (List.getElem?_eq_some_iff.1 hs).1 ⟨⟨pk,n,pg,l⟩,true,true,true,0⟩ (.slice pa l.length pcap) hpv;have q3:zA (caF c sb Pd2) w6 (w6.setCells sb (i * 8) (qK ⟨⟨pk,n,pg,l⟩,true,true,true,0⟩ (.slice pa l.length pcap))):=zA.setMany (.inr (.inr (.inr rfl))) _ _ _ (zA.refl _ _);have n2':=zY.ext hX.env hX.sub hm6.ofDrew;have n3:=zY.same n2'.env n2'.sub q3;refine⟨_,Pd2,F2,zJk C2 i ⟨pk,n,pg,l⟩,q2,(hX.trans n2').trans n3,by rw[HK.out];rfl,.inl ⟨HK.out,hS.blocks,hS.size,?_,λG hG=>?_⟩⟩
    .exact zNI hS.inv hs ⟨pk,n,pg,l⟩ n rfl hn2 (by have:=HLO.out;simpa using this) hok hx
    .exact (zQb hS.inv (hS.rel hG) hs ⟨pk,n,pg,l⟩ n rfl hn2 (by have:=HLO.out;simpa using this) hok hx).2
   have FN:=oh fin;clear fin;rcases hat with ⟨i,s,hs,hh,rfl⟩|⟨hno,rfl⟩
   .obtain⟨n2,HH,d1,hlt,h64,⟨r0,r1,r2,r3⟩,⟨q0,q1,q2,qa,qn,qc,q4,q5,q6,⟨e0,e1,e2,e3⟩,e4,e5,e6,e7⟩,z1,HSl,HBd⟩:=TL.out w4 C bvs Pd F i s HC4.out (Sim.refl HI.out) HX4.out HB4.out HS4.out hs (.inl hh);have h1:(0:Int)<=(i:Int):=by omega
    have h2:(i:Int)<(n2:Int):=by omega
    have hcs:c≠sb:=HC4.out.ne;have hsc:sb≠c:=Ne.symm hcs;have hbs:w.heap.size≠sb:=HNS.out;have hsb:sb≠w.heap.size:=Ne.symm HNS.out;clear hs hh;go_wp2_with fail;go_region_held3 (λw'=>w'.cell? ⟨c,1,none⟩=some (.slice (some ⟨sb,0,none⟩) n2 n2)/\w'.cell? ⟨w.heap.size,0,none⟩=some (.int .i64 pk)/\w'.cell? ⟨w.heap.size,1,none⟩=some (.int .i64 (n:Int))/\w'.cell? ⟨w.heap.size,2,none⟩=some (.int .u64 (pg:Int))/\w'.cell? ⟨w.heap.size,3,none⟩=some (.slice ba l.length bcap)/\w'.cell? ⟨sb,i * 8+7,none⟩=some (.int .i64 0))
     (first|(with_reducible exact⟨y1,y2,y3,y4,y5,x7⟩)|(go_keep;done)|(refine⟨?_,?_,?_,?_,?_,zNN (x:=.int .i64 0) (zRF x7 _ _ _ _ _ _ _) _⟩ <;> go_keep))
     (first
      | (go_at_call 228;refine (zEX HBd.out ⟨pk,n,pg,l⟩ (.slice ba l.length bcap) HSl.out (by have:=HLB.out;simp only;omega)).mono ?_;rintro e w6 ⟨pv,rfl,hpv,hm6⟩;obtain⟨pa,pcap,rfl,_⟩:=_root_.id hpv;simp only[qA];have x0:=zE hm6 e0;have x1:=zE hm6 e1;have x2:=zE hm6 e2;have x3:=zE hm6 e3;have x4:=zE hm6 e4;have x5:=zE hm6 e5;have x6:=zE hm6 e6;have x7:=zE hm6 e7;have y1:=zE hm6 d1;have y2:=zE hm6 r0;have y3:=zE hm6 r1;have y4:=zE hm6 r2;have y5:=zE hm6 r3;have z6:∀o,w6.frozen? ⟨sb,o,none⟩=false:=λo=>(hm6.frozen (yH e0) (λf=>f)).trans (z1 o)))
    obtain⟨bvs',Pd',F',C',k1,k2,k3,k4⟩:=FN.out _ _ _ _ _ _ _ _ HH.out w6 pa pcap hm6 hpv;have K:=oh (And.intro k1 (And.intro k2 (And.intro k3 k4)));clear k1 k2 k3 k4 hpv hm6 x0 x1 x2 x3 x4 x5 x6 x7 y1 y2 y3 y4 y5 z6;go_wp2_with fail;go_ret;exact⟨bvs',Pd',F',C',_,rfl,K.out.1,K.out.2.1,K.out.2.2.1,K.out.2.2.2⟩
   .have HNO:=oh hno;clear hno;go_wp2_with fail;refine (zHa HX4.out.env HX4.out.sub HC4.out HI.out HCO.out).mono ?_;rintro e w5 ⟨i,s,bvs2,Pd2,F2,C2,rfl,hC2,hS2,hX2,hs2,hf2,hsub⟩;have hPF:=HX4.out.sub;obtain⟨n2,HH,d1,hlt,h64,⟨r0,r1,r2,r3⟩,⟨q0,q1,q2,qa,qn,qc,q4,q5,q6,⟨e0,e1,e2,e3⟩,e4,e5,e6,e7⟩,z1,HSl,HBd⟩:=TL.out w5 C2 bvs2 Pd2 F2 i s hC2 hS2 (HX4.out.trans hX2) (hX2.blk HB4.out HN0.out) (hX2.sl hPF HS4.out) hs2 (.inr ⟨hf2,hsub.no HNO.out⟩);have h1:(0:Int)<=(i:Int):=by omega
    have h2:(i:Int)<(n2:Int):=by omega
    have hcs:c≠sb:=HC4.out.ne;have hsc:sb≠c:=Ne.symm hcs;have hbs:w.heap.size≠sb:=HNS.out;have hsb:sb≠w.heap.size:=Ne.symm HNS.out;clear hC2 hS2 hX2 hs2 hf2 hsub hPF;go_wp2_with fail;go_region_held3 (λw'=>w'.cell? ⟨c,1,none⟩=some (.slice (some ⟨sb,0,none⟩) n2 n2)/\w'.cell? ⟨w.heap.size,0,none⟩=some (.int .i64 pk)/\w'.cell? ⟨w.heap.size,1,none⟩=some (.int .i64 (n:Int))/\w'.cell? ⟨w.heap.size,2,none⟩=some (.int .u64 (pg:Int))/\w'.cell? ⟨w.heap.size,3,none⟩=some (.slice ba l.length bcap)/\w'.cell? ⟨sb,i * 8+7,none⟩=some (.int .i64 0))
     (first|(with_reducible exact⟨y1,y2,y3,y4,y5,x7⟩)|(go_keep;done)|(refine⟨?_,?_,?_,?_,?_,zNN (x:=.int .i64 0) (zRF x7 _ _ _ _ _ _ _) _⟩ <;> go_keep))
     (first
      | (go_at_call 228;refine (zEX HBd.out ⟨pk,n,pg,l⟩ (.slice ba l.length bcap) HSl.out (by have:=HLB.out;simp only;omega)).mono ?_;rintro e w6 ⟨pv,rfl,hpv,hm6⟩;obtain⟨pa,pcap,rfl,_⟩:=_root_.id hpv;simp only[qA];have x0:=zE hm6 e0;have x1:=zE hm6 e1;have x2:=zE hm6 e2;have x3:=zE hm6 e3;have x4:=zE hm6 e4;have x5:=zE hm6 e5;have x6:=zE hm6 e6;have x7:=zE hm6 e7;have y1:=zE hm6 d1;have y2:=zE hm6 r0;have y3:=zE hm6 r1;have y4:=zE hm6 r2;have y5:=zE hm6 r3;have z6:∀o,w6.frozen? ⟨sb,o,none⟩=false:=λo=>(hm6.frozen (yH e0) (λf=>f)).trans (z1 o)))
    obtain⟨bvs',Pd',F',C',k1,k2,k3,k4⟩:=FN.out _ _ _ _ _ _ _ _ HH.out w6 pa pcap hm6 hpv;have K:=oh (And.intro k1 (And.intro k2 (And.intro k3 k4)));clear k1 k2 k3 k4 hpv hm6 x0 x1 x2 x3 x4 x5 x6 x7 y1 y2 y3 y4 y5 z6;go_wp2_with fail;go_ret;exact⟨bvs',Pd',F',C',_,rfl,K.out.1,K.out.2.1,K.out.2.2.1,K.out.2.2.2⟩
end
theorem zIg{P:Program}(t e:TypeId)(i:TypeInfo)(z:Value)(ht:P.underlying t=some (.slice e))(hi:P.info? e=some i)(hz:i.zero=some z)
  (kl kc:IntKind) (n c:Nat) (hnc:n<=c) (hbytes:i.bytes * c<=281474976710656) (h63:c<=9223372036854775807) (w:World) :
  (Instr.makeSlice t (.int kl (n:Int)) (.int kc (c:Int))).run P w=.ok (.slice (some ⟨w.heap.size,0,none⟩) n c) (w.alloc (.cells (madeCells z.cells (c * i.size)) e)):=by
 have hb:(i.bytes:Int) * (c:Int)<=281474976710656:=by
  have h:((i.bytes * c:Nat):Int)<=281474976710656:=by omega
  rwa [Int.natCast_mul] at h
 have hr:=run_make (P:=P) w t e i z ht hi hz kl kc n c (by omega) (by omega) hb (by omega);simp only[Int.toNat_natCast] at hr;exact hr
theorem Tryz.slotI:(Tryz.prog.info? 344).map (λi=>(i.zero,i.size,i.bytes))=some (some (.agg #[.int .i64 0,.int .i64 0,.int .u64 0,.slice none 0 0,.bool false,.bool false,.bool false,.int .i64 0]),8,64):=by kernel_rfl
def zBT:Array Value:=#[.int .i64 0,.int .i64 0,.int .u64 0,.slice none 0 0,.bool false,.bool false,.bool false,.int .i64 0]
theorem Tryz.mkSlots(n:Nat)(hn:n<=64)(w:World):(Instr.makeSlice 203 (.int .i64 (n:Int)) (.int .i64 (n:Int))).run Tryz.prog w=.ok (.slice (some ⟨w.heap.size,0,none⟩) n n) (w.alloc (.cells (madeCells zBT (n * 8)) 344)):=by
 obtain⟨i,hi,hz,hs,hb⟩:=zEz Tryz.slotI;have:=zIg (P:=Tryz.prog) 203 344 i _ Tryz.underlying203 hi hz .i64 .i64 n n (Nat.le_refl _) (by rw[hb];omega) (by omega) w;rw[hs] at this;exact this
theorem zKn{w:World}{sb n:Nat}(h:zH w sb (madeCells zBT (n * 8)) 344):zBi w sb (List.replicate n qM) (List.replicate n (.slice none 0 0)):=by
 refine⟨_,h,by simp[madeCells,zBT],λi s bv hs hb j v hv=>?_⟩;have e1:=zDm hs;have hi:i<n:=by have:=(List.getElem?_eq_some_iff.1 hs).1;simpa using this
 have e2:bv=.slice none 0 0:=by
  rw[List.getElem?_replicate,if_pos hi] at hb;injection hb with hb;exact hb.symm
 subst e1 e2;have hj:j<8:=by have:=(List.getElem?_eq_some_iff.1 hv).1;rw[zAC] at this;exact this
 have hlt:i * 8+j<n * 8:=by omega
 have e3:(i * 8+j) % 8=j:=by omega
 have:(madeCells zBT (n * 8))[i * 8+j]? = (qK qM (.slice none 0 0))[j]?:=by
  have hz:zBT.size=8:=rfl;unfold madeCells;rw[Array.getElem?_map,Array.getElem?_range,if_pos hlt,Option.map_some,hz,e3];clear h hb hs hv hlt e3 hi hz;obtain rfl|rfl|rfl|rfl|rfl|rfl|rfl|rfl:j=0\/j=1\/j=2\/j=3\/j=4\/j=5\/j=6\/j=7:=by omega
  all_goals rfl
 rw[this];exact hv
section
variable {P P' F F' Pd Pd':Nat->Prop}{ad:Nat->Addr}{w w':World}{d c sb:Nat}{bvs:List Value}{C:qJ}{D:zI}
def zRz[zW](C C':qJ)(id:Nat):Prop:=yI C'/\C'.disk.blocks=C.disk.blocks/\C'.disk.size=C.disk.size/\∀G,qW C G->qW C' (G.drop id)
def zPc[zW](F:Nat->Prop)(ad:Nat->Addr)(w:World)(d c sb:Nat)(Pd:Nat->Prop)(C:qJ)(id:Nat)(e:Ending)(w':World):Prop :=
 ∃(b:Bool) (bvs':List Value) (C':qJ),e=.returned (.bool b)/\CaR F w' d c sb bvs' Pd C'/\zY (caF c sb Pd) (caF c sb Pd) F F ad w w'/\zRz C C' id
theorem zMH[zW](hL:yG F ad w)(hP:∀k,caF c sb Pd k->F k)(h:CaR F w d c sb bvs Pd C)(hI:yI C)(id:Nat) :
  Calls Tryz.prog 223 #[.pointer (some ⟨c,0,none⟩),.int .i64 (id:Int)] w (zPc F ad w d c sb Pd C id):=by
 have HC:=oh h;have HL:=oh hL;have HP:=oh hP;have HI:=oh hI;clear h hL hP hI
 go_enter Tryz.func223, Tryz.ntmps223
 go_wp2_with fail;refine (zHZ HC.out id).mono ?_;rintro e w1 ⟨hm,hat⟩;have HM:=oh hm;have HC1:=oh (HC.out.at hm);clear hm;rcases hat with ⟨i,s,hs,hh,rfl⟩|⟨hno,rfl⟩
 .obtain⟨ba,bn,bc,hb⟩:=HC1.out.bvAt hs;obtain⟨e0,e1,e2,e3,e4,e5,e6,e7⟩:=HC1.out.cell8 hs hb;obtain⟨d0,d1,d2⟩:=HC1.out.c3;obtain⟨z0,z1⟩:=HC1.out.frz;have hlt:i<C.slots.length:=(List.getElem?_eq_some_iff.1 hs).1;have hn:=HC1.out.n64;have HS:=oh hs;have HH:=oh hh;obtain⟨n,hnn⟩:∃n,n=C.slots.length:=⟨_,rfl⟩;rw[<- hnn] at hn hlt d1;have HNN:=oh hnn;have h1:(0:Int)<=(i:Int):=by omega
  have h2:(i:Int)<(n:Int):=by omega
  have h3:decide ((0:Int)<=(i:Int))=true:=by simp
  clear hs hh hb hnn;go_wp2_with fail;go_ret;have q2:=HC1.out.slot' HP.out (i:=i) (by rw[<- HNN.out];exact hlt) qM (.slice none 0 0) (Sl.nil _ _ _ _);have q3:zA (caF c sb Pd) w1 (w1.setCells sb (i * 8) (qK qM (.slice none 0 0))):=zA.setMany (.inr (.inr (.inr rfl))) _ _ _ (zA.refl _ _);have n1:=zY.ext (P:=caF c sb Pd) HL.out HP.out HM.out;have n2:=zY.same n1.env n1.sub q3;exact⟨_,_,_,rfl,q2,n1.trans n2,(zNs HI.out HS.out),rfl,rfl,λG hG=>(zPH HI.out hG HS.out HH.out).2⟩
 .have HNO:=oh hno;clear hno;go_wp2_with fail;go_ret;exact⟨_,_,_,rfl,HC1.out,zY.ext HL.out HP.out HM.out,HI.out,rfl,rfl,λG hG=>zKa hG HNO.out⟩
def zN9[zW](F:Nat->Prop)(ad:Nat->Addr)(w:World)(d c sb:Nat)(bvs:List Value)(Pd:Nat->Prop)(C:qJ)(e:Ending)(w':World):Prop :=
 ∃(Pd' F':Nat->Prop) (C':qJ),e=.returned .nilIface/\CaR F' w' d c sb bvs Pd' C'/\Sim C C'/\zY (caF c sb Pd) (caF c sb Pd') F F' ad w w'/\∀(j:Nat) (t:zS),C'.slots[j]? = some t->t.wet=false
theorem zKo[zW](hL:yG F ad w)(hP:∀k,caF c sb Pd k->F k)(h:CaR F w d c sb bvs Pd C)(hI:yI C)(hc:C.cost<=1000000) :
  Calls Tryz.prog 96 #[.pointer (some ⟨c,0,none⟩)] w (zN9 F ad w d c sb bvs Pd C):=by
 obtain⟨_,d1,_⟩:=h.c3;have hn:=h.n64;obtain⟨n,hnn⟩:∃n,n=C.slots.length:=⟨_,rfl⟩;rw[<- hnn] at hn d1;have HNN:=oh hnn;have HC:=oh h;have HL:=oh hL;have HP:=oh hP;have HI:=oh hI;have HCO:=oh hc;clear h hL hP hnn hI hc
 go_enter Tryz.func96, Tryz.ntmps96
 go_wp2_with fail;go_loopg [14] n (λm v wr=>∃(k:Nat) (Pd1 F1:Nat->Prop) (C1:qJ),k+m=n/\v=.int .i64 k/\Hid (CaR F1 wr d c sb bvs Pd1 C1/\Sim C C1/\zY (caF c sb Pd) (caF c sb Pd1) F F1 ad w wr/\C1.slots.length=n/\∀(j:Nat) (t:zS),j<k->C1.slots[j]? = some t->t.wet=false))
 case atStart=>exact⟨0,Pd,F,C,by omega,rfl,oh ⟨HC.out,Sim.refl HI.out,zY.refl HL.out HP.out,HNN.out.symm,λj t hj=>by omega⟩⟩
 case round =>
  obtain⟨k,Pd1,F1,C1,hk,rfl,HW⟩:=hrel;by_cases hlt:k<n
  .obtain⟨s,hs⟩:∃s,C1.slots[k]? = some s:=⟨_,List.getElem?_eq_getElem (by rw[HW.out.2.2.2.1];exact hlt)⟩;have HS:=oh hs;clear hs;go_wp2_with fail;refine (zGY HW.out.2.2.1.env HW.out.2.2.1.sub HW.out.1 HW.out.2.1.inv (Nat.le_trans HW.out.2.1.cost HCO.out) HS.out).mono ?_;rintro e w5 ⟨Pd',F',C2,s2,rfl,hC2,hS2,hX2,hs2,hw2,hl2,hh2,hu2,hsub,ho2⟩;have HNX:Hid (CaR F' w5 d c sb bvs Pd' C2/\Sim C C2/\zY (caF c sb Pd) (caF c sb Pd') F F' ad w w5/\C2.slots.length=n/\∀(j:Nat) (t:zS),j<k+1->C2.slots[j]? = some t->t.wet=false) :=
    oh ⟨hC2,HW.out.2.1.trans hS2,HW.out.2.2.1.trans hX2,hl2.trans HW.out.2.2.2.1,λj t hj ht=>by
     by_cases e:j=k
     .subst e;rw[hs2] at ht;injection ht with ht;rw[<- ht];exact hw2
     .rw[ho2 j e] at ht;exact HW.out.2.2.2.2 j t (by omega) ht⟩
   clear hC2 hS2 hX2 hs2 hw2 hl2 hh2 hu2 hsub ho2;go_wp2_with fail;go_roundg (gk-1)
   case measure=>omega
   case rel=>exact⟨k+1,Pd',F',C2,by omega,by go_num,HNX⟩
  .go_wp2_with fail;go_ret;exact⟨Pd1,F1,C1,rfl,HW.out.1,HW.out.2.1,HW.out.2.2.1,λj t ht=>HW.out.2.2.2.2 j t (by have:=(List.getElem?_eq_some_iff.1 ht).1;have:=HW.out.2.2.2.1;omega) ht⟩
def zOA(F:Nat->Prop)(ad:Nat->Addr)(w:World)(d:Nat)(Pd:Nat->Prop)(D:zI)(n:Nat)(e:Ending)(w':World):Prop :=
 ∃(c sb:Nat) (bvs:List Value) (F':Nat->Prop),e=.returned (.tuple #[.pointer (some ⟨c,0,none⟩),.nilIface])/\CaR F' w' d c sb bvs Pd ⟨D,List.replicate n qM,0⟩/\zY Pd (caF c sb Pd) F F' ad w w'
theorem zPd(hL:yG F ad w)(hP:∀k,Pd k->F k)(hD:jT w Pd d D)(n:Nat)(h3:3<=n)(h64:n<=64) :
  Calls Tryz.prog 73 #[.pointer (some ⟨d,0,none⟩),.int .i64 (n:Int)] w (zOA F ad w d Pd D n):=by
 have hmk:=Tryz.mkSlots n h64;have a1:decide ((n:Int)<3)=false:=by simp;omega
 have a2:decide ((64:Int)<(n:Int))=false:=by simp;omega
 have HL:=oh hL;have HP:=oh hP;have HD:=oh hD;clear hL hP hD
 go_enter Tryz.func73, Tryz.ntmps73
 go_wp2_with fail;go_ret2
 have hD:=HD.out;have hB:zH ((w.alloc (.cells (madeCells zBT (n * 8)) 344)).alloc (.cells #[.pointer (some ⟨d,0,none⟩),.slice (some ⟨w.heap.size,0,none⟩) n n,.int .i64 0] 205)) w.heap.size (madeCells zBT (n * 8)) 344:=(zH.new w _ _).alloc _;have hB2:zH ((w.alloc (.cells (madeCells zBT (n * 8)) 344)).alloc (.cells #[.pointer (some ⟨d,0,none⟩),.slice (some ⟨w.heap.size,0,none⟩) n n,.int .i64 0] 205)) (w.heap.size+1) #[.pointer (some ⟨d,0,none⟩),.slice (some ⟨w.heap.size,0,none⟩) n n,.int .i64 0] 205:=zR (by simp);have m1:zF w ((w.alloc (.cells (madeCells zBT (n * 8)) 344)).alloc (.cells #[.pointer (some ⟨d,0,none⟩),.slice (some ⟨w.heap.size,0,none⟩) n n,.int .i64 0] 205)):=((zA.refl _ w).alloc _).alloc _;have hbd:=hD.bd;have st:Stp Pd (caF (w.heap.size+1) w.heap.size Pd) w ((w.alloc (.cells (madeCells zBT (n * 8)) 344)).alloc (.cells #[.pointer (some ⟨d,0,none⟩),.slice (some ⟨w.heap.size,0,none⟩) n n,.int .i64 0] 205)) :=
  ⟨m1.ext,λk hk hf=>by
   rcases hf with hf|rfl|rfl
   .exact hf
   .omega
   .omega,λk hf=>by
   rcases hf with hf|rfl|rfl
   .exact Nat.lt_of_lt_of_le (hbd k hf) m1.size
   .exact hB2.lt
   .exact hB.lt⟩
 refine⟨w.heap.size+1,w.heap.size,List.replicate n (.slice none 0 0),_,rfl,⟨by simpa using hB2,zKn hB,by simp,by simpa using h64,λi s bv hs hb=>?_,hD.at m1,λf=>by have:=hbd _ f;omega,λf=>by have:=hbd _ f;omega,by omega⟩,zY.of HL.out HP.out st⟩;have hi:i<n:=by have:=(List.getElem?_eq_some_iff.1 hs).1;simpa using this
 have e1:=zDm hs;have e2:bv=.slice none 0 0:=by rw[List.getElem?_replicate,if_pos hi] at hb;injection hb with hb;exact hb.symm
 subst e1 e2;exact Sl.nil _ _ _ _
end
end
section
open Go.RowKit
def qL:List Nat->List (Nat × Nat)->List Nat
 | l,[]=>l
 | l,(i,g) :: r=>qL (l.set i g) r
theorem zBF:∀(r:List (Nat × Nat)) (l:List Nat),(qL l r).length=l.length
 | [],_=>rfl
 | (i,g) :: r,l=>by rw[qL,zBF r,List.length_set]
theorem zFe:∀(r:List (Nat × Nat)) (l:List Nat) (p:Nat × Nat),qL l (r++[p])=(qL l r).set p.1 p.2
 | [],_,_=>rfl
 | (i,g) :: r,l,p=>by rw[List.cons_append,qL,zFe r,qL]
theorem zJu{l:List Nat}{i g k:Nat}(h:k∈l.set i g):k∈l\/k=g:=by
 obtain⟨j,hj,e⟩:=List.getElem_of_mem h;rw[List.getElem_set] at e;split at e
 .exact .inr e.symm
 .left;rw[<- e];exact List.getElem_mem _
theorem zEY:∀(r:List (Nat × Nat)) (l:List Nat) (k:Nat),k∈qL l r->k∈l\/k∈r.map (·.2)
 | [],_,_,h=>.inl h
 | (i,g) :: r,l,k,h=>by
  rw[qL] at h;rcases zEY r _ k h with h|h
  .rcases zJu h with h|h
   .exact .inl h
   .exact .inr (by simp[h])
  .exact .inr (by simp[h])
theorem zI2:∀(l:List Nat) (i g:Nat),l.Nodup->g ∉ l->(l.set i g).Nodup
 | [],_,_,_,_=>by simp
 | a :: l,0,g,h,hg=>by
  rw[List.set_cons_zero,List.nodup_cons];exact⟨λhm=>hg (List.mem_cons_of_mem _ hm),(List.nodup_cons.1 h).2⟩
 | a :: l,i+1,g,h,hg=>by
  rw[List.set_cons_succ,List.nodup_cons];refine⟨λhm=>?_,zI2 l i g (List.nodup_cons.1 h).2 (λhm=>hg (List.mem_cons_of_mem _ hm))⟩;rcases zJu hm with hm|rfl
  .exact (List.nodup_cons.1 h).1 hm
  .exact hg List.mem_cons_self
theorem zE0:∀(r:List (Nat × Nat)) (l:List Nat),(l++r.map (·.2)).Nodup->(qL l r).Nodup
 | [],l,h=>by simpa[qL] using h
 | (i,g) :: r,l,h=>by
  rw[qL];rw[List.map_cons,List.nodup_append] at h;obtain⟨h1,h2,h3⟩:=h;rw[List.nodup_cons] at h2;refine zE0 r _ ?_;rw[List.nodup_append];refine⟨zI2 l i g h1 (λhm=>h3 g hm g List.mem_cons_self rfl),h2.2,λa ha b hb e=>?_⟩;subst e;rcases zJu ha with ha|rfl
  .exact h3 a ha a (List.mem_cons_of_mem _ hb) rfl
  .exact h2.1 hb
theorem zGZ(R:Nat->List UInt8->Prop):∀(W:List (Nat × List UInt8)) (ws:List Nat) (gs:List Nat) (L:List (List UInt8)),ws.length=W.length->gs.length=L.length ->
  (∀(i g:Nat) (b:List UInt8),gs[i]? = some g->L[i]? = some b->R g b)->(∀(i g:Nat) (p:Nat × List UInt8),ws[i]? = some g->W[i]? = some p->R g p.2) ->
  ∀(i g:Nat) (b:List UInt8),(qL gs ((W.map (·.1)).zip ws))[i]? = some g->(settle L W)[i]? = some b->R g b
 | [],ws,gs,L,_,_,h1,_,i,g,b,hg,hb=>h1 i g b (by simpa[qL] using hg) hb
 | (j,c) :: W,[],gs,L,hl,_,_,_,_,_,_,_,_=>by simp at hl
 | (j,c) :: W,x :: ws,gs,L,hl,hl2,h1,h2,i,g,b,hg,hb=>by
  rw[List.map_cons,List.zip_cons_cons,qL] at hg;rw[settle] at hb;refine zGZ R W ws (gs.set j x) (L.set j c) (by simpa using hl) (by simpa using hl2) (λi' g' b' hg' hb'=>?_) (λi' g' p' hg' hp'=>h2 (i'+1) g' p' (by simpa using hg') (by simpa using hp')) i g b hg hb;rcases zK hg' with ⟨rfl,rfl⟩|⟨hne,hg'⟩
  .rcases zK hb' with ⟨_,rfl⟩|⟨hne,_⟩
   .exact h2 0 g' (i',b') (by simp) (by simp)
   .exact absurd rfl hne
  .rcases zK hb' with ⟨e,_⟩|⟨_,hb'⟩
   .exact absurd e hne
   .exact h1 i' g' b' hg' hb'
section
variable {P F:Nat->Prop}{ad:Nat->Addr}{w w':World}{d bl:Nat}{gs ws:List Nat}{wv kv:Value}{D:zI}
theorem zNO{l:List Nat}{m:List Nat}(h:l.length=m.length):(l.zip m).map (·.2)=m:=List.map_snd_zip (by omega)
theorem DkR.waitC2(h:DkR w d bl gs ws wv kv D)(k:Nat)(p:Nat × List UInt8)(hk:D.waiting[k]? = some p):∃b c g,wv=.slice (some ⟨b,0,none⟩) D.waiting.length c/\ws[k]? = some g /\
  w.cell? ⟨b,k * 2,none⟩=some (.int .i64 (p.1:Int))/\w.cell? ⟨b,k * 2+1,none⟩=some (zAL D.size g)/\b ∉ d :: bl :: (gs++ws)/\p.1<D.blocks:=by
 obtain⟨b,off,n,c,g,h1,h2,h3,h4,_,_⟩:=h.waitC k p hk;have hr:=h.wrow k g p h2 hk;obtain⟨_,a',c',hv⟩:=h.wvC;rcases h.wait.1.2 with ⟨e,_⟩|⟨g',cap,cur,e,_⟩
 .rw[h1] at e;cases e
 .rw[h1] at e hv;simp only[Value.slice.injEq,Option.some.injEq,Addr.mk.injEq] at e hv;obtain⟨⟨rfl,rfl,_⟩,_,_⟩:=e;refine⟨b,c,g,by rw[h1,hv.2.1],h2,by simpa using h3,by simpa using h4,h.wait.2 b (by rw[h1];rfl),hr.1⟩
theorem DkR.settled{w1 wr:World}(h:DkR w1 d bl gs ws wv kv D)(m:zA (λx=>x=bl) w1 wr){cap:Nat}{rest:List Value}(h1:D.blocks<=cap)(h2:cap<=9223372036854775807)
  (hd:zH w1 d #[.int .i64 D.blocks,.int .i64 D.size,.slice (some ⟨bl,0,none⟩) D.blocks cap,wv,.bool D.lit,.int .i64 D.after,.int .i64 D.torn,.int .i64 D.cut,kv,.bool D.off,.int .i64 D.count] 102)
  (hb:zH wr bl (((qL gs ((D.waiting.map (·.1)).zip ws)).map (zAL D.size))++rest).toArray 87) (hl:gs.length+rest.length=cap) :
  DkR (wr.setCell ⟨d,3,none⟩ (.slice none 0 0)) d bl (qL gs ((D.waiting.map (·.1)).zip ws)) [] (.slice none 0 0) kv { D with lasting:=settle D.lasting D.waiting,waiting:=[] }:=by
 have hz:((D.waiting.map (·.1)).zip ws).map (·.2)=ws:=zNO (by simp[h.lenW]);have hmem:∀k,k∈qL gs ((D.waiting.map (·.1)).zip ws)->k∈gs++ws:=λk hk=>by
  rcases zEY _ _ k hk with h|h
  .exact List.mem_append_left _ h
  .rw[hz] at h;exact List.mem_append_right _ h
 have hnd:=h.nodup;have hdb:d≠bl:=λe=>(List.nodup_cons.1 hnd).1 (by rw[e];exact List.mem_cons_self)
 have hng:∀k,k∈gs++ws->k≠bl/\k≠d:=λk hk=>⟨λe=>(List.nodup_cons.1 (List.nodup_cons.1 hnd).2).1 (e ▸ hk),λe=>(List.nodup_cons.1 hnd).1 (e ▸ List.mem_cons_of_mem _ hk)⟩
 have hrow:∀(g:Nat) (b:List UInt8),(g∈gs++ws/\b.length=D.size/\zH w1 g (yW b) 5)->zH (wr.setCell ⟨d,3,none⟩ (.slice none 0 0)) g (yW b) 5:=λg b ⟨k1,_,k3⟩=>(k3.mods m (hng g k1).1).set_other (hng g k1).2 _
 have R:=zGZ (λg b=>g∈gs++ws/\b.length=D.size/\zH w1 g (yW b) 5) D.waiting ws gs D.lasting h.lenW (by rw[h.lenB,h.lenL])
  (λi g b hg hb=>⟨List.mem_append_left _ (List.mem_of_getElem? hg),h.row i g b hg hb⟩) (λi g p hg hp=>⟨List.mem_append_right _ (List.mem_of_getElem? hg),(h.wrow i g p hg hp).2⟩)
 have nd:(d :: bl :: (qL gs ((D.waiting.map (·.1)).zip ws)++[])).Nodup:=by
  rw[List.append_nil,List.nodup_cons,List.nodup_cons];refine⟨λhm=>?_,λhm=>(hng bl (hmem bl hm)).1 rfl,zE0 _ _ ?_⟩
  .rw[List.mem_cons] at hm;rcases hm with hm|hm
   .exact hdb hm
   .exact (hng d (hmem d hm)).2 rfl
  .rw[hz];exact (List.nodup_cons.1 (List.nodup_cons.1 hnd).2).2
 have hsub:∀k,k∈d :: bl :: (qL gs ((D.waiting.map (·.1)).zip ws)++[])->k∈d :: bl :: (gs++ws):=λk hk=>by
  simp only[List.append_nil,List.mem_cons] at hk ⊢;rcases hk with hk|hk|hk
  .exact .inl hk
  .exact .inr (.inl hk)
  .exact .inr (.inr (hmem k hk))
 refine⟨⟨cap,h1,h2,?_,rest,hb.set_other (λe=>hdb e.symm) _,by rw[zBF];exact hl⟩,by rw[zBF];exact h.lenB,by rw[zAv];exact h.lenL,rfl,?_,λg hg=>by simp[Value.ownBlock],h.few2,yC.nil _ _ _ _ _ _,
  λi g b hg hb=>⟨(R i g b hg hb).2.1,hrow g b (R i g b hg hb)⟩,λi g p hg=>by simp at hg,nd,h.b8,h.b256,h.s256,h.s1024,by simp⟩
 .have:=(hd.mods m hdb).set 3 (.slice none 0 0);simpa using this
 .have k1:=(h.keep.mods m (λg hg e=>h.keep.2 g hg (e ▸ List.mem_cons_of_mem _ List.mem_cons_self))).mods (zA.at (λk=>k=d) wr d 3 (.slice none 0 0) rfl) (λg hg e=>h.keep.2 g hg (e ▸ List.mem_cons_self));exact⟨k1.1,λg hg hm=>k1.2 g hg (hsub g hm)⟩
def zMI(F P:Nat->Prop)(ad:Nat->Addr)(w:World)(d:Nat)(D':zI)(e:Ending)(w':World):Prop:=∃P' F',e=.returned .nilIface/\jT w' P' d D'/\zY P P' F F' ad w w'
theorem zMJ(hL:yG F ad w)(hP:∀k,P k->F k)(h:DkR w d bl gs ws wv kv D)(hD:∀k,P k ↔ dkF d bl gs ws wv kv k)(ho:D.off=false)(hl:D.lit=false) :
  Calls Tryz.prog 33 #[.pointer (some ⟨d,0,none⟩)] w (zMI F P ad w d D.flushed):=by
 have c9:=h.offC;rw[ho] at c9;have HL:=oh hL;have HD:=oh h;have HP:=oh hP;have HDD:=oh hD;have HO:=oh ho;clear h hL hP hD ho
 go_enter Tryz.func33, Tryz.ntmps33
 go_wp2_with fail;refine (zHX HD.out hl).mono ?_;rintro e w1 ⟨rfl,hD1,hm1⟩;obtain⟨D1,hDe⟩:∃x,x=D.burns.2:=⟨_,rfl⟩;have hfl:D.flushed = { D1 with lasting:=settle D1.lasting D1.waiting,waiting:=[] }:=by rw[hDe];unfold zI.burns zI.flushed;simp[hl]
 rw[<- hDe] at hD1;have HFL:=oh hfl;have HD1:=oh hD1;have HM1:=oh hm1;obtain⟨cap,a1,a2,a3,rest,a4,a5⟩:=HD1.out.own;have hb256:=hD1.b256;have hn6:=hD1.few;obtain⟨n,hn⟩:∃n,n=D1.waiting.length:=⟨_,rfl⟩;obtain⟨c3,av,cv,hv⟩:=hD1.wvC;rw[hv,<- hn] at c3;rw[<- hn] at hn6;have HV:=oh hv;have HN:=oh hn;have A3:=oh a3;have A4:=oh a4;clear hD1 hm1 hfl hDe hv hn a3 a4;go_wp2_with fail;go_loopg [24] n (λm i wr=>∃k:Nat,k+m=n/\i=.int .i64 k/\Hid (zA (λx=>x=bl) w1 wr/\zH wr bl (((qL gs (((D1.waiting.map (·.1)).zip ws).take k)).map (zAL D1.size))++rest).toArray 87))
 case atStart=>exact⟨0,by omega,rfl,oh ⟨zA.refl _ _,A4.out⟩⟩
 case round =>
  obtain⟨k,hk,rfl,HW⟩:=hrel;have hdb:d≠bl:=λe=>(List.nodup_cons.1 HD1.out.nodup).1 (by rw[e];exact List.mem_cons_self)
  have d3:=((A3.out.mods HW.out.1 hdb).cell (o:=3) (v:=wv) rfl);by_cases hlt:k<n
  .obtain⟨p,hp⟩:∃p,D1.waiting[k]? = some p:=⟨_,List.getElem?_eq_getElem (by rw[<- HN.out];exact hlt)⟩;obtain⟨b,c,g,e1,e2,e3,e4,e5,e6⟩:=HD1.out.waitC2 k p hp;rw[HV.out] at e1;simp only[Value.slice.injEq] at e1;obtain⟨rfl,_,rfl⟩:=e1;have hbb:b≠bl:=λe=>e5 (e ▸ List.mem_cons_of_mem _ List.mem_cons_self)
   have x0:=(HW.out.1.cell (yH e3) hbb).trans e3;have x1:=(HW.out.1.cell (yH e4) hbb).trans e4;simp only[zAL] at x1;have d2:=((A3.out.mods HW.out.1 hdb).cell (o:=2) (v:=.slice (some ⟨bl,0,none⟩) D1.blocks cap) rfl);have hlen:((qL gs (((D1.waiting.map (·.1)).zip ws).take k)).map (zAL D1.size)++rest).length=cap:=by rw[List.length_append,List.length_map,zBF];exact a5
   obtain⟨v0,hv0⟩:∃v0,wr.cell? ⟨bl,p.1,none⟩=some v0:=⟨_,HW.out.2.cell (by rw[List.getElem?_toArray];exact List.getElem?_eq_getElem (by rw[hlen];omega))⟩;have fb:=HW.out.2.frozen;have hdl:d<wr.heap.size:=yH d2;have hbl:bl<wr.heap.size:=yH hv0;have hbq:b<wr.heap.size:=yH x0;have HE2:=oh e2;have HPP:=oh hp;obtain⟨pi,pb⟩:=p;simp only at *;have h1:(0:Int)<=(pi:Int):=by omega
   have h2:(pi:Int)<(D1.blocks:Int):=by omega
   have HLEN:=oh hlen;have HNX:Hid (∀wz,wz=(wr.setCell ⟨bl,pi,none⟩ (.slice (some ⟨g,0,none⟩) D1.size D1.size)).alloc (.cells #[.int .i64 (pi:Int),.slice (some ⟨g,0,none⟩) D1.size D1.size] 146)->zA (λx=>x=bl) w1 wz/\zH wz bl (((qL gs (((D1.waiting.map (·.1)).zip ws).take (k+1))).map (zAL D1.size))++rest).toArray 87):=oh (by
    rintro _ rfl;refine⟨(HW.out.1.setCell (.inr rfl) _).alloc _,?_⟩;have q:=((HW.out.2.set pi (.slice (some ⟨g,0,none⟩) D1.size D1.size)).alloc (.cells #[.int .i64 (pi:Int),.slice (some ⟨g,0,none⟩) D1.size D1.size] 146));have e:(((qL gs (((D1.waiting.map (·.1)).zip ws).take (k+1))).map (zAL D1.size))++rest).toArray=((((qL gs (((D1.waiting.map (·.1)).zip ws).take k)).map (zAL D1.size))++rest).toArray.setIfInBounds pi (.slice (some ⟨g,0,none⟩) D1.size D1.size)):=by
     rw[jA _ k (pi,g) (by rw[List.getElem?_zip_eq_some];exact⟨by simp[HPP.out],HE2.out⟩),zFe];simp only[List.map_set,List.setIfInBounds_toArray];rw[List.set_append_left _ _ (by rw[List.length_map,zBF,HD1.out.lenB];omega)];rfl
    rw[e];exact q)
   clear hp e2 e3 e4 e5 hlen d3;go_wp2_with fail;go_region
   go_wp2_with fail;go_roundg (gk-1)
   case measure=>omega
   case rel=>exact⟨k+1,by omega,by go_num,oh (by have:=HNX.out _ rfl;exact⟨this.1.drew,this.2⟩)⟩
  .obtain rfl:k=n:=by omega
   have HZ:Hid (((D1.waiting.map (·.1)).zip ws).take k=(D1.waiting.map (·.1)).zip ws):=oh (List.take_of_length_le (by simp[HD1.out.lenW,HN.out]));have f3:wr.frozen? ⟨d,3,none⟩=false:=(A3.out.mods HW.out.1 hdb).frozen 3;rw[HV.out] at d3;go_wp2_with fail;go_ret;have hW2:=HW.out.2;rw[HZ.out] at hW2;have hs:=HD1.out.settled HW.out.1 a1 a2 A3.out hW2 a5;have hbl:P bl:=(HDD.out bl).2 (.inl (List.mem_cons_of_mem _ List.mem_cons_self));have hd:P d:=(HDD.out d).2 (.inl List.mem_cons_self);have m1:zA P w w1:=HM1.out.mono (λx hx=>hx ▸ hd);have m2:zA P w wr:=m1.trans (HW.out.1.mono (λx hx=>hx ▸ hbl));have m3:=m2.setCell (p:=⟨d,3,none⟩) (.inr hd) (.slice none 0 0);have hbd:Bd P w:=λx hx=>HD.out.bdF x ((HDD.out x).1 hx)
   have st:Stp P (dkF d bl (qL gs ((D1.waiting.map (·.1)).zip ws)) [] (.slice none 0 0) kv) w (wr.setCell ⟨d,3,none⟩ (.slice none 0 0)):=by
    have hsub:∀x,dkF d bl (qL gs ((D1.waiting.map (·.1)).zip ws)) [] (.slice none 0 0) kv x->P x:=λx hx=>by
     rcases hx with hx|hx|hx
     .simp only[List.append_nil,List.mem_cons] at hx;rcases hx with rfl|rfl|hx
      .exact hd
      .exact hbl
      .refine (HDD.out x).2 (.inl (List.mem_cons_of_mem _ (List.mem_cons_of_mem _ ?_)));rcases zEY _ _ x hx with hx|hx
       .exact List.mem_append_left _ hx
       .rw[zNO (by simp[HD1.out.lenW])] at hx;exact List.mem_append_right _ hx
     .simp[Value.ownBlock] at hx
     .exact (HDD.out x).2 (.inr (.inr hx))
    exact⟨m3,λx _ hx=>hsub x hx,λx hx=>Nat.lt_of_lt_of_le (hbd x (hsub x hx)) m3.size⟩
   refine⟨_,_,rfl,⟨bl,_,_,_,kv,?_,λk=>Iff.rfl⟩,zY.of HL.out HP.out st⟩;rw[HFL.out];exact hs
end
end
end Go.Proofs.YteabpacpngaoaaaGreatDoor
