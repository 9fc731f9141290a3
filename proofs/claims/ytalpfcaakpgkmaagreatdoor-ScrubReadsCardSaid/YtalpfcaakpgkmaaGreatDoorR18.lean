import Derived.Test.YtalpfcaakpgkmaaGreatDoorR17
import Derived.Laws.MakeOwn
namespace Go.Proofs.YtalpfcaakpgkmaaGreatDoor
open Lib renaming hid->oh
set_option maxHeartbeats 4000000
set_option maxRecDepth 100000
open Go.RowKit
attribute [local go_sem ↓] Go.wp_at_zero Go.wp_at_succ
section
variable {P P' F F' Pd Pd':NP}{ad:Nat->Addr}{w w':World}{d c sb:Nat}{bvs:List Value}{C:qL}{D:zJ}
theorem zEp(hF:Bd F w)(p:zY)(bv:Value)(hb:Sl F w 1 zZ bv p.body)(hl:p.body.length<=100000) :
  Calls Tryz.prog 302 #[qC p bv] w λe w'=>∃pv,e=.returned (qC p pv)/\Sl F w' 1 zZ pv p.body/\zF w w':=by
 obtain⟨pk,pi,pg,l⟩:=p;obtain⟨a,cap,rfl,i1,i2,i3,i4⟩:=id hb;simp only at *;unfold qC;simp only;have C6:=zHy (P:=Tryz.prog) 69 5 (.int .u8 0) 1 Tryz.underlying69 Tryz.mkB rfl l.length (by omega) (by omega);have C7:∃W,(Builtin.copy_ #[69,69] 3 #[.slice (some ⟨w.heap.size+2,0,none⟩) l.length l.length,.slice a l.length cap]).run Tryz.prog (((w.alloc (.cells #[.int .i64 pk,.int .i64 pi,.int .u64 (pg:Int),.slice a l.length cap] 221)).alloc gE).alloc (.cells (Array.replicate l.length (.int .u8 0)) 5))=.ok (goInt l.length) W /\
   zG W w.heap.size #[.int .i64 pk,.int .i64 pi,.int .u64 (pg:Int),.slice a l.length cap] 221 /\ zG W (w.heap.size+1) gE 221 /\ zG W (w.heap.size+2) (l.flatMap zZ).toArray 5 /\ zF w W:=by
  have b1:zG (((w.alloc (.cells #[.int .i64 pk,.int .i64 pi,.int .u64 (pg:Int),.slice a l.length cap] 221)).alloc gE).alloc (.cells (Array.replicate l.length (.int .u8 0)) 5)) w.heap.size _ _:=((zG.new w _ _).alloc _).alloc _;have b2:zG (((w.alloc (.cells #[.int .i64 pk,.int .i64 pi,.int .u64 (pg:Int),.slice a l.length cap] 221)).alloc gE).alloc (.cells (Array.replicate l.length (.int .u8 0)) 5)) (w.heap.size+1) _ _:=zG.alloc (zS (by simp)) _;have b3:zG (((w.alloc (.cells #[.int .i64 pk,.int .i64 pi,.int .u64 (pg:Int),.slice a l.length cap] 221)).alloc gE).alloc (.cells (Array.replicate l.length (.int .u8 0)) 5)) (w.heap.size+2) _ _:=zS (by simp);have mA:zF w (((w.alloc (.cells #[.int .i64 pk,.int .i64 pi,.int .u64 (pg:Int),.slice a l.length cap] 221)).alloc gE).alloc (.cells (Array.replicate l.length (.int .u8 0)) 5)):=(((zss w).alloc _).alloc _).alloc _;obtain⟨W,h1,h2,h3⟩:=zHW (P:=Tryz.prog) Tryz.elB 3 (w.heap.size+2) _ _ l a cap b3 (by simp) (hb.mods mA.ext);exact⟨W,h1,b1.mods h3 (by simp),b2.mods h3 (by simp),h2,mA.trans' h3 (λi hi e=>by omega)⟩
 obtain⟨W,C8,k1,k2,k3,km⟩:=C7;have c10:=k1.k 0 rfl;have c11:=k1.k 1 rfl;have c12:=k1.k 2 rfl;have c13:=k1.k 3 rfl;have c20:=k2.k 0 rfl;have c21:=k2.k 1 rfl;have c22:=k2.k 2 rfl;have c23:=k2.k 3 rfl;have f1:=k1.frozen;have f2:=k2.frozen;have K1:=oh k1;have K2:=oh k2;have K3:=oh k3;have KM:=oh km;have HF:=oh hF;unfold maxLen at i2;clear k1 k2 k3 km i4 hb hF
 go_enter Tryz.func302, Tryz.ntmps302
 go_wp2_with (at_builtin;refine Go.Lib.wpList_copy_run _ rfl _ _ 69 69 rfl _ _ rfl rfl C8 ?_);go_wp2_with fail;have q1:=(K2.out.set_other (p:=⟨w.heap.size,3,none⟩) (by simp) (.slice (some ⟨w.heap.size+2,0,none⟩) l.length l.length)).set4 (.int .i64 pk) (.int .i64 pi) (.int .u64 (pg:Int)) (.slice (some ⟨w.heap.size+2,0,none⟩) l.length l.length);refine bodyPost_ret (results_cell_row rfl _ _ (w.heap.size+1) 221 #[.int .i64 pk,.int .i64 pi,.int .u64 (pg:Int),.slice (some ⟨w.heap.size+2,0,none⟩) l.length l.length] (0,0) _ rfl q1 Tryz.underlying221 rfl Tryz.pageSize) rfl ?_;have m1:=KM.out.setCell (p:=⟨w.heap.size,3,none⟩) (.inl (uD _)) (.slice (some ⟨w.heap.size+2,0,none⟩) l.length l.length);have m2:=m1.set4 (R:=w.heap.size+1) (.inl (by omega)) (.int .i64 pk) (.int .i64 pi) (.int .u64 (pg:Int)) (.slice (some ⟨w.heap.size+2,0,none⟩) l.length l.length);refine⟨_,rfl,?_,m2⟩;have K4:zG W (w.heap.size+2) (qA l) 5:=by rw[<- zG2];exact K3.out
 have K5:=((((K4.set_other (p:=⟨w.heap.size,3,none⟩) (by simp) (.slice (some ⟨w.heap.size+2,0,none⟩) l.length l.length)).set_other (p:=⟨w.heap.size+1,0,none⟩) (by simp) (.int .i64 pk)).set_other (p:=⟨w.heap.size+1,1,none⟩) (by simp) (.int .i64 pi)).set_other (p:=⟨w.heap.size+1,2,none⟩) (by simp) (.int .u64 (pg:Int))).set_other (p:=⟨w.heap.size+1,3,none⟩) (by simp) (.slice (some ⟨w.heap.size+2,0,none⟩) l.length l.length);exact zCq (size:=l.length) K5 rfl (λf=>by have:=HF.out _ f;omega) (by omega)
theorem DkS.read(hL:yH F ad w)(h:DkS w P d D)(i:Nat)(hi:i<D.blocks)(ho:D.off=false) :
  Calls Tryz.prog 159 #[.pointer (some ⟨d,0,none⟩),.int .i64 (i:Int)] w λe w'=>∃g,e=.returned (.tuple #[zAT D.size g,.nilIface])/\w.heap.size<=g/\zG w' g (qA (D.look i)) 5 /\ (D.look i).length=D.size/\zF w w':=by
 obtain⟨bl,gs,ws,wv,kv,h1,h2⟩:=h;exact zOn hL h1 i hi ho
def zSq(F':NP)(ad:Nat->Addr)(w':World)(C C':qL)(id:Nat)(e:Ending):Prop :=
 (∃(i:Nat) (s:zU),e=.returned (.tuple #[.int .i64 (i:Int),.nilIface])/\C'.slots[i]? = some s/\s.has id=true/\C.vw id=.inl s.page) \/
 (∃(pg:List Int) (k f:Nat),e=.returned (.tuple #[.int .i64 0,zP f])/\C.vw id=.inr (pg,k)/\vN F' ad w' (zP f) pg k)
theorem zMr[zQ](hL:yH F ad w)(hP:∀k,caF c sb Pd k->F k)(h:CaR F w d c sb bvs Pd C)(hI:yJ C)(hc:C.cost<=1000000)(id:Nat)(hid:id<C.disk.blocks)(Ak:vL<=id) :
  Calls Tryz.prog 307 #[.pointer (some ⟨c,0,none⟩),.int .i64 (id:Int)] w λe w'=>∃(bvs':List Value) (Pd' F':NP) (C':qL),CaR F' w' d c sb bvs' Pd' C'/\Sim C C' /\
   zX (caF c sb Pd) (caF c sb Pd') F F' ad w w'/\zSq F' ad w' C C' id e:=by
 have HC:=oh h;have HL:=oh hL;have HP:=oh hP;have HI:=oh hI;have Ao:=oh hc;have C9:=oh hid;have As:=oh Ak;have hn:=h.n64;clear h hL hP hI hc hid Ak
 go_enter Tryz.func307, Tryz.ntmps307
 go_wp2_with fail;refine (zH6 HC.out id).mono ?_;rintro e w1 ⟨hm,Aw⟩;have HM:=oh hm;have A2:=oh (HC.out.at hm);clear hm;rcases Aw with ⟨i,s,hs,hh,rfl⟩|⟨Al,rfl⟩
 .obtain⟨ba,bn,bc,hb⟩:=A2.out.bvAt hs;obtain⟨e0,e1,e2,e3,e4,e5,e6,e7⟩:=A2.out.cell8 hs hb;obtain⟨d0,d1,d2⟩:=A2.out.c3;obtain⟨z0,z1⟩:=A2.out.frz;have Ab:i<C.slots.length:=(uA.1 hs).1;have HS:=oh hs;have HH:=oh hh;generalize C.slots.length=n at hn Ab d1
  have h1:(0:Int)<=(i:Int):=by omega
  have h2:(i:Int)<(n:Int):=by omega
  clear hs hh hb e0 e1 e2 e3 e4 e5 e7;go_wp2_with fail;go_ret2
  have n1:=zX.ext (P:=caF c sb Pd) HL.out HP.out HM.out;have n2:=zX.same n1.env n1.sub (zA.at (caF c sb Pd) w1 sb (i * 8+6) (.bool true) (.inr (.inr rfl)));exact⟨bvs,Pd,F,_,A2.out.used HP.out HS.out true,zLA HI.out HS.out true,n1.trans n2,.inl ⟨i,{ s with used:=true },rfl,zCZ HS.out,HH.out,(show C.vw id=.inl s.page from HI.out.vw_at HS.out HH.out)⟩⟩
 .have Ax:=oh Al;clear Al;have Ca:=oh (HL.out.mods HM.out.ext);go_wp2_with fail;refine (zH7 Ca.out HP.out A2.out HI.out Ao.out).mono ?_;rintro e w2 ⟨i,s,bvs2,Pd2,F2,C2,rfl,Ag,Ae,A7,Am,Ay,A8⟩;have Ai:=oh Ag;have Ap:=oh Ae;have A4:=oh A7;have Az:=oh Am;have Cb:=oh Ay;have B0:Hid (∀(j:Nat) (t:zU),C2.slots[j]? = some t->t.has id=false):=oh (A8.no Ax.out);have B1:Hid (id<C2.disk.blocks):=oh (by rw[Ae.blocks];exact C9.out);have Bo:Hid (C.vw id=zV (C2.disk.look id) id):=oh (by rw[<- Ae.vw id];exact zAW B0.out);obtain⟨d0,d1,d2⟩:=Ag.c3;have Cc:=Ap.out.inv.s1024;have Bg:=Ap.out.inv.s256;clear Ag Ae A7 Am Ay A8 d2;go_wp2_with fail;refine (DkS.read A4.out.env Ai.out.disk id B1.out Ap.out.inv.off).mono ?_;rintro e w3 ⟨g,rfl,hg,Bp,Aq,A3⟩;have A9:Hid (Sl F2 w3 1 zZ (zAT C2.disk.size g) (C2.disk.look id)):=oh (zCq Bp Aq (λf=>by have:=A4.out.env.lt g f;omega) (by omega));have HLen:=oh Aq;have A5:=oh A3;have Bh:=oh (A4.out.env.mods A3.ext);have Cd:=oh (Ai.out.at A3);have p1:=zE A3 d1;clear hg Bp Aq A3;go_wp2_with fail;refine (zDL Bh.out _ (C2.disk.look id) A9.out (by rw[HLen.out];exact Bg) (by rw[HLen.out];exact Cc) id).mono ?_;rintro e w4 ⟨Ac,hr⟩;have At:=oh Ac;have Ah:=oh (Cd.out.at Ac);have p2:=zE Ac p1;clear Ac;rcases hr with ⟨p,pv,B2,rfl,A6⟩|⟨pg,k,f,B2,rfl,hE⟩
  .obtain⟨pa,pcap,rfl,_⟩:=_root_.id A6;obtain⟨pk,pi,pg,l⟩:=p;have Bi:=oh A6;have B3:=oh B2;obtain⟨ba,bn,bc,hb⟩:=Ah.out.bvAt Az.out;obtain⟨e0,e1,e2,e3,e4,e5,e6,e7⟩:=Ah.out.cell8 Az.out hb;obtain⟨z0,z1⟩:=Ah.out.frz;have Ab:i<C2.slots.length:=(uA.1 Az.out).1;have Bb:=Ah.out.n64;have h1:(0:Int)<=(i:Int):=by omega
   have h2:(i:Int)<(C2.slots.length:Int):=by omega
   have Cv:sb<w4.heap.size:=yN e0;have Cw:c<w4.heap.size:=yN p2;clear B2 A6 hb p1 d0 d1;simp only[qC];go_wp2_with fail;go_region
   go_wp2
   go_ret2
   have q2:=Ah.out.slot' A4.out.sub (i:=i) Ab ⟨⟨pk,pi,pg,l⟩,true,false,true,0⟩ (.slice pa l.length pcap) Bi.out;have q3:zA (caF c sb Pd2) w4 (w4.setCells sb (i * 8) (qP ⟨⟨pk,pi,pg,l⟩,true,false,true,0⟩ (.slice pa l.length pcap))):=zA.setMany (.inr (.inr (.inr rfl))) _ _ _ zr;have q5:=zFg B3.out;rw[HLen.out] at q5;have q4:=zPy Ap.out.inv Az.out Cb.out id B1.out As.out B0.out ⟨pk,pi,pg,l⟩ B3.out q5.2.1 q5.1;have n1:=zX.ext (P:=caF c sb Pd) HL.out HP.out HM.out;have n2:=zX.ext A4.out.env A4.out.sub (A5.out.trans At.out);have n3:=zX.same n2.env n2.sub ((q3.alloc (.cells #[.int .i64 pk,.int .i64 pi,.int .u64 (pg:Int),.slice pa l.length pcap] 221)).drew);exact⟨_,Pd2,F2,_,q2.at (zr.alloc _).drew,Ap.out.trans q4,((n1.trans A4.out).trans n2).trans n3,.inl ⟨i,_,rfl,zCZ Az.out,yR.2 ⟨rfl,q5.2.1⟩,by rw[Bo.out,B3.out]⟩⟩
  .have HE:=oh hE;have B3:=oh B2;clear B2 hE;simp only[qC];go_wp2_with fail;go_ret2
   have n1:=zX.ext (P:=caF c sb Pd) HL.out HP.out HM.out;have n2:=zX.ext A4.out.env A4.out.sub ((A5.out.trans At.out).alloc gE);exact⟨bvs2,Pd2,F2,C2,Ah.out.at (zr.alloc _),Ap.out,(n1.trans A4.out).trans n2,.inr ⟨pg,k,f,rfl,by rw[Bo.out,B3.out],HE.out.mods (zr.alloc _)⟩⟩
end
def qL.get(C:qL)(id:Int):zY ⊕ Err :=
 match C.check id with
 | some e=>.inr e
 | none=>match C.vw id.toNat with
  | .inl p=>.inl p
  | .inr (l,k)=>.inr (-1 :: l,k)
def zH8:zY:=⟨0,0,0,[]⟩
def zN3(F:NP)(ad:Nat->Addr)(w:World)(r:zY ⊕ Err)(e:Ending):Prop :=
 (∃p pv,r=.inl p/\e=.returned (.tuple #[qC p pv,.nilIface])/\Sl F w 1 zZ pv p.body)\/(∃(er:Err) (f:Nat),r=.inr er/\e=.returned (.tuple #[qC zH8 (.slice none 0 0),zP f])/\vN F ad w (zP f) er.1 er.2)
section
variable {P P' F F' Pd Pd':NP}{ad:Nat->Addr}{w w':World}{d c sb:Nat}{bvs:List Value}{C:qL}{D:zJ}
theorem zX.res(hL:yH F ad w)(hP:∀k,P k->F k)(o:Obj):zX P P F (qB F w.heap.size) ad w (w.alloc o) :=
 ⟨Stp.ext (λk h=>hL.lt k (hP k h)) ((zss w).alloc o),λk h=>.inl (hP k h),λ_ h=>.inl h,λk hk h=>h.elim id (λe=>by omega),hL.withR ((zss w).alloc o) (by simp)⟩
theorem zX.resD{R:Nat}(n:zX P P' F F' ad w w'){w2:World}(m:zA (λk=>k=R) w' w2)(hR:w.heap.size<=R)(hF:F' R):zX P P' F F' ad w w2 :=
 ⟨⟨n.stp.mods.trans' m (λi hi e=>by omega),n.stp.old,λk h=>uF (n.stp.bd k h) m.size⟩,n.sub,n.grow,n.oldF,n.env.mods (m.mono (λk hk=>hk ▸ hF))⟩
theorem CaR.outer(h:CaR F w d c sb bvs Pd C){G:NP}(hG:∀k,k<w.heap.size->¬ F k->¬ G k):CaR G w d c sb bvs Pd C :=
 ⟨h.own,h.row,h.lenB,h.n64,λi s bv h1 h2=>(h.body i s bv h1 h2).step zr hG,h.disk,h.cd,h.sd,h.ne⟩
theorem CaR.far(h:CaR F w d c sb bvs Pd C){Q:NP}(m:zA Q w w')(hQ:∀k,caF c sb Pd k->¬ Q k)(hF:∀k,Q k->F k):CaR F w' d c sb bvs Pd C :=
 ⟨h.own.mods m (hQ c (.inr (.inl rfl))),h.row.at m (hQ sb (.inr (.inr rfl))),h.lenB,h.n64,λi s bv h1 h2=>(h.body i s bv h1 h2).mods (m.mono hF),h.disk.far m (λk hk=>hQ k (.inl hk)),h.cd,h.sd,h.ne⟩
theorem zOp[zQ](hL:yH F ad w)(hP:∀k,caF c sb Pd k->F k)(h:CaR F w d c sb bvs Pd C)(hI:yJ C)(hc:C.cost<=1000000)(id:Int)(Ak:C.check id=none->vL<=id.toNat) :
  Calls Tryz.prog 256 #[.pointer (some ⟨c,0,none⟩),.int .i64 id] w λe w'=>∃(bvs':List Value) (Pd' F':NP) (C':qL),CaR F' w' d c sb bvs' Pd' C'/\Sim C C' /\
   zX (caF c sb Pd) (caF c sb Pd') F F' ad w w'/\zN3 F' ad w' (C.get id) e:=by
 have Bq:=zX.res hL hP gE;have Br:CaR (qB F w.heap.size) (w.alloc gE) d c sb bvs Pd C :=
  (h.outer (G:=qB F w.heap.size) (λk hk hn hF=>hF.elim hn (λe=>by omega))).at ((zss w).alloc _)
 have B4:zG (w.alloc gE) w.heap.size _ _:=zG.new w _ _;have Au:¬ caF c sb Pd w.heap.size:=λf=>by have:=h.bdP _ f;omega
 have B5:=oh Au;have B6:=oh Br;have Aj:=oh Bq;have Bj:=oh B4;have HI:=oh hI;have Ao:=oh hc;have Ce:Hid (w.heap.size<(w.alloc gE).heap.size):=oh (by simp);have Cf:=hI.b8;have B7:=hI.b256;have As:=oh Ak;clear h hL hP hI hc Bq Br B4 Au Ak
 go_enter Tryz.func256, Tryz.ntmps256
 go_wp2_with fail;refine (zG3 Aj.out.env B6.out _ id).mono ?_;rintro e w1 ⟨ev,rfl,hE,hm⟩;have Cg:=oh hm;have A2:=oh (B6.out.at hm);have Af:=oh (Bj.out.ext hm);have Ad:=oh (Aj.out.trans (zX.ext Aj.out.env Aj.out.sub hm));have B8:Hid (w.heap.size<w1.heap.size):=oh (uF Ce.out hm.size);clear hm;cases A1:C.check id with
 | some er =>
  rw[A1] at hE;obtain⟨el,ek⟩:=er;obtain⟨f,rfl,hE⟩:=hE;have HE:=oh hE;have HK:Hid (C.get id=.inr (el,ek)):=oh (by unfold qL.get;rw[A1]);have r0:=Af.out.k 0 rfl;have r1:=Af.out.k 1 rfl;have r2:=Af.out.k 2 rfl;have r3:=Af.out.k 3 rfl;have rf:=Af.out.frozen;clear hE A1;go_wp2_with fail;refine bodyPost_ret (zC rfl _ _ w.heap.size 221 gE _ rfl (Af.out.set4 (.int .i64 0) (.int .i64 0) (.int .u64 0) (.slice none 0 0)) Tryz.underlying221 rfl Tryz.pageSize) rfl ?_;have mR:zA (qB F w.heap.size) w1 _:=zA.set4 (zA.refl (qB F w.heap.size) w1) (R:=w.heap.size) (.inr (.inr rfl)) (.int .i64 0) (.int .i64 0) (.int .u64 0) (.slice none 0 0);have mR':zA (λk=>k=w.heap.size) w1 _:=zA.set4 (zA.refl (λk=>k=w.heap.size) w1) (R:=w.heap.size) (.inr rfl) (.int .i64 0) (.int .i64 0) (.int .u64 0) (.slice none 0 0);exact⟨bvs,Pd,qB F w.heap.size,C,A2.out.far mR' (λk hk e=>B5.out (e ▸ hk)) (λk hk=>.inr hk),Sim.refl HI.out,Ad.out.resD mR' (uD _) (.inr rfl),.inr ⟨(el,ek),f,HK.out,rfl,HE.out.mods mR⟩⟩
 | none =>
  rw[A1] at hE;cases hE
  obtain⟨n,rfl⟩:∃n:Nat,id=n:=⟨id.toNat,by unfold qL.check at A1;split at A1;cases A1;omega⟩;have hn:n<C.disk.blocks:=by unfold qL.check at A1;split at A1;cases A1;omega
  have B9:=oh A1;have HN:=oh hn;have Ch:Hid (vL<=n):=oh (by have:=As.out A1;simpa using this);clear A1 hn;go_wp2_with fail;refine (zMr Ad.out.env Ad.out.sub A2.out HI.out Ao.out n HN.out Ch.out).mono ?_;rintro e w2 ⟨bvs2,Pd2,F2,C2,Ag,Ae,A7,Ci⟩;have Ai:=oh Ag;have HSi2:=oh Ae;have A4:=oh (Ad.out.trans A7);have Bs:=oh (A7.blk Af.out B5.out);have Av:Hid (F2 w.heap.size):=oh (A7.grow _ (.inr rfl));have Bt:Hid (¬ caF c sb Pd2 w.heap.size):=oh (A7.not B8.out B5.out);have Ap:Hid (w.heap.size<w2.heap.size):=oh (uF B8.out A7.size);clear Ag Ae A7;rcases Ci with ⟨i,s,rfl,hs,hh,hv⟩|⟨pg,k,f,rfl,hv,hE⟩
  .obtain⟨ba,bn,bc,hb⟩:=Ai.out.bvAt hs;obtain⟨e0,e1,e2,e3,e4,e5,e6,e7⟩:=Ai.out.cell8 hs hb;obtain⟨d0,d1,d2⟩:=Ai.out.c3;have Ab:i<C2.slots.length:=(uA.1 hs).1;have Bb:=Ai.out.n64;have h1:(0:Int)<=(i:Int):=by omega
   have h2:(i:Int)<(C2.slots.length:Int):=by omega
   have Cj:=oh (Ai.out.body i s _ hs hb);have HV:Hid (C.get (n:Int)=.inl s.page):=oh (by unfold qL.get;rw[B9.out];simp only[uH];rw[hv]);have Bc:Hid (s.page.body.length<=100000):=oh (by
    have:=HSi2.out.inv.page i s hs (yR.1 hh).1;have:=qO this.2.2.1;have:=HSi2.out.inv.s1024;omega)
   clear hs hh hv hb e4 e5 e6 e7 d0 d2;go_wp2_with fail;refine (zEp A4.out.env.lt s.page (.slice ba bn bc) Cj.out Bc.out).mono ?_;rintro e w3 ⟨pv,rfl,A6,A3⟩;obtain⟨pa,pcap,rfl,_⟩:=_root_.id A6;obtain⟨p,hp⟩:∃p,p=s.page:=⟨_,rfl⟩;rw[<- hp] at A6 HV ⊢;obtain⟨pk,pi,pg,l⟩:=p;have Bi:=oh A6;have A5:=oh A3;have A9:=oh (Bs.out.ext A3);have r0:=A9.out.k 0 rfl;have r1:=A9.out.k 1 rfl;have r2:=A9.out.k 2 rfl;have r3:=A9.out.k 3 rfl;have rf:=A9.out.frozen;clear A6 A3 hp e0 e1 e2 e3 d1;simp only[qC];go_wp2_with fail;refine bodyPost_ret (zC rfl _ _ w.heap.size 221 #[.int .i64 pk,.int .i64 pi,.int .u64 (pg:Int),.slice pa l.length pcap] _ rfl (A9.out.set4 _ _ _ _) Tryz.underlying221 rfl Tryz.pageSize) rfl ?_;have mR':zA (λk=>k=w.heap.size) w3 _:=zA.set4 (zA.refl (λk=>k=w.heap.size) w3) (R:=w.heap.size) (.inr rfl) (.int .i64 pk) (.int .i64 pi) (.int .u64 (pg:Int)) (.slice pa l.length pcap);have mR:=mR'.mono (G:=F2) (λk hk=>hk ▸ Av.out);have n3:=zX.ext A4.out.env A4.out.sub A5.out;exact⟨bvs2,Pd2,F2,C2,(Ai.out.at A5.out).far mR' (λk hk e=>Bt.out (e ▸ hk)) (λk hk=>hk ▸ Av.out),HSi2.out,(A4.out.trans n3).resD mR' (uD _) Av.out,.inl ⟨⟨pk,pi,pg,l⟩,.slice pa l.length pcap,HV.out,rfl,Bi.out.mods mR⟩⟩
  .have HE:=oh hE;have HV:Hid (C.get (n:Int)=.inr (-1 :: pg,k)):=oh (by unfold qL.get;rw[B9.out];simp only[uH];rw[hv]);clear hE hv;go_wp2_with fail;refine (wrap_any A4.out.env _ _ pg k HE.out).mono ?_;rintro e w3 ⟨f3,rfl,Bu,A3⟩;have Ck:=oh Bu;have A5:=oh A3;have A9:=oh (Bs.out.ext A3);have r0:=A9.out.k 0 rfl;have r1:=A9.out.k 1 rfl;have r2:=A9.out.k 2 rfl;have r3:=A9.out.k 3 rfl;have rf:=A9.out.frozen;clear Bu A3;go_wp2_with fail;refine bodyPost_ret (zC rfl _ _ w.heap.size 221 gE _ rfl (A9.out.set4 (.int .i64 0) (.int .i64 0) (.int .u64 0) (.slice none 0 0)) Tryz.underlying221 rfl Tryz.pageSize) rfl ?_;have mR':zA (λk=>k=w.heap.size) w3 _:=zA.set4 (zA.refl (λk=>k=w.heap.size) w3) (R:=w.heap.size) (.inr rfl) (.int .i64 0) (.int .i64 0) (.int .u64 0) (.slice none 0 0);have mR:=mR'.mono (G:=F2) (λk hk=>hk ▸ Av.out);have n3:=zX.ext A4.out.env A4.out.sub A5.out;exact⟨bvs2,Pd2,F2,C2,(Ai.out.at A5.out).far mR' (λk hk e=>Bt.out (e ▸ hk)) (λk hk=>hk ▸ Av.out),HSi2.out,(A4.out.trans n3).resD mR' (uD _) Av.out,.inr ⟨(-1 :: pg,k),f3,HV.out,rfl,Ck.out.mods mR⟩⟩
end
def qL.putE(C:qL)(p:zY):Option Err :=
 match C.check p.id with
 | some e=>some e
 | none=>zN1 (qE p C.disk.size)
def zSr[zQ](C C':qL)(p:zY):Prop:=(C.putE p=none/\C'.disk.blocks=C.disk.blocks/\C'.disk.size=C.disk.size/\yJ C'/\∀G,qZ C G->qZ C' (G.put p))\/(C.putE p≠none/\C'=C)
section
variable {P P' F F' Pd Pd':NP}{ad:Nat->Addr}{w w':World}{d c sb:Nat}{bvs:List Value}{C:qL}{D:zJ}
theorem zN4{w:World}{p:Addr}{x:Value}(h:w.cell? p=some x)(v:Value):(w.setCell p v).cell? p=some v:=World.cell?_setCell_same w p v h
theorem zH9{w:World}{b o o':Nat}(h:o≠o')(v:Value):(w.setCell ⟨b,o,none⟩ v).cell? ⟨b,o',none⟩=w.cell? ⟨b,o',none⟩:=World.cell?_setCell_other w _ _ v (λe=>h (by injection e))
theorem zR9{w:World}{b i:Nat}{x:Value}(h:w.cell? ⟨b,i * 8+7,none⟩=some x)(v0 v1 v2 v3 v4 v5 v6:Value):(((((((w.setCell ⟨b,i * 8,none⟩ v0).setCell ⟨b,i * 8+1,none⟩ v1).setCell ⟨b,i * 8+2,none⟩ v2).setCell ⟨b,i * 8+3,none⟩ v3).setCell ⟨b,i * 8+4,none⟩ v4).setCell ⟨b,i * 8+5,none⟩ v5).setCell ⟨b,i * 8+6,none⟩ v6).cell? ⟨b,i * 8+7,none⟩=some x:=by
 rw[zH9 (by omega),zH9 (by omega),zH9 (by omega),zH9 (by omega),zH9 (by omega),zH9 (by omega),zH9 (by omega)];exact h
theorem zOq[zQ](hL:yH F ad w)(hP:∀k,caF c sb Pd k->F k)(h:CaR F w d c sb bvs Pd C)(hI:yJ C)(hc:C.cost<=1000000)(p:zY)(bv:Value)(hb:Sl F w 1 zZ bv p.body)(hg:p.gen<18446744073709551616)(Ak:vL<=p.id.toNat) :
  Calls Tryz.prog 235 #[.pointer (some ⟨c,0,none⟩),qC p bv] w λe w'=>∃(bvs':List Value) (Pd' F':NP) (C':qL) (ev:Value),e=.returned ev/\CaR F' w' d c sb bvs' Pd' C' /\
   zX (caF c sb Pd) (caF c sb Pd') F F' ad w w'/\zAb F' ad w' ev (C.putE p)/\zSr C C' p:=by
 obtain⟨ba,bcap,rfl,_⟩:=_root_.id hb;obtain⟨pk,pi,pg,l⟩:=p;simp only[qC];have m0:zF w (w.alloc (.cells #[.int .i64 pk,.int .i64 pi,.int .u64 (pg:Int),.slice ba l.length bcap] 221)):=(zss w).alloc _;have B4:zG (w.alloc (.cells #[.int .i64 pk,.int .i64 pi,.int .u64 (pg:Int),.slice ba l.length bcap] 221)) w.heap.size _ _:=zG.new w _ _;have Au:¬ caF c sb Pd w.heap.size:=λf=>by have:=h.bdP _ f;omega
 have B5:=oh Au;have Be:Hid (w.heap.size≠sb):=oh (λe=>Au (.inr (.inr e)));have B6:=oh (h.at m0);have Aj:=oh (zX.ext hL hP m0);have Bj:=oh B4;have Cl:=oh (hb.ext m0);have HI:=oh hI;have Ao:=oh hc;have HG:=oh hg;have Cf:=hI.b8;have B7:=hI.b256;have gf1:=Tryz.geoF1;have As:=oh Ak;clear h hL hP hI hc B4 Au m0 hb hg Ak
 go_enter Tryz.func235, Tryz.ntmps235
 go_wp2_with fail;refine (zG3 Aj.out.env B6.out _ pi).mono ?_;rintro e w1 ⟨ev,rfl,hE,hm⟩;have Cg:=oh hm;have A2:=oh (B6.out.at hm);have Af:=oh (Bj.out.ext hm);have Ad:=oh (Aj.out.trans (zX.ext Aj.out.env Aj.out.sub hm));have B8:=oh (Cl.out.ext hm);clear hm;cases A1:C.check pi with
 | some er =>
  rw[A1] at hE;obtain⟨el,ek⟩:=er;obtain⟨f,rfl,hE⟩:=hE;have HE:=oh hE;have HK:Hid (C.putE ⟨pk,pi,pg,l⟩=some (el,ek)):=oh (by unfold qL.putE;simp only[A1]);clear hE A1;go_wp2_with fail;go_ret;exact⟨bvs,Pd,F,C,_,rfl,A2.out,Ad.out,by rw[HK.out];exact⟨f,rfl,HE.out⟩,.inr ⟨by rw[HK.out];simp,rfl⟩⟩
 | none =>
  rw[A1] at hE;cases hE
  obtain⟨n,rfl⟩:∃n:Nat,pi=n:=⟨pi.toNat,by unfold qL.check at A1;split at A1;cases A1;omega⟩;have hn:n<C.disk.blocks:=by unfold qL.check at A1;split at A1;cases A1;omega
  have B9:=oh A1;have HN:=oh hn;obtain⟨c0,_,_⟩:=A2.out.c3;have r0:=Af.out.k 0 rfl;have r1:=Af.out.k 1 rfl;have r2:=Af.out.k 2 rfl;have r3:=Af.out.k 3 rfl;have HC1d:=oh (A2.out.at (zss w1).drew);have HL1d:=oh (Ad.out.env.mods (zss w1).drew);have HS1d:=oh (B8.out.ext (zss w1).drew);clear A1 hn;go_wp2_with fail;go_region_held3 (λw'=>w'.cell? ⟨c,0,none⟩=some (.pointer (some ⟨d,0,none⟩))/\w'.cell? ⟨w.heap.size,0,none⟩=some (.int .i64 pk)/\w'.cell? ⟨w.heap.size,1,none⟩=some (.int .i64 (n:Int))/\w'.cell? ⟨w.heap.size,2,none⟩=some (.int .u64 (pg:Int))/\w'.cell? ⟨w.heap.size,3,none⟩=some (.slice ba l.length bcap))
   (first|exact⟨zE Aa c0,zE Aa r0,zE Aa r1,zE Aa r2,zE Aa r3⟩|exact⟨zE A3 (zE Aa c0),zE A3 (zE Aa r0),zE A3 (zE Aa r1),zE A3 (zE Aa r2),zE A3 (zE Aa r3)⟩|go_keep)
   (first
    | (go_at_call 47;refine (HC1d.out.disk.geo).mono ?_;rintro e w2 ⟨rfl,Aa⟩)
    | (go_at_call 272;refine (zGa (HL1d.out.mods Aa.ext) ⟨pk,n,pg,l⟩ (.slice ba l.length bcap) (HS1d.out.ext Aa) C.disk.size).mono ?_;rintro e w3 ⟨ev,rfl,hE,A3⟩))
  have A5:Hid (zF w1 w3):=oh (Aa.ofDrew.trans A3);have Bh:=oh (Ad.out.env.mods A5.out.ext);cases An:qE ⟨pk,n,pg,l⟩ C.disk.size with
  | some er =>
   rw[An] at hE;obtain⟨el,ek⟩:=er;obtain⟨f,rfl,hE⟩:=hE;have HE:=oh hE;have HK:Hid (C.putE ⟨pk,n,pg,l⟩=some (-1 :: el,ek)):=oh (by unfold qL.putE;simp only[B9.out,An];rfl);have HLe:Hid (yH F ad w3):=oh Bh.out;clear hE An Aa A3;go_wp2_with fail;refine (wrap_any HLe.out _ _ el ek HE.out).mono ?_;rintro e w4 ⟨f4,rfl,Bv,Ac⟩;have Cm:=oh Bv;have At:=oh Ac;clear Bv Ac;go_wp2_with fail;go_ret;exact⟨bvs,Pd,F,C,_,rfl,A2.out.at (A5.out.trans At.out),Ad.out.trans (zX.ext Ad.out.env Ad.out.sub (A5.out.trans At.out)),by rw[HK.out];exact⟨f4,rfl,Cm.out⟩,.inr ⟨by rw[HK.out];simp,rfl⟩⟩
  | none =>
   rw[An] at hE;cases hE
   have HK:Hid (C.putE ⟨pk,n,pg,l⟩=none):=oh (by unfold qL.putE;simp only[B9.out,An];rfl);have Cn:=oh An;have Bc:Hid (l.length<=1000):=oh (by have:=qO An;have:=HI.out.s1024;simp only at *;omega);have r1':=zE A5.out r1;clear An Aa A3 r0 r1 r2 r3 c0;go_wp2_with fail;refine (zH6 (A2.out.at A5.out) n).mono ?_;rintro e w4 ⟨Ac,Aw⟩;have At:=oh Ac;have Ah:=oh ((A2.out.at A5.out).at Ac);have Ba:=oh (Ad.out.trans (zX.ext Ad.out.env Ad.out.sub (A5.out.trans Ac)));have Bw:=oh (Af.out.ext (A5.out.trans Ac));have Bx:=oh (B8.out.ext (A5.out.trans Ac));clear Ac r1';have tail:∀(w5:World) (C2:qL) (bvs2:List Value) (Pd2 F2:NP) (i:Nat) (s:zU),CaR F2 w5 d c sb bvs2 Pd2 C2->Sim C C2->zX (caF c sb Pd) (caF c sb Pd2) F F2 ad w w5->zG w5 w.heap.size #[.int .i64 pk,.int .i64 (n:Int),.int .u64 (pg:Int),.slice ba l.length bcap] 221 -> Sl F2 w5 1 zZ (.slice ba l.length bcap) l->C2.slots[i]? = some s ->
     (s.has n=true\/(s.full=false/\∀(j:Nat) (t:zU),C2.slots[j]? = some t->t.has n=false))->∃n2:Nat,Hid (CaR F2 w5 d c sb bvs2 Pd2 C2/\Sim C C2/\zX (caF c sb Pd) (caF c sb Pd2) F F2 ad w w5/\C2.slots[i]? = some s/\(s.has n=true\/(s.full=false/\∀(j:Nat) (t:zU),C2.slots[j]? = some t->t.has n=false))/\n2=C2.slots.length)/\w5.cell? ⟨c,1,none⟩=some (.slice (some ⟨sb,0,none⟩) n2 n2)/\i<n2/\n2<=64 /\
     (w5.cell? ⟨w.heap.size,0,none⟩=some (.int .i64 pk)/\w5.cell? ⟨w.heap.size,1,none⟩=some (.int .i64 (n:Int))/\w5.cell? ⟨w.heap.size,2,none⟩=some (.int .u64 (pg:Int))/\w5.cell? ⟨w.heap.size,3,none⟩=some (.slice ba l.length bcap)) /\
     (∃q0 q1 q2 qa qn qc q4 q5 q6,(w5.cell? ⟨sb,i * 8,none⟩=some (.int .i64 q0)/\w5.cell? ⟨sb,i * 8+1,none⟩=some (.int .i64 q1)/\w5.cell? ⟨sb,i * 8+2,none⟩=some (.int .u64 q2)/\w5.cell? ⟨sb,i * 8+3,none⟩=some (.slice qa qn qc))/\(w5.cell? ⟨sb,i * 8+4,none⟩=some (.bool q4)/\w5.cell? ⟨sb,i * 8+5,none⟩=some (.bool q5)/\w5.cell? ⟨sb,i * 8+6,none⟩=some (.bool q6)/\w5.cell? ⟨sb,i * 8+7,none⟩=some (.int .i64 0)))/\(∀o,w5.frozen? ⟨sb,o,none⟩=false)/\Hid (Sl F2 w5.drew 1 zZ (.slice ba l.length bcap) l)/\Hid (Bd F2 w5.drew):=by
    intro w5 C2 bvs2 Pd2 F2 i s hC hS hX hB Co hs hx;obtain⟨ba,bn,bc,hb⟩:=hC.bvAt hs;obtain⟨e0,e1,e2,e3,e4,e5,e6,e7⟩:=hC.cell8 hs hb;rw[hS.inv.pins i s hs] at e7;exact⟨_,oh ⟨hC,hS,hX,hs,hx,rfl⟩,hC.c3.2.1,(uA.1 hs).1,hC.n64,⟨hB.cell rfl,hB.cell rfl,hB.cell rfl,hB.cell rfl⟩,⟨_,_,_,_,_,_,_,_,_,⟨e0,e1,e2,e3⟩,e4,e5,e6,e7⟩,hC.frz.2,oh (Co.ext zr.drew),oh hX.env.lt⟩
   have TL:=oh tail;clear tail;have fin:∀(w5:World) (C2:qL) (bvs2:List Value) (Pd2 F2:NP) (i:Nat) (s:zU) (n2:Nat),(CaR F2 w5 d c sb bvs2 Pd2 C2/\Sim C C2/\zX (caF c sb Pd) (caF c sb Pd2) F F2 ad w w5/\C2.slots[i]? = some s/\(s.has n=true\/(s.full=false/\∀(j:Nat) (t:zU),C2.slots[j]? = some t->t.has n=false))/\n2=C2.slots.length) ->
     ∀(w6:World) (pa:Option Addr) (pcap:Nat),zF w5.drew w6->Sl F2 w6 1 zZ (.slice pa l.length pcap) l->∃(bvs':List Value) (Pd' F':NP) (C':qL),CaR F' (w6.setCells sb (i * 8) (qP ⟨⟨pk,n,pg,l⟩,true,true,true,0⟩ (.slice pa l.length pcap))) d c sb bvs' Pd' C' /\
     zX (caF c sb Pd) (caF c sb Pd') F F' ad w (w6.setCells sb (i * 8) (qP ⟨⟨pk,n,pg,l⟩,true,true,true,0⟩ (.slice pa l.length pcap)))/\zAb F' ad (w6.setCells sb (i * 8) (qP ⟨⟨pk,n,pg,l⟩,true,true,true,0⟩ (.slice pa l.length pcap))) .nilIface (C.putE ⟨pk,n,pg,l⟩)/\zSr C C' ⟨pk,n,pg,l⟩:=by
    intro w5 C2 bvs2 Pd2 F2 i s n2 ⟨hC,hS,hX,hs,hx,_⟩ w6 pa pcap A0 A6;have By:zKJ ⟨pk,n,pg,l⟩ C2.disk.size:=⟨by rw[hS.size];exact Cn.out,HG.out⟩;have Bb:n<C2.disk.blocks:=by rw[hS.blocks];exact HN.out
    have q2:=(hC.at A0.ofDrew).slot' hX.sub (i:=i) (uA.1 hs).1 ⟨⟨pk,n,pg,l⟩,true,true,true,0⟩ (.slice pa l.length pcap) A6;have q3:zA (caF c sb Pd2) w6 (w6.setCells sb (i * 8) (qP ⟨⟨pk,n,pg,l⟩,true,true,true,0⟩ (.slice pa l.length pcap))):=zA.setMany (.inr (.inr (.inr rfl))) _ _ _ zr;have n2':=zX.ext hX.env hX.sub A0.ofDrew;have n3:=zX.same n2'.env n2'.sub q3;refine⟨_,Pd2,F2,zKK C2 i ⟨pk,n,pg,l⟩,q2,(hX.trans n2').trans n3,by rw[HK.out];rfl,.inl ⟨HK.out,hS.blocks,hS.size,?_,λG hG=>?_⟩⟩
    .exact zNy hS.inv hs ⟨pk,n,pg,l⟩ n rfl Bb (by have:=As.out;simpa using this) By hx
    .exact (zRP hS.inv (hS.rel hG) hs ⟨pk,n,pg,l⟩ n rfl Bb (by have:=As.out;simpa using this) By hx).2
   have FN:=oh fin;clear fin;rcases Aw with ⟨i,s,hs,hh,rfl⟩|⟨Al,rfl⟩
   .obtain⟨n2,HH,d1,Ab,Bf,⟨r0,r1,r2,r3⟩,⟨q0,q1,q2,qa,qn,qc,q4,q5,q6,⟨e0,e1,e2,e3⟩,e4,e5,e6,e7⟩,z1,HSl,HBd⟩:=TL.out w4 C bvs Pd F i s Ah.out (Sim.refl HI.out) Ba.out Bw.out Bx.out hs (.inl hh);have h1:(0:Int)<=(i:Int):=by omega
    have h2:(i:Int)<(n2:Int):=by omega
    have Bk:c≠sb:=Ah.out.ne;have Cp:sb≠c:=Ne.symm Bk;have Cq:w.heap.size≠sb:=Be.out;have Cr:sb≠w.heap.size:=Ne.symm Be.out;clear hs hh;go_wp2_with fail;go_region_held3 (λw'=>w'.cell? ⟨c,1,none⟩=some (.slice (some ⟨sb,0,none⟩) n2 n2)/\w'.cell? ⟨w.heap.size,0,none⟩=some (.int .i64 pk)/\w'.cell? ⟨w.heap.size,1,none⟩=some (.int .i64 (n:Int))/\w'.cell? ⟨w.heap.size,2,none⟩=some (.int .u64 (pg:Int))/\w'.cell? ⟨w.heap.size,3,none⟩=some (.slice ba l.length bcap)/\w'.cell? ⟨sb,i * 8+7,none⟩=some (.int .i64 0))
     (first|(with_reducible exact⟨y1,y2,y3,y4,y5,x7⟩)|(go_keep;done)|(refine⟨?_,?_,?_,?_,?_,zN4 (x:=.int .i64 0) (zR9 x7 _ _ _ _ _ _ _) _⟩ <;> go_keep))
     (first
      | (go_at_call 302;refine (zEp HBd.out ⟨pk,n,pg,l⟩ (.slice ba l.length bcap) HSl.out (by have:=Bc.out;simp only;omega)).mono ?_;rintro e w6 ⟨pv,rfl,A6,A0⟩;obtain⟨pa,pcap,rfl,_⟩:=_root_.id A6;simp only[qC];have x0:=zE A0 e0;have x1:=zE A0 e1;have x2:=zE A0 e2;have x3:=zE A0 e3;have x4:=zE A0 e4;have x5:=zE A0 e5;have x6:=zE A0 e6;have x7:=zE A0 e7;have y1:=zE A0 d1;have y2:=zE A0 r0;have y3:=zE A0 r1;have y4:=zE A0 r2;have y5:=zE A0 r3;have z6:∀o,w6.frozen? ⟨sb,o,none⟩=false:=λo=>(A0.frozen (yN e0) (λf=>f)).trans (z1 o)))
    obtain⟨bvs',Pd',F',C',k1,k2,k3,k4⟩:=FN.out _ _ _ _ _ _ _ _ HH.out w6 pa pcap A0 A6;have K:=oh (And.intro k1 (And.intro k2 (And.intro k3 k4)));clear k1 k2 k3 k4 A6 A0 x0 x1 x2 x3 x4 x5 x6 x7 y1 y2 y3 y4 y5 z6;go_wp2_with fail;go_ret;exact⟨bvs',Pd',F',C',_,rfl,K.out.1,K.out.2.1,K.out.2.2.1,K.out.2.2.2⟩
   .have Ax:=oh Al;clear Al;go_wp2_with fail;refine (zH7 Ba.out.env Ba.out.sub Ah.out HI.out Ao.out).mono ?_;rintro e w5 ⟨i,s,bvs2,Pd2,F2,C2,rfl,Ag,Ae,A7,Am,Ay,A8⟩;have Bz:=Ba.out.sub;obtain⟨n2,HH,d1,Ab,Bf,⟨r0,r1,r2,r3⟩,⟨q0,q1,q2,qa,qn,qc,q4,q5,q6,⟨e0,e1,e2,e3⟩,e4,e5,e6,e7⟩,z1,HSl,HBd⟩:=TL.out w5 C2 bvs2 Pd2 F2 i s Ag Ae (Ba.out.trans A7) (A7.blk Bw.out B5.out) (A7.sl Bz Bx.out) Am (.inr ⟨Ay,A8.no Ax.out⟩);have h1:(0:Int)<=(i:Int):=by omega
    have h2:(i:Int)<(n2:Int):=by omega
    have Bk:c≠sb:=Ah.out.ne;have Cp:sb≠c:=Ne.symm Bk;have Cq:w.heap.size≠sb:=Be.out;have Cr:sb≠w.heap.size:=Ne.symm Be.out;clear Ag Ae A7 Am Ay A8 Bz;go_wp2_with fail;go_region_held3 (λw'=>w'.cell? ⟨c,1,none⟩=some (.slice (some ⟨sb,0,none⟩) n2 n2)/\w'.cell? ⟨w.heap.size,0,none⟩=some (.int .i64 pk)/\w'.cell? ⟨w.heap.size,1,none⟩=some (.int .i64 (n:Int))/\w'.cell? ⟨w.heap.size,2,none⟩=some (.int .u64 (pg:Int))/\w'.cell? ⟨w.heap.size,3,none⟩=some (.slice ba l.length bcap)/\w'.cell? ⟨sb,i * 8+7,none⟩=some (.int .i64 0))
     (first|(with_reducible exact⟨y1,y2,y3,y4,y5,x7⟩)|(go_keep;done)|(refine⟨?_,?_,?_,?_,?_,zN4 (x:=.int .i64 0) (zR9 x7 _ _ _ _ _ _ _) _⟩ <;> go_keep))
     (first
      | (go_at_call 302;refine (zEp HBd.out ⟨pk,n,pg,l⟩ (.slice ba l.length bcap) HSl.out (by have:=Bc.out;simp only;omega)).mono ?_;rintro e w6 ⟨pv,rfl,A6,A0⟩;obtain⟨pa,pcap,rfl,_⟩:=_root_.id A6;simp only[qC];have x0:=zE A0 e0;have x1:=zE A0 e1;have x2:=zE A0 e2;have x3:=zE A0 e3;have x4:=zE A0 e4;have x5:=zE A0 e5;have x6:=zE A0 e6;have x7:=zE A0 e7;have y1:=zE A0 d1;have y2:=zE A0 r0;have y3:=zE A0 r1;have y4:=zE A0 r2;have y5:=zE A0 r3;have z6:∀o,w6.frozen? ⟨sb,o,none⟩=false:=λo=>(A0.frozen (yN e0) (λf=>f)).trans (z1 o)))
    obtain⟨bvs',Pd',F',C',k1,k2,k3,k4⟩:=FN.out _ _ _ _ _ _ _ _ HH.out w6 pa pcap A0 A6;have K:=oh (And.intro k1 (And.intro k2 (And.intro k3 k4)));clear k1 k2 k3 k4 A6 A0 x0 x1 x2 x3 x4 x5 x6 x7 y1 y2 y3 y4 y5 z6;go_wp2_with fail;go_ret;exact⟨bvs',Pd',F',C',_,rfl,K.out.1,K.out.2.1,K.out.2.2.1,K.out.2.2.2⟩
end
theorem zJC{P:Program}(t e:TypeId)(i:TypeInfo)(z:Value)(ht:P.underlying t=some (.slice e))(hi:P.info? e=some i)(hz:i.zero=some z)
  (kl kc:IntKind) (n c:Nat) (Cx:n<=c) (Bl:i.bytes * c<=281474976710656) (Cy:c<=9223372036854775807) (w:World) :
  (Instr.makeSlice t (.int kl (n:Int)) (.int kc (c:Int))).run P w=.ok (.slice (some ⟨w.heap.size,0,none⟩) n c) (w.alloc (.cells (madeCells z.cells (c * i.size)) e)):=by
 have hb:(i.bytes:Int) * (c:Int)<=281474976710656:=by
  have h:((i.bytes * c:Nat):Int)<=281474976710656:=by omega
  rwa [Int.natCast_mul] at h
 have hr:=run_make (P:=P) w t e i z ht hi hz kl kc n c (by omega) (by omega) hb (by omega);simp only[uH] at hr;exact hr
theorem Tryz.slotI:(Tryz.prog.info? 428).map (λi=>(i.zero,i.size,i.bytes))=some (some (.agg #[.int .i64 0,.int .i64 0,.int .u64 0,.slice none 0 0,.bool false,.bool false,.bool false,.int .i64 0]),8,64):=by kernel_rfl
def zBi:Array Value:=#[.int .i64 0,.int .i64 0,.int .u64 0,.slice none 0 0,.bool false,.bool false,.bool false,.int .i64 0]
theorem Tryz.mkSlots(n:Nat)(hn:n<=64)(w:World):(Instr.makeSlice 173 (.int .i64 (n:Int)) (.int .i64 (n:Int))).run Tryz.prog w=.ok (.slice (some ⟨w.heap.size,0,none⟩) n n) (w.alloc (.cells (madeCells zBi (n * 8)) 428)):=by
 obtain⟨i,hi,hz,hs,hb⟩:=zFO Tryz.slotI;have:=zJC (P:=Tryz.prog) 173 428 i _ Tryz.underlying173 hi hz .i64 .i64 n n (uD _) (by rw[hb];omega) (by omega) w;rw[hs] at this;exact this
theorem zLO{w:World}{sb n:Nat}(h:zG w sb (madeCells zBi (n * 8)) 428):zB3 w sb (List.replicate n qM) (List.replicate n (.slice none 0 0)):=by
 refine⟨_,h,by simp[madeCells,zBi],λi s bv hs hb j v hv=>?_⟩;have e1:=zD1 hs;have hi:i<n:=by have:=(uA.1 hs).1;simpa using this
 have e2:bv=.slice none 0 0:=by
  rw[tW,if_pos hi] at hb;injection hb with hb;exact hb.symm
 subst e1 e2;have hj:j<8:=by have:=(uA.1 hv).1;rw[zAM] at this;exact this
 have Ab:i * 8+j<n * 8:=by omega
 have e3:(i * 8+j) % 8=j:=by omega
 have:(madeCells zBi (n * 8))[i * 8+j]? = (qP qM (.slice none 0 0))[j]?:=by
  have hz:zBi.size=8:=rfl;unfold madeCells;rw[Array.getElem?_map,Array.getElem?_range,if_pos Ab,Option.map_some,hz,e3];clear h hb hs hv Ab e3 hi hz;obtain rfl|rfl|rfl|rfl|rfl|rfl|rfl|rfl:j=0\/j=1\/j=2\/j=3\/j=4\/j=5\/j=6\/j=7:=by omega
  all_goals rfl
 rw[this];exact hv
section
variable {P P' F F' Pd Pd':NP}{ad:Nat->Addr}{w w':World}{d c sb:Nat}{bvs:List Value}{C:qL}{D:zJ}
def zSs[zQ](C C':qL)(id:Nat):Prop:=yJ C'/\C'.disk.blocks=C.disk.blocks/\C'.disk.size=C.disk.size/\∀G,qZ C G->qZ C' (G.drop id)
def zQM[zQ](F:NP)(ad:Nat->Addr)(w:World)(d c sb:Nat)(Pd:NP)(C:qL)(id:Nat)(e:Ending)(w':World):Prop :=
 ∃(b:Bool) (bvs':List Value) (C':qL),e=.returned (.bool b)/\CaR F w' d c sb bvs' Pd C'/\zX (caF c sb Pd) (caF c sb Pd) F F ad w w'/\zSs C C' id
theorem zMs[zQ](hL:yH F ad w)(hP:∀k,caF c sb Pd k->F k)(h:CaR F w d c sb bvs Pd C)(hI:yJ C)(id:Nat) :
  Calls Tryz.prog 297 #[.pointer (some ⟨c,0,none⟩),.int .i64 (id:Int)] w (zQM F ad w d c sb Pd C id):=by
 have HC:=oh h;have HL:=oh hL;have HP:=oh hP;have HI:=oh hI;clear h hL hP hI
 go_enter Tryz.func297, Tryz.ntmps297
 go_wp2_with fail;refine (zH6 HC.out id).mono ?_;rintro e w1 ⟨hm,Aw⟩;have HM:=oh hm;have A2:=oh (HC.out.at hm);clear hm;rcases Aw with ⟨i,s,hs,hh,rfl⟩|⟨Al,rfl⟩
 .obtain⟨ba,bn,bc,hb⟩:=A2.out.bvAt hs;obtain⟨e0,e1,e2,e3,e4,e5,e6,e7⟩:=A2.out.cell8 hs hb;obtain⟨d0,d1,d2⟩:=A2.out.c3;obtain⟨z0,z1⟩:=A2.out.frz;have Ab:i<C.slots.length:=(uA.1 hs).1;have hn:=A2.out.n64;have HS:=oh hs;have HH:=oh hh;obtain⟨n,Ar⟩:∃n,n=C.slots.length:=⟨_,rfl⟩;rw[<- Ar] at hn Ab d1;have Bm:=oh Ar;have h1:(0:Int)<=(i:Int):=by omega
  have h2:(i:Int)<(n:Int):=by omega
  have h3:decide ((0:Int)<=(i:Int))=true:=by simp
  clear hs hh hb Ar;go_wp2_with fail;go_ret;have q2:=A2.out.slot' HP.out (i:=i) (by rw[<- Bm.out];exact Ab) qM (.slice none 0 0) (Sl.nil _ _ _ _);have q3:zA (caF c sb Pd) w1 (w1.setCells sb (i * 8) (qP qM (.slice none 0 0))):=zA.setMany (.inr (.inr (.inr rfl))) _ _ _ zr;have n1:=zX.ext (P:=caF c sb Pd) HL.out HP.out HM.out;have n2:=zX.same n1.env n1.sub q3;exact⟨_,_,_,rfl,q2,n1.trans n2,(zOb HI.out HS.out),rfl,rfl,λG hG=>(zPz HI.out hG HS.out HH.out).2⟩
 .have Ax:=oh Al;clear Al;go_wp2_with fail;go_ret;exact⟨_,_,_,rfl,A2.out,zX.ext HL.out HP.out HM.out,HI.out,rfl,rfl,λG hG=>zLB hG Ax.out⟩
def zOr[zQ](F:NP)(ad:Nat->Addr)(w:World)(d c sb:Nat)(bvs:List Value)(Pd:NP)(C:qL)(e:Ending)(w':World):Prop :=
 ∃(Pd' F':NP) (C':qL),e=.returned .nilIface/\CaR F' w' d c sb bvs Pd' C'/\Sim C C'/\zX (caF c sb Pd) (caF c sb Pd') F F' ad w w'/\∀(j:Nat) (t:zU),C'.slots[j]? = some t->t.wet=false
theorem zLP[zQ](hL:yH F ad w)(hP:∀k,caF c sb Pd k->F k)(h:CaR F w d c sb bvs Pd C)(hI:yJ C)(hc:C.cost<=1000000) :
  Calls Tryz.prog 150 #[.pointer (some ⟨c,0,none⟩)] w (zOr F ad w d c sb bvs Pd C):=by
 obtain⟨_,d1,_⟩:=h.c3;have hn:=h.n64;obtain⟨n,Ar⟩:∃n,n=C.slots.length:=⟨_,rfl⟩;rw[<- Ar] at hn d1;have Bm:=oh Ar;have HC:=oh h;have HL:=oh hL;have HP:=oh hP;have HI:=oh hI;have Ao:=oh hc;clear h hL hP Ar hI hc
 go_enter Tryz.func150, Tryz.ntmps150
 go_wp2_with fail;go_loopg [14] n (λm v wr=>∃(k:Nat) (Pd1 F1:NP) (C1:qL),k+m=n/\v=.int .i64 k/\Hid (CaR F1 wr d c sb bvs Pd1 C1/\Sim C C1/\zX (caF c sb Pd) (caF c sb Pd1) F F1 ad w wr/\C1.slots.length=n/\∀(j:Nat) (t:zU),j<k->C1.slots[j]? = some t->t.wet=false))
 case atStart=>exact⟨0,Pd,F,C,by omega,rfl,oh ⟨HC.out,Sim.refl HI.out,zX.refl HL.out HP.out,Bm.out.symm,λj t hj=>by omega⟩⟩
 case round =>
  obtain⟨k,Pd1,F1,C1,hk,rfl,HW⟩:=hrel;by_cases Ab:k<n
  .obtain⟨s,hs⟩:∃s,C1.slots[k]? = some s:=⟨_,uB (by rw[HW.out.2.2.2.1];exact Ab)⟩;have HS:=oh hs;clear hs;go_wp2_with fail;refine (zG4 HW.out.2.2.1.env HW.out.2.2.1.sub HW.out.1 HW.out.2.1.inv (uP HW.out.2.1.cost Ao.out) HS.out).mono ?_;rintro e w5 ⟨Pd',F',C2,s2,rfl,Ag,Ae,A7,Am,C0,C3,Cs,Ct,A8,C4⟩;have Cu:Hid (CaR F' w5 d c sb bvs Pd' C2/\Sim C C2/\zX (caF c sb Pd) (caF c sb Pd') F F' ad w w5/\C2.slots.length=n/\∀(j:Nat) (t:zU),j<k+1->C2.slots[j]? = some t->t.wet=false) :=
    oh ⟨Ag,HW.out.2.1.trans Ae,HW.out.2.2.1.trans A7,C3.trans HW.out.2.2.2.1,λj t hj ht=>by
     by_cases e:j=k
     .subst e;rw[Am] at ht;injection ht with ht;rw[<- ht];exact C0
     .rw[C4 j e] at ht;exact HW.out.2.2.2.2 j t (by omega) ht⟩
   clear Ag Ae A7 Am C0 C3 Cs Ct A8 C4;go_wp2_with fail;go_roundg (gk-1)
   case measure=>omega
   case rel=>exact⟨k+1,Pd',F',C2,by omega,by go_num,Cu⟩
  .go_wp2_with fail;go_ret;exact⟨Pd1,F1,C1,rfl,HW.out.1,HW.out.2.1,HW.out.2.2.1,λj t ht=>HW.out.2.2.2.2 j t (by have:=(uA.1 ht).1;have:=HW.out.2.2.2.1;omega) ht⟩
def zOs(F:NP)(ad:Nat->Addr)(w:World)(d:Nat)(Pd:NP)(D:zJ)(n:Nat)(e:Ending)(w':World):Prop :=
 ∃(c sb:Nat) (bvs:List Value) (F':NP),e=.returned (.tuple #[.pointer (some ⟨c,0,none⟩),.nilIface])/\CaR F' w' d c sb bvs Pd ⟨D,List.replicate n qM,0⟩/\zX Pd (caF c sb Pd) F F' ad w w'
theorem zQN(hL:yH F ad w)(hP:∀k,Pd k->F k)(hD:DkS w Pd d D)(n:Nat)(h3:3<=n)(Bf:n<=64) :
  Calls Tryz.prog 45 #[.pointer (some ⟨d,0,none⟩),.int .i64 (n:Int)] w (zOs F ad w d Pd D n):=by
 have C6:=Tryz.mkSlots n Bf;have a1:decide ((n:Int)<3)=false:=by simp;omega
 have a2:decide ((64:Int)<(n:Int))=false:=by simp;omega
 have HL:=oh hL;have HP:=oh hP;have HD:=oh hD;clear hL hP hD
 go_enter Tryz.func45, Tryz.ntmps45
 go_wp2_with fail;go_ret2
 have hD:=HD.out;have hB:zG ((w.alloc (.cells (madeCells zBi (n * 8)) 428)).alloc (.cells #[.pointer (some ⟨d,0,none⟩),.slice (some ⟨w.heap.size,0,none⟩) n n,.int .i64 0] 175)) w.heap.size (madeCells zBi (n * 8)) 428:=(zG.new w _ _).alloc _;have C5:zG ((w.alloc (.cells (madeCells zBi (n * 8)) 428)).alloc (.cells #[.pointer (some ⟨d,0,none⟩),.slice (some ⟨w.heap.size,0,none⟩) n n,.int .i64 0] 175)) (w.heap.size+1) #[.pointer (some ⟨d,0,none⟩),.slice (some ⟨w.heap.size,0,none⟩) n n,.int .i64 0] 175:=zS (by simp);have m1:zF w ((w.alloc (.cells (madeCells zBi (n * 8)) 428)).alloc (.cells #[.pointer (some ⟨d,0,none⟩),.slice (some ⟨w.heap.size,0,none⟩) n n,.int .i64 0] 175)):=((zss w).alloc _).alloc _;have Bn:=hD.bd;have st:Stp Pd (caF (w.heap.size+1) w.heap.size Pd) w ((w.alloc (.cells (madeCells zBi (n * 8)) 428)).alloc (.cells #[.pointer (some ⟨d,0,none⟩),.slice (some ⟨w.heap.size,0,none⟩) n n,.int .i64 0] 175)) :=
  ⟨m1.ext,λk hk hf=>by
   rcases hf with hf|rfl|rfl
   .exact hf
   .omega
   .omega,λk hf=>by
   rcases hf with hf|rfl|rfl
   .exact uF (Bn k hf) m1.size
   .exact C5.lt
   .exact hB.lt⟩
 refine⟨w.heap.size+1,w.heap.size,List.replicate n (.slice none 0 0),_,rfl,⟨by simpa using C5,zLO hB,by simp,by simpa using Bf,λi s bv hs hb=>?_,hD.at m1,λf=>by have:=Bn _ f;omega,λf=>by have:=Bn _ f;omega,by omega⟩,zX.of HL.out HP.out st⟩;have hi:i<n:=by have:=(uA.1 hs).1;simpa using this
 have e1:=zD1 hs;have e2:bv=.slice none 0 0:=by rw[tW,if_pos hi] at hb;injection hb with hb;exact hb.symm
 subst e1 e2;exact Sl.nil _ _ _ _
end
end Go.Proofs.YtalpfcaakpgkmaaGreatDoor
