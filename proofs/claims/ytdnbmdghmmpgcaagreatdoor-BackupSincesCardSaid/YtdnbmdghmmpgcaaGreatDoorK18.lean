import Derived.Test.YtdnbmdghmmpgcaaGreatDoorK17
import Derived.Laws.MakeOwn
namespace Go.Proofs.YtdnbmdghmmpgcaaGreatDoor
open Lib renaming hid→oh
set_option maxHeartbeats 4000000
set_option maxRecDepth 100000
open Go.RowKit
attribute [local go_sem ↓] Go.wp_at_zero Go.wp_at_succ
section
variable {P P' F F' Pd Pd':Nat→Prop}{ad:Nat→Addr}{w w':World}{d c sb:Nat}{bvs:List Value}{C:CaA}{D:DiskA}
theorem pcloned_any(hF:Bd F w)(p:PageA)(bv:Value)(hb:Sl F w 1 encB bv p.body)(hl:p.body.length≤100000) :
  Calls Tryz.prog 291 #[pageV p bv] w λe w'=>∃pv,e=.returned (pageV p pv)∧Sl F w' 1 encB pv p.body∧Ext w w':=by
 obtain⟨pk,pi,pg,l⟩:=p;obtain⟨a,cap,rfl,i1,i2,i3,i4⟩:=id hb;simp only at *;unfold pageV;simp only;have hmk:=run_mk (P:=Tryz.prog) 26 5 (.int .u8 0) 1 Tryz.underlying26 Tryz.mkB rfl l.length (by omega) (by omega);have hcp:∃W,(Builtin.copy_ #[26,26] 3 #[.slice (some ⟨w.heap.size+2,0,none⟩) l.length l.length,.slice a l.length cap]).run Tryz.prog (((w.alloc (.cells #[.int .i64 pk,.int .i64 pi,.int .u64 (pg:Int),.slice a l.length cap] 304)).alloc (.cells #[.int .i64 0,.int .i64 0,.int .u64 0,.slice none 0 0] 304)).alloc (.cells (Array.replicate l.length (.int .u8 0)) 5))=.ok (goInt l.length) W ∧
   Blk W w.heap.size #[.int .i64 pk,.int .i64 pi,.int .u64 (pg:Int),.slice a l.length cap] 304 ∧ Blk W (w.heap.size+1) #[.int .i64 0,.int .i64 0,.int .u64 0,.slice none 0 0] 304 ∧ Blk W (w.heap.size+2) (l.flatMap encB).toArray 5 ∧ Ext w W:=by
  have b1:Blk (((w.alloc (.cells #[.int .i64 pk,.int .i64 pi,.int .u64 (pg:Int),.slice a l.length cap] 304)).alloc (.cells #[.int .i64 0,.int .i64 0,.int .u64 0,.slice none 0 0] 304)).alloc (.cells (Array.replicate l.length (.int .u8 0)) 5)) w.heap.size _ _:=((Blk.new w _ _).alloc _).alloc _;have b2:Blk (((w.alloc (.cells #[.int .i64 pk,.int .i64 pi,.int .u64 (pg:Int),.slice a l.length cap] 304)).alloc (.cells #[.int .i64 0,.int .i64 0,.int .u64 0,.slice none 0 0] 304)).alloc (.cells (Array.replicate l.length (.int .u8 0)) 5)) (w.heap.size+1) _ _:=Blk.alloc (heap_at (by simp)) _;have b3:Blk (((w.alloc (.cells #[.int .i64 pk,.int .i64 pi,.int .u64 (pg:Int),.slice a l.length cap] 304)).alloc (.cells #[.int .i64 0,.int .i64 0,.int .u64 0,.slice none 0 0] 304)).alloc (.cells (Array.replicate l.length (.int .u8 0)) 5)) (w.heap.size+2) _ _:=heap_at (by simp);have mA:Ext w (((w.alloc (.cells #[.int .i64 pk,.int .i64 pi,.int .u64 (pg:Int),.slice a l.length cap] 304)).alloc (.cells #[.int .i64 0,.int .i64 0,.int .u64 0,.slice none 0 0] 304)).alloc (.cells (Array.replicate l.length (.int .u8 0)) 5)):=(((Mods.refl _ w).alloc _).alloc _).alloc _;obtain⟨W,h1,h2,h3⟩:=run_copy_bytes' (P:=Tryz.prog) Tryz.elB 3 (w.heap.size+2) _ _ l a cap b3 (by simp) (hb.mods mA.ext);exact⟨W,h1,b1.mods h3 (by simp),b2.mods h3 (by simp),h2,mA.trans' h3 (λi hi e=>by omega)⟩
 obtain⟨W,hc1,k1,k2,k3,km⟩:=hcp;have c10:=k1.cell (o:=0) rfl;have c11:=k1.cell (o:=1) rfl;have c12:=k1.cell (o:=2) rfl;have c13:=k1.cell (o:=3) rfl;have c20:=k2.cell (o:=0) rfl;have c21:=k2.cell (o:=1) rfl;have c22:=k2.cell (o:=2) rfl;have c23:=k2.cell (o:=3) rfl;have f1:=k1.frozen;have f2:=k2.frozen;have K1:=oh k1;have K2:=oh k2;have K3:=oh k3;have KM:=oh km;have HF:=oh hF;unfold maxLen at i2;clear k1 k2 k3 km i4 hb hF
 go_enter Tryz.func291, Tryz.ntmps291
 go_wp2_with (at_builtin;refine Go.Lib.wpList_copy_run _ rfl _ _ 26 26 rfl _ _ rfl rfl hc1 ?_);go_wp2_with fail;have q1:=(K2.out.set_other (p:=⟨w.heap.size,3,none⟩) (by simp) (.slice (some ⟨w.heap.size+2,0,none⟩) l.length l.length)).set4 (.int .i64 pk) (.int .i64 pi) (.int .u64 (pg:Int)) (.slice (some ⟨w.heap.size+2,0,none⟩) l.length l.length);refine bodyPost_ret (results_cell_row rfl _ _ (w.heap.size+1) 304 #[.int .i64 pk,.int .i64 pi,.int .u64 (pg:Int),.slice (some ⟨w.heap.size+2,0,none⟩) l.length l.length] (0,0) _ rfl q1 Tryz.underlying304 rfl Tryz.pageSize) rfl ?_;have m1:=KM.out.setCell (p:=⟨w.heap.size,3,none⟩) (.inl (Nat.le_refl _)) (.slice (some ⟨w.heap.size+2,0,none⟩) l.length l.length);have m2:=m1.set4 (R:=w.heap.size+1) (.inl (by omega)) (.int .i64 pk) (.int .i64 pi) (.int .u64 (pg:Int)) (.slice (some ⟨w.heap.size+2,0,none⟩) l.length l.length);refine⟨_,rfl,?_,m2⟩;have K4:Blk W (w.heap.size+2) (bytesC l) 5:=by rw[← bytesC_flat];exact K3.out
 have K5:=((((K4.set_other (p:=⟨w.heap.size,3,none⟩) (by simp) (.slice (some ⟨w.heap.size+2,0,none⟩) l.length l.length)).set_other (p:=⟨w.heap.size+1,0,none⟩) (by simp) (.int .i64 pk)).set_other (p:=⟨w.heap.size+1,1,none⟩) (by simp) (.int .i64 pi)).set_other (p:=⟨w.heap.size+1,2,none⟩) (by simp) (.int .u64 (pg:Int))).set_other (p:=⟨w.heap.size+1,3,none⟩) (by simp) (.slice (some ⟨w.heap.size+2,0,none⟩) l.length l.length);exact row_sl (size:=l.length) K5 rfl (λf=>by have:=HF.out _ f;omega) (by omega)
theorem DkS.read(hL:Env F ad w)(h:DkS w P d D)(i:Nat)(hi:i<D.blocks)(ho:D.off=false) :
  Calls Tryz.prog 189 #[.pointer (some ⟨d,0,none⟩),.int .i64 (i:Int)] w λe w'=>∃g,e=.returned (.tuple #[rowV D.size g,.nilIface])∧w.heap.size≤g∧Blk w' g (bytesC (D.look i)) 5 ∧ (D.look i).length=D.size∧Ext w w':=by
 obtain⟨bl,gs,ws,wv,kv,h1,h2⟩:=h;exact dkRead_ok hL h1 i hi ho
def LoadP(F':Nat→Prop)(ad:Nat→Addr)(w':World)(C C':CaA)(id:Nat)(e:Ending):Prop :=
 (∃(i:Nat) (s:SlotA),e=.returned (.tuple #[.int .i64 (i:Int),.nilIface])∧C'.slots[i]? = some s∧s.has id=true∧C.vw id=.inl s.page) ∨
 (∃(pg:List Int) (k f:Nat),e=.returned (.tuple #[.int .i64 0,faultV f])∧C.vw id=.inr (pg,k)∧ErrC F' ad w' (faultV f) pg k)
theorem caLoad_any(hL:Env F ad w)(hP:∀k,caF c sb Pd k→F k)(h:CaR F w d c sb bvs Pd C)(hI:CaInv C)(hc:C.cost≤1000000)(id:Nat)(hid:id<C.disk.blocks) :
  Calls Tryz.prog 315 #[.pointer (some ⟨c,0,none⟩),.int .i64 (id:Int)] w λe w'=>∃(bvs':List Value) (Pd' F':Nat→Prop) (C':CaA),CaR F' w' d c sb bvs' Pd' C'∧Sim C C' ∧
   Nxt (caF c sb Pd) (caF c sb Pd') F F' ad w w'∧LoadP F' ad w' C C' id e:=by
 have HC:=oh h;have HL:=oh hL;have HP:=oh hP;have HI:=oh hI;have HCO:=oh hc;have HID:=oh hid;have hn:=h.n64;clear h hL hP hI hc hid
 go_enter Tryz.func315, Tryz.ntmps315
 go_wp2_with fail;refine (caAt_any HC.out id).mono ?_;rintro e w1 ⟨hm,hat⟩;have HM:=oh hm;have HC1:=oh (HC.out.at hm);clear hm;rcases hat with ⟨i,s,hs,hh,rfl⟩|⟨hno,rfl⟩
 ·obtain⟨ba,bn,bc,hb⟩:=HC1.out.bvAt hs;obtain⟨e0,e1,e2,e3,e4,e5,e6,e7⟩:=HC1.out.cell8 hs hb;obtain⟨d0,d1,d2⟩:=HC1.out.c3;obtain⟨z0,z1⟩:=HC1.out.frz;have hlt:i<C.slots.length:=(List.getElem?_eq_some_iff.1 hs).1;have HS:=oh hs;have HH:=oh hh;generalize C.slots.length=n at hn hlt d1
  have h1:(0:Int)≤(i:Int):=by omega
  have h2:(i:Int)<(n:Int):=by omega
  clear hs hh hb e0 e1 e2 e3 e4 e5 e7;go_wp2_with fail;go_ret2
  have n1:=Nxt.ext (P:=caF c sb Pd) HL.out HP.out HM.out;have n2:=Nxt.same n1.env n1.sub (Mods.at (caF c sb Pd) w1 sb (i * 8+6) (.bool true) (.inr (.inr rfl)));exact⟨bvs,Pd,F,_,HC1.out.used HP.out HS.out true,sim_same HI.out HS.out true,n1.trans n2,.inl ⟨i,{ s with used:=true },rfl,set_self HS.out,HH.out,(show C.vw id=.inl s.page from HI.out.vw_at HS.out HH.out)⟩⟩
 ·have HNO:=oh hno;clear hno;have HL1:=oh (HL.out.mods HM.out.ext);go_wp2_with fail;refine (caRoom_any HL1.out HP.out HC1.out HI.out HCO.out).mono ?_;rintro e w2 ⟨i,s,bvs2,Pd2,F2,C2,rfl,hC2,hS2,hX2,hs2,hf2,hsub⟩;have HC2:=oh hC2;have HS2:=oh hS2;have HX2:=oh hX2;have HSS:=oh hs2;have HFF:=oh hf2;have HNO2:Hid (∀(j:Nat) (t:SlotA),C2.slots[j]? = some t→t.has id=false):=oh (hsub.no HNO.out);have HID2:Hid (id<C2.disk.blocks):=oh (by rw[hS2.blocks];exact HID.out);have HVW:Hid (C.vw id=openAtP (C2.disk.look id) id):=oh (by rw[← hS2.vw id];exact vw_none HNO2.out);obtain⟨d0,d1,d2⟩:=hC2.c3;have hsz:=HS2.out.inv.s1024;have hsz2:=HS2.out.inv.s256;clear hC2 hS2 hX2 hs2 hf2 hsub d2;go_wp2_with fail;refine (DkS.read HX2.out.env HC2.out.disk id HID2.out HS2.out.inv.off).mono ?_;rintro e w3 ⟨g,rfl,hg,hB3,hlen,hm3⟩;have HB3:Hid (Sl F2 w3 1 encB (rowV C2.disk.size g) (C2.disk.look id)):=oh (row_sl hB3 hlen (λf=>by have:=HX2.out.env.lt g f;omega) (by omega));have HLen:=oh hlen;have HM3:=oh hm3;have HL3:=oh (HX2.out.env.mods hm3.ext);have HC3:=oh (HC2.out.at hm3);have p1:=cellE hm3 d1;clear hg hB3 hlen hm3;go_wp2_with fail;refine (OpenAt_any HL3.out _ (C2.disk.look id) HB3.out (by rw[HLen.out];exact hsz2) (by rw[HLen.out];exact hsz) id).mono ?_;rintro e w4 ⟨hm4,hr⟩;have HM4:=oh hm4;have HC4:=oh (HC3.out.at hm4);have p2:=cellE hm4 p1;clear hm4;rcases hr with ⟨p,pv,hop,rfl,hpv⟩|⟨pg,k,f,hop,rfl,hE⟩
  ·obtain⟨pa,pcap,rfl,_⟩:=_root_.id hpv;obtain⟨pk,pi,pg,l⟩:=p;have HPV:=oh hpv;have HOP:=oh hop;obtain⟨ba,bn,bc,hb⟩:=HC4.out.bvAt HSS.out;obtain⟨e0,e1,e2,e3,e4,e5,e6,e7⟩:=HC4.out.cell8 HSS.out hb;obtain⟨z0,z1⟩:=HC4.out.frz;have hlt:i<C2.slots.length:=(List.getElem?_eq_some_iff.1 HSS.out).1;have hn2:=HC4.out.n64;have h1:(0:Int)≤(i:Int):=by omega
   have h2:(i:Int)<(C2.slots.length:Int):=by omega
   have hsl:sb<w4.heap.size:=cell_lt e0;have hcl:c<w4.heap.size:=cell_lt p2;clear hop hpv hb p1 d0 d1;simp only[pageV];go_wp2_with fail;go_region
   go_wp2
   go_ret2
   have q2:=HC4.out.slot' HX2.out.sub (i:=i) hlt ⟨⟨pk,pi,pg,l⟩,true,false,true,0⟩ (.slice pa l.length pcap) HPV.out;have q3:Mods (caF c sb Pd2) w4 (w4.setCells sb (i * 8) (slotCells ⟨⟨pk,pi,pg,l⟩,true,false,true,0⟩ (.slice pa l.length pcap))):=Mods.setMany (.inr (.inr (.inr rfl))) _ _ _ (Mods.refl _ _);have q5:=openAt_inl HOP.out;rw[HLen.out] at q5;have q4:=sim_load HS2.out.inv HSS.out HFF.out id HID2.out HNO2.out ⟨pk,pi,pg,l⟩ HOP.out q5.2.1 q5.1;have n1:=Nxt.ext (P:=caF c sb Pd) HL.out HP.out HM.out;have n2:=Nxt.ext HX2.out.env HX2.out.sub (HM3.out.trans HM4.out);have n3:=Nxt.same n2.env n2.sub ((q3.alloc (.cells #[.int .i64 pk,.int .i64 pi,.int .u64 (pg:Int),.slice pa l.length pcap] 304)).drew);exact⟨_,Pd2,F2,_,q2.at ((Mods.refl _ _).alloc _).drew,HS2.out.trans q4,((n1.trans HX2.out).trans n2).trans n3,.inl ⟨i,_,rfl,set_self HSS.out,has_iff.2 ⟨rfl,q5.2.1⟩,by rw[HVW.out,HOP.out]⟩⟩
  ·have HE:=oh hE;have HOP:=oh hop;clear hop hE;simp only[pageV];go_wp2_with fail;go_ret2
   have n1:=Nxt.ext (P:=caF c sb Pd) HL.out HP.out HM.out;have n2:=Nxt.ext HX2.out.env HX2.out.sub ((HM3.out.trans HM4.out).alloc (.cells #[.int .i64 0,.int .i64 0,.int .u64 0,.slice none 0 0] 304));exact⟨bvs2,Pd2,F2,C2,HC4.out.at ((Mods.refl _ _).alloc _),HS2.out,(n1.trans HX2.out).trans n2,.inr ⟨pg,k,f,rfl,by rw[HVW.out,HOP.out],HE.out.mods ((Mods.refl _ _).alloc _)⟩⟩
end
def CaA.get(C:CaA)(id:Int):PageA ⊕ Err :=
 match C.check id with
 | some e=>.inr e
 | none=>match C.vw id.toNat with
  | .inl p=>.inl p
  | .inr (l,k)=>.inr (-1 :: l,k)
def zeroPage:PageA:=⟨0,0,0,[]⟩
def PageRes(F:Nat→Prop)(ad:Nat→Addr)(w:World)(r:PageA ⊕ Err)(e:Ending):Prop :=
 (∃p pv,r=.inl p∧e=.returned (.tuple #[pageV p pv,.nilIface])∧Sl F w 1 encB pv p.body)∨(∃(er:Err) (f:Nat),r=.inr er∧e=.returned (.tuple #[pageV zeroPage (.slice none 0 0),faultV f])∧ErrC F ad w (faultV f) er.1 er.2)
section
variable {P P' F F' Pd Pd':Nat→Prop}{ad:Nat→Addr}{w w':World}{d c sb:Nat}{bvs:List Value}{C:CaA}{D:DiskA}
theorem Nxt.res(hL:Env F ad w)(hP:∀k,P k→F k)(o:Obj):Nxt P P F (plusR F w.heap.size) ad w (w.alloc o) :=
 ⟨Stp.ext (λk h=>hL.lt k (hP k h)) ((Mods.refl _ w).alloc o),λk h=>.inl (hP k h),λ_ h=>.inl h,λk hk h=>h.elim id (λe=>by omega),hL.withR ((Mods.refl _ w).alloc o) (by simp)⟩
theorem Nxt.resD{R:Nat}(n:Nxt P P' F F' ad w w'){w2:World}(m:Mods (λk=>k=R) w' w2)(hR:w.heap.size≤R)(hF:F' R):Nxt P P' F F' ad w w2 :=
 ⟨⟨n.stp.mods.trans' m (λi hi e=>by omega),n.stp.old,λk h=>Nat.lt_of_lt_of_le (n.stp.bd k h) m.size⟩,n.sub,n.grow,n.oldF,n.env.mods (m.mono (λk hk=>hk ▸ hF))⟩
theorem CaR.outer(h:CaR F w d c sb bvs Pd C){G:Nat→Prop}(hG:∀k,k<w.heap.size→¬ F k→¬ G k):CaR G w d c sb bvs Pd C :=
 ⟨h.own,h.row,h.lenB,h.n64,λi s bv h1 h2=>(h.body i s bv h1 h2).step (Mods.refl _ _) hG,h.disk,h.cd,h.sd,h.ne⟩
theorem CaR.far(h:CaR F w d c sb bvs Pd C){Q:Nat→Prop}(m:Mods Q w w')(hQ:∀k,caF c sb Pd k→¬ Q k)(hF:∀k,Q k→F k):CaR F w' d c sb bvs Pd C :=
 ⟨h.own.mods m (hQ c (.inr (.inl rfl))),h.row.at m (hQ sb (.inr (.inr rfl))),h.lenB,h.n64,λi s bv h1 h2=>(h.body i s bv h1 h2).mods (m.mono hF),h.disk.far m (λk hk=>hQ k (.inl hk)),h.cd,h.sd,h.ne⟩
theorem caGet_any(hL:Env F ad w)(hP:∀k,caF c sb Pd k→F k)(h:CaR F w d c sb bvs Pd C)(hI:CaInv C)(hc:C.cost≤1000000)(id:Int) :
  Calls Tryz.prog 278 #[.pointer (some ⟨c,0,none⟩),.int .i64 id] w λe w'=>∃(bvs':List Value) (Pd' F':Nat→Prop) (C':CaA),CaR F' w' d c sb bvs' Pd' C'∧Sim C C' ∧
   Nxt (caF c sb Pd) (caF c sb Pd') F F' ad w w'∧PageRes F' ad w' (C.get id) e:=by
 have hX0:=Nxt.res hL hP (.cells #[.int .i64 0,.int .i64 0,.int .u64 0,.slice none 0 0] 304);have hC0:CaR (plusR F w.heap.size) (w.alloc (.cells #[.int .i64 0,.int .i64 0,.int .u64 0,.slice none 0 0] 304)) d c sb bvs Pd C :=
  (h.outer (G:=plusR F w.heap.size) (λk hk hn hF=>hF.elim hn (λe=>by omega))).at ((Mods.refl _ w).alloc _)
 have hB0:Blk (w.alloc (.cells #[.int .i64 0,.int .i64 0,.int .u64 0,.slice none 0 0] 304)) w.heap.size _ _:=Blk.new w _ _;have hnR:¬ caF c sb Pd w.heap.size:=λf=>by have:=h.bdP _ f;omega
 have HN0:=oh hnR;have HC0:=oh hC0;have HX0:=oh hX0;have HB0:=oh hB0;have HI:=oh hI;have HCO:=oh hc;have HSZ:Hid (w.heap.size<(w.alloc (.cells #[.int .i64 0,.int .i64 0,.int .u64 0,.slice none 0 0] 304)).heap.size):=oh (by simp);have hb8:=hI.b8;have hb256:=hI.b256;clear h hL hP hI hc hX0 hC0 hB0 hnR
 go_enter Tryz.func278, Tryz.ntmps278
 go_wp2_with fail;refine (caCheck_any HX0.out.env HC0.out _ id).mono ?_;rintro e w1 ⟨ev,rfl,hE,hm⟩;have HM1:=oh hm;have HC1:=oh (HC0.out.at hm);have HB1:=oh (HB0.out.ext hm);have HX1:=oh (HX0.out.trans (Nxt.ext HX0.out.env HX0.out.sub hm));have HS1:Hid (w.heap.size<w1.heap.size):=oh (Nat.lt_of_lt_of_le HSZ.out hm.size);clear hm;cases hck:C.check id with
 | some er =>
  rw[hck] at hE;obtain⟨el,ek⟩:=er;obtain⟨f,rfl,hE⟩:=hE;have HE:=oh hE;have HK:Hid (C.get id=.inr (el,ek)):=oh (by unfold CaA.get;rw[hck]);have r0:=HB1.out.cell (o:=0) rfl;have r1:=HB1.out.cell (o:=1) rfl;have r2:=HB1.out.cell (o:=2) rfl;have r3:=HB1.out.cell (o:=3) rfl;have rf:=HB1.out.frozen;clear hE hck;go_wp2_with fail;refine bodyPost_ret (results_row_tmp rfl _ _ w.heap.size 304 #[.int .i64 0,.int .i64 0,.int .u64 0,.slice none 0 0] _ rfl (HB1.out.set4 (.int .i64 0) (.int .i64 0) (.int .u64 0) (.slice none 0 0)) Tryz.underlying304 rfl Tryz.pageSize) rfl ?_;have mR:Mods (plusR F w.heap.size) w1 _:=Mods.set4 (Mods.refl (plusR F w.heap.size) w1) (R:=w.heap.size) (.inr (.inr rfl)) (.int .i64 0) (.int .i64 0) (.int .u64 0) (.slice none 0 0);have mR':Mods (λk=>k=w.heap.size) w1 _:=Mods.set4 (Mods.refl (λk=>k=w.heap.size) w1) (R:=w.heap.size) (.inr rfl) (.int .i64 0) (.int .i64 0) (.int .u64 0) (.slice none 0 0);exact⟨bvs,Pd,plusR F w.heap.size,C,HC1.out.far mR' (λk hk e=>HN0.out (e ▸ hk)) (λk hk=>.inr hk),Sim.refl HI.out,HX1.out.resD mR' (Nat.le_refl _) (.inr rfl),.inr ⟨(el,ek),f,HK.out,rfl,HE.out.mods mR⟩⟩
 | none =>
  rw[hck] at hE;cases hE
  obtain⟨n,rfl⟩:∃n:Nat,id=n:=⟨id.toNat,by unfold CaA.check at hck;split at hck;cases hck;omega⟩;have hn:n<C.disk.blocks:=by unfold CaA.check at hck;split at hck;cases hck;omega
  have HCK:=oh hck;have HN:=oh hn;clear hck hn;go_wp2_with fail;refine (caLoad_any HX1.out.env HX1.out.sub HC1.out HI.out HCO.out n HN.out).mono ?_;rintro e w2 ⟨bvs2,Pd2,F2,C2,hC2,hS2,hX2,hld⟩;have HC2:=oh hC2;have HSi2:=oh hS2;have HX2:=oh (HX1.out.trans hX2);have HB2:=oh (hX2.blk HB1.out HN0.out);have HF2:Hid (F2 w.heap.size):=oh (hX2.grow _ (.inr rfl));have HN2:Hid (¬ caF c sb Pd2 w.heap.size):=oh (hX2.not HS1.out HN0.out);have HS2:Hid (w.heap.size<w2.heap.size):=oh (Nat.lt_of_lt_of_le HS1.out hX2.size);clear hC2 hS2 hX2;rcases hld with ⟨i,s,rfl,hs,hh,hv⟩|⟨pg,k,f,rfl,hv,hE⟩
  ·obtain⟨ba,bn,bc,hb⟩:=HC2.out.bvAt hs;obtain⟨e0,e1,e2,e3,e4,e5,e6,e7⟩:=HC2.out.cell8 hs hb;obtain⟨d0,d1,d2⟩:=HC2.out.c3;have hlt:i<C2.slots.length:=(List.getElem?_eq_some_iff.1 hs).1;have hn2:=HC2.out.n64;have h1:(0:Int)≤(i:Int):=by omega
   have h2:(i:Int)<(C2.slots.length:Int):=by omega
   have HBD:=oh (HC2.out.body i s _ hs hb);have HV:Hid (C.get (n:Int)=.inl s.page):=oh (by unfold CaA.get;rw[HCK.out];simp only[Int.toNat_natCast];rw[hv]);have HLB:Hid (s.page.body.length≤100000):=oh (by
    have:=HSi2.out.inv.page i s hs (has_iff.1 hh).1;have:=pgCheck_none this.2.2.1;have:=HSi2.out.inv.s1024;omega)
   clear hs hh hv hb e4 e5 e6 e7 d0 d2;go_wp2_with fail;refine (pcloned_any HX2.out.env.lt s.page (.slice ba bn bc) HBD.out HLB.out).mono ?_;rintro e w3 ⟨pv,rfl,hpv,hm3⟩;obtain⟨pa,pcap,rfl,_⟩:=_root_.id hpv;obtain⟨p,hp⟩:∃p,p=s.page:=⟨_,rfl⟩;rw[← hp] at hpv HV ⊢;obtain⟨pk,pi,pg,l⟩:=p;have HPV:=oh hpv;have HM3:=oh hm3;have HB3:=oh (HB2.out.ext hm3);have r0:=HB3.out.cell (o:=0) rfl;have r1:=HB3.out.cell (o:=1) rfl;have r2:=HB3.out.cell (o:=2) rfl;have r3:=HB3.out.cell (o:=3) rfl;have rf:=HB3.out.frozen;clear hpv hm3 hp e0 e1 e2 e3 d1;simp only[pageV];go_wp2_with fail;refine bodyPost_ret (results_row_tmp rfl _ _ w.heap.size 304 #[.int .i64 pk,.int .i64 pi,.int .u64 (pg:Int),.slice pa l.length pcap] _ rfl (HB3.out.set4 _ _ _ _) Tryz.underlying304 rfl Tryz.pageSize) rfl ?_;have mR':Mods (λk=>k=w.heap.size) w3 _:=Mods.set4 (Mods.refl (λk=>k=w.heap.size) w3) (R:=w.heap.size) (.inr rfl) (.int .i64 pk) (.int .i64 pi) (.int .u64 (pg:Int)) (.slice pa l.length pcap);have mR:=mR'.mono (G:=F2) (λk hk=>hk ▸ HF2.out);have n3:=Nxt.ext HX2.out.env HX2.out.sub HM3.out;exact⟨bvs2,Pd2,F2,C2,(HC2.out.at HM3.out).far mR' (λk hk e=>HN2.out (e ▸ hk)) (λk hk=>hk ▸ HF2.out),HSi2.out,(HX2.out.trans n3).resD mR' (Nat.le_refl _) HF2.out,.inl ⟨⟨pk,pi,pg,l⟩,.slice pa l.length pcap,HV.out,rfl,HPV.out.mods mR⟩⟩
  ·have HE:=oh hE;have HV:Hid (C.get (n:Int)=.inr (-1 :: pg,k)):=oh (by unfold CaA.get;rw[HCK.out];simp only[Int.toNat_natCast];rw[hv]);clear hE hv;go_wp2_with fail;refine (wrap_any HX2.out.env _ _ pg k HE.out).mono ?_;rintro e w3 ⟨f3,rfl,hE3,hm3⟩;have HE3:=oh hE3;have HM3:=oh hm3;have HB3:=oh (HB2.out.ext hm3);have r0:=HB3.out.cell (o:=0) rfl;have r1:=HB3.out.cell (o:=1) rfl;have r2:=HB3.out.cell (o:=2) rfl;have r3:=HB3.out.cell (o:=3) rfl;have rf:=HB3.out.frozen;clear hE3 hm3;go_wp2_with fail;refine bodyPost_ret (results_row_tmp rfl _ _ w.heap.size 304 #[.int .i64 0,.int .i64 0,.int .u64 0,.slice none 0 0] _ rfl (HB3.out.set4 (.int .i64 0) (.int .i64 0) (.int .u64 0) (.slice none 0 0)) Tryz.underlying304 rfl Tryz.pageSize) rfl ?_;have mR':Mods (λk=>k=w.heap.size) w3 _:=Mods.set4 (Mods.refl (λk=>k=w.heap.size) w3) (R:=w.heap.size) (.inr rfl) (.int .i64 0) (.int .i64 0) (.int .u64 0) (.slice none 0 0);have mR:=mR'.mono (G:=F2) (λk hk=>hk ▸ HF2.out);have n3:=Nxt.ext HX2.out.env HX2.out.sub HM3.out;exact⟨bvs2,Pd2,F2,C2,(HC2.out.at HM3.out).far mR' (λk hk e=>HN2.out (e ▸ hk)) (λk hk=>hk ▸ HF2.out),HSi2.out,(HX2.out.trans n3).resD mR' (Nat.le_refl _) HF2.out,.inr ⟨(-1 :: pg,k),f3,HV.out,rfl,HE3.out.mods mR⟩⟩
end
def CaA.putE(C:CaA)(p:PageA):Option Err :=
 match C.check p.id with
 | some e=>some e
 | none=>wrapO (pgCheck p C.disk.size)
def PutP(C C':CaA)(p:PageA):Prop:=(C.putE p=none∧C'.disk.blocks=C.disk.blocks∧C'.disk.size=C.disk.size∧CaInv C'∧∀G,CaRel C G→CaRel C' (G.put p))∨(C.putE p≠none∧C'=C)
section
variable {P P' F F' Pd Pd':Nat→Prop}{ad:Nat→Addr}{w w':World}{d c sb:Nat}{bvs:List Value}{C:CaA}{D:DiskA}
theorem cellSet{w:World}{p:Addr}{x:Value}(h:w.cell? p=some x)(v:Value):(w.setCell p v).cell? p=some v:=World.cell?_setCell_same w p v h
theorem cellO{w:World}{b o o':Nat}(h:o≠o')(v:Value):(w.setCell ⟨b,o,none⟩ v).cell? ⟨b,o',none⟩=w.cell? ⟨b,o',none⟩:=World.cell?_setCell_other w _ _ v (λe=>h (by injection e))
theorem cell7{w:World}{b i:Nat}{x:Value}(h:w.cell? ⟨b,i * 8+7,none⟩=some x)(v0 v1 v2 v3 v4 v5 v6:Value):(((((((w.setCell ⟨b,i * 8,none⟩ v0).setCell ⟨b,i * 8+1,none⟩ v1).setCell ⟨b,i * 8+2,none⟩ v2).setCell ⟨b,i * 8+3,none⟩ v3).setCell ⟨b,i * 8+4,none⟩ v4).setCell ⟨b,i * 8+5,none⟩ v5).setCell ⟨b,i * 8+6,none⟩ v6).cell? ⟨b,i * 8+7,none⟩=some x:=by
 rw[cellO (by omega),cellO (by omega),cellO (by omega),cellO (by omega),cellO (by omega),cellO (by omega),cellO (by omega)];exact h
theorem caPut_any(hL:Env F ad w)(hP:∀k,caF c sb Pd k→F k)(h:CaR F w d c sb bvs Pd C)(hI:CaInv C)(hc:C.cost≤1000000)(p:PageA)(bv:Value)(hb:Sl F w 1 encB bv p.body)(hg:p.gen<18446744073709551616) :
  Calls Tryz.prog 235 #[.pointer (some ⟨c,0,none⟩),pageV p bv] w λe w'=>∃(bvs':List Value) (Pd' F':Nat→Prop) (C':CaA) (ev:Value),e=.returned ev∧CaR F' w' d c sb bvs' Pd' C' ∧
   Nxt (caF c sb Pd) (caF c sb Pd') F F' ad w w'∧ErrR F' ad w' ev (C.putE p)∧PutP C C' p:=by
 obtain⟨ba,bcap,rfl,_⟩:=_root_.id hb;obtain⟨pk,pi,pg,l⟩:=p;simp only[pageV];have m0:Ext w (w.alloc (.cells #[.int .i64 pk,.int .i64 pi,.int .u64 (pg:Int),.slice ba l.length bcap] 304)):=(Mods.refl _ w).alloc _;have hB0:Blk (w.alloc (.cells #[.int .i64 pk,.int .i64 pi,.int .u64 (pg:Int),.slice ba l.length bcap] 304)) w.heap.size _ _:=Blk.new w _ _;have hnR:¬ caF c sb Pd w.heap.size:=λf=>by have:=h.bdP _ f;omega
 have HN0:=oh hnR;have HNS:Hid (w.heap.size≠sb):=oh (λe=>hnR (.inr (.inr e)));have HC0:=oh (h.at m0);have HX0:=oh (Nxt.ext hL hP m0);have HB0:=oh hB0;have HS0:=oh (hb.ext m0);have HI:=oh hI;have HCO:=oh hc;have HG:=oh hg;have hb8:=hI.b8;have hb256:=hI.b256;have gf1:=Tryz.geoF1;clear h hL hP hI hc hB0 hnR m0 hb hg
 go_enter Tryz.func235, Tryz.ntmps235
 go_wp2_with fail;refine (caCheck_any HX0.out.env HC0.out _ pi).mono ?_;rintro e w1 ⟨ev,rfl,hE,hm⟩;have HM1:=oh hm;have HC1:=oh (HC0.out.at hm);have HB1:=oh (HB0.out.ext hm);have HX1:=oh (HX0.out.trans (Nxt.ext HX0.out.env HX0.out.sub hm));have HS1:=oh (HS0.out.ext hm);clear hm;cases hck:C.check pi with
 | some er =>
  rw[hck] at hE;obtain⟨el,ek⟩:=er;obtain⟨f,rfl,hE⟩:=hE;have HE:=oh hE;have HK:Hid (C.putE ⟨pk,pi,pg,l⟩=some (el,ek)):=oh (by unfold CaA.putE;simp only[hck]);clear hE hck;go_wp2_with fail;go_ret;exact⟨bvs,Pd,F,C,_,rfl,HC1.out,HX1.out,by rw[HK.out];exact⟨f,rfl,HE.out⟩,.inr ⟨by rw[HK.out];simp,rfl⟩⟩
 | none =>
  rw[hck] at hE;cases hE
  obtain⟨n,rfl⟩:∃n:Nat,pi=n:=⟨pi.toNat,by unfold CaA.check at hck;split at hck;cases hck;omega⟩;have hn:n<C.disk.blocks:=by unfold CaA.check at hck;split at hck;cases hck;omega
  have HCK:=oh hck;have HN:=oh hn;obtain⟨c0,_,_⟩:=HC1.out.c3;have r0:=HB1.out.cell (o:=0) rfl;have r1:=HB1.out.cell (o:=1) rfl;have r2:=HB1.out.cell (o:=2) rfl;have r3:=HB1.out.cell (o:=3) rfl;have HC1d:=oh (HC1.out.at (Mods.refl _ w1).drew);have HL1d:=oh (HX1.out.env.mods (Mods.refl _ w1).drew);have HS1d:=oh (HS1.out.ext (Mods.refl _ w1).drew);clear hck hn;go_wp2_with fail;go_region_held3 (λw'=>w'.cell? ⟨c,0,none⟩=some (.pointer (some ⟨d,0,none⟩))∧w'.cell? ⟨w.heap.size,0,none⟩=some (.int .i64 pk)∧w'.cell? ⟨w.heap.size,1,none⟩=some (.int .i64 (n:Int))∧w'.cell? ⟨w.heap.size,2,none⟩=some (.int .u64 (pg:Int))∧w'.cell? ⟨w.heap.size,3,none⟩=some (.slice ba l.length bcap))
   (first|exact⟨cellE hm2 c0,cellE hm2 r0,cellE hm2 r1,cellE hm2 r2,cellE hm2 r3⟩|exact⟨cellE hm3 (cellE hm2 c0),cellE hm3 (cellE hm2 r0),cellE hm3 (cellE hm2 r1),cellE hm3 (cellE hm2 r2),cellE hm3 (cellE hm2 r3)⟩|go_keep)
   (first
    | (go_at_call 86;refine (HC1d.out.disk.geo).mono ?_;rintro e w2 ⟨rfl,hm2⟩)
    | (go_at_call 262;refine (Check_any (HL1d.out.mods hm2.ext) ⟨pk,n,pg,l⟩ (.slice ba l.length bcap) (HS1d.out.ext hm2) C.disk.size).mono ?_;rintro e w3 ⟨ev,rfl,hE,hm3⟩))
  have HM3:Hid (Ext w1 w3):=oh (hm2.ofDrew.trans hm3);have HL3:=oh (HX1.out.env.mods HM3.out.ext);cases hpc:pgCheck ⟨pk,n,pg,l⟩ C.disk.size with
  | some er =>
   rw[hpc] at hE;obtain⟨el,ek⟩:=er;obtain⟨f,rfl,hE⟩:=hE;have HE:=oh hE;have HK:Hid (C.putE ⟨pk,n,pg,l⟩=some (-1 :: el,ek)):=oh (by unfold CaA.putE;simp only[HCK.out,hpc];rfl);have HLe:Hid (Env F ad w3):=oh HL3.out;clear hE hpc hm2 hm3;go_wp2_with fail;refine (wrap_any HLe.out _ _ el ek HE.out).mono ?_;rintro e w4 ⟨f4,rfl,hE4,hm4⟩;have HE4:=oh hE4;have HM4:=oh hm4;clear hE4 hm4;go_wp2_with fail;go_ret;exact⟨bvs,Pd,F,C,_,rfl,HC1.out.at (HM3.out.trans HM4.out),HX1.out.trans (Nxt.ext HX1.out.env HX1.out.sub (HM3.out.trans HM4.out)),by rw[HK.out];exact⟨f4,rfl,HE4.out⟩,.inr ⟨by rw[HK.out];simp,rfl⟩⟩
  | none =>
   rw[hpc] at hE;cases hE
   have HK:Hid (C.putE ⟨pk,n,pg,l⟩=none):=oh (by unfold CaA.putE;simp only[HCK.out,hpc];rfl);have HPC:=oh hpc;have HLB:Hid (l.length≤1000):=oh (by have:=pgCheck_none hpc;have:=HI.out.s1024;simp only at *;omega);have r1':=cellE HM3.out r1;clear hpc hm2 hm3 r0 r1 r2 r3 c0;go_wp2_with fail;refine (caAt_any (HC1.out.at HM3.out) n).mono ?_;rintro e w4 ⟨hm4,hat⟩;have HM4:=oh hm4;have HC4:=oh ((HC1.out.at HM3.out).at hm4);have HX4:=oh (HX1.out.trans (Nxt.ext HX1.out.env HX1.out.sub (HM3.out.trans hm4)));have HB4:=oh (HB1.out.ext (HM3.out.trans hm4));have HS4:=oh (HS1.out.ext (HM3.out.trans hm4));clear hm4 r1';have tail:∀(w5:World) (C2:CaA) (bvs2:List Value) (Pd2 F2:Nat→Prop) (i:Nat) (s:SlotA),CaR F2 w5 d c sb bvs2 Pd2 C2→Sim C C2→Nxt (caF c sb Pd) (caF c sb Pd2) F F2 ad w w5→Blk w5 w.heap.size #[.int .i64 pk,.int .i64 (n:Int),.int .u64 (pg:Int),.slice ba l.length bcap] 304 → Sl F2 w5 1 encB (.slice ba l.length bcap) l→C2.slots[i]? = some s →
     (s.has n=true∨(s.full=false∧∀(j:Nat) (t:SlotA),C2.slots[j]? = some t→t.has n=false))→∃n2:Nat,Hid (CaR F2 w5 d c sb bvs2 Pd2 C2∧Sim C C2∧Nxt (caF c sb Pd) (caF c sb Pd2) F F2 ad w w5∧C2.slots[i]? = some s∧(s.has n=true∨(s.full=false∧∀(j:Nat) (t:SlotA),C2.slots[j]? = some t→t.has n=false))∧n2=C2.slots.length)∧w5.cell? ⟨c,1,none⟩=some (.slice (some ⟨sb,0,none⟩) n2 n2)∧i<n2∧n2≤64 ∧
     (w5.cell? ⟨w.heap.size,0,none⟩=some (.int .i64 pk)∧w5.cell? ⟨w.heap.size,1,none⟩=some (.int .i64 (n:Int))∧w5.cell? ⟨w.heap.size,2,none⟩=some (.int .u64 (pg:Int))∧w5.cell? ⟨w.heap.size,3,none⟩=some (.slice ba l.length bcap)) ∧
     (∃q0 q1 q2 qa qn qc q4 q5 q6,(w5.cell? ⟨sb,i * 8,none⟩=some (.int .i64 q0)∧w5.cell? ⟨sb,i * 8+1,none⟩=some (.int .i64 q1)∧w5.cell? ⟨sb,i * 8+2,none⟩=some (.int .u64 q2)∧w5.cell? ⟨sb,i * 8+3,none⟩=some (.slice qa qn qc))∧(w5.cell? ⟨sb,i * 8+4,none⟩=some (.bool q4)∧w5.cell? ⟨sb,i * 8+5,none⟩=some (.bool q5)∧w5.cell? ⟨sb,i * 8+6,none⟩=some (.bool q6)∧w5.cell? ⟨sb,i * 8+7,none⟩=some (.int .i64 0)))∧(∀o,w5.frozen? ⟨sb,o,none⟩=false)∧Hid (Sl F2 w5.drew 1 encB (.slice ba l.length bcap) l)∧Hid (Bd F2 w5.drew):=by
    intro w5 C2 bvs2 Pd2 F2 i s hC hS hX hB hSl hs hx;obtain⟨ba,bn,bc,hb⟩:=hC.bvAt hs;obtain⟨e0,e1,e2,e3,e4,e5,e6,e7⟩:=hC.cell8 hs hb;rw[hS.inv.pins i s hs] at e7;exact⟨_,oh ⟨hC,hS,hX,hs,hx,rfl⟩,hC.c3.2.1,(List.getElem?_eq_some_iff.1 hs).1,hC.n64,⟨hB.cell rfl,hB.cell rfl,hB.cell rfl,hB.cell rfl⟩,⟨_,_,_,_,_,_,_,_,_,⟨e0,e1,e2,e3⟩,e4,e5,e6,e7⟩,hC.frz.2,oh (hSl.ext (Mods.refl _ _).drew),oh hX.env.lt⟩
   have TL:=oh tail;clear tail;have fin:∀(w5:World) (C2:CaA) (bvs2:List Value) (Pd2 F2:Nat→Prop) (i:Nat) (s:SlotA) (n2:Nat),(CaR F2 w5 d c sb bvs2 Pd2 C2∧Sim C C2∧Nxt (caF c sb Pd) (caF c sb Pd2) F F2 ad w w5∧C2.slots[i]? = some s∧(s.has n=true∨(s.full=false∧∀(j:Nat) (t:SlotA),C2.slots[j]? = some t→t.has n=false))∧n2=C2.slots.length) →
     ∀(w6:World) (pa:Option Addr) (pcap:Nat),Ext w5.drew w6→Sl F2 w6 1 encB (.slice pa l.length pcap) l→∃(bvs':List Value) (Pd' F':Nat→Prop) (C':CaA),CaR F' (w6.setCells sb (i * 8) (slotCells ⟨⟨pk,n,pg,l⟩,true,true,true,0⟩ (.slice pa l.length pcap))) d c sb bvs' Pd' C' ∧
     Nxt (caF c sb Pd) (caF c sb Pd') F F' ad w (w6.setCells sb (i * 8) (slotCells ⟨⟨pk,n,pg,l⟩,true,true,true,0⟩ (.slice pa l.length pcap)))∧ErrR F' ad (w6.setCells sb (i * 8) (slotCells ⟨⟨pk,n,pg,l⟩,true,true,true,0⟩ (.slice pa l.length pcap))) .nilIface (C.putE ⟨pk,n,pg,l⟩)∧PutP C C' ⟨pk,n,pg,l⟩:=by
    intro w5 C2 bvs2 Pd2 F2 i s n2 ⟨hC,hS,hX,hs,hx,_⟩ w6 pa pcap hm6 hpv;have hok:pgOk ⟨pk,n,pg,l⟩ C2.disk.size:=⟨by rw[hS.size];exact HPC.out,HG.out⟩;have hn2:n<C2.disk.blocks:=by rw[hS.blocks];exact HN.out
    have q2:=(hC.at hm6.ofDrew).slot' hX.sub (i:=i) (List.getElem?_eq_some_iff.1 hs).1 ⟨⟨pk,n,pg,l⟩,true,true,true,0⟩ (.slice pa l.length pcap) hpv;have q3:Mods (caF c sb Pd2) w6 (w6.setCells sb (i * 8) (slotCells ⟨⟨pk,n,pg,l⟩,true,true,true,0⟩ (.slice pa l.length pcap))):=Mods.setMany (.inr (.inr (.inr rfl))) _ _ _ (Mods.refl _ _);have n2':=Nxt.ext hX.env hX.sub hm6.ofDrew;have n3:=Nxt.same n2'.env n2'.sub q3;refine⟨_,Pd2,F2,putC C2 i ⟨pk,n,pg,l⟩,q2,(hX.trans n2').trans n3,by rw[HK.out];rfl,.inl ⟨HK.out,hS.blocks,hS.size,?_,λG hG=>?_⟩⟩
    ·exact inv_put hS.inv hs ⟨pk,n,pg,l⟩ n rfl hn2 hok hx
    ·exact (rel_put hS.inv (hS.rel hG) hs ⟨pk,n,pg,l⟩ n rfl hn2 hok hx).2
   have FN:=oh fin;clear fin;rcases hat with ⟨i,s,hs,hh,rfl⟩|⟨hno,rfl⟩
   ·obtain⟨n2,HH,d1,hlt,h64,⟨r0,r1,r2,r3⟩,⟨q0,q1,q2,qa,qn,qc,q4,q5,q6,⟨e0,e1,e2,e3⟩,e4,e5,e6,e7⟩,z1,HSl,HBd⟩:=TL.out w4 C bvs Pd F i s HC4.out (Sim.refl HI.out) HX4.out HB4.out HS4.out hs (.inl hh);have h1:(0:Int)≤(i:Int):=by omega
    have h2:(i:Int)<(n2:Int):=by omega
    have hcs:c≠sb:=HC4.out.ne;have hsc:sb≠c:=Ne.symm hcs;have hbs:w.heap.size≠sb:=HNS.out;have hsb:sb≠w.heap.size:=Ne.symm HNS.out;clear hs hh;go_wp2_with fail;go_region_held3 (λw'=>w'.cell? ⟨c,1,none⟩=some (.slice (some ⟨sb,0,none⟩) n2 n2)∧w'.cell? ⟨w.heap.size,0,none⟩=some (.int .i64 pk)∧w'.cell? ⟨w.heap.size,1,none⟩=some (.int .i64 (n:Int))∧w'.cell? ⟨w.heap.size,2,none⟩=some (.int .u64 (pg:Int))∧w'.cell? ⟨w.heap.size,3,none⟩=some (.slice ba l.length bcap)∧w'.cell? ⟨sb,i * 8+7,none⟩=some (.int .i64 0))
     (first|(with_reducible exact⟨y1,y2,y3,y4,y5,x7⟩)|(go_keep;done)|(refine⟨?_,?_,?_,?_,?_,cellSet (x:=.int .i64 0) (cell7 x7 _ _ _ _ _ _ _) _⟩ <;> go_keep))
     (first
      | (go_at_call 291;refine (pcloned_any HBd.out ⟨pk,n,pg,l⟩ (.slice ba l.length bcap) HSl.out (by have:=HLB.out;simp only;omega)).mono ?_;rintro e w6 ⟨pv,rfl,hpv,hm6⟩;obtain⟨pa,pcap,rfl,_⟩:=_root_.id hpv;simp only[pageV];have x0:=cellE hm6 e0;have x1:=cellE hm6 e1;have x2:=cellE hm6 e2;have x3:=cellE hm6 e3;have x4:=cellE hm6 e4;have x5:=cellE hm6 e5;have x6:=cellE hm6 e6;have x7:=cellE hm6 e7;have y1:=cellE hm6 d1;have y2:=cellE hm6 r0;have y3:=cellE hm6 r1;have y4:=cellE hm6 r2;have y5:=cellE hm6 r3;have z6:∀o,w6.frozen? ⟨sb,o,none⟩=false:=λo=>(hm6.frozen (cell_lt e0) (λf=>f)).trans (z1 o)))
    obtain⟨bvs',Pd',F',C',k1,k2,k3,k4⟩:=FN.out _ _ _ _ _ _ _ _ HH.out w6 pa pcap hm6 hpv;have K:=oh (And.intro k1 (And.intro k2 (And.intro k3 k4)));clear k1 k2 k3 k4 hpv hm6 x0 x1 x2 x3 x4 x5 x6 x7 y1 y2 y3 y4 y5 z6;go_wp2_with fail;go_ret;exact⟨bvs',Pd',F',C',_,rfl,K.out.1,K.out.2.1,K.out.2.2.1,K.out.2.2.2⟩
   ·have HNO:=oh hno;clear hno;go_wp2_with fail;refine (caRoom_any HX4.out.env HX4.out.sub HC4.out HI.out HCO.out).mono ?_;rintro e w5 ⟨i,s,bvs2,Pd2,F2,C2,rfl,hC2,hS2,hX2,hs2,hf2,hsub⟩;have hPF:=HX4.out.sub;obtain⟨n2,HH,d1,hlt,h64,⟨r0,r1,r2,r3⟩,⟨q0,q1,q2,qa,qn,qc,q4,q5,q6,⟨e0,e1,e2,e3⟩,e4,e5,e6,e7⟩,z1,HSl,HBd⟩:=TL.out w5 C2 bvs2 Pd2 F2 i s hC2 hS2 (HX4.out.trans hX2) (hX2.blk HB4.out HN0.out) (hX2.sl hPF HS4.out) hs2 (.inr ⟨hf2,hsub.no HNO.out⟩);have h1:(0:Int)≤(i:Int):=by omega
    have h2:(i:Int)<(n2:Int):=by omega
    have hcs:c≠sb:=HC4.out.ne;have hsc:sb≠c:=Ne.symm hcs;have hbs:w.heap.size≠sb:=HNS.out;have hsb:sb≠w.heap.size:=Ne.symm HNS.out;clear hC2 hS2 hX2 hs2 hf2 hsub hPF;go_wp2_with fail;go_region_held3 (λw'=>w'.cell? ⟨c,1,none⟩=some (.slice (some ⟨sb,0,none⟩) n2 n2)∧w'.cell? ⟨w.heap.size,0,none⟩=some (.int .i64 pk)∧w'.cell? ⟨w.heap.size,1,none⟩=some (.int .i64 (n:Int))∧w'.cell? ⟨w.heap.size,2,none⟩=some (.int .u64 (pg:Int))∧w'.cell? ⟨w.heap.size,3,none⟩=some (.slice ba l.length bcap)∧w'.cell? ⟨sb,i * 8+7,none⟩=some (.int .i64 0))
     (first|(with_reducible exact⟨y1,y2,y3,y4,y5,x7⟩)|(go_keep;done)|(refine⟨?_,?_,?_,?_,?_,cellSet (x:=.int .i64 0) (cell7 x7 _ _ _ _ _ _ _) _⟩ <;> go_keep))
     (first
      | (go_at_call 291;refine (pcloned_any HBd.out ⟨pk,n,pg,l⟩ (.slice ba l.length bcap) HSl.out (by have:=HLB.out;simp only;omega)).mono ?_;rintro e w6 ⟨pv,rfl,hpv,hm6⟩;obtain⟨pa,pcap,rfl,_⟩:=_root_.id hpv;simp only[pageV];have x0:=cellE hm6 e0;have x1:=cellE hm6 e1;have x2:=cellE hm6 e2;have x3:=cellE hm6 e3;have x4:=cellE hm6 e4;have x5:=cellE hm6 e5;have x6:=cellE hm6 e6;have x7:=cellE hm6 e7;have y1:=cellE hm6 d1;have y2:=cellE hm6 r0;have y3:=cellE hm6 r1;have y4:=cellE hm6 r2;have y5:=cellE hm6 r3;have z6:∀o,w6.frozen? ⟨sb,o,none⟩=false:=λo=>(hm6.frozen (cell_lt e0) (λf=>f)).trans (z1 o)))
    obtain⟨bvs',Pd',F',C',k1,k2,k3,k4⟩:=FN.out _ _ _ _ _ _ _ _ HH.out w6 pa pcap hm6 hpv;have K:=oh (And.intro k1 (And.intro k2 (And.intro k3 k4)));clear k1 k2 k3 k4 hpv hm6 x0 x1 x2 x3 x4 x5 x6 x7 y1 y2 y3 y4 y5 z6;go_wp2_with fail;go_ret;exact⟨bvs',Pd',F',C',_,rfl,K.out.1,K.out.2.1,K.out.2.2.1,K.out.2.2.2⟩
end
theorem run_make_rowN{P:Program}(t e:TypeId)(i:TypeInfo)(z:Value)(ht:P.underlying t=some (.slice e))(hi:P.info? e=some i)(hz:i.zero=some z)
  (kl kc:IntKind) (n c:Nat) (hnc:n≤c) (hbytes:i.bytes * c≤281474976710656) (h63:c≤9223372036854775807) (w:World) :
  (Instr.makeSlice t (.int kl (n:Int)) (.int kc (c:Int))).run P w=.ok (.slice (some ⟨w.heap.size,0,none⟩) n c) (w.alloc (.cells (madeCells z.cells (c * i.size)) e)):=by
 have hb:(i.bytes:Int) * (c:Int)≤281474976710656:=by
  have h:((i.bytes * c:Nat):Int)≤281474976710656:=by omega
  rwa [Int.natCast_mul] at h
 have hr:=run_make (P:=P) w t e i z ht hi hz kl kc n c (by omega) (by omega) hb (by omega);simp only[Int.toNat_natCast] at hr;exact hr
theorem Tryz.slotI:(Tryz.prog.info? 407).map (λi=>(i.zero,i.size,i.bytes))=some (some (.agg #[.int .i64 0,.int .i64 0,.int .u64 0,.slice none 0 0,.bool false,.bool false,.bool false,.int .i64 0]),8,64):=by kernel_rfl
def zeroSlot:Array Value:=#[.int .i64 0,.int .i64 0,.int .u64 0,.slice none 0 0,.bool false,.bool false,.bool false,.int .i64 0]
theorem Tryz.mkSlots(n:Nat)(hn:n≤64)(w:World):(Instr.makeSlice 226 (.int .i64 (n:Int)) (.int .i64 (n:Int))).run Tryz.prog w=.ok (.slice (some ⟨w.heap.size,0,none⟩) n n) (w.alloc (.cells (madeCells zeroSlot (n * 8)) 407)):=by
 obtain⟨i,hi,hz,hs,hb⟩:=info3 Tryz.slotI;have:=run_make_rowN (P:=Tryz.prog) 226 407 i _ Tryz.underlying226 hi hz .i64 .i64 n n (Nat.le_refl _) (by rw[hb];omega) (by omega) w;rw[hs] at this;exact this
theorem slotRow_new{w:World}{sb n:Nat}(h:Blk w sb (madeCells zeroSlot (n * 8)) 407):SlotRow w sb (List.replicate n slot0) (List.replicate n (.slice none 0 0)):=by
 refine⟨_,h,by simp[madeCells,zeroSlot],λi s bv hs hb j v hv=>?_⟩;have e1:=rep_at hs;have hi:i<n:=by have:=(List.getElem?_eq_some_iff.1 hs).1;simpa using this
 have e2:bv=.slice none 0 0:=by
  rw[List.getElem?_replicate,if_pos hi] at hb;injection hb with hb;exact hb.symm
 subst e1 e2;have hj:j<8:=by have:=(List.getElem?_eq_some_iff.1 hv).1;rw[slotCells_len] at this;exact this
 have hlt:i * 8+j<n * 8:=by omega
 have e3:(i * 8+j) % 8=j:=by omega
 have:(madeCells zeroSlot (n * 8))[i * 8+j]? = (slotCells slot0 (.slice none 0 0))[j]?:=by
  have hz:zeroSlot.size=8:=rfl;unfold madeCells;rw[Array.getElem?_map,Array.getElem?_range,if_pos hlt,Option.map_some,hz,e3];clear h hb hs hv hlt e3 hi hz;obtain rfl|rfl|rfl|rfl|rfl|rfl|rfl|rfl:j=0∨j=1∨j=2∨j=3∨j=4∨j=5∨j=6∨j=7:=by omega
  all_goals rfl
 rw[this];exact hv
section
variable {P P' F F' Pd Pd':Nat→Prop}{ad:Nat→Addr}{w w':World}{d c sb:Nat}{bvs:List Value}{C:CaA}{D:DiskA}
def DropP(C C':CaA)(id:Nat):Prop:=CaInv C'∧C'.disk.blocks=C.disk.blocks∧C'.disk.size=C.disk.size∧∀G,CaRel C G→CaRel C' (G.drop id)
def DropDone(F:Nat→Prop)(ad:Nat→Addr)(w:World)(d c sb:Nat)(Pd:Nat→Prop)(C:CaA)(id:Nat)(e:Ending)(w':World):Prop :=
 ∃(b:Bool) (bvs':List Value) (C':CaA),e=.returned (.bool b)∧CaR F w' d c sb bvs' Pd C'∧Nxt (caF c sb Pd) (caF c sb Pd) F F ad w w'∧DropP C C' id
theorem caDrop_any(hL:Env F ad w)(hP:∀k,caF c sb Pd k→F k)(h:CaR F w d c sb bvs Pd C)(hI:CaInv C)(id:Nat) :
  Calls Tryz.prog 286 #[.pointer (some ⟨c,0,none⟩),.int .i64 (id:Int)] w (DropDone F ad w d c sb Pd C id):=by
 have HC:=oh h;have HL:=oh hL;have HP:=oh hP;have HI:=oh hI;clear h hL hP hI
 go_enter Tryz.func286, Tryz.ntmps286
 go_wp2_with fail;refine (caAt_any HC.out id).mono ?_;rintro e w1 ⟨hm,hat⟩;have HM:=oh hm;have HC1:=oh (HC.out.at hm);clear hm;rcases hat with ⟨i,s,hs,hh,rfl⟩|⟨hno,rfl⟩
 ·obtain⟨ba,bn,bc,hb⟩:=HC1.out.bvAt hs;obtain⟨e0,e1,e2,e3,e4,e5,e6,e7⟩:=HC1.out.cell8 hs hb;obtain⟨d0,d1,d2⟩:=HC1.out.c3;obtain⟨z0,z1⟩:=HC1.out.frz;have hlt:i<C.slots.length:=(List.getElem?_eq_some_iff.1 hs).1;have hn:=HC1.out.n64;have HS:=oh hs;have HH:=oh hh;obtain⟨n,hnn⟩:∃n,n=C.slots.length:=⟨_,rfl⟩;rw[← hnn] at hn hlt d1;have HNN:=oh hnn;have h1:(0:Int)≤(i:Int):=by omega
  have h2:(i:Int)<(n:Int):=by omega
  have h3:decide ((0:Int)≤(i:Int))=true:=by simp
  clear hs hh hb hnn;go_wp2_with fail;go_ret;have q2:=HC1.out.slot' HP.out (i:=i) (by rw[← HNN.out];exact hlt) slot0 (.slice none 0 0) (Sl.nil _ _ _ _);have q3:Mods (caF c sb Pd) w1 (w1.setCells sb (i * 8) (slotCells slot0 (.slice none 0 0))):=Mods.setMany (.inr (.inr (.inr rfl))) _ _ _ (Mods.refl _ _);have n1:=Nxt.ext (P:=caF c sb Pd) HL.out HP.out HM.out;have n2:=Nxt.same n1.env n1.sub q3;exact⟨_,_,_,rfl,q2,n1.trans n2,(inv_clear HI.out HS.out),rfl,rfl,λG hG=>(rel_drop HI.out hG HS.out HH.out).2⟩
 ·have HNO:=oh hno;clear hno;go_wp2_with fail;go_ret;exact⟨_,_,_,rfl,HC1.out,Nxt.ext HL.out HP.out HM.out,HI.out,rfl,rfl,λG hG=>rel_drop_no hG HNO.out⟩
def CaNewDone(F:Nat→Prop)(ad:Nat→Addr)(w:World)(d:Nat)(Pd:Nat→Prop)(D:DiskA)(n:Nat)(e:Ending)(w':World):Prop :=
 ∃(c sb:Nat) (bvs:List Value) (F':Nat→Prop),e=.returned (.tuple #[.pointer (some ⟨c,0,none⟩),.nilIface])∧CaR F' w' d c sb bvs Pd ⟨D,List.replicate n slot0,0⟩∧Nxt Pd (caF c sb Pd) F F' ad w w'
theorem caNew_ok(hL:Env F ad w)(hP:∀k,Pd k→F k)(hD:DkS w Pd d D)(n:Nat)(h3:3≤n)(h64:n≤64) :
  Calls Tryz.prog 84 #[.pointer (some ⟨d,0,none⟩),.int .i64 (n:Int)] w (CaNewDone F ad w d Pd D n):=by
 have hmk:=Tryz.mkSlots n h64;have a1:decide ((n:Int)<3)=false:=by simp;omega
 have a2:decide ((64:Int)<(n:Int))=false:=by simp;omega
 have HL:=oh hL;have HP:=oh hP;have HD:=oh hD;clear hL hP hD
 go_enter Tryz.func84, Tryz.ntmps84
 go_wp2_with fail;go_ret2
 have hD:=HD.out;have hB:Blk ((w.alloc (.cells (madeCells zeroSlot (n * 8)) 407)).alloc (.cells #[.pointer (some ⟨d,0,none⟩),.slice (some ⟨w.heap.size,0,none⟩) n n,.int .i64 0] 228)) w.heap.size (madeCells zeroSlot (n * 8)) 407:=(Blk.new w _ _).alloc _;have hB2:Blk ((w.alloc (.cells (madeCells zeroSlot (n * 8)) 407)).alloc (.cells #[.pointer (some ⟨d,0,none⟩),.slice (some ⟨w.heap.size,0,none⟩) n n,.int .i64 0] 228)) (w.heap.size+1) #[.pointer (some ⟨d,0,none⟩),.slice (some ⟨w.heap.size,0,none⟩) n n,.int .i64 0] 228:=heap_at (by simp);have m1:Ext w ((w.alloc (.cells (madeCells zeroSlot (n * 8)) 407)).alloc (.cells #[.pointer (some ⟨d,0,none⟩),.slice (some ⟨w.heap.size,0,none⟩) n n,.int .i64 0] 228)):=((Mods.refl _ w).alloc _).alloc _;have hbd:=hD.bd;have st:Stp Pd (caF (w.heap.size+1) w.heap.size Pd) w ((w.alloc (.cells (madeCells zeroSlot (n * 8)) 407)).alloc (.cells #[.pointer (some ⟨d,0,none⟩),.slice (some ⟨w.heap.size,0,none⟩) n n,.int .i64 0] 228)) :=
  ⟨m1.ext,λk hk hf=>by
   rcases hf with hf|rfl|rfl
   ·exact hf
   ·omega
   ·omega,λk hf=>by
   rcases hf with hf|rfl|rfl
   ·exact Nat.lt_of_lt_of_le (hbd k hf) m1.size
   ·exact hB2.lt
   ·exact hB.lt⟩
 refine⟨w.heap.size+1,w.heap.size,List.replicate n (.slice none 0 0),_,rfl,⟨by simpa using hB2,slotRow_new hB,by simp,by simpa using h64,λi s bv hs hb=>?_,hD.at m1,λf=>by have:=hbd _ f;omega,λf=>by have:=hbd _ f;omega,by omega⟩,Nxt.of HL.out HP.out st⟩;have hi:i<n:=by have:=(List.getElem?_eq_some_iff.1 hs).1;simpa using this
 have e1:=rep_at hs;have e2:bv=.slice none 0 0:=by rw[List.getElem?_replicate,if_pos hi] at hb;injection hb with hb;exact hb.symm
 subst e1 e2;exact Sl.nil _ _ _ _
end
end Go.Proofs.YtdnbmdghmmpgcaaGreatDoor
