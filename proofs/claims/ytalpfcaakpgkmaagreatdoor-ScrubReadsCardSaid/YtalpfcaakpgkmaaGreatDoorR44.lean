import Derived.Test.YtalpfcaakpgkmaaGreatDoorR43
import Derived.Test.YtalpfcaakpgkmaaGreatDoorR36
import Derived.Test.YtalpfcaakpgkmaaGreatDoorR30
import Derived.BigQuiet
import Derived.BigRegion
namespace Go.Proofs.YtalpfcaakpgkmaaGreatDoor
open Lib renaming hid->oh
set_option maxHeartbeats 4000000
set_option maxRecDepth 100000
section
open Go.RowKit
attribute [local go_sem ↓] Go.wp_at_zero Go.wp_at_succ
section
variable {P P' F F':NP}{ad:Nat->Addr}{w w':World}{d:Nat}{D:zJ}
theorem zSd(a:Option Addr)(c:Nat){n:Nat}(hn:n<=1)(w:World) : Calls Tryz.prog 51 #[.slice a n c] w λe w'=>e=.returned (.tuple #[])/\w=w':=by
 rcases (show n=0\/n=1 by omega) with rfl|rfl
 .exact zSy a c w
 .exact zS0 a c w
def zRB(D:zJ)(s:yG):Prop:=yA D 0=false/\yA D 1=false/\yA D (place s.gen 0)=false/\yA D (place s.gen 1)=false
def StX(R:Prop)(F:NP)(w:World)(P:NP)(S d c sp:Nat)(s:yG)(root keys:Int)(C:qL)(l:List Nat):Prop :=
 ∃sb bvs Pd b2,CaR F w d c sb bvs Pd C/\SpR w sp b2 l/\(∀k,P k ↔ (caF c sb Pd k\/spF sp b2 k))/\(∀k,caF c sb Pd k->¬ spF sp b2 k)/\(∃(hm:Nat) (a:Option Addr) (n cc:Nat),(R->hm=0/\n=0)/\zG w S (stC d (.pointer (some ⟨c,0,none⟩)) (.pointer (some ⟨sp,0,none⟩)) s (hm:Int) root keys (.slice a n cc) false) 106)/\¬ P S/\F S
def zNj(F P:NP)(ad:Nat->Addr)(w:World)(d:Nat)(D:zJ)(s:yG)(m:qW)(q:Nat)(e:Ending)(w':World):Prop :=
 ∃S c sp P' F',e=.returned (.tuple #[.pointer (some ⟨S,0,none⟩),.nilIface])/\StX (zRB D s) F' w' P' S d c sp s s.root s.keys ⟨D,List.replicate q qM,0⟩ (zAj D.blocks m.used)/\zX P P' F F' ad w w'
theorem zKB(hL:yH F ad w)(hP:∀k,P k->F k)(h:DkS w P d D)(hD:zCK D)(s:yG)(m:qW)(hX:zBM D s m)(Co:yA D (place s.gen 0)=false\/yA D (place s.gen 1)=false)(Cp:(yA D 0=false/\yA D 1=false)\/(yA D (place s.gen 0)=false/\yA D (place s.gen 1)=false))(q:Nat)(h3:3<=q)(A3:q<=64) :
  Calls Tryz.prog 10 #[.pointer (some ⟨d,0,none⟩),.int .i64 (q:Int)] w (zNj F P ad w d D s m q):=by
 have Br:=oh (λop=>zFV h hD.off op q h3 A3);have Af:=oh hX;have Cq:=oh (And.intro Co Cp);have Cr:Hid (∀i,D.look i=D.lasting.getD i []):=oh (λi=>(hD.last i).symm);have Cs:Hid (∀i,i<D.blocks->(D.lasting.getD i []).length=D.size):=oh (λi hi=>by rw[hD.last];exact hD.len i hi);have A0:=oh hD;have HQ:=oh (And.intro h3 A3);obtain⟨W0,A6⟩:∃W0,W0=w.alloc (.cells (stZ d) 106):=⟨_,rfl⟩;have A1:zF w W0:=by rw[A6];exact (zss w).alloc _
 have Bs:zG W0 w.heap.size (stZ d) 106:=by rw[A6];exact zG.new w _ _
 obtain⟨S,hS⟩:∃S,S=w.heap.size:=⟨_,rfl⟩;have Bt:yH (qB F w.heap.size) ad W0:=hL.withR A1 (by rw[A6];simp);rw[<- hS] at Bs Bt;have Ax:¬ P S:=λf=>by have:=hL.lt _ (hP _ f);omega
 have E0:=oh (zQN Bt (λk hk=>.inl (hP k hk)) (h.at A1) q h3 A3);have Ay:=oh A1;have Bu:=oh Bs;have Ag:=oh Ax;have E1:Hid (S=w.heap.size):=oh hS;have Eu:=oh (And.intro hL hP);clear hL hP h hD hX Co Cp h3 A3 A1 Bs Bt Ax
 go_enter Tryz.func10, Tryz.ntmps10
 go_wp2_with fail;refine (Br.out _).mono ?_;rintro e w0 ⟨rfl,rfl⟩;go_wp2_with fail;rw[<- hS];have e0:w.alloc (.cells #[.pointer (some ⟨d,0,none⟩),.pointer none,.pointer none,.int .u64 0,.int .i64 0,.int .i64 0,.int .i64 0,.int .i64 0,.int .i64 0,.int .i64 0,.int .i64 0,.slice none 0 0,.bool false] 106)=W0:=A6.symm;rw[e0];clear hS e0 A6;refine E0.out.mono ?_;rintro e w1 ⟨c,sb,bvs,F1,rfl,hC,n1⟩;have Ct:¬ caF c sb P S:=n1.not Bu.out.lt Ag.out;have Be:=n1.blk Bu.out Ag.out;have s1:=Be.d 1 (.pointer none) rfl;have sf:=Be.frozen;have Cu:=oh hC;have Ac:=oh n1;have Cv:=oh Be;have Ar:=oh Ct;have A2:Hid (F1 S):=oh (n1.grow S (.inr rfl));clear hC n1 Be Ct;go_upto_if 31 with fail
 obtain⟨W2,Bf⟩:∃W,W=w1.setCell ⟨S,1,none⟩ (.pointer (some ⟨c,0,none⟩)):=⟨_,rfl⟩;have m2:zA (λj=>j=S) w1 W2:=by rw[Bf];exact zA.setCell (F:=λj=>j=S) (zss w1) (p:=⟨S,1,none⟩) (.inr rfl) _
 have Cw:zG W2 S (stC d (.pointer (some ⟨c,0,none⟩)) (.pointer none) ⟨0,0,0,0,0⟩ 0 0 0 (.slice none 0 0) false) 106:=by rw[Bf];simpa[stC,stZ] using Cv.out.set 1 (.pointer (some ⟨c,0,none⟩))
 rw[<- Bf];have mF:zA F1 w1 W2:=m2.mono (λj hj=>by have h':j=S:=hj;rw[h'];exact A2.out);have As:=oh (Cu.out.plus (F':=F1) m2 (λj hj h=>by have h':j=S:=h;rw[h'] at hj;exact Ar.out hj) (λj hj=>by have h':j=S:=hj;rw[h'];exact A2.out) (λ_ _ h=>h));have Bg:=oh (Ac.out.env.mods mF);have Cx:=oh Cw;have Bh:Hid (zA (λj=>caF c sb P j\/j=S) W0 W2/\W0.heap.size<=W2.heap.size):=oh ⟨(Ac.out.stp.mods.mono (λj hj=>.inl (.inl hj))).trans (m2.mono (λj hj=>.inr hj)),uP Ac.out.stp.mods.size m2.size⟩;clear m2 Cw Bf mF s1 sf Cv Cu;have Cy:=oh (As.out.disk.geo);have gf:=Tryz.geoField0;go_wp2_with fail;refine Cy.out.mono ?_;rintro e wg ⟨rfl,mg⟩;have Bi:=oh mg;have Bv:=oh (Cx.out.ext mg);have E2:Hid (¬ P S):=Ag;clear mg;go_wp2_with fail;refine (zOi D.blocks A0.out.b8 A0.out.b256).mono ?_;rintro e w3 ⟨sp,b2,rfl,Cz,Bw,Bx,m3⟩;have Ah:=Bv.out.ext m3;have s2:=Ah.d 2 (.pointer none) rfl;have sf:=Ah.frozen;have At:=oh Ah;have D0:∀k,spF sp b2 k->k≠S:=λk hk e=>by
  have hb:=Bv.out.lt;rcases hk with rfl|rfl <;> omega
 have A7:=oh D0;have Az:=oh Cz;have B0:=oh (Bi.out.trans m3);have B1:∀k,caF c sb P k->¬ spF sp b2 k:=λk hk hs=>by
  have h1:k<W2.heap.size:=As.out.bdP k hk;have h2:=Bi.out.size;rcases hs with rfl|rfl <;> omega
 have By:=oh B1;have D1:∀k,spF sp b2 k->W2.heap.size<=k:=λk hk=>by
  have h2:=Bi.out.size;rcases hk with rfl|rfl <;> omega
 have Au:=oh D1;clear Ah Cz Bw Bx m3 D0 B1 D1 gf Cy;go_upto_if 43 with fail
 obtain⟨W4,Bj⟩:∃W,W=w3.setCell ⟨S,2,none⟩ (.pointer (some ⟨sp,0,none⟩)):=⟨_,rfl⟩;have m4:zA (λj=>j=S) w3 W4:=by rw[Bj];exact zA.setCell (F:=λj=>j=S) (zss w3) (p:=⟨S,2,none⟩) (.inr rfl) _
 have D2:zG W4 S (stC d (.pointer (some ⟨c,0,none⟩)) (.pointer (some ⟨sp,0,none⟩)) ⟨0,0,0,0,0⟩ 0 0 0 (.slice none 0 0) false) 106:=by rw[Bj];simpa[stC] using At.out.set 2 (.pointer (some ⟨sp,0,none⟩))
 rw[<- Bj];have m24:zA (λj=>j=S) W2 W4:=B0.out.ext.trans m4;have mF:zA F1 W2 W4:=m24.mono (λj hj=>by have h':j=S:=hj;rw[h'];exact A2.out);have Bz:=oh (As.out.plus (F':=F1) m24 (λj hj h=>by have h':j=S:=h;rw[h'] at hj;exact Ar.out hj) (λj hj=>by have h':j=S:=hj;rw[h'];exact A2.out) (λ_ _ h=>h));have C0:=oh (Bg.out.mods mF);have Ad:=oh D2;have Ai:=oh (Az.out.mods m4 (λh=>A7.out sp (.inl rfl) h) (λh=>A7.out b2 (.inr rfl) h));have Av:Hid (zA (λj=>caF c sb P j\/j=S) W0 W4/\W0.heap.size<=W2.heap.size/\W2.heap.size<=W4.heap.size/\zA (λj=>j=S) W2 W4):=oh ⟨Bh.out.1.trans (m24.mono (λj hj=>.inr hj)),Bh.out.2,m24.size,m24⟩;clear m4 D2 Bj mF m24 s2 sf At Az Cx Bv Bi B0;have B2:=oh (zMU C0.out (P:=P) Bz.out.disk A0.out.off s m Af.out Cr.out Cs.out S Ag.out A2.out _ _ _ _ _ _ _ Ad.out);go_wp2_with fail;refine B2.out.mono ?_;rintro e w5 ⟨rfl,⟨hm,ia,ic,Li,D3,D4,D5,D6,C3⟩,m5⟩;have A9:=oh (And.intro D3 (And.intro D4 (And.intro D5 (And.intro C3 Ad.out.lt))));have E3:Hid ((Value.slice ia Li.length ic).ownBlock≠some S):=oh (λe=>by have h1:=(C3.lt _ e).1;have h2:=Ad.out.lt;omega);clear D3 D4 D5 C3;have mF:zA F1 W4 w5:=m5.mono (λj hj=>by have h':j=S:=hj;rw[h'];exact A2.out);have D7:=oh (Bz.out.plus (F':=F1) m5 (λj hj h=>by have h':j=S:=h;rw[h'] at hj;exact Ar.out hj) (λj hj=>by have h':j=S:=hj;rw[h'];exact A2.out) (λ_ _ h=>h));have D8:=oh (C0.out.mods mF);have D9:=oh D6;have B3:=oh (Ai.out.mods m5 (λh=>A7.out sp (.inl rfl) h) (λh=>A7.out b2 (.inr rfl) h));have Bk:Hid (zA (λj=>caF c sb P j\/j=S) W0 w5/\W0.heap.size<=W2.heap.size/\W2.heap.size<=w5.heap.size/\zA (λj=>j=S) W2 w5):=oh ⟨Av.out.1.trans (m5.mono (λj hj=>.inr hj)),Av.out.2.1,uP Av.out.2.2.1 m5.size,Av.out.2.2.2.trans m5⟩;have C4:Hid (W4.heap.size<=w5.heap.size):=oh m5.size;have Da:Hid (∀k,spF sp b2 k->k<W4.heap.size):=oh (zKa Ai.out);have A4:Hid (W2.heap.size<=W4.heap.size/\∀j,(Value.slice ia Li.length ic).ownBlock=some j->W4.heap.size<=j/\j<w5.heap.size):=oh ⟨Av.out.2.2.1,λj e=>A9.out.2.2.2.1.lt j e⟩;clear m5 D6 mF Bz C0 Ad Ai Av B2;have B4:=oh (zPb D8.out (P:=P) D7.out.disk A0.out.off s m Af.out Cr.out Cq.out.1 Cs.out S Ag.out A2.out _ _ _ _ _ _ _ C4.out _ _ Li A9.out.2.1 A9.out.2.2.2.1 E3.out D9.out);go_wp2_with fail;refine B4.out.mono ?_;rintro e w6 ⟨uv,a,cc,nn,rfl,hU,Db,C5,C6,m6⟩;have E4:Hid (nn<=1):=oh (by
  have h1:=A9.out.2.1;rcases Cq.out.2 with ⟨h,h'⟩|⟨h,h'⟩
  .have h2:=(A9.out.2.2.1 h h').1;rw[h2] at C5;simpa using C5
  .rw[C6 h h'];exact h1)
 have E5:Hid (zRB D s->hm=0/\nn=0):=oh (λ⟨r0,r1,r2,r3⟩=>by
  obtain⟨h2,h3⟩:=A9.out.2.2.1 r0 r1;have h4:=C6 r2 r3;rw[h2] at h4;exact⟨h3,h4⟩)
 have m6S:zA (λj=>j=S) W2 w6:=Bk.out.2.2.2.trans' m6 (λi hi h=>h.elim id (λe=>by have h1:=(A4.out.2 i e).1;have h2:=A4.out.1;omega));have m60:zA (λj=>caF c sb P j\/j=S) W0 w6:=Bk.out.1.trans' m6 (λi hi h=>h.elim .inr (λe=>by have h1:=(A4.out.2 i e).1;have h2:=A4.out.1;have h3:=Bh.out.2;omega));have mF:zA F1 W2 w6:=m6S.mono (λj hj=>by have h':j=S:=hj;rw[h'];exact A2.out);have Dc:=oh (As.out.plus (F':=F1) m6S (λj hj h=>by have h':j=S:=h;rw[h'] at hj;exact Ar.out hj) (λj hj=>by have h':j=S:=hj;rw[h'];exact A2.out) (λ_ _ h=>h));have Dd:=oh (Bg.out.mods mF);have De:=oh Db;have Aj:=oh (B3.out.mods m6 (λh=>h.elim (λh=>A7.out sp (.inl rfl) h) (λe=>by have h1:=(A4.out.2 sp e).1;have h2:=Da.out sp (.inl rfl);omega)) (λh=>h.elim (λh=>A7.out b2 (.inr rfl) h) (λe=>by have h1:=(A4.out.2 b2 e).1;have h2:=Da.out b2 (.inr rfl);omega)));have Ca:Hid (zA (λj=>caF c sb P j\/j=S) W0 w6/\W0.heap.size<=W2.heap.size/\W2.heap.size<=w6.heap.size/\zA (λj=>j=S) W2 w6):=oh ⟨m60,Bk.out.2.1,m6S.size,m6S⟩;clear m6S m60 C5 C6;have HU:=oh hU;obtain⟨ua,uc,rfl, -⟩:=_root_.id hU;obtain⟨N,hN⟩:∃N,N=((yF m).drop 6).length:=⟨_,rfl⟩;have Df:N<=256:=by
  have h1:=(vV m).1 Af.out.mok;have h2:=zDM m.used 0 m.blocks h1.2.2.2.2.1 (λn hn=>⟨tH _,h1.2.2.2.2.2 n hn⟩) (tH _);rw[hN,wN];unfold yF;rw[wS];omega
 rw[<- hN] at HU ⊢;have HN:=oh hN;clear m6 Db mF D7 D8 D9 B3 Bk B4 hU hN;go_wp2_with (first
  | (at_builtin;refine yX Tryz.elI5 vH rfl _ _ rfl w6.heap.size (.slice (some ⟨w6.heap.size,0,none⟩) 4 4) (.slice ua N uc) ([2,3,4,5]:List Int) ((yF m).drop 6) rfl rfl (yC.made (cur:=#[.int .i64 2,.int .i64 3,.int .i64 4,.int .i64 5]) (b:=w6.heap.size) (cap:=4) (l:=([2,3,4,5]:List Int)) (sz:=1) (enc:=yI) (F:=λ_=>False) (zG.new w6 _ 3) (uD _) (λf=>f) (by simp) (by simp[maxLen]) rfl rfl vH.len) (HU.out.ext ((zss w6).alloc _)) (by rw[<- HN.out];simp only[uG,uL];omega) (by simp) (λf=>f) ?_;intro a7 c7 w7 Aa B5 E6;rw[<- HN.out] at Aa ⊢;simp only[uG,uL,wG] at Aa ⊢;have Cb:=oh Aa;have Ak:Hid (zF w6 w7):=oh (((zss w6).alloc _).trans' B5 (λi hi h=>by simp[Value.ownBlock] at h;omega));clear Aa B5 E6)
  | fail)
 have Al:∀k,spF sp b2 k->k<w6.heap.size:=zKa Aj.out;have Cc:=oh Al;have B6:Hid (zA (λj=>caF c sb P j\/j=S) W0 w7/\zA (λj=>j=S) W2 w7):=oh ⟨Ca.out.1.trans Ak.out.ext,Ca.out.2.2.2.trans Ak.out.ext⟩;have Ev:=oh (Dc.out.plus (F':=F1) Ak.out (λ_ _ h=>h) (λ_ h=>h.elim) (λ_ _ h=>h));have E7:=oh (De.out.ext Ak.out);have Cd:=oh (Aj.out.mods Ak.out (λh=>h) (λh=>h));have Dg:Hid (yH (λk=>F1 k\/spF sp b2 k) ad w7):=oh (Bg.out.step (B6.out.2.mono (λj hj=>by have h':j=S:=hj;rw[h'];exact A2.out)) (λk hk hn hf=>hf.elim hn (λhs=>by have:=Au.out k hs;omega)) (λk hf=>hf.elim (λh1=>uF (Dd.out.lt k h1) Ak.out.size) (λh1=>uF (Al k h1) Ak.out.size)));have Ce:Hid (Sl (spF sp b2) w7 1 yI (.slice a7 (4+N) c7) ((vT m).map (λ(i:Nat)=>(i:Int)))):=oh (by
  rw[zGE];exact (Cb.out.blocks (G:=spF sp b2) (λj hj h=>by have h1:=(Cb.out.lt j hj).1;have:=Cc.out j h;omega)).sl (λ_=>rfl) (by rw[uC,<- HN.out];simp only[uG,uL];omega))
 have Am:((vT m).map (λ(i:Nat)=>(i:Int))).length=4+N:=by rw[zGE,uC,<- HN.out];rfl
 have Cf:=oh Am;have A9:Hid ((vT m).length=4+N):=oh (by rw[<- Am,wS]);have E8:Hid (∀k x:Nat,(vT m)[k]? = some x->2<=x/\x<D.blocks/\x ∉ [0,1]++(vT m).take k):=oh (λk x h=>by
  have h1:=zLw Af.out.mok h;rw[Af.out.mblk,Af.out.blk] at h1;exact h1)
 have B7:¬ spF sp b2 S:=λh=>A7.out S h rfl
 have E9:=oh B7;clear Al Am B7 Dd De Aj Ca Dc Cb Bg;go_loopg [8,57] (4+N) (λr v8 v57 wr=>∃k:Nat,k+r=4+N/\v8=.nilIface/\v57=.int .i64 k/\Hid (zA (spF sp b2) w7 wr/\SpR wr sp b2 (zAj D.blocks ([0,1]++(vT m).take k))))
 case atStart=>exact⟨0,by omega,rfl,by go_num,oh ⟨zA.refl _ _,by rw[List.take_zero,wJ,<- zLv A0.out.b8];exact Cd.out⟩⟩
 case round =>
  obtain⟨k,hk,rfl,rfl,HW⟩:=hrel;have A8:=E7.out.mods HW.out.1 E9.out;by_cases Bl:k<4+N
  .obtain⟨x,hx⟩:∃x,(vT m)[k]? = some x:=⟨_,uB (by rw[A9.out];exact Bl)⟩;obtain⟨a1,a2,a3⟩:=E8.out k x hx;have Cg:=zM0 a1 a2 a3;have Dh:[0,1]++(vT m).take k++[x]=[0,1]++(vT m).take (k+1):=by
    obtain⟨g1,g2⟩:=uA.1 hx;rw[uN,rP g1,g2]
   rw[Dh] at Cg;obtain⟨rb,ro,Ea,hc⟩:=Ce.out.elemM (k:=k) (by rw[Cf.out];exact Bl) HW.out.1;have d0:=hc 0 (.int .i64 x) (by
    obtain⟨g1,g2⟩:=uA.1 hx;simp[yI,g2])
   simp only[uT,wC] at d0;subst Ea;have MK:=zQC (Dg.out.mods (HW.out.1.mono (λj hj=>.inr hj))) sp b2 _ HW.out.2 (x:Int);rw[Cg] at MK;have MK:=oh MK;have s2:=A8.d 2 ((.pointer (some ⟨sp,0,none⟩))) rfl;have i1:(0:Int)<=(k:Int):=by omega
   have i2:(k:Int)<((4+N:Nat):Int):=by omega
   clear hc hx a1 a2 a3 Cg Dh A8;go_wp2_with fail;refine MK.out.mono ?_;rintro e w8 ⟨ev,rfl,hE,An,m8⟩;cases hE
   have H8:Hid (zA (spF sp b2) w7 w8/\SpR w8 sp b2 (zAj D.blocks ([0,1]++(vT m).take (k+1)))):=oh ⟨HW.out.1.trans m8,An⟩;clear m8 An d0 s2;go_wp2_with fail;go_roundg (gk-1)
   case measure=>omega
   case rel=>exact⟨k+1,by omega,rfl,by go_num,H8⟩
  .obtain rfl:k=4+N:=by omega
   have e9:[0,1]++(vT m).take (4+N)=m.used:=by
    rw[uY (by rw[A9.out];exact uD _)];exact zFW Af.out.mok
   have Bm:Hid (zA (spF sp b2) w7 wr/\SpR wr sp b2 (zAj D.blocks m.used)):=oh (by have:=HW.out;rw[e9] at this;exact this);have Di:=oh A8;have s6:=A8.d 6 (.int .i64 (s.root:Int)) rfl;have s7:=A8.d 7 (.int .i64 (s.keys:Int)) rfl;have s9:=A8.d 9 (.int .i64 0) rfl;have s10:=A8.d 10 (.int .i64 0) rfl;have s11:=A8.d 11 (.slice a nn cc) rfl;have sf:=A8.frozen;clear A8 e9 HW;go_wp2_with fail;go_region
   obtain⟨W9,Bn⟩:∃W,W=(((wr.setCell ⟨S,9,none⟩ (.int .i64 (s.root:Int))).setCell ⟨S,10,none⟩ (.int .i64 (s.keys:Int))).drew):=⟨_,rfl⟩;have m9:zA (λj=>j=S) wr W9:=by rw[Bn];exact (zA.setCell (F:=λj=>j=S) (zA.setCell (F:=λj=>j=S) (zss wr) (p:=⟨S,9,none⟩) (.inr rfl) _) (p:=⟨S,10,none⟩) (.inr rfl) _).drew
   have Ch:zG W9 S (stC d (.pointer (some ⟨c,0,none⟩)) (.pointer (some ⟨sp,0,none⟩)) s (hm:Int) (s.root:Int) (s.keys:Int) (.slice a nn cc) false) 106:=by
    rw[Bn];exact zG.drew (by simpa[stC] using (Di.out.set 9 (.int .i64 (s.root:Int))).set 10 (.int .i64 (s.keys:Int)))
   rw[<- Bn];have s11:=Ch.d 11 (.slice a nn cc) rfl;have Eb:=oh Ch;have Bo:=oh m9;have Ec:=oh (zSd a cc E4.out);clear Bn m9 Ch s6 s7 s9 s10 sf Di;go_wp2_with fail;refine (Ec.out _).mono ?_;rintro e w10 ⟨rfl,rfl⟩;go_wp2_with fail;go_ret2
   have Ew:=E1.out;have z0:W0.heap.size<=W2.heap.size:=Bh.out.2;have zw:w.heap.size<=W0.heap.size:=Ay.out.size;have m27:zA (λj=>j=S) W2 wr:=B6.out.2.trans' Bm.out.1 (λi hi h=>by have:=Au.out i h;omega);have m29:zA (λj=>j=S) W2 W9:=m27.trans Bo.out;have mQ:zA (λj=>(caF c sb P j\/j=S)\/spF sp b2 j) W0 W9:=((B6.out.1.mono (λj h=>.inl h)).trans (Bm.out.1.mono (λj h=>.inr h))).trans (Bo.out.mono (λj h=>.inl (.inr h)));have mF9:zA (λk=>F1 k\/spF sp b2 k) w7 W9:=(Bm.out.1.mono (λj h=>.inr h)).trans (Bo.out.mono (λj h=>by have h':j=S:=h;rw[h'];exact .inl A2.out));have Dj:SpR W9 sp b2 (zAj D.blocks m.used):=Bm.out.2.mods Bo.out (λh=>A7.out sp (.inl rfl) h) (λh=>A7.out b2 (.inr rfl) h);have Ed:CaR (λk=>F1 k\/spF sp b2 k) W9 d c sb bvs P ⟨D,List.replicate q qM,0⟩:=As.out.plus m29 (λj hj h=>by have h':j=S:=h;rw[h'] at hj;exact Ar.out hj) (λj h=>by have h':j=S:=h;rw[h'];exact A2.out) (λk hk hn hf=>hf.elim hn (λh=>by have:=Au.out k h;omega));refine⟨S,c,sp,λk=>caF c sb P k\/spF sp b2 k,λk=>F1 k\/spF sp b2 k,rfl,⟨sb,bvs,P,b2,Ed,Dj,λk=>rQ,By.out,⟨_,_,_,_,E5.out,Eb.out⟩,λh=>h.elim Ar.out (λh=>A7.out S h rfl),.inl A2.out⟩,?_⟩;refine⟨⟨Ay.out.ext.trans' mQ (λi hi h=>?_),λk hk h=>?_,λk h=>?_⟩,λk h=>h.elim (λh=>.inl (Ac.out.sub k h)) .inr,λk h=>.inl (Ac.out.grow k (.inl h)),λk hk h=>?_,Dg.out.mods mF9⟩
   .rcases h with (h|h)|h
    .exact Ac.out.stp.old i (by omega) h
    .omega
    .have:=Au.out i h;omega
   .rcases h with h|h
    .exact Ac.out.stp.old k (by omega) h
    .have:=Au.out k h;omega
   .rcases h with h|h
    .exact uF (As.out.bdP k h) m29.size
    .exact zKa Dj k h
   .rcases h with h|h
    .rcases Ac.out.oldF k (by omega) h with h|h
     .exact h
     .omega
    .have:=Au.out k h;omega
end
end
section
open Go.RowKit
theorem zHA.shut{D:zJ}{s:yG}{m:qW}(h:zHA D s m):(∀j,j<2->yA D j=false)/\∀k,k<2->yA D (place s.gen k)=false:=by
 have hd:=h.dry;have Dk:=hd.b8;have hg:=h.gen;have Dl:∀{l:List UInt8} {j:Nat} {p:zY},D.lasting.getD j []=l->zV l (j:Int)=.inl p->yA D j=false:=λe ho=>by
  unfold yA;rw[e,ho]
 refine⟨λj hj=>?_,λk hk=>?_⟩
 .have e:D.lasting.getD j []=yK s j:=by
   rw[hd.last];rcases (show j=0\/j=1 by omega) with rfl|rfl
   .exact h.sup0
   .exact h.sup1
  exact Dl e (zCX (p:=zCa s j) (size:=s.size) (zEf h.ok hj) (by show s.gen<_;omega))
 .have e:D.lasting.getD (place s.gen k) []=yO m (place s.gen k) D.size:=by
   rw[hd.last];rcases (show k=0\/k=1 by omega) with rfl|rfl
   .exact h.map0
   .exact h.map1
  exact Dl e (zCX (p:=zBy m (place s.gen k)) (size:=D.size) (zEh h.mok (by unfold place;omega) hd.s256 hd.s1024) (by show m.gen<_;rw[h.mgen];omega))
theorem zHA.headD{D:zJ}{s:yG}{m:qW}(h:zHA D s m):zBM D s m:=by
 have hd:=h.dry;refine⟨h.blk,h.siz,h.ok,h.gen,h.mok,h.mgen,h.mblk,λi hi=>.inr ?_,.inl (h.shut.1 0 (by omega)),λk hk=>.inr ?_⟩
 .rw[hd.last];rcases (show i=0\/i=1 by omega) with rfl|rfl
  .exact h.sup0
  .exact h.sup1
 .rw[hd.last];rcases (show k=0\/k=1 by omega) with rfl|rfl
  .exact h.map0
  .exact h.map1
section
variable {P P' F F':NP}{ad:Nat->Addr}{w w':World}{d:Nat}{D:zJ}
theorem zPc(hL:yH F ad w)(hP:∀k,P k->F k)(h:DkS w P d D)(hD:zCK D)(s:yG)(m:qW)(hW:zHA D s m)(q:Nat)(h3:3<=q)(A3:q<=64) :
  Calls Tryz.prog 10 #[.pointer (some ⟨d,0,none⟩),.int .i64 (q:Int)] w (zNG F P ad w d D s m q):=by
 obtain⟨r1,r2⟩:=hW.shut;refine (zKB hL hP h hD s m hW.headD (.inl (r2 0 (by omega))) (.inl ⟨r1 0 (by omega),r1 1 (by omega)⟩) q h3 A3).mono ?_;rintro e w' ⟨S,c,sp,P',F',rfl,⟨sb,bvs,Pd,b2,h1,h2,h3,h4,⟨hm,a,n,cc,h5,h6⟩,h7⟩,h8⟩;obtain⟨rfl,rfl⟩:=h5 ⟨r1 0 (by omega),r1 1 (by omega),r2 0 (by omega),r2 1 (by omega)⟩;exact⟨S,c,sp,P',F',rfl,⟨sb,bvs,Pd,b2,h1,h2,h3,h4,⟨a,cc,h6⟩,h7⟩,h8⟩
theorem zNk[zQ]{D:zJ}{s:yG}{m:qW}(hW:zHA D s m)(hd:d=zFM)(h6:vL<=6):zF8 d (zAj D.blocks m.used):=⟨hd,λi hi=>by
 obtain⟨_,_,_,h,_,_⟩:=(vV m).1 hW.mok;have hb:=hW.dry.b8;rw[zA2 _ (by omega),if_pos]
 .exact .inl rfl
 .have:i∈m.used.take 6:=by rw[h];simp;omega
  exact rG this⟩
end
end
section
open Go.RowKit
attribute [local go_sem ↓] Go.wp_at_zero Go.wp_at_succ
def zDs(D:zJ):Nat->zJ
 | 0=>(zEG D (zCd D) 2).flushed
 | 1=>((zEG D (zCd D) 2).flushed.wrote 1 (yK (zA8 D) 1)).flushed
 | _=>zEt D
theorem zPd(D:zJ):((zDs D 0).wrote 1 (yK (zA8 D) 1)).flushed=zDs D 1/\((zDs D 1).wrote 0 (yK (zA8 D) 0)).flushed=zDs D 2:=⟨rfl,rfl⟩
theorem zIt{D:zJ}(h:zCK D):zA6 (zCd D)=true:=(zC8 h).1.mok
theorem zIu{D:zJ}(h:zCK D):zBe (zA8 D)=true:=(zC8 h).1.ok
theorem zRC{D:zJ}(h:zCK D):(zCs (zDs D 0)/\(zDs D 0).waiting=[]/\(zDs D 0).blocks=D.blocks/\(zDs D 0).size=D.size)/\(zCs (zDs D 1)/\(zDs D 1).waiting=[]/\(zDs D 1).blocks=D.blocks/\(zDs D 1).size=D.size):=by
 obtain⟨h1,h2,h3,_⟩:=zE0 h.wet (zIt h) h.b8 h.s256 2 (by omega);have f1:=h1.flushed;have hb:(zDs D 0).blocks=D.blocks:=h2;have hs:(zDs D 0).size=D.size:=h3;refine⟨⟨f1.1,f1.2.1,hb,hs⟩,?_⟩;have hw:zCs ((zDs D 0).wrote 1 (yK (zA8 D) 1)):=zCs.wrote f1.1 (by show 1<(zDs D 0).blocks;rw[hb];have:=h.b8;omega) (by show _=(zDs D 0).size;rw[hs,zAh (zIu h)];rfl);have f2:=hw.flushed;exact⟨f2.1,f2.2.1,hb,hs⟩
section
variable {P P' F F':NP}{ad:Nat->Addr}{w w':World}{d:Nat}{D:zJ}
def zPe(F P:NP)(ad:Nat->Addr)(w:World)(d:Nat)(D:zJ)(q:Nat)(e:Ending)(w':World):Prop :=
 ∃S c sp P' F',e=.returned (.tuple #[.pointer (some ⟨S,0,none⟩),.nilIface])/\StO F' w' P' S d c sp (zA8 D) 0 0 0 ⟨zEt D,List.replicate q qM,0⟩ (zAj D.blocks [0,1,2,3,4,5])/\zX P P' F F' ad w w'
theorem zNl(hL:yH F ad w)(hP:∀k,P k->F k)(h:DkS w P d D)(hD:zCK D)(q:Nat)(h3:3<=q)(A3:q<=64) :
  Calls Tryz.prog 37 #[.pointer (some ⟨d,0,none⟩),.int .i64 (q:Int)] w (zPe F P ad w d D q):=by
 have Br:=oh (λop=>zFV h hD.off op q h3 A3);have A0:=oh hD;have HQ:=oh (And.intro h3 A3);have Ee:=oh h.geo;have HL:=oh hL;have HP:=oh hP;have Ef:=oh h;have Dm:Hid (yL (zA8 D)=.agg #[.int .u64 1,.int .i64 (D.blocks:Int),.int .i64 (D.size:Int),.int .i64 0,.int .i64 0]):=oh rfl;have Eg:Hid (∀uv,zDU (zCd D) uv=.agg #[.int .u64 1,.int .i64 (D.blocks:Int),uv]):=oh (λ_=>rfl);have Dn:=oh (zPd D);have Ae:=oh (zRC hD);clear hL hP h hD h3 A3
 go_enter Tryz.func37, Tryz.ntmps37
 go_wp2_with fail;refine (Br.out _).mono ?_;rintro e w0 ⟨rfl,rfl⟩;go_wp2_with fail;refine Ee.out.mono ?_;rintro e w1 ⟨rfl,m1⟩;have Ci:=oh m1;clear m1;go_wp2_with fail;obtain⟨X,hX⟩:∃X,X=w1.heap.size:=⟨_,rfl⟩;obtain⟨W3,B8⟩:∃W,W=(w1.alloc (.cells #[.int .u64 1,.int .i64 (D.blocks:Int),.int .i64 (D.size:Int),.int .i64 0,.int .i64 0] 55)).alloc (.cells #[.int .i64 0,.int .i64 1,.int .i64 2,.int .i64 3,.int .i64 4,.int .i64 5] 3):=⟨_,rfl⟩;have m3:zF w1 W3:=by rw[B8];exact ((zss w1).alloc _).alloc _
 have Ah:zG W3 X #[.int .u64 1,.int .i64 (D.blocks:Int),.int .i64 (D.size:Int),.int .i64 0,.int .i64 0] 55:=by rw[B8,hX];exact (zG.new w1 _ _).alloc _
 have Do:zG W3 (X+1) #[.int .i64 0,.int .i64 1,.int .i64 2,.int .i64 3,.int .i64 4,.int .i64 5] 3:=by rw[B8,hX];exact zS (by simp)
 rw[<- B8,<- hX];have Dp:¬ F X:=λf=>by have:=HL.out.lt _ f;have:=Ci.out.size;omega
 have B9:¬ F (X+1):=λf=>by have:=HL.out.lt _ f;have:=Ci.out.size;omega
 have hU:Sl F W3 1 yI (.slice (some ⟨X+1,0,none⟩) 6 6) (yF (zCd D)):=(yC.made (cur:=#[.int .i64 0,.int .i64 1,.int .i64 2,.int .i64 3,.int .i64 4,.int .i64 5]) (b:=X+1) (base:=X) (cap:=6) (l:=([0,1,2,3,4,5]:List Int)) (sz:=1) (enc:=yI) (F:=F) Do (by omega) B9 (by simp) (by simp[maxLen]) rfl rfl vH.len).sl (λ_=>rfl) (by simp);have M3:zF w W3:=Ci.out.trans m3;have WM:=zHF (HL.out.mods M3.ext) HP.out (Ef.out.at M3) A0.out.wet (by rw[A0.out.wait];simp) (zCd D) (zIt A0.out) (by show 1<_;omega) _ hU A0.out.b8 A0.out.s256 A0.out.s1024;rw[Eg.out] at WM;have WM:=oh WM;have Dq:=oh (zX.ext HL.out HP.out M3);have At:=oh Ah;have Aw:Hid (¬ P X):=oh (λf=>Dp (HP.out X f));clear B8 hX m3 Ah Do Dp B9 hU M3;refine WM.out.mono ?_;rintro e w4 ⟨P4,F4,rfl,h4,n4⟩;have H4:=oh h4;have Bp:=oh (Dq.out.trans n4);have Ad:=oh (n4.blk At.out Aw.out);have Ao:=oh (n4.not At.out.lt Aw.out);clear h4 n4 WM Dq At Aw;go_wp2_with fail;have Cj:=(zE0 A0.out.wet (zIt A0.out) A0.out.b8 A0.out.s256 2 (by omega)).1;refine (DkS.flush Bp.out.env Bp.out.sub H4.out Cj.off Cj.lit).mono ?_;rintro e w5 ⟨P5,F5,rfl,h5,n5⟩;have H5:Hid (DkS w5 P5 d (zDs D 0)/\zX P P5 F F5 ad w w5/\zG w5 X #[.int .u64 1,.int .i64 (D.blocks:Int),.int .i64 (D.size:Int),.int .i64 0,.int .i64 0] 55 /\ ¬ P5 X):=oh ⟨h5,Bp.out.trans n5,n5.blk Ad.out Ao.out,n5.not Ad.out.lt Ao.out⟩;clear h5 n5 H4 Bp Ad Ao Cj;go_wp2_with fail;go_loopg [8,9] 2 (λr v8 v9 wr=>∃(k:Nat) (P1 F1:NP),k+r=2/\v8=.nilIface/\v9=.int .i64 (1-(k:Int))/\Hid (DkS wr P1 d (zDs D k)/\zX P P1 F F1 ad w wr/\zG wr X #[.int .u64 1,.int .i64 (D.blocks:Int),.int .i64 (D.size:Int),.int .i64 0,.int .i64 0] 55 /\ ¬ P1 X))
 case atStart=>exact⟨0,P5,F5,rfl,rfl,rfl,H5⟩
 case round =>
  clear H5;obtain⟨k,P1,F1,hk,rfl,rfl,HW⟩:=hrel;have x0:=HW.out.2.2.1.d 0 (.int .u64 1) rfl;have x1:=HW.out.2.2.1.d 1 (.int .i64 (D.blocks:Int)) rfl;have x2:=HW.out.2.2.1.d 2 (.int .i64 (D.size:Int)) rfl;have x3:=HW.out.2.2.1.d 3 (.int .i64 0) rfl;have x4:=HW.out.2.2.1.d 4 (.int .i64 0) rfl;have Eh:k=0\/k=1\/k=2:=by omega
  rcases Eh with rfl|rfl|rfl
  .have WS:=zDr HW.out.2.1.env HW.out.2.1.sub HW.out.1 Ae.out.1.1 (by rw[Ae.out.1.2.1];simp) (zA8 D) (zIu A0.out) (by show 1<_;omega) Ae.out.1.2.2.2.symm 1 (by omega) (by rw[Ae.out.1.2.2.1];exact A0.out.b8);rw[Dn.out.1,Dm.out,show ((1:Nat):Int)=1 from rfl] at WS;have WS:=oh WS;rw[show (1:Int)-((0:Nat):Int)=1 from rfl];go_wp2_with fail;refine WS.out.mono ?_;rintro e w7 ⟨P7,F7,rfl,h7,n7⟩;have H7:Hid (DkS w7 P7 d (zDs D 1)/\zX P P7 F F7 ad w w7/\zG w7 X #[.int .u64 1,.int .i64 (D.blocks:Int),.int .i64 (D.size:Int),.int .i64 0,.int .i64 0] 55 /\ ¬ P7 X):=oh ⟨h7,HW.out.2.1.trans n7,n7.blk HW.out.2.2.1 HW.out.2.2.2,n7.not HW.out.2.2.1.lt HW.out.2.2.2⟩;clear h7 n7 x0 x1 x2 x3 x4;go_wp2_with fail;go_roundg 1
   case measure=>omega
   case rel=>exact⟨1,P7,F7,rfl,rfl,rfl,H7⟩
  .have WS:=zDr HW.out.2.1.env HW.out.2.1.sub HW.out.1 Ae.out.2.1 (by rw[Ae.out.2.2.1];simp) (zA8 D) (zIu A0.out) (by show 1<_;omega) Ae.out.2.2.2.2.symm 0 (by omega) (by rw[Ae.out.2.2.2.1];exact A0.out.b8);rw[Dn.out.2,Dm.out,show ((0:Nat):Int)=0 from rfl] at WS;have WS:=oh WS;rw[show (1:Int)-((1:Nat):Int)=0 from rfl];go_wp2_with fail;refine WS.out.mono ?_;rintro e w7 ⟨P7,F7,rfl,h7,n7⟩;have H7:Hid (DkS w7 P7 d (zDs D 2)/\zX P P7 F F7 ad w w7/\zG w7 X #[.int .u64 1,.int .i64 (D.blocks:Int),.int .i64 (D.size:Int),.int .i64 0,.int .i64 0] 55 /\ ¬ P7 X):=oh ⟨h7,HW.out.2.1.trans n7,n7.blk HW.out.2.2.1 HW.out.2.2.2,n7.not HW.out.2.2.1.lt HW.out.2.2.2⟩;clear h7 n7 x0 x1 x2 x3 x4;go_wp2_with fail;go_roundg 0
   case measure=>omega
   case rel=>exact⟨2,P7,F7,rfl,rfl,rfl,H7⟩
  .have A5:=(zC8 A0.out).1;have MO:=zPc HW.out.2.1.env HW.out.2.1.sub (D:=zEt D) HW.out.1 A5.dry (zA8 D) (zCd D) A5 q HQ.out.1 HQ.out.2;have MO:=oh MO;rw[show (1:Int)-((2:Nat):Int) = -1 from rfl];clear A5;go_wp2_with fail;refine MO.out.mono ?_;rintro e w7 ⟨S,c,sp,P7,F7,rfl,h7,n7⟩;have H7:=oh h7;have N7:=oh (HW.out.2.1.trans n7);clear h7 n7 x0 x1 x2 x3 x4;go_wp2_with fail;refine (wrap_nil _ _).mono ?_;rintro e w8 ⟨rfl,rfl⟩;go_wp2_with fail;go_ret2
   exact⟨S,c,sp,P7,F7,rfl,H7.out,N7.out⟩
theorem zNm[zQ](hd:d=zFM)(h6:vL<=6)(Ei:∀id,id<vL->(zEt D).look id=zCY id)(hL:yH F ad w)(hP:∀k,P k->F k)(h:DkS w P d D)(hD:zCK D)(q:Nat)(h3:3<=q)(A3:q<=64) :
  Calls Tryz.prog 37 #[.pointer (some ⟨d,0,none⟩),.int .i64 (q:Int)] w λe w'=>∃S c sp P' F',e=.returned (.tuple #[.pointer (some ⟨S,0,none⟩),.nilIface])/\StR F' w' P' S d c sp (zA8 D) 0 0 0 (zO1 (zAI (zEt D))) (zAj D.blocks [0,1,2,3,4,5])/\zX P P' F F' ad w w':=by
 obtain⟨r1,r2⟩:=zJf Ei (zC8 hD).1.dry q h3 A3;refine (zNl hL hP h hD q h3 A3).mono ?_;rintro e w' ⟨S,c,sp,P',F',h1,h2,h3⟩;exact⟨S,c,sp,P',F',h1,h2.st r1 r2 (tH _) (zNk (zC8 hD).1 hd h6),h3⟩
end
section
variable {P P' F F':NP}{ad:Nat->Addr}{w w':World}{S d c sp:Nat}{s:yG}{home root keys:Int}{G G':GA}{l l':List Nat}
theorem StR.at[zQ](h:StR F w P S d c sp s home root keys G l)(m:zF w w'):StR F w' P S d c sp s home root keys G l:=by
 obtain⟨h1,⟨a,cc,h2⟩,h3,h4⟩:=h;exact⟨h1.at m,⟨a,cc,h2.ext m⟩,h3,h4⟩
theorem StR.nxt[zQ](h:StR F w P S d c sp s home root keys G l)(n:zX P P' F F' ad w w')(hG:jK F' w' P' c sp G' l'):StR F' w' P' S d c sp s home root keys G' l':=by
 obtain⟨h1,⟨a,cc,h2⟩,h3,h4⟩:=h;exact⟨hG,⟨a,cc,n.blk h2 h3⟩,n.not h2.lt h3,n.grow S h4⟩
theorem StR.set[zQ](h:StR F w P S d c sp s home root keys G l)(r k:Int):StR F ((w.setCell ⟨S,9,none⟩ (.int .i64 r)).setCell ⟨S,10,none⟩ (.int .i64 k)) P S d c sp s home r k G l:=by
 obtain⟨h1,⟨a,cc,h2⟩,h3,h4⟩:=h;have m:zA (λj=>j=S) w ((w.setCell ⟨S,9,none⟩ (.int .i64 r)).setCell ⟨S,10,none⟩ (.int .i64 k)):=zA.setCell (F:=λj=>j=S) (zA.setCell (F:=λj=>j=S) (zss w) (p:=⟨S,9,none⟩) (.inr rfl) _) (p:=⟨S,10,none⟩) (.inr rfl) _;exact⟨h1.plus m (λk hk e=>by have e':k=S:=e;exact h3 (e' ▸ hk)) (λk e=>by have e':k=S:=e;rw[e'];exact h4) (λ_ _ h=>h),⟨a,cc,by simpa[stC] using (h2.set 9 (.int .i64 r)).set 10 (.int .i64 k)⟩,h3,h4⟩
theorem zX.withS(n:zX P P' F F' ad w w'){w2:World}(hS:S<w.heap.size)(hF:F' S)(m:zA (λj=>j=S) w' w2):zX (qB P S) (qB P' S) F F' ad w w2 :=
 ⟨⟨(n.stp.mods.mono (λj h=>.inl h)).trans' m (λi _ h=>.inr h),λk hk h=>h.elim (λh=>.inl (n.stp.old k hk h)) .inr,λk h=>h.elim (λh=>uF (n.stp.bd k h) m.size) (λe=>by rw[e];exact uF hS (uP n.stp.mods.size m.size))⟩,
  λk h=>h.elim (λh=>n.sub k h) (λe=>by rw[e];exact hF),n.grow,n.oldF,n.env.mods (m.mono (λj h=>by have h':j=S:=h;rw[h'];exact hF))⟩
theorem StR.lt[zQ](h:StR F w P S d c sp s home root keys G l):S<w.heap.size:=by
 obtain⟨_,⟨a,cc,h2⟩,_,_⟩:=h;exact h2.lt
theorem zPf(r k:Int):zA (λj=>j=S) w ((w.setCell ⟨S,9,none⟩ (.int .i64 r)).setCell ⟨S,10,none⟩ (.int .i64 k)):=zA.setCell (F:=λj=>j=S) (zA.setCell (F:=λj=>j=S) (zss w) (p:=⟨S,9,none⟩) (.inr rfl) _) (p:=⟨S,10,none⟩) (.inr rfl) _
theorem zRx[zQ](h:StR F w P S d c sp s home root keys G l)(op:ByteArray) : Calls Tryz.prog 52 #[.pointer (some ⟨S,0,none⟩),.string op] w λe w'=>e=.returned .nilIface/\w=w':=by
 obtain⟨h1,⟨a,cc,h2⟩,h3,h4⟩:=h;have c12:=h2.d 12 (.bool false) rfl;clear h1 h2 h3 h4
 go_enter Tryz.func52, Tryz.ntmps52
 go_wp2_with fail;go_ret;exact⟨rfl,rfl⟩
theorem Tryz.stPgSize:(Tryz.prog.info? 117).map (·.size)=some 3:=by kernel_rfl
theorem zRy[zQ](h:StR F w P S d c sp s home root keys G l)(hg:s.gen+1<18446744073709551616) : Calls Tryz.prog 54 #[.pointer (some ⟨S,0,none⟩)] w λe w'=>e=.returned (pgV c sp (s.gen+1))/\zF w w':=by
 obtain⟨h1,⟨a,cc,h2⟩,h3,h4⟩:=h;have c1:=h2.d 1 (.pointer (some ⟨c,0,none⟩)) rfl;have c2:=h2.d 2 (.pointer (some ⟨sp,0,none⟩)) rfl;have c3:=h2.d 3 (.int .u64 (s.gen:Int)) rfl;have hS:=h2.lt;have Bu:=oh (zG.new w #[.pointer none,.pointer none,.int .u64 0] 117);have Ex:S≠w.heap.size:=λe=>by omega
 obtain⟨g,Ap⟩:∃g,g=s.gen:=⟨_,rfl⟩;have Ej:Hid (pgV c sp (s.gen+1)=.agg #[.pointer (some ⟨c,0,none⟩),.pointer (some ⟨sp,0,none⟩),.int .u64 ((g:Int)+1)]):=oh (by rw[Ap];rfl);rw[<- Ap] at c3 hg;clear h1 h2 h3 h4 Ap
 go_enter Tryz.func54, Tryz.ntmps54
 go_wp2_with fail;go_region
 go_wp2_with fail;refine bodyPost_ret (results_cell_row rfl _ _ w.heap.size 117 #[.pointer (some ⟨c,0,none⟩),.pointer (some ⟨sp,0,none⟩),.int .u64 ((g:Int)+1)] (0,0) _ rfl (zG.drew (zG.new w _ _)) Tryz.underlying117 rfl Tryz.stPgSize) rfl ?_;exact⟨by rw[Ej.out],((zss w).alloc _).drew⟩
end
section
variable {P P' F F':NP}{ad:Nat->Addr}{w w':World}{S d c sp:Nat}{s:yG}{home root keys:Int}{C:qL}{l:List Nat}
theorem StO.at(h:StO F w P S d c sp s home root keys C l)(m:zF w w'):StO F w' P S d c sp s home root keys C l:=by
 obtain⟨sb,bvs,Pd,b2,h1,h2,h3,h4,⟨a,cc,h5⟩,h6,h7⟩:=h;exact⟨sb,bvs,Pd,b2,h1.at m,h2.mods m (λf=>f) (λf=>f),h3,h4,⟨a,cc,h5.ext m⟩,h6,h7⟩
theorem StO.blk(h:StO F w P S d c sp s home root keys C l):∃a cc,zG w S (stC d (.pointer (some ⟨c,0,none⟩)) (.pointer (some ⟨sp,0,none⟩)) s home root keys (.slice a 0 cc) false) 106:=by
 obtain⟨sb,bvs,Pd,b2,h1,h2,h3,h4,h5,h6,h7⟩:=h;exact h5
theorem zSe(c12:w.cell? ⟨S,12,none⟩=some (.bool false))(op:ByteArray) : Calls Tryz.prog 52 #[.pointer (some ⟨S,0,none⟩),.string op] w λe w'=>e=.returned .nilIface/\w=w':=by
 go_enter Tryz.func52, Tryz.ntmps52
 go_wp2_with fail;go_ret;exact⟨rfl,rfl⟩
end
end
section
open Go.RowKit
section
variable {P P' F F':NP}{ad:Nat->Addr}{w w':World}{S d c sp:Nat}{s:yG}{home root keys:Int}{C C':qL}{G:GA}{l l':List Nat}
theorem StO.ca(hL:yH F ad w)(hP:∀k,P k->F k)(h:StO F w P S d c sp s home root keys C l) :
  ∃sb bvs Pd,CaR F w d c sb bvs Pd C/\(∀k,caF c sb Pd k->F k)/\∀(sb':Nat) (bvs':List Value) (Pd' F':NP) (w':World) (C':qL),CaR F' w' d c sb' bvs' Pd' C'->zX (caF c sb Pd) (caF c sb' Pd') F F' ad w w' ->
   ∃P',StO F' w' P' S d c sp s home root keys C' l/\zX P P' F F' ad w w':=by
 obtain⟨sb,bvs,Pd,b2,h1,h2,h3,h4,⟨a,cc,h5⟩,h6,h7⟩:=h;refine⟨sb,bvs,Pd,h1,λk hk=>hP k ((h3 k).2 (.inl hk)),λsb' bvs' Pd' F' w' C' k1 n=>?_⟩;have Ek:¬ caF c sb Pd sp:=λf=>h4 sp f (.inl rfl)
 have El:¬ caF c sb Pd b2:=λf=>h4 b2 f (.inr rfl)
 have q:=n.part (Q:=spF sp b2) (λk hk=>hP k ((h3 k).2 (.inr hk))) hL;have q2:zX P (λk=>caF c sb' Pd' k\/spF sp b2 k) F F' ad w w':=q.iff h3 (λk=>rQ);refine⟨λk=>caF c sb' Pd' k\/spF sp b2 k,⟨sb',bvs',Pd',b2,k1,h2.mods n.stp.mods Ek El,λk=>rQ,λk hk hs=>?_,⟨a,cc,q2.blk h5 h6⟩,q2.not h5.lt h6,q2.grow S h7⟩,q2⟩;exact h4 k (n.stp.old k (zKa h2 k hs) hk) hs
theorem StO.dk(hL:yH F ad w)(hP:∀k,P k->F k)(h:StO F w P S d c sp s home root keys C l) :
  ∃Pd,DkS w Pd d C.disk/\(∀k,Pd k->F k)/\∀(Pd' F':NP) (w':World) (D:zJ),DkS w' Pd' d D->zX Pd Pd' F F' ad w w' ->
   ∃P',StO F' w' P' S d c sp s home root keys { C with disk:=D } l/\zX P P' F F' ad w w':=by
 obtain⟨sb,bvs,Pd,h1,hF,h2⟩:=h.ca hL hP;refine⟨Pd,h1.disk,λk hk=>hF k (.inl hk),λPd' F' w' D hD n=>?_⟩;exact h2 sb bvs Pd' F' w' _ (h1.disk' hF n hD) (n.part (Q:=λk=>k=c\/k=sb) (λk hk=>hF k (.inr hk)) hL)
theorem StO.space(hL:yH F ad w)(hP:∀k,P k->F k)(h:StO F w P S d c sp s home root keys C l) :
  ∃b2,SpR w sp b2 l/\(∀k,spF sp b2 k->F k)/\∀(w':World) (l':List Nat),SpR w' sp b2 l'->zA (spF sp b2) w w'->StO F w' P S d c sp s home root keys C l'/\zX P P F F ad w w':=by
 obtain⟨sb,bvs,Pd,b2,h1,h2,h3,h4,⟨a,cc,h5⟩,h6,h7⟩:=h;refine⟨b2,h2,λk hk=>hP k ((h3 k).2 (.inr hk)),λw' l' hS m=>?_⟩;have n:=zX.same hL hP (m.mono (λk hk=>(h3 k).2 (.inr hk)));exact⟨⟨sb,bvs,Pd,b2,h1.plus m h4 (λk hk=>hP k ((h3 k).2 (.inr hk))) (λ_ _ h=>h),hS,h3,h4,⟨a,cc,n.blk h5 h6⟩,h6,h7⟩,n⟩
theorem StR.open[zQ](hd:d=zFM)(h:StR F w P S d c sp s home root keys G l):∃C,StO F w P S d c sp s home root keys C l/\yJ C/\qZ C G/\G.cost<=1000000/\zF8 d l:=by
 obtain⟨⟨d',sb,bvs,Pd,b2,C,h1,h2,h3,h4,h5,h6,h7,h8⟩,k2,k3,k4⟩:=h;obtain rfl:d'=d:=h8.1.trans hd.symm;exact⟨C,⟨sb,bvs,Pd,b2,h1,h5,h6,h7,k2,k3,k4⟩,h2,h3,h4,h8⟩
theorem StO.offS(h:StO F w P S d c sp s home root keys C l):¬ P S/\F S:=by
 obtain⟨sb,bvs,Pd,b2,h1,h2,h3,h4,h5,h6,h7⟩:=h;exact⟨h6,h7⟩
theorem StO.cells{s':yG}{home' root' keys':Int}{a':Option Addr}{cc':Nat}(h:StO F w P S d c sp s home root keys C l)(m:zA (λj=>j=S) w w')(hB:zG w' S (stC d (.pointer (some ⟨c,0,none⟩)) (.pointer (some ⟨sp,0,none⟩)) s' home' root' keys' (.slice a' 0 cc') false) 106):StO F w' P S d c sp s' home' root' keys' C l:=by
 obtain⟨sb,bvs,Pd,b2,h1,h2,h3,h4,⟨a,cc,h5⟩,h6,h7⟩:=h;exact⟨sb,bvs,Pd,b2,h1.plus m (λk hk e=>by have e':k=S:=e;exact h6 (e' ▸ (h3 k).2 (.inl hk))) (λk e=>by have e':k=S:=e;rw[e'];exact h7) (λ_ _ h=>h),h2.mods m (λe=>h6 (e ▸ (h3 sp).2 (.inr (.inl rfl)))) (λe=>h6 (e ▸ (h3 b2).2 (.inr (.inr rfl)))),h3,h4,⟨a',cc',hB⟩,h6,h7⟩
end
end
section
open Go.RowKit
attribute [local go_sem ↓] Go.wp_at_zero Go.wp_at_succ
section
variable {P P' F F':NP}{ad:Nat->Addr}{w w':World}{d S c sp:Nat}{s:yG}{home root keys:Int}{C:qL}{l:List Nat}
def zB7(F P:NP)(ad:Nat->Addr)(w:World)(S d c sp:Nat)(s:yG)(home root keys:Int)(l:List Nat)(R:qL->Prop)(e:Ending)(w':World):Prop :=
 e=.returned .nilIface/\∃P' F' C',StO F' w' P' S d c sp s home root keys C' l/\zX P P' F F' ad w w'/\R C'
theorem zRD[zQ](hL:yH F ad w)(hP:∀k,P k->F k)(h:StO F w P S d c sp s home root keys C l)(hI:yJ C)(hc:C.cost<=1000000) :
  Calls Tryz.prog 150 #[.pointer (some ⟨c,0,none⟩)] w (zB7 F P ad w S d c sp s home root keys l (λC'=>Sim C C'/\(∀(j:Nat) (t:zU),C'.slots[j]? = some t->t.wet=false)/\∀p∈C'.disk.waiting,p.1<C'.disk.blocks)):=by
 obtain⟨sb,bvs,Pd,h1,hF,h2⟩:=h.ca hL hP;refine (zLP hL hF h1 hI hc).mono ?_;rintro e w' ⟨Pd',F',C',rfl,k1,k2,k3,k4⟩;obtain⟨P',q1,q2⟩:=h2 _ _ _ _ _ _ k1 k3;exact⟨rfl,P',F',C',q1,q2,k2,k4,zSC k1⟩
theorem zRE(hL:yH F ad w)(hP:∀k,P k->F k)(h:StO F w P S d c sp s home root keys C l)(ho:C.disk.off=false)(hl:C.disk.lit=false) :
  Calls Tryz.prog 64 #[.pointer (some ⟨d,0,none⟩)] w (zB7 F P ad w S d c sp s home root keys l (λC'=>C'=zDW C)):=by
 obtain⟨Pd,h1,hF,h2⟩:=h.dk hL hP;refine (DkS.flush hL hF h1 ho hl).mono ?_;rintro e w' ⟨P1,F1,rfl,k1,k2⟩;obtain⟨P',q1,q2⟩:=h2 _ _ _ _ k1 k2;exact⟨rfl,P',F1,_,q1,q2,rfl⟩
theorem zNn(hL:yH F ad w)(hP:∀k,P k->F k)(h:StO F w P S d c sp s home root keys C l)(hw:zCs C.disk)(Aq:C.disk.waiting.length<900000)(m:qW)(hm:zA6 m=true)(hg:m.gen<18446744073709551616)(uv:Value)(hu:Sl F w 1 yI uv (yF m))(Dk:8<=C.disk.blocks)(h1:256<=C.disk.size)(h2:C.disk.size<=1024) :
  Calls Tryz.prog 83 #[.pointer (some ⟨d,0,none⟩),zDU m uv] w (zB7 F P ad w S d c sp s home root keys l (λC'=>C' = { C with disk:=zEG C.disk m 2 })):=by
 obtain⟨Pd,k1,hF,k2⟩:=h.dk hL hP;refine (zHF hL hF k1 hw Aq m hm hg uv hu Dk h1 h2).mono ?_;rintro e w' ⟨P1,F1,rfl,k3,k4⟩;obtain⟨P',q1,q2⟩:=k2 _ _ _ _ k3 k4;exact⟨rfl,P',F1,_,q1,q2,rfl⟩
theorem zIv(hL:yH F ad w)(hP:∀k,P k->F k)(h:StO F w P S d c sp s home root keys C l)(hw:zCs C.disk)(Aq:C.disk.waiting.length<1000000)(nx:yG)(hs:zBe nx=true)(hg:nx.gen<18446744073709551616)(hz:nx.size=C.disk.size)(i:Nat)(hi:i<2)(hb:8<=C.disk.blocks) :
  Calls Tryz.prog 84 #[.pointer (some ⟨d,0,none⟩),yL nx,.int .i64 (i:Int)] w (zB7 F P ad w S d c sp s home root keys l (λC'=>C'=zCO C nx i)):=by
 obtain⟨Pd,k1,hF,k2⟩:=h.dk hL hP;refine (zDr hL hF k1 hw Aq nx hs hg hz i hi hb).mono ?_;rintro e w' ⟨P1,F1,rfl,k3,k4⟩;obtain⟨P',q1,q2⟩:=k2 _ _ _ _ k3 k4;exact⟨rfl,P',F1,_,q1,q2,rfl⟩
theorem zS5[zQ](h6:vL=6)(hL:yH F ad w)(hP:∀k,P k->F k)(h:StO F w P S d c sp s home root keys C l)(hI:yJ C)(hc:C.cost+2<=900000)(Ck:zCs C.disk)
  (m:qW) (hm:zA6 m=true) (hg:m.gen<18446744073709551616) (hu:yF m=zB4 l l.length) (z r k:Int) :
  Calls Tryz.prog 87 #[.agg #[.pointer (some ⟨S,0,none⟩),.int .u64 (m.gen:Int),.int .i64 (m.blocks:Int),.int .i64 z,.int .i64 r,.int .i64 k]] w (zB7 F P ad w S d c sp s home root keys l (λC'=>zEY C m C')):=by
 obtain⟨g,Ap⟩:∃g,g=m.gen:=⟨_,rfl⟩;obtain⟨b,Cl⟩:∃b,b=m.blocks:=⟨_,rfl⟩;obtain⟨U,hU⟩:∃U,U=(yF m).length:=⟨_,rfl⟩;obtain⟨X,hX⟩:∃X,X=w.heap.size:=⟨_,rfl⟩;obtain⟨W0,A6⟩:∃W0,W0=w.alloc (.cells #[.pointer (some ⟨S,0,none⟩),.int .u64 (g:Int),.int .i64 (b:Int),.int .i64 z,.int .i64 r,.int .i64 k] 167):=⟨_,rfl⟩;have A1:zF w W0:=by rw[A6];exact (zss w).alloc _
 have Ba:zG W0 X #[.pointer (some ⟨S,0,none⟩),.int .u64 (g:Int),.int .i64 (b:Int),.int .i64 z,.int .i64 r,.int .i64 k] 167:=by rw[A6,hX];exact zG.new w _ _
 obtain⟨b2,Dr,Em, -⟩:=h.space hL hP;obtain⟨a0,cc0,hB⟩:=h.blk;obtain⟨Ax,En⟩:=h.offS;have Aw:Hid (¬ P X):=oh (λf=>by have:=hL.lt _ (hP _ f);omega);have B4:Hid (∀W,zF W0 W -> Calls Tryz.prog 149 #[.pointer (some ⟨sp,0,none⟩)] W λe w'=>∃a c1,e=.returned (.slice a U c1)/\(∀w2 Q,zA Q w' w2->(∀j,Q j->j<W.heap.size)->Sl F w2 1 yI (.slice a U c1) (yF m))/\zF W w'):=oh (λW mm=>(zQZ W sp b2 l ((Dr.mods A1 (λf=>f) (λf=>f)).mods mm (λf=>f) (λf=>f))).mono (λe w' ⟨uv,e1,e2,e3⟩=>by
  rw[<- hu] at e2;obtain⟨a,c1,e4,e5,e6⟩:=e2.form;rw[<- hU] at e4;subst e4;refine⟨a,c1,e1,λw2 Q m2 hQ=>?_,e3⟩;have Bl:∀q,F q->q<w.heap.size:=hL.lt;exact ((e2.mods m2 (λq hq hf=>by have a1:=(e2.lt q hq).1;have a2:=hQ q hf;omega)).blocks (G:=F) (λq hq hf=>by have a1:=(e2.lt q hq).1;have a2:=Bl q hf;have a3:=A1.size;have a4:=mm.size;omega)).sl vH.len (by
   have h6:=(vV m).1 hm;have h7:=zDM m.used 0 m.blocks h6.2.2.2.2.1 (λn hn=>⟨tH _,h6.2.2.2.2.2 n hn⟩) (tH _);unfold yF;rw[wS];omega)))
 have Ds:Hid (∀W,zF W0 W->∀a c1,Sl F W 1 yI (.slice a U c1) (yF m) -> Calls Tryz.prog 83 #[.pointer (some ⟨d,0,none⟩),.agg #[.int .u64 (g:Int),.int .i64 (b:Int),.slice a U c1]] W (zB7 F P ad W S d c sp s home root keys l (λC'=>C' = { C with disk:=zEG C.disk m 2 }))):=oh (λW mm a c1 hs=>by
  have:=zNn (hL.mods (A1.trans mm).ext) hP (h.at (A1.trans mm)) Ck (by unfold qL.cost at hc;omega) m hm hg _ hs hI.b8 hI.s256 hI.s1024;rw[show zDU m (.slice a U c1)=.agg #[.int .u64 (g:Int),.int .i64 (b:Int),.slice a U c1] by rw[Ap,Cl];rfl] at this;exact this)
 obtain⟨C1,Bb⟩:∃C1,C1=({ C with disk:=zEG C.disk m 2 }:qL):=⟨_,rfl⟩;have Dt:yJ C1:=by rw[Bb];exact zQh h6 hI hm
 have Du:C1.cost<=1000000:=by
  have:=(zE0 Ck hm hI.b8 hI.s256 2 (uD 2)).2.2.2;rw[Bb];unfold qL.cost at hc ⊢;show (zEG C.disk m 2).waiting.length+C.slots.countP (·.wet)<=1000000;omega
 have Eo:Hid (∀W (P1 F1:NP),yH F1 ad W->(∀k,P1 k->F1 k)->StO F1 W P1 S d c sp s home root keys C1 l -> Calls Tryz.prog 150 #[.pointer (some ⟨c,0,none⟩)] W (zB7 F1 P1 ad W S d c sp s home root keys l (λC'=>Sim C1 C'/\(∀(j:Nat) (t:zU),C'.slots[j]? = some t->t.wet=false)/\∀p∈C'.disk.waiting,p.1<C'.disk.blocks))):=oh (λW P1 F1 e1 e2 e3=>zRD e1 e2 e3 Dt Du);have Ep:Hid (∀C2,Sim C1 C2->(∀(j:Nat) (t:zU),C2.slots[j]? = some t->t.wet=false)->(∀p∈C2.disk.waiting,p.1<C2.disk.blocks)->zEY C m (zDW C2)):=oh (λC2 e1 e2 e3=>⟨C2,rfl,by rw[<- Bb];exact e1,e2,e3⟩);rw[<- Bb] at Ds;have Ab:=oh (λW (mm:zF W0 W)=>(⟨(Ba.ext mm).cell rfl,(Ba.ext mm).cell rfl,(Ba.ext mm).cell rfl,(hB.ext (A1.trans mm)).cell rfl,(hB.ext (A1.trans mm)).cell rfl⟩:W.cell? ⟨X,0,none⟩=some (.pointer (some ⟨S,0,none⟩))/\W.cell? ⟨X,1,none⟩=some (.int .u64 (g:Int))/\W.cell? ⟨X,2,none⟩=some (.int .i64 (b:Int))/\W.cell? ⟨S,0,none⟩=some (.pointer (some ⟨d,0,none⟩))/\W.cell? ⟨S,2,none⟩=some (.pointer (some ⟨sp,0,none⟩))));have Ay:=oh A1;have Ag:=oh Ax;have HP:=oh hP;have HL:=oh hL;have Ey:X<W0.heap.size:=Ba.lt;have Ez:S<W0.heap.size:=uF hB.lt A1.size;have zd:=Ab.out _ (zss W0).drew;have za:=Ab.out _ ((zss W0).alloc (.cells #[.int .u64 0,.int .i64 0,.slice none 0 0] 133)).drew;have n1:X≠W0.heap.size:=by omega
 have n2:S≠W0.heap.size:=by omega
 rw[<- Ap,<- Cl];clear hL hP h hI hc Ck hB Ax En Dr Em hm hg hu Ap Cl hU Ba A1 Bb Dt Du
 go_enter Tryz.func87, Tryz.ntmps87
 go_wp2_with fail;rw[<- A6,<- hX];clear A6 hX;go_region_held3 (λw'=>w'.cell? ⟨X,0,none⟩=some (.pointer (some ⟨S,0,none⟩))/\w'.cell? ⟨X,1,none⟩=some (.int .u64 (g:Int))/\w'.cell? ⟨X,2,none⟩=some (.int .i64 (b:Int))/\w'.cell? ⟨S,0,none⟩=some (.pointer (some ⟨d,0,none⟩))/\w'.cell? ⟨S,2,none⟩=some (.pointer (some ⟨sp,0,none⟩)))
  (first|(with_reducible exact zd)|(with_reducible exact z5)|(with_reducible exact z7)|(with_reducible exact z6)|(with_reducible exact za)|fail)
  (first
   | (go_at_call 149;((with_reducible refine (B4.out _ (zss W0).drew).mono ?_);rintro e w6 ⟨ua,uc,rfl,Bq,m6⟩;have x6:=(zss W0).drew.trans m6;have z5:=Ab.out _ x6;have z7:=Ab.out _ (x6.alloc (.cells #[.int .u64 0,.int .i64 0,.slice none 0 0] 133));have hB:zG (w6.alloc (.cells #[.int .u64 0,.int .i64 0,.slice none 0 0] 133)) w6.heap.size #[.int .u64 0,.int .i64 0,.slice none 0 0] 133:=zG.new w6 _ _;have b0:=hB.d 0 (.int .u64 0) rfl;have b1:=hB.d 1 (.int .i64 0) rfl;have b2:=hB.d 2 (.slice none 0 0) rfl;have bf:=hB.frozen;have lo:W0.heap.size<=w6.heap.size:=x6.size;have z6:=Ab.out _ (x6.alloc (.cells #[.int .u64 (g:Int),.int .i64 (b:Int),.slice ua U uc] 133));have Dv:∃X3 w3,X3=w6.heap.size/\w3=w6.alloc (.cells #[.int .u64 (g:Int),.int .i64 (b:Int),.slice ua U uc] 133)/\zG w3 X3 #[.int .u64 (g:Int),.int .i64 (b:Int),.slice ua U uc] 133 /\ zF W0 w3/\Sl F w3 1 yI (.slice ua U uc) (yF m):=⟨_,_,rfl,rfl,zG.new w6 _ _,x6.alloc _,Bq _ _ ((zA.refl (λ_=>False) w6).alloc _) (λ_ f=>f.elim)⟩))
   | (go_at_call 149;((with_reducible refine (B4.out _ ((zss W0).alloc (.cells #[.int .u64 0,.int .i64 0,.slice none 0 0] 133)).drew).mono ?_);rintro e w6 ⟨ua,uc,rfl,Bq,m6⟩;have x6:=((zss W0).alloc (.cells #[.int .u64 0,.int .i64 0,.slice none 0 0] 133)).drew.trans m6;have z5:=Ab.out _ x6;have z7:=z5;have hB:zG w6 W0.heap.size #[.int .u64 0,.int .i64 0,.slice none 0 0] 133:=zG.ext (w:=(W0.alloc (.cells #[.int .u64 0,.int .i64 0,.slice none 0 0] 133)).drew) (zG.new W0 _ _) m6;have b0:=hB.d 0 (.int .u64 0) rfl;have b1:=hB.d 1 (.int .i64 0) rfl;have b2:=hB.d 2 (.slice none 0 0) rfl;have bf:=hB.frozen;have lo:W0.heap.size<=W0.heap.size:=uD _;have z6:=Ab.out _ (zA.set3 (F:=λ_=>False) x6 (R:=W0.heap.size) (.inl lo) (.int .u64 (g:Int)) (.int .i64 (b:Int)) (.slice ua U uc));have Dv:∃X3 w3,X3=W0.heap.size/\w3=(((w6.setCell ⟨W0.heap.size,0,none⟩ (.int .u64 (g:Int))).setCell ⟨W0.heap.size,1,none⟩ (.int .i64 (b:Int))).setCell ⟨W0.heap.size,2,none⟩ (.slice ua U uc))/\zG w3 X3 #[.int .u64 (g:Int),.int .i64 (b:Int),.slice ua U uc] 133 /\ zF W0 w3/\Sl F w3 1 yI (.slice ua U uc) (yF m):=⟨_,_,rfl,rfl,zG.set3 hB (.int .u64 (g:Int)) (.int .i64 (b:Int)) (.slice ua U uc),zA.set3 (F:=λ_=>False) x6 (R:=W0.heap.size) (.inl lo) (.int .u64 (g:Int)) (.int .i64 (b:Int)) (.slice ua U uc),Bq _ _ (zA.set3 (F:=λj=>j=W0.heap.size) (zss w6) (R:=W0.heap.size) (.inr rfl) (.int .u64 (g:Int)) (.int .i64 (b:Int)) (.slice ua U uc)) (λj hj=>by rw[hj];exact (zG.new W0 #[.int .u64 0,.int .i64 0,.slice none 0 0] 133).lt)⟩))
   | fail)
 all_goals
  obtain⟨M,w3,hM,Dw,hC,m3,Dx⟩:=Dv;rw[<- Dw,<- hM];have Eq:=oh (Ay.out.trans m3);have Cm:Hid (¬ P M):=oh (λf=>by have h1:=HL.out.lt _ (HP.out _ f);have h2:=Ay.out.size;omega);clear zd za z5 z7 z6 x6 m6 hB b0 b1 b2 bf lo n1 n2 Bq;have zm:=λ(W:World) (mm:zF w3 W)=>(⟨(Ab.out W (m3.trans mm)).1,(Ab.out W (m3.trans mm)).2.2.2.1,(hC.ext mm).cell rfl,(hC.ext mm).cell rfl,(hC.ext mm).cell rfl⟩:W.cell? ⟨X,0,none⟩=some (.pointer (some ⟨S,0,none⟩))/\W.cell? ⟨S,0,none⟩=some (.pointer (some ⟨d,0,none⟩))/\W.cell? ⟨M,0,none⟩=some (.int .u64 (g:Int))/\W.cell? ⟨M,1,none⟩=some (.int .i64 (b:Int))/\W.cell? ⟨M,2,none⟩=some (.slice ua U uc))
  have zd:=zm _ (zss w3).drew;have Er:=oh (Ds.out _ (m3.trans (zss w3).drew) ua uc (Dx.ext (zss w3).drew));clear Dw hM hC m3 Dx;go_wp2_with fail;go_region_held3 (λw'=>w'.cell? ⟨X,0,none⟩=some (.pointer (some ⟨S,0,none⟩))/\w'.cell? ⟨S,0,none⟩=some (.pointer (some ⟨d,0,none⟩))/\w'.cell? ⟨M,0,none⟩=some (.int .u64 (g:Int))/\w'.cell? ⟨M,1,none⟩=some (.int .i64 (b:Int))/\w'.cell? ⟨M,2,none⟩=some (.slice ua U uc))
   (first|(with_reducible exact zd)|(with_reducible exact zq)|fail)
   (first
    | (go_at_call 83;((with_reducible refine Er.out.mono ?_);intro e w7 Es;obtain⟨rfl,P7,F7,C7,h7,n7,rfl⟩:=Es;have zq:w7.cell? ⟨X,0,none⟩=some (.pointer (some ⟨S,0,none⟩))/\w7.cell? ⟨S,0,none⟩=some (.pointer (some ⟨d,0,none⟩))/\w7.cell? ⟨M,0,none⟩=some (.int .u64 (g:Int))/\w7.cell? ⟨M,1,none⟩=some (.int .i64 (b:Int))/\w7.cell? ⟨M,2,none⟩=some (.slice ua U uc):=⟨n7.cellK zd.1 Aw.out,n7.cellK zd.2.1 Ag.out,n7.cellK zd.2.2.1 Cm.out,n7.cellK zd.2.2.2.1 Cm.out,n7.cellK zd.2.2.2.2 Cm.out⟩))
    | fail)
  have n07:=(zX.ext HL.out HP.out (Eq.out.trans (zss w3).drew)).trans n7;have H7:=oh h7;have N7:=oh n07;have Cn:=oh (Eo.out w7 P7 F7 n07.env n07.sub h7);obtain⟨a7,c7,Dy⟩:=h7.blk;have x0:=zq.1;have x1:=Dy.d 1 (.pointer (some ⟨c,0,none⟩)) rfl;have B6:Hid (¬ P7 X/\X<w7.heap.size):=oh ⟨n7.not (yN zd.1) Aw.out,yN zq.1⟩;clear n07 n7 h7 Dy zd zq;go_wp2_with fail;refine Cn.out.mono ?_;rintro e w8 ⟨rfl,P8,F8,C8,h8,n8,An,Bc,Bd⟩;have y0:=n8.cellK x0 B6.out.1;obtain⟨a8,c8,Dz⟩:=h8.blk;have y1:=Dz.d 0 (.pointer (some ⟨d,0,none⟩)) rfl;have Et:=oh (zRE n8.env n8.sub h8 An.inv.off An.inv.lit);have HZ:=oh (And.intro (N7.out.trans n8) (Ep.out C8 An Bc Bd));clear x0 x1 h8 n8 An Bc Bd Dz;go_wp2_with fail;refine Et.out.mono ?_;rintro e w9 ⟨rfl,P9,F9,C9,h9,n9,rfl⟩;have H9:=oh (And.intro h9 (HZ.out.1.trans n9));clear h9 n9 y0 y1;go_wp2_with fail;go_ret;exact⟨rfl,P9,F9,_,H9.out.1,H9.out.2,HZ.out.2⟩
end
end
end Go.Proofs.YtalpfcaakpgkmaaGreatDoor
