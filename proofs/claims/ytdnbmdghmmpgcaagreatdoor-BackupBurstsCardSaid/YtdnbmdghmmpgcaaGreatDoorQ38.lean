import Derived.Test.YtdnbmdghmmpgcaaGreatDoorQ37
import Derived.StillTailTactics
import Derived.Deep.RegionHeld3
namespace Go.Proofs.YtdnbmdghmmpgcaaGreatDoor
open Lib renaming hid->oh
set_option maxHeartbeats 4000000
set_option maxRecDepth 100000
open Go.RowKit
attribute [local go_sem ↓] Go.wp_at_zero Go.wp_at_succ
section
variable {F P P' F' P1 F1:Nat->Prop}{ad:Nat->Addr}{w w' w0 w1:World}{base c s gen kb:Nat}{root:Int}{G G':GA}{l l':List Nat}{sv sv':Value}{st st':List jC}{x:jC}
theorem zMT(last:Bool){r:List jC}(h:CuI F P ad w base c s gen kb root G l sv (x :: r))(hx:zJj x.pl)(ht:G.total) :
  Calls Tryz.prog 245 #[.pointer (some ⟨kb,0,none⟩),.bool last] w (CuD F P ad w base c s gen kb root G l sv (zBw G last ((x :: r).map jC.pl))):=by
 have H:=oh h;have HT:=oh ht;have HXT:=oh hx;have hfew:=h.cu.few;have hfr:r.length<=15:=by simp at hfew;omega
 obtain⟨N,hN⟩:∃N,N=16-r.length:=⟨_,rfl⟩;have HN:=oh hN;clear h hx ht hfew hN
 go_enter Tryz.func245, Tryz.ntmps245
 go_wp2_with fail;go_loopg [] N (λm wr=>∃(x1:jC) (r1:List jC),m+r1.length=16/\r1.length<=15/\zJj x1.pl/\Hid (∃(F1 P1:Nat->Prop) (sv1:Value),CuI F1 P1 ad wr base c s gen kb root G l sv1 (x1 :: r1)/\zV (cuQ P kb sv) (cuQ P1 kb sv1) F F1 ad w wr/\zBw G last ((x1 :: r1).map jC.pl)=zBw G last ((x :: r).map jC.pl)))
 case atStart=>exact⟨x,r,by have:=HN.out;omega,hfr,HXT.out,oh ⟨F,P,sv,H.out,zV.refl H.out.env H.out.subQ,rfl⟩⟩
 case round =>
  obtain⟨x1,r1,hk,hr1,hx1,HR⟩:=hrel;have HX1:=oh hx1;obtain⟨F1,P1,sv1,h1,n1,e1⟩:=HR.out;obtain⟨g,cp,rfl,b1,b2,b3,c0,c1,c2,c3,c4⟩:=h1.form;have H1:=oh h1;have N1:=oh n1;have E1:=oh e1;have HTP:=oh (zFD h1.cu.blk rfl (by omega));have HC:=oh (And.intro c0 (And.intro c3 c4));clear hx1 h1 n1 e1 b3 c0 c1 c2 c3 c4;go_wp2_with fail;refine (HTP.out).mono ?_;rintro e w2 ⟨rfl,hm2⟩;have H2:=oh (H1.out.ext hm2);have c0:=zE hm2 HC.out.1;have c3:=zE hm2 HC.out.2.1;have c4:=zE hm2 HC.out.2.2;clear hm2;cases hl:x1.node.leaf with
  | true =>
   rw[hl] at c0;have HZ:Hid (zBw G last ((x :: r).map jC.pl)=.inl ((x1 :: r1).map jC.pl)):=oh (by
    rw[<- E1.out];exact zD3 (by exact hl) (by simp;omega))
   clear hl;go_wp2_with fail;go_ret;exact CuD.good H2.out.1 (N1.out.trans H2.out.2) HZ.out
  | false =>
   rw[hl] at c0;have hok:=HX1.out hl;obtain⟨a,ha⟩:∃a:Nat,x1.at_=(a:Int):=⟨x1.at_.toNat,by have:=hok.1;simp only[jC.pl] at this;omega⟩;have hak:a<x1.node.kids.length:=by have:=hok.2;simp only[jC.pl] at this;omega
   obtain⟨ib,ioff,hia,hic⟩:=(H2.out.1.cu.fr x1 uG).is.elem hak (zA.refl _ _);obtain⟨kid,hkid⟩:∃kid,kid=x1.node.kids[a]:=⟨_,rfl⟩;have d0:=hic 0 (.int .i64 kid) (by rw[hkid];rfl);simp only[Nat.mul_one,uP] at d0;have HZ:Hid (zBw G last ((x :: r).map jC.pl)=match zAP G ((x1 :: r1).map jC.pl) kid with | .inr e=>.inr e | .inl st=>zBw G last (zCo last st)):=oh (by
    rw[<- E1.out];have:=zD2 (G:=G) (last:=last) (n:=x1.node) (a:=x1.at_) (r:=r1.map jC.pl) hl (by simp;omega);have e:x1.node.kids.getD x1.at_.toNat 0=kid:=by rw[ha,hkid];simp[List.getD,hak]
    rw[e] at this;exact this)
   have HPU:=oh (zMR (H2.out.1.ext (zA.refl _ _).drew).1 HT.out kid);have i1:(0:Int)<=(a:Int):=by omega
   have i2:(a:Int)<(x1.node.kids.length:Int):=by omega
   rw[ha] at c4;rw[hia] at c3;clear hl hok hic hkid hak ha;go_wp2_with fail;go_still_tail 12,(by kernel_rfl)
   change wpList _ _ _ _ _ w2.drew
   have HD2:=oh (H2.out.1.ext (zA.refl _ _).drew);clear c0 c3 c4 d0;go_wp2_with fail;refine (HPU.out).mono ?_;rintro e w4 hd;cases hp:zAP G ((x1 :: r1).map jC.pl) kid with
   | inr er =>
    obtain⟨el,ek⟩:=er;rw[hp] at hd HZ;obtain⟨P4,F4,sv4,st4,h4,n4,f,rfl,hE⟩:=hd;have H4:=oh h4;have N4:=oh n4;have HE:=oh hE;clear h4 n4 hE hp;go_wp2_with fail;go_ret;exact CuD.bad H4.out (((N1.out.trans H2.out.2).trans HD2.out.2).trans N4.out) HE.out HZ.out
   | inl sa =>
    rw[hp] at hd HZ;obtain⟨P4,F4,sv4,st4,h4,n4,rfl,hsa⟩:=hd;obtain⟨_,n,hsn,_⟩:=zLo HD2.out.1.cu.ok hp;rw[hsn] at hsa;obtain⟨y,r2,rfl⟩:∃y r2,st4=y :: r2:=by
     cases st4 with
     | nil=>simp at hsa
     | cons y r2=>exact⟨y,r2,rfl⟩
    have HSA:Hid (sa=(y :: r2).map jC.pl):=oh (by rw[hsn];exact hsa.symm);rw[wZ] at hsa;injection hsa with hs1 hs2;have hrl:r2.length=r1.length+1:=by have:=congrArg List.length hs2;simpa using this
    have hr2:r2.length<=15:=by have:=h4.cu.few;simp at this;omega
    have hrl1:r1.length+1<=r2.length:=by omega
    have hrl2:r2.length<=r1.length+1:=by omega
    have H4:=oh h4;have N4:=oh (((N1.out.trans H2.out.2).trans HD2.out.2).trans n4);have HYT:Hid (zJj y.pl):=oh (by rw[hs1];exact (zKa (by have:=h4.cu.ok.1 y.pl (by simp);rw[hs1] at this;exact this.1)).2);clear h4 n4 hs1 hs2 hsn hp hrl;cases last with
    | false =>
     have HZ2:Hid (zBw G false ((y :: r2).map jC.pl)=zBw G false ((x :: r).map jC.pl)):=oh (by rw[HZ.out,HSA.out];rfl);go_wp2_with fail;go_roundg (gk-1)
     case measure=>omega
     case rel=>exact⟨y,r2,by omega,hr2,HYT.out,oh ⟨F4,P4,_,H4.out,N4.out,HZ2.out⟩⟩
    | true =>
     have HZ2:Hid (zBw G true (({ y with at_:=zDb y.node } :: r2:List jC).map jC.pl)=zBw G true ((x :: r).map jC.pl)):=oh (by rw[HZ.out,HSA.out];rfl);obtain⟨g2,cp2,rfl,b4,b5, -, -⟩:=_root_.id H4.out.form;have HT4:=oh (zFD H4.out.cu.blk rfl (by omega));go_wp2_with fail;refine (HT4.out).mono ?_;rintro e w5 ⟨rfl,hm5⟩;have H5:=oh (H4.out.ext hm5);have HT5:=oh (zFD H5.out.1.cu.blk rfl (by omega));clear hm5;go_wp2_with fail;refine (HT5.out).mono ?_;rintro e w6 ⟨rfl,hm6⟩;have H6:=oh (H5.out.1.ext hm6);obtain⟨f6,e0,e1',e2,e3,e4⟩:=H6.out.1.cells;have HEN:=oh (zMQ y.node e0 e1' e3);clear hm6 e0 e1' e2 e3;go_wp2_with fail;refine (HEN.out).mono ?_;rintro e w7 ⟨rfl,rfl⟩;have HRN:Hid (zP y.node=true):=oh (H6.out.1.cu.ok.1 y.pl (by simp)).1;have he7:(zAD y.node:Int)<=65536:=by
      have hf:=zAW HRN.out;unfold zAD;split <;> omega
     have he8:(0:Int)<=(zAD y.node:Int):=by omega
     go_wp2_with fail;have HPT:=oh (H6.out.1.put (zDb y.node) (zLn HRN.out).1);go_roundg (gk-1)
     case measure=>omega
     case rel=>exact⟨{ y with at_:=zDb y.node },r2,by omega,hr2,(zLn HRN.out).2,oh ⟨F4,P4,_,HPT.out.1,((N4.out.trans H5.out.2).trans H6.out.2).trans HPT.out.2,HZ2.out⟩⟩
end
section
variable {F P P' F' P1 F1:Nat->Prop}{ad:Nat->Addr}{w w' w0 w1:World}{base c s gen kb:Nat}{root:Int}{G G':GA}{l l':List Nat}{sv sv':Value}{st st':List jC}{x:jC}
def zEs(st:List jC):Prop:=∀x∈st, -1<=x.at_/\x.at_<=65536
theorem zMU(by_:Int)(hb1 : -1<=by_)(hb2:by_<=1)(h:CuI F P ad w base c s gen kb root G l sv st)(hti:zEs st)(ht:G.total) :
  Calls Tryz.prog 186 #[.pointer (some ⟨kb,0,none⟩),.int .i64 by_] w (CuD F P ad w base c s gen kb root G l sv (qG G by_ (st.map jC.pl))):=by
 have H:=oh h;have HT:=oh ht;have HTI:=oh hti;clear h ht hti
 go_enter Tryz.func186, Tryz.ntmps186
 go_wp2_with fail;go_loopg [] st.length (λm wr=>∃(st1:List jC),st1.length<=m/\m<=st1.length/\Hid (zEs st1/\∃(F1 P1:Nat->Prop) (sv1:Value),CuI F1 P1 ad wr base c s gen kb root G l sv1 st1/\zV (cuQ P kb sv) (cuQ P1 kb sv1) F F1 ad w wr/\qG G by_ (st1.map jC.pl)=qG G by_ (st.map jC.pl)))
 case atStart=>exact⟨st,uK _,uK _,oh ⟨HTI.out,F,P,sv,H.out,zV.refl H.out.env H.out.subQ,rfl⟩⟩
 case round =>
  obtain⟨st1,hk1,hk2,HR⟩:=hrel;cases st1 with
  | nil =>
   obtain⟨-,F1,P1,sv1,h1,n1,e1⟩:=HR.out;obtain⟨a,cp,rfl, -, -⟩:=_root_.id h1.cu.row.form;have k4:=h1.cu.blk.cell (o:=4) (v:=.slice a 0 cp) rfl;have H1:=oh h1;have N1:=oh n1;have E1:=oh e1;clear h1 n1 e1;go_wp2_with fail;go_ret;exact CuD.good H1.out N1.out (by rw[<- E1.out];rfl)
  | cons x1 r1 =>
   obtain⟨hti1,F1,P1,sv1,h1,n1,e1⟩:=HR.out;obtain⟨g,cp,rfl,b1,b2, -, -⟩:=h1.form;have hr1:r1.length<=15:=by have:=h1.cu.few;simp at this;omega
   have k4:=h1.cu.blk.cell (o:=4) (v:=.slice (some ⟨g,0,none⟩) (r1.length+1) cp) rfl;have H1:=oh h1;have N1:=oh n1;have E1:=oh e1;have HTP:=oh (zFD h1.cu.blk rfl (by omega));have a1:=(hti1 x1 uG).1;have a2:=(hti1 x1 uG).2;have HTI1:Hid (zEs r1):=oh (λy hy=>hti1 y (uH _ hy));simp only[uD] at hk1 hk2;clear hti1 h1 n1 e1;go_wp2_with fail;refine (HTP.out).mono ?_;rintro e w2 ⟨rfl,hm2⟩;have H2:=oh (H1.out.ext hm2);obtain⟨f2,c0,c1,c2,c3,c4⟩:=H2.out.1.cells;have hro:=(H2.out.1.cu.ok.1 x1.pl (by simp)).1;have HRN:Hid (zP x1.node=true):=oh hro;have H3:=oh (H2.out.1.put (x1.at_+by_) ⟨hro,by show -2<=x1.at_+by_;omega,by show x1.at_+by_<=65537;omega⟩);obtain⟨W3,hW3⟩:∃W3,w2.setCell ⟨g,r1.length * 5+4,none⟩ (.int .i64 (x1.at_+by_))=W3:=⟨_,rfl⟩;have HW3:=oh hW3;clear hm2 hro c1 c2 hW3 k4;go_wp2_with fail;rw[HW3.out] at H3 ⊢;obtain⟨f3,d0,d1,d2,d3,d4⟩:=H3.out.1.cells;have HEN:Hid (∀q,Calls Tryz.prog 244 #[.pointer (some ⟨g,r1.length * 5,none⟩)] (W3.drewN q) λe w'=>e=.returned (.int .i64 (zAD x1.node:Int))/\w'=W3.drewN q):=oh (λq=>(zMQ x1.node (w:=W3.drewN q) d0 d1 d3).mono (λe w' h=>⟨h.1,h.2.symm⟩));have he7:(zAD x1.node:Int)<=65536:=by
    have hf:=zAW HRN.out;unfold zAD;split <;> omega
   have he8:(0:Int)<=(zAD x1.node:Int):=by omega
   clear f2 c0 c3 c4 f3 d0 d1 d2 d3;by_cases hge:0<=x1.at_+by_
   .have hgd:decide (0<=x1.at_+by_)=true:=uT hge;by_cases hlt:x1.at_+by_<(zAD x1.node:Int)
    .have HZ:Hid (qG G by_ (st.map jC.pl)=zBw G (decide (by_<0)) (({ x1 with at_:=x1.at_+by_ } :: r1:List jC).map jC.pl)):=oh (by
      rw[<- E1.out];show qG G by_ ((x1.node,x1.at_) :: r1.map jC.pl)=_;rw[qG,if_pos ⟨hge,hlt⟩];rfl)
     have HTO:Hid (zJj ({ x1 with at_:=x1.at_+by_ }:jC).pl):=oh (λhl=>by
      have hl':x1.node.leaf=false:=hl;have h2:=hlt;unfold zAD at h2;rw[if_neg (by rw[hl'];simp)] at h2;exact⟨hge,h2⟩)
     have HDN:=oh (λq=>zMT (decide (by_<0)) (H3.out.1.ext ((zA.refl _ W3).drewN q)).1 HTO.out HT.out);go_wp2_with fail;go_quiet ((go_at_call 244;exact Calls.quiet_of_same (HEN.out _)))
     clear d4;go_wp2_with fail;refine (HDN.out _).mono ?_;rintro e w5 hd;obtain⟨v,rfl⟩:=hd.form;have HD5:=oh hd;clear hd;go_wp2_with fail;go_ret;rw[HZ.out];exact HD5.out.pre (((N1.out.trans H2.out.2).trans H3.out.2).trans (H3.out.1.ext ((zA.refl _ W3).drewN _)).2)
    .have hlf:decide (x1.at_+by_<(zAD x1.node:Int))=false:=uX hlt;have HZ:Hid (qG G by_ (r1.map jC.pl)=qG G by_ (st.map jC.pl)):=oh (by
      rw[<- E1.out];show _=qG G by_ ((x1.node,x1.at_) :: r1.map jC.pl);rw[qG,if_neg (by omega)])
     go_wp2_with fail;go_quiet ((go_at_call 244;exact Calls.quiet_of_same (HEN.out _)))
     clear d4;have H4:=oh (H3.out.1.ext ((zA.refl _ W3).drewN nq));go_wp2_with fail;obtain⟨W5,hW5⟩:∃W5,W3.drewN nq=W5:=⟨_,rfl⟩;rw[hW5] at H4 ⊢;have k4:=H4.out.1.cu.blk.cell (o:=4) (v:=.slice (some ⟨g,0,none⟩) (r1.length+1) cp) rfl;have kf:=H4.out.1.cu.blk.frozen;clear hW5;have u1:IntKind.i64.wrap (r1.length:Int)=(r1.length:Int):=IntWalk.i64_in _ (by omega);have u2:(0:Int)<=(r1.length:Int):=by omega
     have u3:(r1.length:Int)<=(cp:Int):=by omega
     have u4:r1.length<=cp:=by omega
     go_still_tail 14,(by kernel_rfl)
     change wpList _ _ _ _ _ W5.drew
     have HD5:=oh (H4.out.1.ext (zA.refl _ W5).drew);clear k4 kf;have k4:=HD5.out.1.cu.blk.cell (o:=4) (v:=.slice (some ⟨g,0,none⟩) (r1.length+1) cp) rfl;have kf:=HD5.out.1.cu.blk.frozen;have HPP:=oh HD5.out.1.pop;clear u1;go_wp2_with fail;go_roundg (gk-1)
     case measure=>omega
     case rel=>exact⟨r1,by omega,by omega,oh ⟨HTI1.out,F1,P1,_,HPP.out.1,((((N1.out.trans H2.out.2).trans H3.out.2).trans H4.out.2).trans HD5.out.2).trans HPP.out.2,HZ.out⟩⟩
   .have hgd:decide (0<=x1.at_+by_)=false:=uX hge;have HZ:Hid (qG G by_ (r1.map jC.pl)=qG G by_ (st.map jC.pl)):=oh (by
     rw[<- E1.out];show _=qG G by_ ((x1.node,x1.at_) :: r1.map jC.pl);rw[qG,if_neg (by omega)])
    go_wp2_with fail;go_quiet (fail)
    clear d4;have H4:=oh (H3.out.1.ext ((zA.refl _ W3).drewN nq));go_wp2_with fail;obtain⟨W5,hW5⟩:∃W5,W3.drewN nq=W5:=⟨_,rfl⟩;rw[hW5] at H4 ⊢;have k4:=H4.out.1.cu.blk.cell (o:=4) (v:=.slice (some ⟨g,0,none⟩) (r1.length+1) cp) rfl;have kf:=H4.out.1.cu.blk.frozen;clear hW5;have u1:IntKind.i64.wrap (r1.length:Int)=(r1.length:Int):=IntWalk.i64_in _ (by omega);have u2:(0:Int)<=(r1.length:Int):=by omega
    have u3:(r1.length:Int)<=(cp:Int):=by omega
    have u4:r1.length<=cp:=by omega
    go_still_tail 14,(by kernel_rfl)
    change wpList _ _ _ _ _ W5.drew
    have HD5:=oh (H4.out.1.ext (zA.refl _ W5).drew);clear k4 kf;have k4:=HD5.out.1.cu.blk.cell (o:=4) (v:=.slice (some ⟨g,0,none⟩) (r1.length+1) cp) rfl;have kf:=HD5.out.1.cu.blk.frozen;have HPP:=oh HD5.out.1.pop;clear u1;go_wp2_with fail;go_roundg (gk-1)
    case measure=>omega
    case rel=>exact⟨r1,by omega,by omega,oh ⟨HTI1.out,F1,P1,_,HPP.out.1,((((N1.out.trans H2.out.2).trans H3.out.2).trans H4.out.2).trans HD5.out.2).trans HPP.out.2,HZ.out⟩⟩
end
section
variable {F P P' F' P1 F1:Nat->Prop}{ad:Nat->Addr}{w w' w0 w1:World}{base c s gen kb:Nat}{root:Int}{G G':GA}{l l':List Nat}{sv sv':Value}{st st':List jC}{x:jC}
theorem zQ8(key:ByteArray)(h:CuI F P ad w base c s gen kb root G l sv st)(ht:G.total) :
  Calls Tryz.prog 184 #[.pointer (some ⟨kb,0,none⟩),.string key] w (CuD F P ad w base c s gen kb root G l sv (zDc G root key)):=by
 have H:=oh h;have HT:=oh ht;obtain⟨pa,pc,rfl, -, -⟩:=_root_.id h.cu.row.form;have k4:=h.cu.blk.cell (o:=4) (v:=.slice pa st.reverse.length pc) rfl;have k3:=h.cu.blk.cell (o:=3) (v:=.int .i64 root) rfl;have kf:=h.cu.blk.frozen;have H1:=oh h.nul;by_cases hr:root=0
 .have hrb:(root == 0)=true:=rI.2 hr;have HV:Hid (zDc G root key=.inl []):=oh (by unfold zDc;rw[if_pos hr]);clear h ht hr
  go_enter Tryz.func184, Tryz.ntmps184
  go_wp2_with fail;go_ret;exact CuD.good H1.out.1 H1.out.2 HV.out
 .have hrb:(root == 0)=false:=uU.2 hr;have HV:Hid (zDc G root key=match jQ G key 17 [] root with
   | .inr e=>.inr e
   | .inl []=>.inl []
   | .inl ((n,a) :: r)=>if a<(n.entries.length:Int) then .inl ((n,a) :: r) else qG G 1 ((n,a-1) :: r)):=oh (by unfold zDc;rw[if_neg hr];rfl)
  clear h ht hr
  go_enter Tryz.func184, Tryz.ntmps184
  go_wp2_with fail;clear k3 k4 kf;go_loopg [5] 17 (λm v5 wr=>∃(st1:List jC) (id1:Int),m+st1.length=17/\v5=.int .i64 id1/\Hid (zEs st1/\∃(F1 P1:Nat->Prop) (sv1:Value),CuI F1 P1 ad wr base c s gen kb root G l sv1 st1/\zV (cuQ P kb (.slice pa st.reverse.length pc)) (cuQ P1 kb sv1) F F1 ad w wr/\jQ G key (17-st1.length) (st1.map jC.pl) id1=jQ G key 17 [] root))
  case atStart=>exact⟨[],root,by simp,rfl,oh ⟨λx hx=>by simp at hx,F,P,_,H1.out.1,H1.out.2,rfl⟩⟩
  case round =>
   obtain⟨st1,id1,hk,rfl,HR⟩:=hrel;obtain⟨-,F1,P1,sv1,h1,n1,e1⟩:=HR.out;have hl1:=h1.cu.few;have H2:=oh h1;have N1:=oh n1;have E1:=oh e1;have HPU:=oh (zMR h1 HT.out id1);have HST:Hid (jQ G key 17 [] root=match zAP G (st1.map jC.pl) id1 with
    | .inr e=>.inr e
    | .inl []=>.inl []
    | .inl ((n,_) :: r)=>if n.leaf=true then .inl ((n,((zBJ n key).1:Int)) :: r) else jQ G key (16-st1.length) ((n,((zBJ n key).1:Int)) :: r) (n.kids.getD (zBJ n key).1 0)):=oh (by
    rw[<- e1];obtain⟨f,hf⟩:∃f,17-st1.length=f+1:=⟨16-st1.length,by omega⟩;have hf2:16-st1.length=f:=by omega
    rw[hf,hf2,jQ];rfl)
   clear h1 n1 e1;go_wp2_with fail;refine (HPU.out).mono ?_;rintro e w4 hd;cases hp:zAP G (st1.map jC.pl) id1 with
   | inr er =>
    obtain⟨el,ek⟩:=er;rw[hp] at hd HST;obtain⟨P4,F4,sv4,st4,h4,n4,f,rfl,hE⟩:=hd;have H4:=oh h4;have N4:=oh n4;have HE:=oh hE;clear h4 n4 hE hp;go_wp2_with fail;go_ret;exact CuD.bad H4.out (N1.out.trans N4.out) HE.out (by rw[HV.out,HST.out])
   | inl sa =>
    rw[hp] at hd;obtain⟨P4,F4,sv4,st4,h4,n4,rfl,hsa⟩:=hd;obtain⟨_,n,hsn,_⟩:=zLo H2.out.cu.ok hp;rw[hsn] at hsa;obtain⟨y,r2,rfl⟩:∃y r2,st4=y :: r2:=by
     cases st4 with
     | nil=>simp at hsa
     | cons y r2=>exact⟨y,r2,rfl⟩
    rw[wZ] at hsa;injection hsa with hs1 hs2;have hyn:y.node=n:=congrArg Prod.fst hs1;have hrl:r2.length=st1.length:=by have:=congrArg List.length hs2;simpa using this
    have hr2:r2.length<=15:=by have:=h4.cu.few;simp at this;omega
    have hrl1:st1.length<=r2.length:=by omega
    have hrl2:r2.length<=st1.length:=by omega
    have HTI2:Hid (zEs r2):=oh (λz hz=>by
     have hz2:z.pl∈st1.map jC.pl:=by rw[<- hs2];exact List.mem_map_of_mem hz
     obtain⟨u,hu,hue⟩:=rY.1 hz2;have:=HR.out.1 u hu;have he:u.at_=z.at_:=congrArg Prod.snd hue;rw[he] at this;exact this)
    have HST2:Hid (jQ G key 17 [] root=if y.node.leaf=true then .inl ((y.node,((zBJ y.node key).1:Int)) :: r2.map jC.pl) else jQ G key (16-r2.length) ((y.node,((zBJ y.node key).1:Int)) :: r2.map jC.pl) (y.node.kids.getD (zBJ y.node key).1 0)):=oh (by
     rw[HST.out,hp,hsn,hyn,hs2,hrl])
    have H4:=oh h4;have N4:=oh (N1.out.trans n4);have HRN:Hid (zP y.node=true):=oh (h4.cu.ok.1 y.pl (by simp)).1;clear h4 n4 hsn hp hs1 hs2 hyn hrl HST HR;obtain⟨g,cp,rfl,b4,b5, -, -⟩:=_root_.id H4.out.form;have HT4:=oh (zFD H4.out.cu.blk rfl (by omega));go_wp2_with fail;refine (HT4.out).mono ?_;rintro e w5 ⟨rfl,hm5⟩;have H5:=oh (H4.out.ext hm5);obtain⟨f5,c0,c1,c2,c3,c4⟩:=H5.out.1.cells;have hfr:=H5.out.1.cu.fr y uG;have HFN:=oh (zCn y.node key (.slice y.ea y.node.entries.length y.ec) (.slice y.ka y.node.keys.length y.kc) (.slice y.ia y.node.kids.length y.ic) hfr.es hfr.ks);clear hm5 hfr f5 c4;go_wp2_with fail;refine (HFN.out).mono ?_;rintro e w6 ⟨rfl,hm6⟩;have H6:=oh (H5.out.1.ext hm6);clear c0 c1 c2 c3 hm6;obtain⟨f6, -, -, -, -,c4⟩:=H6.out.1.cells;obtain⟨a,ha⟩:∃a,a=(zBJ y.node key).1:=⟨_,rfl⟩;rw[<- ha] at HST2 ⊢;have hal:=zQi HRN.out key;rw[<- ha] at hal;obtain⟨ha1,ha2,ha3⟩:=hal;have H7:=oh (H6.out.1.put (a:Int) ⟨HRN.out,by show (-2:Int)<=(a:Int);omega,by show (a:Int)<=65537;omega⟩);obtain⟨W7,hW7⟩:∃W7,w6.setCell ⟨g,r2.length * 5+4,none⟩ (.int .i64 (a:Int))=W7:=⟨_,rfl⟩;have N7:=oh (((N4.out.trans H5.out.2).trans H6.out.2).trans H7.out.2);have HA:=oh ha;clear ha;rw[hW7] at H7 N7;have HW7:=oh hW7;obtain⟨f6b,c0,c1,c2,c3, -⟩:=H6.out.1.cells;obtain⟨f7,d0,d1, -,d3,d4⟩:=H7.out.1.cells;have HTA:Hid (zEs ({ y with at_:=(a:Int) } :: r2:List jC)):=oh (λz hz=>by
     rcases uO.1 hz with rfl|hz
     .exact⟨by show (-1:Int)<=(a:Int);omega,by show (a:Int)<=65536;omega⟩
     .exact HTI2.out z hz)
    cases hlf:y.node.leaf with
    | true =>
     have hae:=ha2 hlf;rw[hlf] at d0 c0;have HSD:Hid (jQ G key 17 [] root=.inl ((y.node,(a:Int)) :: r2.map jC.pl)):=oh (by rw[HST2.out,if_pos hlf]);have hle:y.node.entries.length<=65535:=(zAW HRN.out).1;have HTQ:=oh (zON H7.out.1.cu.blk rfl (by omega));have HT8:=oh (λq=>zFD (H7.out.1.ext ((zA.refl _ W7).drewN q)).1.cu.blk rfl (by omega));clear ha2 ha3 hW7 hlf f7 d0 d3 f6b c1 c2 c3;go_wp2_with fail;rw[HW7.out];by_cases hlt:a<y.node.entries.length
     .have hlti:(a:Int)<(y.node.entries.length:Int):=by omega
      have hltd:decide (a<y.node.entries.length)=true:=uT hlt;have HZ:Hid (zDc G root key=.inl (({ y with at_:=(a:Int) } :: r2:List jC).map jC.pl)):=oh (by rw[HV.out,HSD.out];exact if_pos hlti);go_quiet ((go_at_call 185;exact HTQ.out _))
      go_wp2_with fail;go_ret;have H8:=H7.out.1.ext ((zA.refl _ W7).drewN nq);exact CuD.good H8.1 (N7.out.trans H8.2) HZ.out
     .have hlti:¬ (a:Int)<(y.node.entries.length:Int):=by omega
      have hltd:decide (a<y.node.entries.length)=false:=uX hlt;have HZ:Hid (zDc G root key=qG G 1 (({ y with at_:=(a:Int)-1 } :: r2:List jC).map jC.pl)):=oh (by rw[HV.out,HSD.out];exact if_neg hlti);go_quiet ((go_at_call 185;exact HTQ.out _))
      clear d1 d4;have H8:=oh (H7.out.1.ext ((zA.refl _ W7).drewN nq));go_wp2_with fail;refine (HT8.out _).mono ?_;rintro e w9 ⟨rfl,hm9⟩;have H9:=oh (H8.out.1.ext hm9);obtain⟨f9, -, -, -, -,c9⟩:=H9.out.1.cells;have H10:=oh (H9.out.1.put ((a:Int)-1) ⟨HRN.out,by show (-2:Int)<=(a:Int)-1;omega,by show (a:Int)-1<=65537;omega⟩);have HMV:=oh (zMU 1 (by omega) (by omega) H10.out.1 (λz hz=>by
       rcases uO.1 hz with rfl|hz
       .exact⟨by show (-1:Int)<=(a:Int)-1;omega,by show (a:Int)-1<=65536;omega⟩
       .exact HTI2.out z hz) HT.out)
      clear hm9;go_wp2_with fail;refine (HMV.out).mono ?_;rintro e w11 hd;obtain⟨v,rfl⟩:=hd.form;have HD11:=oh hd;clear hd f9 c9;go_wp2_with fail;go_ret;rw[HZ.out];exact HD11.out.pre (((N7.out.trans H8.out.2).trans H9.out.2).trans H10.out.2)
    | false =>
     have hak:=ha3 hlf;rw[hlf] at d0 c0;obtain⟨ib,ioff,hia,hic⟩:=(H7.out.1.cu.fr { y with at_:=(a:Int) } uG).is.elem (k:=a) hak (zA.refl _ _);obtain⟨kid,hkid⟩:∃kid,kid=y.node.kids[a]:=⟨_,rfl⟩;have e0:=hic 0 (.int .i64 kid) (by rw[hkid];rfl);simp only[Nat.mul_one,uP] at e0;have HSD:Hid (jQ G key (17-({ y with at_:=(a:Int) } :: r2:List jC).length) (({ y with at_:=(a:Int) } :: r2:List jC).map jC.pl) kid=jQ G key 17 [] root):=oh (by
      rw[HST2.out,if_neg (by rw[hlf];simp)];have e1:y.node.kids.getD a 0=kid:=by rw[hkid];simp[List.getD,hak]
      have e2:17-({ y with at_:=(a:Int) } :: r2:List jC).length=16-r2.length:=by rw[uD];omega
      rw[e1,e2];rfl)
     have i1:(0:Int)<=(a:Int):=by omega
     have i2:(a:Int)<(y.node.kids.length:Int):=by omega
     rw[show ({ y with at_:=(a:Int) }:jC).ia=y.ia from rfl] at hia;rw[show ({ y with at_:=(a:Int) }:jC).ia=y.ia from rfl,hia] at d3;clear ha2 ha3 hW7 hlf f7 d0 d1 f6b c1 c2 c3 hic hkid hak hia;go_wp2_with fail;rw[HW7.out];go_quiet (fail)
     clear d3 d4 e0;have H8:=oh (H7.out.1.ext ((zA.refl _ W7).drewN nq));go_wp2_with fail;go_roundg (gk-1)
     case measure=>omega
     case rel=>exact⟨{ y with at_:=(a:Int) } :: r2,kid,by rw[uD];omega,rfl,oh ⟨HTA.out,F4,P4,_,H8.out.1,N7.out.trans H8.out.2,HSD.out⟩⟩
end
section
variable {F P P' F' P1 F1:Nat->Prop}{ad:Nat->Addr}{w w' w0 w1:World}{base c s gen kb:Nat}{root:Int}{G G':GA}{l l':List Nat}{sv sv':Value}{st st':List jC}{x:jC}
def CuF(F P:Nat->Prop)(ad:Nat->Addr)(w:World)(base c s gen kb:Nat)(root:Int)(G:GA)(l:List Nat)(sv:Value)(r:StC ⊕ Err)(e:Ending)(w':World):Prop :=
 ∃(P' F':Nat->Prop) (sv':Value) (st':List jC),CuI F' P' ad w' base c s gen kb root G l sv' st'/\zV (cuQ P kb sv) (cuQ P' kb sv') F F' ad w w' /\
  match r with
  | .inl sa=>e=.returned .nilIface/\st'.map jC.pl=sa
  | .inr (el,ek)=>st'=[]/\∃f,e=.returned (zJ f)/\yY F' ad w' (zJ f) (-1 :: el) ek
theorem zMV(op:ByteArray)(w:World) : Calls Tryz.prog 183 #[.pointer (some ⟨kb,0,none⟩),.string op,.nilIface] w λe w'=>e=.returned .nilIface/\w=w':=by
 go_enter Tryz.func183, Tryz.ntmps183
 go_wp2_with fail;refine (wrap_nil op w).mono ?_;rintro e w1 ⟨rfl,rfl⟩;go_wp2_with fail;go_ret;exact⟨rfl,rfl⟩
theorem zIc(op:ByteArray)(h:CuI F P ad w base c s gen kb root G l sv st){f:Nat}{el:List Int}{ek:Nat}(hE:yY F ad w (zJ f) el ek) :
  Calls Tryz.prog 183 #[.pointer (some ⟨kb,0,none⟩),.string op,zJ f] w λe w'=>∃f',CuI F P ad w' base c s gen kb root G l (.slice none 0 0) []/\zV (cuQ P kb sv) (cuQ P kb (.slice none 0 0)) F F ad w w'/\e=.returned (zJ f')/\yY F ad w' (zJ f') (-1 :: el) ek:=by
 have H:=oh h;obtain⟨pa,pc,rfl, -, -⟩:=_root_.id h.cu.row.form;have k4:=h.cu.blk.cell (o:=4) (v:=.slice pa st.reverse.length pc) rfl;have kf:=h.cu.blk.frozen;have H1:=oh h.nul;have hE1:=hE.mods (zA.setCell (F:=F) (p:=⟨kb,4,none⟩) (zA.refl _ w) (.inr (h.cu.nP kb (.inl rfl)).1) (.slice none 0 0));have HW:=oh (wrap_any H1.out.1.env op _ _ _ hE1);clear h hE hE1
 go_enter Tryz.func183, Tryz.ntmps183
 go_wp2_with fail;refine (HW.out).mono ?_;rintro e w2 ⟨f2,rfl,hE2,hm2⟩;have HE2:=oh hE2;have H2:=oh (H1.out.1.ext hm2);clear hE2 hm2;go_wp2_with fail;go_ret;exact⟨f2,H2.out.1,H1.out.2.trans H2.out.2,rfl,HE2.out⟩
theorem zQ9(h:CuI F P ad w base c s gen kb root G l sv st)(hti:zEs st)(ht:G.total) :
  Calls Tryz.prog 128 #[.pointer (some ⟨kb,0,none⟩)] w (CuF F P ad w base c s gen kb root G l sv (qG G 1 (st.map jC.pl))):=by
 have HC:=oh (zMU 1 (by omega) (by omega) h hti ht);clear h ht hti
 go_enter Tryz.func128, Tryz.ntmps128
 go_wp2_with fail;refine (HC.out).mono ?_;rintro e w1 hd;cases hr:qG G 1 (st.map jC.pl) with
 | inl sa =>
  rw[hr] at hd;obtain⟨P1,F1,sv1,st1,h1,n1,rfl,hsa⟩:=hd;have H1:=oh h1;have N1:=oh n1;have HS:=oh hsa;have HR:=oh hr;clear h1 n1 hsa hr;go_wp2_with fail;refine (zMV _ _).mono ?_;rintro e w2 ⟨rfl,rfl⟩;go_wp2_with fail;go_ret;refine⟨P1,F1,sv1,st1,H1.out,N1.out,?_⟩;rw[HR.out];exact⟨rfl,HS.out⟩
 | inr er =>
  obtain⟨el,ek⟩:=er;rw[hr] at hd;obtain⟨P1,F1,sv1,st1,h1,n1,f,rfl,hE⟩:=hd;have HF:=oh (λop=>zIc op h1 hE);have N1:=oh n1;have HR:=oh hr;clear h1 n1 hE hr;go_wp2_with fail;refine (HF.out _).mono ?_;rintro e w2 ⟨f2,h2,n2,rfl,hE2⟩;have H2:=oh h2;have N2:=oh (N1.out.trans n2);have HE2:=oh hE2;clear h2 n2 hE2;go_wp2_with fail;go_ret;refine⟨P1,F1,_,[],H2.out,N2.out,?_⟩;rw[HR.out];exact⟨rfl,f2,rfl,HE2.out⟩
def zBy(s:ByteArray):Bool:=decide (s=⟨#[]⟩) || qS s
theorem zGq(s:ByteArray)(w:World) : Calls Tryz.prog 182 #[.string s] w λe w'=>e=.returned (.bool (zBy s))/\w=w':=by
 have HK:=oh (zAt s w);by_cases h:s=⟨#[]⟩
 .subst h;have HB:Hid (zBy ⟨#[]⟩=true):=oh rfl
  go_enter Tryz.func182, Tryz.ntmps182
  go_wp2_with fail;go_ret;rw[HB.out];exact⟨rfl,rfl⟩
 .have HB:Hid (zBy s=qS s):=oh (by unfold zBy;rw[uX h];rfl);have h1:s.toList≠[]:=λe=>h (toList_inj (by rw[e];simp[ByteArray.toList_eq]))
  have h2:s.toList.isEmpty=false:=by
   cases hs:s.toList with
   | nil=>exact absurd hs h1
   | cons _ _=>rfl
  have h3:(s.toList == [])=false:=uU.2 h1;clear h
  go_enter Tryz.func182, Tryz.ntmps182
  go_wp2_with fail;refine (HK.out).mono ?_;rintro e w1 ⟨rfl,rfl⟩;go_wp2_with fail;go_ret;rw[HB.out];exact⟨rfl,rfl⟩
end
def zId(G:GA)(root:Int)(key:ByteArray):StC ⊕ Err:=if zBy key=true then zDc G root key else .inr ([-1],2)
section
variable {F P P' F' P1 F1:Nat->Prop}{ad:Nat->Addr}{w w' w0 w1:World}{base c s gen kb:Nat}{root:Int}{G G':GA}{l l':List Nat}{sv sv':Value}{st st':List jC}{x:jC}
theorem zPd(key:ByteArray)(h:CuI F P ad w base c s gen kb root G l sv st)(ht:G.total) :
  Calls Tryz.prog 125 #[.pointer (some ⟨kb,0,none⟩),.string key] w (CuF F P ad w base c s gen kb root G l sv (zId G root key)):=by
 have HB:=oh (zGq key w);cases hb:zBy key with
 | true =>
  have HC:=oh (zQ8 key h ht);have HV:Hid (zId G root key=zDc G root key):=oh (by unfold zId;rw[if_pos hb]);rw[hb] at HB;clear h ht hb
  go_enter Tryz.func125, Tryz.ntmps125
  go_wp2_with fail;refine (HB.out).mono ?_;rintro e w1 ⟨rfl,rfl⟩;go_wp2_with fail;refine (HC.out).mono ?_;rintro e w1 hd;cases hr:zDc G root key with
  | inl sa =>
   rw[hr] at hd;obtain⟨P1,F1,sv1,st1,h1,n1,rfl,hsa⟩:=hd;have H1:=oh h1;have N1:=oh n1;have HS:=oh hsa;have HR:=oh hr;clear h1 n1 hsa hr;go_wp2_with fail;refine (zMV _ _).mono ?_;rintro e w2 ⟨rfl,rfl⟩;go_wp2_with fail;go_ret;refine⟨P1,F1,sv1,st1,H1.out,N1.out,?_⟩;rw[HV.out,HR.out];exact⟨rfl,HS.out⟩
  | inr er =>
   obtain⟨el,ek⟩:=er;rw[hr] at hd;obtain⟨P1,F1,sv1,st1,h1,n1,f,rfl,hE⟩:=hd;have HF:=oh (λop=>zIc op h1 hE);have N1:=oh n1;have HR:=oh hr;clear h1 n1 hE hr;go_wp2_with fail;refine (HF.out _).mono ?_;rintro e w2 ⟨f2,h2,n2,rfl,hE2⟩;have H2:=oh h2;have N2:=oh (N1.out.trans n2);have HE2:=oh hE2;clear h2 n2 hE2;go_wp2_with fail;go_ret;refine⟨P1,F1,_,[],H2.out,N2.out,?_⟩;rw[HV.out,HR.out];exact⟨rfl,f2,rfl,HE2.out⟩
 | false =>
  have HV:Hid (zId G root key=.inr ([-1],2)):=oh (by unfold zId;rw[if_neg (by rw[hb];simp)]);have c2:=h.env.c2;have H:=oh h;rw[hb] at HB;clear h ht hb
  go_enter Tryz.func125, Tryz.ntmps125
  go_wp2_with fail;refine (HB.out).mono ?_;rintro e w1 ⟨rfl,rfl⟩;go_wp2_with fail;refine (yW H.out.env _ _ [] 2 (.sent 2 (by decide) (by decide))).mono ?_;rintro e w1 ⟨f,rfl,hE,hm⟩;have H1:=oh (H.out.ext hm);have HF:=oh (λop=>zIc op H1.out.1 hE);clear hE hm c2;go_wp2_with fail;refine (HF.out _).mono ?_;rintro e w2 ⟨f2,h2,n2,rfl,hE2⟩;have H2:=oh h2;have N2:=oh (H1.out.2.trans n2);have HE2:=oh hE2;clear h2 n2 hE2;go_wp2_with fail;go_ret;refine⟨P,F,_,[],H2.out,N2.out,?_⟩;rw[HV.out];exact⟨rfl,f2,rfl,HE2.out⟩
theorem zNd(h:CuI F P ad w base c s gen kb root G l sv st) :
  Calls Tryz.prog 126 #[.pointer (some ⟨kb,0,none⟩)] w λe w'=>e=.returned (.bool (!st.isEmpty))/\w=w':=by
 obtain⟨pa,pc,rfl, -, -⟩:=_root_.id h.cu.row.form;have hrl:st.reverse.length=st.length:=rT;rw[hrl] at h;have k4:=h.cu.blk.cell (o:=4) (v:=.slice pa st.length pc) rfl;clear h hrl;cases st with
 | nil =>
  simp only[uF] at k4
  go_enter Tryz.func126, Tryz.ntmps126
  go_wp2_with fail;go_ret;exact⟨rfl,rfl⟩
 | cons x r =>
  simp only[uD] at k4
  go_enter Tryz.func126, Tryz.ntmps126
  go_wp2_with fail;go_ret;exact⟨rfl,rfl⟩
theorem zSd{r:List jC}{a:Nat}{e:zQ}(h:CuI F P ad w base c s gen kb root G l sv (x :: r))(ha:x.at_=(a:Int))(he:x.node.entries[a]? = some e) :
  Calls Tryz.prog 127 #[.pointer (some ⟨kb,0,none⟩)] w λen w'=>en=.returned (.string e.key)/\∃q,w'=w.drewN q:=by
 have HO:=oh (zNd h);simp only[List.isEmpty_cons,Bool.not_false] at HO;obtain⟨g,cp,rfl,b1,b2,b3, -,c1, -, -,c4⟩:=h.form;have hr:r.length<=15:=by have:=h.cu.few;simp at this;omega
 have HTQ:=oh (zON h.cu.blk rfl (by omega));obtain⟨hal,hae⟩:=uC.1 he;obtain⟨eb,eoff,hea,hec⟩:=(h.cu.fr x uG).es.elem hal (zA.refl _ _);have d0:=hec 0 (.string e.key) (by rw[hae];rfl);simp only[uP] at d0;rw[hea] at c1;rw[ha] at c4;have i1:(0:Int)<=(a:Int):=by omega
 have i2:(a:Int)<(x.node.entries.length:Int):=by omega
 clear h hec hea ha hae he b3
 go_enter Tryz.func127, Tryz.ntmps127
 go_wp2_with fail;refine (HO.out).mono ?_;rintro e w1 ⟨rfl,rfl⟩;go_wp2_with fail;go_quiet ((go_at_call 185;exact HTQ.out _))
 go_wp2_with fail;go_ret;exact⟨rfl,_,rfl⟩
end
section
variable {F P P' F' P1 F1:Nat->Prop}{ad:Nat->Addr}{w w' w0 w1:World}{base c s gen kb:Nat}{root:Int}{G G':GA}{l l':List Nat}{sv sv':Value}{st st':List jC}{x:jC}
theorem zRA{r:List jC}{a:Nat}{e:zQ}{v:ByteArray}(h:CuI F P ad w base c s gen kb root G l sv (x :: r))(ha:x.at_=(a:Int))(he:x.node.entries[a]? = some e)(hv:zDy G e=.inl v)(hvo:zGH G e)(hid : -9223372036854775808<=e.chain/\e.chain<=9223372036854775807) :
  Calls Tryz.prog 129 #[.pointer (some ⟨kb,0,none⟩)] w λen w'=>en=.returned (.tuple #[.string v,.nilIface])/\∃P' F',CuI F' P' ad w' base c s gen kb root G l sv (x :: r)/\zV (cuQ P kb sv) (cuQ P' kb sv) F F' ad w w':=by
 have HO:=oh (zNd h);simp only[List.isEmpty_cons,Bool.not_false] at HO;obtain⟨g,cp,rfl,b1,b2,b3, -,c1, -, -,c4⟩:=h.form;have hr:r.length<=15:=by have:=h.cu.few;simp at this;omega
 have HTQ:=oh (zON h.cu.blk rfl (by omega));have HT1:=oh (zON h.cu.blk rfl (by omega) 1);obtain⟨hal,hae⟩:=uC.1 he;obtain⟨eb,eoff,hea,hebF,hec⟩:=(h.cu.fr x uG).es.elemF hal;have d0:=hec 0 (.string e.key) (by rw[hae];rfl);have d1:=hec 1 (.string e.value) (by rw[hae];rfl);have d2:=hec 2 (.int .i64 e.chain) (by rw[hae];rfl);have d3:=hec 3 (.int .i64 e.size) (by rw[hae];rfl);simp only[uP] at d0;rw[hea] at c1;rw[ha] at c4;have p0:=h.cu.blk.cell (o:=0) (v:=.pointer (some ⟨c,0,none⟩)) rfl;have p1:=h.cu.blk.cell (o:=1) (v:=.pointer (some ⟨s,0,none⟩)) rfl;have p2:=h.cu.blk.cell (o:=2) (v:=.int .u64 (gen:Int)) rfl;have i1:(0:Int)<=(a:Int):=by omega
 have i2:(a:Int)<(x.node.entries.length:Int):=by omega
 have HNP:Hid (¬ P kb/\¬ P g/\¬ P eb):=oh ⟨(h.cu.nP kb (.inl rfl)).2,(h.cu.nP g (.inr rfl)).2,λhp=>hebF (h.sub _ hp)⟩;have HVC:Hid (∀q:Nat,_):=oh (λq=>zPa (h.env.mods ((zA.refl _ w).drewN q).ext) h.sub (h.pg.at ((zA.refl _ w).drewN q)) gen e hid hvo);rw[hv] at HVC;unfold pgV at HVC;have HVC1:=oh (HVC.out 1);have HD:Hid (∀q,(w.drewN q).cell? ⟨kb,0,none⟩=some (.pointer (some ⟨c,0,none⟩))/\(w.drewN q).cell? ⟨kb,1,none⟩=some (.pointer (some ⟨s,0,none⟩))/\(w.drewN q).cell? ⟨kb,2,none⟩=some (.int .u64 (gen:Int))/\(w.drewN q).cell? ⟨g,r.length * 5+1,none⟩=some (.slice (some ⟨eb,eoff,none⟩) x.node.entries.length x.ec)/\(w.drewN q).cell? ⟨g,r.length * 5+4,none⟩=some (.int .i64 (a:Int)) /\
   (w.drewN q).cell? ⟨eb,eoff+a * 4,none⟩=some (.string e.key)/\(w.drewN q).cell? ⟨eb,eoff+a * 4+1,none⟩=some (.string e.value)/\(w.drewN q).cell? ⟨eb,eoff+a * 4+2,none⟩=some (.int .i64 e.chain)/\(w.drewN q).cell? ⟨eb,eoff+a * 4+3,none⟩=some (.int .i64 e.size)) :=
  oh (λq=>⟨zE ((zA.refl _ w).drewN q) p0,zE ((zA.refl _ w).drewN q) p1,zE ((zA.refl _ w).drewN q) p2,zE ((zA.refl _ w).drewN q) c1,zE ((zA.refl _ w).drewN q) c4,zE ((zA.refl _ w).drewN q) d0,zE ((zA.refl _ w).drewN q) d1,zE ((zA.refl _ w).drewN q) d2,zE ((zA.refl _ w).drewN q) d3⟩)
 have H:=oh h;clear h hec hea ha hae he b3 hv hvo hid hebF
 go_enter Tryz.func129, Tryz.ntmps129
 go_wp2_with fail;refine (HO.out).mono ?_;rintro en w1 ⟨rfl,rfl⟩;go_wp2_with fail;go_region_held3 (λw'=>w'.cell? ⟨kb,0,none⟩=some (.pointer (some ⟨c,0,none⟩))/\w'.cell? ⟨kb,1,none⟩=some (.pointer (some ⟨s,0,none⟩))/\w'.cell? ⟨kb,2,none⟩=some (.int .u64 (gen:Int))/\w'.cell? ⟨g,r.length * 5+1,none⟩=some (.slice (some ⟨eb,eoff,none⟩) x.node.entries.length x.ec)/\w'.cell? ⟨g,r.length * 5+4,none⟩=some (.int .i64 (a:Int)) /\
   w'.cell? ⟨eb,eoff+a * 4,none⟩=some (.string e.key)/\w'.cell? ⟨eb,eoff+a * 4+1,none⟩=some (.string e.value)/\w'.cell? ⟨eb,eoff+a * 4+2,none⟩=some (.int .i64 e.chain)/\w'.cell? ⟨eb,eoff+a * 4+3,none⟩=some (.int .i64 e.size))
  (first|(with_reducible exact⟨p0,p1,p2,c1,c4,d0,d1,d2,d3⟩)|(with_reducible exact⟨y0,y1,y2,y3,y4,z0,z1,z2,z3⟩)|(with_reducible exact HD.out _)|go_keep)
  (first
   | (go_at_call 185;(first|(with_reducible refine (HTQ.out _).mono ?_)|(refine (HT1.out).mono ?_));rintro en w2 ⟨rfl,k2,rfl⟩)
   | (go_at_call 187;(first|(with_reducible refine (HVC.out _).mono ?_)|(refine (HVC1.out).mono ?_));rintro en w4 ⟨P4,F4,hG4,hN4,rfl⟩;obtain⟨y0,y1,y2,y3,y4,z0,z1,z2,z3⟩:=HD.out k2;replace y0:=zDa hN4.stp.mods y0 HNP.out.1;replace y1:=zDa hN4.stp.mods y1 HNP.out.1;replace y2:=zDa hN4.stp.mods y2 HNP.out.1;replace y3:=zDa hN4.stp.mods y3 HNP.out.2.1;replace y4:=zDa hN4.stp.mods y4 HNP.out.2.1;replace z0:=zDa hN4.stp.mods z0 HNP.out.2.2;replace z1:=zDa hN4.stp.mods z1 HNP.out.2.2;replace z2:=zDa hN4.stp.mods z2 HNP.out.2.2;replace z3:=zDa hN4.stp.mods z3 HNP.out.2.2)
   | fail)
 all_goals
  have HP:=oh ((H.out.ext ((zA.refl _ w).drewN _)).1.pag hN4 hG4);have HN:=oh ((H.out.ext ((zA.refl _ w).drewN _)).2.trans HP.out.2);clear hN4 hG4 p0 p1 p2 c1 c4 d0 d1 d2 d3;go_wp2_with fail;refine (wrap_nil _ _).mono ?_;rintro en w5 ⟨rfl,rfl⟩;go_wp2_with fail;refine bodyPost_ret (v:=.tuple #[.string v,.nilIface]) (by simp[results,Tryz.results129,go_sem]) rfl ?_;exact⟨rfl,P4,F4,HP.out.1,HN.out⟩
theorem zV.shrink{Q P2:Nat->Prop}(n:zV P Q F F' ad w w')(h:∀k,P2 k->Q k):zV P P2 F F' ad w w' :=
 ⟨⟨n.stp.mods,λk hk hp=>n.stp.old k hk (h k hp),λk hp=>n.stp.bd k (h k hp)⟩,λk hp=>n.sub k (h k hp),n.grow,n.oldF,n.env⟩
theorem CuI.start(hL:yG F ad w)(hP:∀k,P k->F k)(h:vH F w P c s G l)(gen:Nat)(root:Int) :
  CuI (λk=>F k\/k=w.heap.size) P ad (w.alloc (.cells #[.pointer (some ⟨c,0,none⟩),.pointer (some ⟨s,0,none⟩),.int .u64 (gen:Int),.int .i64 root,.slice none 0 0] 295)) w.heap.size c s gen w.heap.size root G l (.slice none 0 0) [] /\
  zV P (cuQ P w.heap.size (.slice none 0 0)) F (λk=>F k\/k=w.heap.size) ad w (w.alloc (.cells #[.pointer (some ⟨c,0,none⟩),.pointer (some ⟨s,0,none⟩),.int .u64 (gen:Int),.int .i64 root,.slice none 0 0] 295)):=by
 have m:zG w (w.alloc (.cells #[.pointer (some ⟨c,0,none⟩),.pointer (some ⟨s,0,none⟩),.int .u64 (gen:Int),.int .i64 root,.slice none 0 0] 295)):=(zA.refl _ w).alloc _;have hb:=zK.new w #[.pointer (some ⟨c,0,none⟩),.pointer (some ⟨s,0,none⟩),.int .u64 (gen:Int),.int .i64 root,.slice none 0 0] 295;have hnew:∀k,k<w.heap.size->¬ F k->¬ (F k\/k=w.heap.size):=λk hk hn hf=>by rcases hf with hf|hf;exact hn hf;omega
 have hE:yG (λk=>F k\/k=w.heap.size) ad (w.alloc (.cells #[.pointer (some ⟨c,0,none⟩),.pointer (some ⟨s,0,none⟩),.int .u64 (gen:Int),.int .i64 root,.slice none 0 0] 295)) :=
  hL.step m.ext hnew (λk hk=>by rcases hk with hk|hk;exact uI (hL.lt k hk) m.size;exact hk ▸ hb.lt)
 have hB:∀k,CuB w.heap.size (.slice none 0 0) k->k=w.heap.size:=λk hk=>by
  rcases hk with hk|hk
  .exact hk
  .simp[Value.ownBlock] at hk
 have hI:CuI (λk=>F k\/k=w.heap.size) P ad (w.alloc (.cells #[.pointer (some ⟨c,0,none⟩),.pointer (some ⟨s,0,none⟩),.int .u64 (gen:Int),.int .i64 root,.slice none 0 0] 295)) w.heap.size c s gen w.heap.size root G l (.slice none 0 0) [] :=
  ⟨hE,λk hk=>.inl (hP k hk),h.plus m (λ_ _ f=>f) (λk f=>f.elim) hnew,⟨hb,yA.nil _ _ _ _ _ _,λx hx=>by simp at hx,λk hk=>⟨.inr (hB k hk),λhp=>by have:=hL.lt k (hP k hp);have:=hB k hk;omega⟩,⟨λx hx=>by simp at hx,by simp⟩⟩,m.size⟩
 refine⟨hI,⟨⟨m.ext,?_,hI.bd⟩,hI.subQ,λk hk=>.inl hk,λk hk hf=>by rcases hf with hf|hf;exact hf;omega,hE⟩⟩;rintro k hk (hp|hp)
 .exact hp
 .have:=hB k hp;omega
end
section
variable {F P P' F' P1 F1:Nat->Prop}{ad:Nat->Addr}{w w' w0 w1:World}{base c s gen kb:Nat}{root:Int}{G G':GA}{l l':List Nat}{sv sv':Value}{st st':List jC}{x:jC}
def zSe(F P:Nat->Prop)(ad:Nat->Addr)(w:World)(c s gen:Nat)(root:Int)(G:GA)(l:List Nat)(e:Ending)(w':World):Prop :=
 ∃kb base F',e=.returned (.tuple #[.pointer (some ⟨kb,0,none⟩),.nilIface])/\CuI F' P ad w' base c s gen kb root G l (.slice none 0 0) []/\zV P (cuQ P kb (.slice none 0 0)) F F' ad w w'
theorem zRs(hL:yG F ad w)(hP:∀k,P k->F k)(h:vH F w P c s G l)(gen:Nat)(root:Int) :
  Calls Tryz.prog 181 #[pgV c s gen,.int .i64 root] w (zSe F P ad w c s gen root G l):=by
 have m0:zG w (w.alloc (gP c s gen)):=(zA.refl _ w).alloc _;have HN0:=oh (zV.ext hL hP m0);have HS:=oh (CuI.start HN0.out.env hP (h.at m0) gen root);clear hL hP h m0;unfold pgV
 go_enter Tryz.func181, Tryz.ntmps181
 go_wp2_with fail;refine bodyPost_ret (v:=.tuple #[.pointer (some ⟨w.heap.size+1,0,none⟩),.nilIface]) (by simp[results,Tryz.results181,go_sem]) rfl ?_;have hz:(w.alloc (gP c s gen)).heap.size=w.heap.size+1:=by simp
 have h1:=HS.out.1;have h2:=HN0.out.trans HS.out.2;rw[hz] at h1 h2;exact⟨_,_,_,rfl,h1,h2⟩
end
section
variable {F P P' F' P1 F1:Nat->Prop}{ad:Nat->Addr}{w w' w0 w1:World}{base c s gen kb:Nat}{root:Int}{G G':GA}{l l':List Nat}{sv sv':Value}{st st':List jC}{x:jC}
def zGr(a b:ByteArray)(most:Int):Bool:=zBy a && zBy b && decide (0<=most) && decide (most<=65535)
def zS7(F P:Nat->Prop)(ad:Nat->Addr)(w:World)(c s gen:Nat)(root:Int)(G:GA)(l:List Nat)(ok:Bool)(e:Ending)(w':World):Prop :=
 (ok=true/\zSe F P ad w c s gen root G l e w')\/(ok=false/\∃b F',e=.returned (.tuple #[.pointer none,zJ b])/\vH F' w' P c s G l/\zV P P F F' ad w w'/\yY F' ad w' (zJ b) [-1] 2)
theorem zRB(hL:yG F ad w)(hP:∀k,P k->F k)(h:vH F w P c s G l)(gen:Nat)(root:Int)(op from_ to_:ByteArray)(most:Int) :
  Calls Tryz.prog 124 #[.string op,pgV c s gen,.int .i64 root,.string from_,.string to_,.int .i64 most] w (zS7 F P ad w c s gen root G l (zGr from_ to_ most)):=by
 have m0:zG w (w.alloc (gP c s gen)):=(zA.refl _ w).alloc _;have HN0:=oh (zV.ext hL hP m0);have HNW:=oh (zRs HN0.out.env hP (h.at m0) gen root);have HB1:=oh (zGq from_);have HB2:=oh (zGq to_);clear hL hP h m0;unfold pgV at HNW ⊢
 go_enter Tryz.func124, Tryz.ntmps124
 go_wp2_with fail;refine (HNW.out).mono ?_;rintro e w1 ⟨kb,base,F1,rfl,h1,n1⟩;have H1:=oh h1;have N1:=oh (HN0.out.trans n1);have c2:=h1.env.c2;clear h1 n1;obtain⟨q1,hq1⟩:∃q,zBy from_=q:=⟨_,rfl⟩;obtain⟨q2,hq2⟩:∃q,zBy to_=q:=⟨_,rfl⟩;obtain⟨q3,hq3⟩:∃q,decide (most<0)=q:=⟨_,rfl⟩;obtain⟨q4,hq4⟩:∃q,decide (most > 65535)=q:=⟨_,rfl⟩;rw[hq1] at HB1;rw[hq2] at HB2;have HA:Hid (zGr from_ to_ most=(q1 && q2 && !q3 && !q4)):=oh (by
  unfold zGr;rw[hq1,hq2,<- hq3,<- hq4];congr 1
  .congr 1
   by_cases h:most<0
   .rw[uT h,uX (by omega)];rfl
   .rw[uX h,uT (by omega)];rfl
  .by_cases h:most > 65535
   .rw[uT h,uX (by omega)];rfl
   .rw[uX h,uT (by omega)];rfl)
 clear hq1 hq2;cases q1 with
 | false =>
  have HV:Hid (zGr from_ to_ most=false):=oh (by rw[HA.out];rfl);go_wp2_with fail;refine (HB1.out _).mono ?_;rintro e w2 ⟨rfl,rfl⟩;go_wp2_with fail;refine (yW H1.out.env _ _ [] 2 (.sent 2 (by decide) (by decide))).mono ?_;rintro e w2 ⟨b,rfl,hE,hm⟩;have HE:=oh hE;have H2:=oh (H1.out.ext hm);clear hE hm;go_wp2_with fail;refine bodyPost_ret (v:=.tuple #[.pointer none,zJ b]) (by simp[results,Tryz.results124,go_sem]) rfl ?_;rw[HV.out];exact .inr ⟨rfl,b,F1,rfl,H2.out.1.pg,(N1.out.trans H2.out.2).shrink (λk hk=>.inl hk),HE.out⟩
 | true =>
  cases q2 with
  | false =>
   have HV:Hid (zGr from_ to_ most=false):=oh (by rw[HA.out];rfl);go_wp2_with fail;refine (HB1.out _).mono ?_;rintro e w2 ⟨rfl,rfl⟩;go_wp2_with fail;refine (HB2.out _).mono ?_;rintro e w2 ⟨rfl,rfl⟩;go_wp2_with fail;refine (yW H1.out.env _ _ [] 2 (.sent 2 (by decide) (by decide))).mono ?_;rintro e w2 ⟨b,rfl,hE,hm⟩;have HE:=oh hE;have H2:=oh (H1.out.ext hm);clear hE hm;go_wp2_with fail;refine bodyPost_ret (v:=.tuple #[.pointer none,zJ b]) (by simp[results,Tryz.results124,go_sem]) rfl ?_;rw[HV.out];exact .inr ⟨rfl,b,F1,rfl,H2.out.1.pg,(N1.out.trans H2.out.2).shrink (λk hk=>.inl hk),HE.out⟩
  | true =>
   cases q3 with
   | true =>
    have HV:Hid (zGr from_ to_ most=false):=oh (by rw[HA.out];rfl);have h3:=rQ hq3;clear hq3 hq4;go_wp2_with fail;refine (HB1.out _).mono ?_;rintro e w2 ⟨rfl,rfl⟩;go_wp2_with fail;refine (HB2.out _).mono ?_;rintro e w2 ⟨rfl,rfl⟩;go_wp2_with fail;refine (yW H1.out.env _ _ [] 2 (.sent 2 (by decide) (by decide))).mono ?_;rintro e w2 ⟨b,rfl,hE,hm⟩;have HE:=oh hE;have H2:=oh (H1.out.ext hm);clear hE hm;go_wp2_with fail;refine bodyPost_ret (v:=.tuple #[.pointer none,zJ b]) (by simp[results,Tryz.results124,go_sem]) rfl ?_;rw[HV.out];exact .inr ⟨rfl,b,F1,rfl,H2.out.1.pg,(N1.out.trans H2.out.2).shrink (λk hk=>.inl hk),HE.out⟩
   | false =>
    have h3:=of_decide_eq_false hq3;cases q4 with
    | true =>
     have HV:Hid (zGr from_ to_ most=false):=oh (by rw[HA.out];rfl);have h4:=rQ hq4;clear hq3 hq4;go_wp2_with fail;refine (HB1.out _).mono ?_;rintro e w2 ⟨rfl,rfl⟩;go_wp2_with fail;refine (HB2.out _).mono ?_;rintro e w2 ⟨rfl,rfl⟩;go_wp2_with fail;refine (yW H1.out.env _ _ [] 2 (.sent 2 (by decide) (by decide))).mono ?_;rintro e w2 ⟨b,rfl,hE,hm⟩;have HE:=oh hE;have H2:=oh (H1.out.ext hm);clear hE hm;go_wp2_with fail;refine bodyPost_ret (v:=.tuple #[.pointer none,zJ b]) (by simp[results,Tryz.results124,go_sem]) rfl ?_;rw[HV.out];exact .inr ⟨rfl,b,F1,rfl,H2.out.1.pg,(N1.out.trans H2.out.2).shrink (λk hk=>.inl hk),HE.out⟩
    | false =>
     have HV:Hid (zGr from_ to_ most=true):=oh (by rw[HA.out];rfl);have h4:=of_decide_eq_false hq4;clear hq3 hq4;go_wp2_with fail;refine (HB1.out _).mono ?_;rintro e w2 ⟨rfl,rfl⟩;go_wp2_with fail;refine (HB2.out _).mono ?_;rintro e w2 ⟨rfl,rfl⟩;go_wp2_with fail;refine bodyPost_ret (v:=.tuple #[.pointer (some ⟨kb,0,none⟩),.nilIface]) (by simp[results,Tryz.results124,go_sem]) rfl ?_;rw[HV.out];exact .inl ⟨rfl,kb,base,F1,rfl,H1.out,N1.out⟩
end
end Go.Proofs.YtdnbmdghmmpgcaaGreatDoor
