import Derived.Test.YtgphfebjjedeaaaGreatDoorV36
import Derived.StillTailTactics
import Derived.Deep.RegionHeld3
namespace Go.Proofs.YtgphfebjjedeaaaGreatDoor
open Lib renaming hid->oh
set_option maxHeartbeats 4000000
set_option maxRecDepth 100000
open Go.RowKit
attribute [local go_sem ↓] Go.wp_at_zero Go.wp_at_succ
section
variable {F P P' F' P1 F1:NP}{ad:Nat->Addr}{w w' w0 w1:World}{base c s gen kb:Nat}{root:Int}{G G':GA}{l l':List Nat}{sv sv':Value}{st st':List jC}{x:jC}
theorem zMT(last:Bool){r:List jC}(h:CuI F P ad w base c s gen kb root G l sv (x :: r))(hx:zJh x.pl)(ht:G.total) :
  Calls Tryz.prog 294 #[.pointer (some ⟨kb,0,none⟩),.bool last] w (CuD F P ad w base c s gen kb root G l sv (zB1 G last ((x :: r).map jC.pl))):=by
 have H:=oh h;have HT:=oh ht;have C5:=oh hx;have Aq:=h.cu.few;have Ar:r.length<=15:=by simp at Aq;omega
 obtain⟨N,hN⟩:∃N,N=16-r.length:=⟨_,rfl⟩;have HN:=oh hN;clear h hx ht Aq hN
 go_enter Tryz.func294, Tryz.ntmps294
 go_wp2_with fail;go_loopg [] N (λm wr=>∃(x1:jC) (r1:List jC),m+r1.length=16/\r1.length<=15/\zJh x1.pl/\Hid (∃(F1 P1:NP) (sv1:Value),CuI F1 P1 ad wr base c s gen kb root G l sv1 (x1 :: r1)/\zU (cuQ P kb sv) (cuQ P1 kb sv1) F F1 ad w wr/\zB1 G last ((x1 :: r1).map jC.pl)=zB1 G last ((x :: r).map jC.pl)))
 case atStart=>exact⟨x,r,by have:=HN.out;omega,Ar,C5.out,oh ⟨F,P,sv,H.out,zU.refl H.out.env H.out.subQ,rfl⟩⟩
 case round =>
  obtain⟨x1,r1,hk,C6,Bt,HR⟩:=hrel;have C7:=oh Bt;obtain⟨F1,P1,sv1,h1,n1,e1⟩:=HR.out;obtain⟨g,cp,rfl,b1,b2,b3,c0,c1,c2,c3,c4⟩:=h1.form;have H1:=oh h1;have N1:=oh n1;have E1:=oh e1;have Bc:=oh (zE2 h1.cu.blk rfl (by omega));have HC:=oh (And.intro c0 (And.intro c3 c4));clear Bt h1 n1 e1 b3 c0 c1 c2 c3 c4;go_wp2_with fail;refine (Bc.out).mono ?_;rintro e w2 ⟨rfl,A2⟩;have H2:=oh (H1.out.ext A2);have c0:=zD A2 HC.out.1;have c3:=zD A2 HC.out.2.1;have c4:=zD A2 HC.out.2.2;clear A2;cases hl:x1.node.leaf with
  | true =>
   rw[hl] at c0;have HZ:Hid (zB1 G last ((x :: r).map jC.pl)=.inl ((x1 :: r1).map jC.pl)):=oh (by
    rw[<- E1.out];exact zD1 (by exact hl) (by simp;omega))
   clear hl;go_wp2_with fail;go_ret;exact CuD.good H2.out.1 (N1.out.trans H2.out.2) HZ.out
  | false =>
   rw[hl] at c0;have Bd:=C7.out hl;obtain⟨a,ha⟩:∃a:Nat,x1.at_=(a:Int):=⟨x1.at_.toNat,by have:=Bd.1;simp only[jC.pl] at this;omega⟩;have Ac:a<x1.node.kids.length:=by have:=Bd.2;simp only[jC.pl] at this;omega
   obtain⟨ib,ioff,As,At⟩:=(H2.out.1.cu.fr x1 uH).is.elem Ac zr;obtain⟨kid,A1⟩:∃kid,kid=x1.node.kids[a]:=⟨_,rfl⟩;have d0:=At 0 (.int .i64 kid) (by rw[A1];rfl);simp only[uY,uO] at d0;have HZ:Hid (zB1 G last ((x :: r).map jC.pl)=match zAS G ((x1 :: r1).map jC.pl) kid with | .inr e=>.inr e | .inl st=>zB1 G last (zCs last st)):=oh (by
    rw[<- E1.out];have:=zD0 (G:=G) (last:=last) (n:=x1.node) (a:=x1.at_) (r:=r1.map jC.pl) hl (by simp;omega);have e:x1.node.kids.getD x1.at_.toNat 0=kid:=by rw[ha,A1];simp[List.getD,Ac]
    rw[e] at this;exact this)
   have Be:=oh (zMQ (H2.out.1.ext zr.drew).1 HT.out kid);have i1:(0:Int)<=(a:Int):=by omega
   have i2:(a:Int)<(x1.node.kids.length:Int):=by omega
   rw[ha] at c4;rw[As] at c3;clear hl Bd At A1 Ac ha;go_wp2_with fail;go_still_tail 12,(by kernel_rfl)
   change wpList _ _ _ _ _ w2.drew
   have Bf:=oh (H2.out.1.ext zr.drew);clear c0 c3 c4 d0;go_wp2_with fail;refine (Be.out).mono ?_;rintro e w4 hd;cases hp:zAS G ((x1 :: r1).map jC.pl) kid with
   | inr er =>
    obtain⟨el,ek⟩:=er;rw[hp] at hd HZ;obtain⟨P4,F4,sv4,st4,h4,n4,f,rfl,hE⟩:=hd;have H4:=oh h4;have N4:=oh n4;have HE:=oh hE;clear h4 n4 hE hp;go_wp2_with fail;go_ret;exact CuD.bad H4.out (((N1.out.trans H2.out.2).trans Bf.out.2).trans N4.out) HE.out HZ.out
   | inl sa =>
    rw[hp] at hd HZ;obtain⟨P4,F4,sv4,st4,h4,n4,rfl,A0⟩:=hd;obtain⟨_,n,Ad,_⟩:=zLj Bf.out.1.cu.ok hp;rw[Ad] at A0;obtain⟨y,r2,rfl⟩:∃y r2,st4=y :: r2:=by
     cases st4 with
     | nil=>simp at A0
     | cons y r2=>exact⟨y,r2,rfl⟩
    have Bu:Hid (sa=(y :: r2).map jC.pl):=oh (by rw[Ad];exact A0.symm);rw[wO] at A0;injection A0 with Aj Ae;have Af:r2.length=r1.length+1:=by have:=congrArg List.length Ae;simpa using this
    have Bg:r2.length<=15:=by have:=h4.cu.few;simp at this;omega
    have Bh:r1.length+1<=r2.length:=by omega
    have Bi:r2.length<=r1.length+1:=by omega
    have H4:=oh h4;have N4:=oh (((N1.out.trans H2.out.2).trans Bf.out.2).trans n4);have C8:Hid (zJh y.pl):=oh (by rw[Aj];exact (zKb (by have:=h4.cu.ok.1 y.pl (by simp);rw[Aj] at this;exact this.1)).2);clear h4 n4 Aj Ae Ad hp Af;cases last with
    | false =>
     have Bj:Hid (zB1 G false ((y :: r2).map jC.pl)=zB1 G false ((x :: r).map jC.pl)):=oh (by rw[HZ.out,Bu.out];rfl);go_wp2_with fail;go_roundg (gk-1)
     case measure=>omega
     case rel=>exact⟨y,r2,by omega,Bg,C8.out,oh ⟨F4,P4,_,H4.out,N4.out,Bj.out⟩⟩
    | true =>
     have Bj:Hid (zB1 G true (({ y with at_:=zDa y.node } :: r2:List jC).map jC.pl)=zB1 G true ((x :: r).map jC.pl)):=oh (by rw[HZ.out,Bu.out];rfl);obtain⟨g2,cp2,rfl,b4,b5, -, -⟩:=_root_.id H4.out.form;have Bk:=oh (zE2 H4.out.cu.blk rfl (by omega));go_wp2_with fail;refine (Bk.out).mono ?_;rintro e w5 ⟨rfl,Au⟩;have H5:=oh (H4.out.ext Au);have C9:=oh (zE2 H5.out.1.cu.blk rfl (by omega));clear Au;go_wp2_with fail;refine (C9.out).mono ?_;rintro e w6 ⟨rfl,Av⟩;have H6:=oh (H5.out.1.ext Av);obtain⟨f6,e0,e1',e2,e3,e4⟩:=H6.out.1.cells;have B6:=oh (zMP y.node e0 e1' e3);clear Av e0 e1' e2 e3;go_wp2_with fail;refine (B6.out).mono ?_;rintro e w7 ⟨rfl,rfl⟩;have A6:Hid (zQ y.node=true):=oh (H6.out.1.cu.ok.1 y.pl (by simp)).1;have Ca:(zAD y.node:Int)<=65536:=by
      have hf:=zAZ A6.out;unfold zAD;split <;> omega
     have Cb:(0:Int)<=(zAD y.node:Int):=by omega
     go_wp2_with fail;have Bv:=oh (H6.out.1.put (zDa y.node) (zLi A6.out).1);go_roundg (gk-1)
     case measure=>omega
     case rel=>exact⟨{ y with at_:=zDa y.node },r2,by omega,Bg,(zLi A6.out).2,oh ⟨F4,P4,_,Bv.out.1,((N4.out.trans H5.out.2).trans H6.out.2).trans Bv.out.2,Bj.out⟩⟩
def zEm(st:List jC):Prop:=∀x∈st, -1<=x.at_/\x.at_<=65536
theorem zMU(by_:Int)(Cs : -1<=by_)(Ct:by_<=1)(h:CuI F P ad w base c s gen kb root G l sv st)(Aw:zEm st)(ht:G.total) :
  Calls Tryz.prog 207 #[.pointer (some ⟨kb,0,none⟩),.int .i64 by_] w (CuD F P ad w base c s gen kb root G l sv (qI G by_ (st.map jC.pl))):=by
 have H:=oh h;have HT:=oh ht;have Cc:=oh Aw;clear h ht Aw
 go_enter Tryz.func207, Tryz.ntmps207
 go_wp2_with fail;go_loopg [] st.length (λm wr=>∃(st1:List jC),st1.length<=m/\m<=st1.length/\Hid (zEm st1/\∃(F1 P1:NP) (sv1:Value),CuI F1 P1 ad wr base c s gen kb root G l sv1 st1/\zU (cuQ P kb sv) (cuQ P1 kb sv1) F F1 ad w wr/\qI G by_ (st1.map jC.pl)=qI G by_ (st.map jC.pl)))
 case atStart=>exact⟨st,uJ _,uJ _,oh ⟨Cc.out,F,P,sv,H.out,zU.refl H.out.env H.out.subQ,rfl⟩⟩
 case round =>
  obtain⟨st1,Cd,Ce,HR⟩:=hrel;cases st1 with
  | nil =>
   obtain⟨-,F1,P1,sv1,h1,n1,e1⟩:=HR.out;obtain⟨a,cp,rfl, -, -⟩:=_root_.id h1.cu.row.form;have k4:=h1.cu.blk.d 4 (.slice a 0 cp) rfl;have H1:=oh h1;have N1:=oh n1;have E1:=oh e1;clear h1 n1 e1;go_wp2_with fail;go_ret;exact CuD.good H1.out N1.out (by rw[<- E1.out];rfl)
  | cons x1 r1 =>
   obtain⟨A7,F1,P1,sv1,h1,n1,e1⟩:=HR.out;obtain⟨g,cp,rfl,b1,b2, -, -⟩:=h1.form;have C6:r1.length<=15:=by have:=h1.cu.few;simp at this;omega
   have k4:=h1.cu.blk.d 4 (.slice (some ⟨g,0,none⟩) (r1.length+1) cp) rfl;have H1:=oh h1;have N1:=oh n1;have E1:=oh e1;have Bc:=oh (zE2 h1.cu.blk rfl (by omega));have a1:=(A7 x1 uH).1;have a2:=(A7 x1 uH).2;have Ax:Hid (zEm r1):=oh (λy hy=>A7 y (uI _ hy));simp only[uD] at Cd Ce;clear A7 h1 n1 e1;go_wp2_with fail;refine (Bc.out).mono ?_;rintro e w2 ⟨rfl,A2⟩;have H2:=oh (H1.out.ext A2);obtain⟨f2,c0,c1,c2,c3,c4⟩:=H2.out.1.cells;have Bl:=(H2.out.1.cu.ok.1 x1.pl (by simp)).1;have A6:Hid (zQ x1.node=true):=oh Bl;have H3:=oh (H2.out.1.put (x1.at_+by_) ⟨Bl,by show -2<=x1.at_+by_;omega,by show x1.at_+by_<=65537;omega⟩);obtain⟨W3,Bw⟩:∃W3,w2.setCell ⟨g,r1.length * 5+4,none⟩ (.int .i64 (x1.at_+by_))=W3:=⟨_,rfl⟩;have Cf:=oh Bw;clear A2 Bl c1 c2 Bw k4;go_wp2_with fail;rw[Cf.out] at H3 ⊢;obtain⟨f3,d0,d1,d2,d3,d4⟩:=H3.out.1.cells;have B6:Hid (∀q,Calls Tryz.prog 293 #[.pointer (some ⟨g,r1.length * 5,none⟩)] (W3.drewN q) λe w'=>e=.returned (.int .i64 (zAD x1.node:Int))/\w'=W3.drewN q):=oh (λq=>(zMP x1.node (w:=W3.drewN q) d0 d1 d3).mono (λe w' h=>⟨h.1,h.2.symm⟩));have Ca:(zAD x1.node:Int)<=65536:=by
    have hf:=zAZ A6.out;unfold zAD;split <;> omega
   have Cb:(0:Int)<=(zAD x1.node:Int):=by omega
   clear f2 c0 c3 c4 f3 d0 d1 d2 d3;by_cases B7:0<=x1.at_+by_
   .have Cg:decide (0<=x1.at_+by_)=true:=uU B7;by_cases Ak:x1.at_+by_<(zAD x1.node:Int)
    .have HZ:Hid (qI G by_ (st.map jC.pl)=zB1 G (decide (by_<0)) (({ x1 with at_:=x1.at_+by_ } :: r1:List jC).map jC.pl)):=oh (by
      rw[<- E1.out];show qI G by_ ((x1.node,x1.at_) :: r1.map jC.pl)=_;rw[qI,if_pos ⟨B7,Ak⟩];rfl)
     have Ch:Hid (zJh ({ x1 with at_:=x1.at_+by_ }:jC).pl):=oh (λhl=>by
      have hl':x1.node.leaf=false:=hl;have h2:=Ak;unfold zAD at h2;rw[if_neg (by rw[hl'];simp)] at h2;exact⟨B7,h2⟩)
     have Ci:=oh (λq=>zMT (decide (by_<0)) (H3.out.1.ext ((zss W3).drewN q)).1 Ch.out HT.out);go_wp2_with fail;go_quiet ((go_at_call 293;exact Calls.quiet_of_same (B6.out _)))
     clear d4;go_wp2_with fail;refine (Ci.out _).mono ?_;rintro e w5 hd;obtain⟨v,rfl⟩:=hd.form;have A3:=oh hd;clear hd;go_wp2_with fail;go_ret;rw[HZ.out];exact A3.out.pre (((N1.out.trans H2.out.2).trans H3.out.2).trans (H3.out.1.ext ((zss W3).drewN _)).2)
    .have A8:decide (x1.at_+by_<(zAD x1.node:Int))=false:=uX Ak;have HZ:Hid (qI G by_ (r1.map jC.pl)=qI G by_ (st.map jC.pl)):=oh (by
      rw[<- E1.out];show _=qI G by_ ((x1.node,x1.at_) :: r1.map jC.pl);rw[qI,if_neg (by omega)])
     go_wp2_with fail;go_quiet ((go_at_call 293;exact Calls.quiet_of_same (B6.out _)))
     clear d4;have H4:=oh (H3.out.1.ext ((zss W3).drewN nq));go_wp2_with fail;obtain⟨W5,Ay⟩:∃W5,W3.drewN nq=W5:=⟨_,rfl⟩;rw[Ay] at H4 ⊢;have k4:=H4.out.1.cu.blk.d 4 (.slice (some ⟨g,0,none⟩) (r1.length+1) cp) rfl;have kf:=H4.out.1.cu.blk.frozen;clear Ay;have u1:IntKind.i64.wrap (r1.length:Int)=(r1.length:Int):=IntWalk.i64_in _ (by omega);have u2:(0:Int)<=(r1.length:Int):=by omega
     have u3:(r1.length:Int)<=(cp:Int):=by omega
     have u4:r1.length<=cp:=by omega
     go_still_tail 14,(by kernel_rfl)
     change wpList _ _ _ _ _ W5.drew
     have A3:=oh (H4.out.1.ext (zss W5).drew);clear k4 kf;have k4:=A3.out.1.cu.blk.d 4 (.slice (some ⟨g,0,none⟩) (r1.length+1) cp) rfl;have kf:=A3.out.1.cu.blk.frozen;have Az:=oh A3.out.1.pop;clear u1;go_wp2_with fail;go_roundg (gk-1)
     case measure=>omega
     case rel=>exact⟨r1,by omega,by omega,oh ⟨Ax.out,F1,P1,_,Az.out.1,((((N1.out.trans H2.out.2).trans H3.out.2).trans H4.out.2).trans A3.out.2).trans Az.out.2,HZ.out⟩⟩
   .have Cg:decide (0<=x1.at_+by_)=false:=uX B7;have HZ:Hid (qI G by_ (r1.map jC.pl)=qI G by_ (st.map jC.pl)):=oh (by
     rw[<- E1.out];show _=qI G by_ ((x1.node,x1.at_) :: r1.map jC.pl);rw[qI,if_neg (by omega)])
    go_wp2_with fail;go_quiet (fail)
    clear d4;have H4:=oh (H3.out.1.ext ((zss W3).drewN nq));go_wp2_with fail;obtain⟨W5,Ay⟩:∃W5,W3.drewN nq=W5:=⟨_,rfl⟩;rw[Ay] at H4 ⊢;have k4:=H4.out.1.cu.blk.d 4 (.slice (some ⟨g,0,none⟩) (r1.length+1) cp) rfl;have kf:=H4.out.1.cu.blk.frozen;clear Ay;have u1:IntKind.i64.wrap (r1.length:Int)=(r1.length:Int):=IntWalk.i64_in _ (by omega);have u2:(0:Int)<=(r1.length:Int):=by omega
    have u3:(r1.length:Int)<=(cp:Int):=by omega
    have u4:r1.length<=cp:=by omega
    go_still_tail 14,(by kernel_rfl)
    change wpList _ _ _ _ _ W5.drew
    have A3:=oh (H4.out.1.ext (zss W5).drew);clear k4 kf;have k4:=A3.out.1.cu.blk.d 4 (.slice (some ⟨g,0,none⟩) (r1.length+1) cp) rfl;have kf:=A3.out.1.cu.blk.frozen;have Az:=oh A3.out.1.pop;clear u1;go_wp2_with fail;go_roundg (gk-1)
    case measure=>omega
    case rel=>exact⟨r1,by omega,by omega,oh ⟨Ax.out,F1,P1,_,Az.out.1,((((N1.out.trans H2.out.2).trans H3.out.2).trans H4.out.2).trans A3.out.2).trans Az.out.2,HZ.out⟩⟩
theorem zRS(key:ByteArray)(h:CuI F P ad w base c s gen kb root G l sv st)(ht:G.total) :
  Calls Tryz.prog 205 #[.pointer (some ⟨kb,0,none⟩),.string key] w (CuD F P ad w base c s gen kb root G l sv (zDb G root key)):=by
 have H:=oh h;have HT:=oh ht;obtain⟨pa,pc,rfl, -, -⟩:=_root_.id h.cu.row.form;have k4:=h.cu.blk.d 4 (.slice pa st.reverse.length pc) rfl;have k3:=h.cu.blk.d 3 (.int .i64 root) rfl;have kf:=h.cu.blk.frozen;have H1:=oh h.nul;by_cases hr:root=0
 .have Cj:(root == 0)=true:=rC.2 hr;have HV:Hid (zDb G root key=.inl []):=oh (by unfold zDb;rw[if_pos hr]);clear h ht hr
  go_enter Tryz.func205, Tryz.ntmps205
  go_wp2_with fail;go_ret;exact CuD.good H1.out.1 H1.out.2 HV.out
 .have Cj:(root == 0)=false:=uS.2 hr;have HV:Hid (zDb G root key=match jQ G key 17 [] root with
   | .inr e=>.inr e
   | .inl []=>.inl []
   | .inl ((n,a) :: r)=>if a<(n.entries.length:Int) then .inl ((n,a) :: r) else qI G 1 ((n,a-1) :: r)):=oh (by unfold zDb;rw[if_neg hr];rfl)
  clear h ht hr
  go_enter Tryz.func205, Tryz.ntmps205
  go_wp2_with fail;clear k3 k4 kf;go_loopg [5] 17 (λm v5 wr=>∃(st1:List jC) (id1:Int),m+st1.length=17/\v5=.int .i64 id1/\Hid (zEm st1/\∃(F1 P1:NP) (sv1:Value),CuI F1 P1 ad wr base c s gen kb root G l sv1 st1/\zU (cuQ P kb (.slice pa st.reverse.length pc)) (cuQ P1 kb sv1) F F1 ad w wr/\jQ G key (17-st1.length) (st1.map jC.pl) id1=jQ G key 17 [] root))
  case atStart=>exact⟨[],root,by simp,rfl,oh ⟨λx hx=>by simp at hx,F,P,_,H1.out.1,H1.out.2,rfl⟩⟩
  case round =>
   obtain⟨st1,id1,hk,rfl,HR⟩:=hrel;obtain⟨-,F1,P1,sv1,h1,n1,e1⟩:=HR.out;have Cu:=h1.cu.few;have H2:=oh h1;have N1:=oh n1;have E1:=oh e1;have Be:=oh (zMQ h1 HT.out id1);have B8:Hid (jQ G key 17 [] root=match zAS G (st1.map jC.pl) id1 with
    | .inr e=>.inr e
    | .inl []=>.inl []
    | .inl ((n,_) :: r)=>if n.leaf=true then .inl ((n,((zBI n key).1:Int)) :: r) else jQ G key (16-st1.length) ((n,((zBI n key).1:Int)) :: r) (n.kids.getD (zBI n key).1 0)):=oh (by
    rw[<- e1];obtain⟨f,hf⟩:∃f,17-st1.length=f+1:=⟨16-st1.length,by omega⟩;have Ck:16-st1.length=f:=by omega
    rw[hf,Ck,jQ];rfl)
   clear h1 n1 e1;go_wp2_with fail;refine (Be.out).mono ?_;rintro e w4 hd;cases hp:zAS G (st1.map jC.pl) id1 with
   | inr er =>
    obtain⟨el,ek⟩:=er;rw[hp] at hd B8;obtain⟨P4,F4,sv4,st4,h4,n4,f,rfl,hE⟩:=hd;have H4:=oh h4;have N4:=oh n4;have HE:=oh hE;clear h4 n4 hE hp;go_wp2_with fail;go_ret;exact CuD.bad H4.out (N1.out.trans N4.out) HE.out (by rw[HV.out,B8.out])
   | inl sa =>
    rw[hp] at hd;obtain⟨P4,F4,sv4,st4,h4,n4,rfl,A0⟩:=hd;obtain⟨_,n,Ad,_⟩:=zLj H2.out.cu.ok hp;rw[Ad] at A0;obtain⟨y,r2,rfl⟩:∃y r2,st4=y :: r2:=by
     cases st4 with
     | nil=>simp at A0
     | cons y r2=>exact⟨y,r2,rfl⟩
    rw[wO] at A0;injection A0 with Aj Ae;have Bx:y.node=n:=congrArg Prod.fst Aj;have Af:r2.length=st1.length:=by have:=congrArg List.length Ae;simpa using this
    have Bg:r2.length<=15:=by have:=h4.cu.few;simp at this;omega
    have Bh:st1.length<=r2.length:=by omega
    have Bi:r2.length<=st1.length:=by omega
    have B0:Hid (zEm r2):=oh (λz hz=>by
     have Cl:z.pl∈st1.map jC.pl:=by rw[<- Ae];exact List.mem_map_of_mem hz
     obtain⟨u,hu,Cm⟩:=rK.1 Cl;have:=HR.out.1 u hu;have he:u.at_=z.at_:=congrArg Prod.snd Cm;rw[he] at this;exact this)
    have Ag:Hid (jQ G key 17 [] root=if y.node.leaf=true then .inl ((y.node,((zBI y.node key).1:Int)) :: r2.map jC.pl) else jQ G key (16-r2.length) ((y.node,((zBI y.node key).1:Int)) :: r2.map jC.pl) (y.node.kids.getD (zBI y.node key).1 0)):=oh (by
     rw[B8.out,hp,Ad,Bx,Ae,Af])
    have H4:=oh h4;have N4:=oh (N1.out.trans n4);have A6:Hid (zQ y.node=true):=oh (h4.cu.ok.1 y.pl (by simp)).1;clear h4 n4 Ad hp Aj Ae Bx Af B8 HR;obtain⟨g,cp,rfl,b4,b5, -, -⟩:=_root_.id H4.out.form;have Bk:=oh (zE2 H4.out.cu.blk rfl (by omega));go_wp2_with fail;refine (Bk.out).mono ?_;rintro e w5 ⟨rfl,Au⟩;have H5:=oh (H4.out.ext Au);obtain⟨f5,c0,c1,c2,c3,c4⟩:=H5.out.1.cells;have Ar:=H5.out.1.cu.fr y uH;have Cn:=oh (zCr y.node key (.slice y.ea y.node.entries.length y.ec) (.slice y.ka y.node.keys.length y.kc) (.slice y.ia y.node.kids.length y.ic) Ar.es Ar.ks);clear Au Ar f5 c4;go_wp2_with fail;refine (Cn.out).mono ?_;rintro e w6 ⟨rfl,Av⟩;have H6:=oh (H5.out.1.ext Av);clear c0 c1 c2 c3 Av;obtain⟨f6, -, -, -, -,c4⟩:=H6.out.1.cells;obtain⟨a,ha⟩:∃a,a=(zBI y.node key).1:=⟨_,rfl⟩;rw[<- ha] at Ag ⊢;have Al:=zQw A6.out key;rw[<- ha] at Al;obtain⟨Cv,Bm,Bn⟩:=Al;have H7:=oh (H6.out.1.put (a:Int) ⟨A6.out,by show (-2:Int)<=(a:Int);omega,by show (a:Int)<=65537;omega⟩);obtain⟨W7,B9⟩:∃W7,w6.setCell ⟨g,r2.length * 5+4,none⟩ (.int .i64 (a:Int))=W7:=⟨_,rfl⟩;have N7:=oh (((N4.out.trans H5.out.2).trans H6.out.2).trans H7.out.2);have HA:=oh ha;clear ha;rw[B9] at H7 N7;have By:=oh B9;obtain⟨f6b,c0,c1,c2,c3, -⟩:=H6.out.1.cells;obtain⟨f7,d0,d1, -,d3,d4⟩:=H7.out.1.cells;have Co:Hid (zEm ({ y with at_:=(a:Int) } :: r2:List jC)):=oh (λz hz=>by
     rcases uP.1 hz with rfl|hz
     .exact⟨by show (-1:Int)<=(a:Int);omega,by show (a:Int)<=65536;omega⟩
     .exact B0.out z hz)
    cases A8:y.node.leaf with
    | true =>
     have A9:=Bm A8;rw[A8] at d0 c0;have Ba:Hid (jQ G key 17 [] root=.inl ((y.node,(a:Int)) :: r2.map jC.pl)):=oh (by rw[Ag.out,if_pos A8]);have Cw:y.node.entries.length<=65535:=(zAZ A6.out).1;have Am:=oh (zOX H7.out.1.cu.blk rfl (by omega));have Cp:=oh (λq=>zE2 (H7.out.1.ext ((zss W7).drewN q)).1.cu.blk rfl (by omega));clear Bm Bn B9 A8 f7 d0 d3 f6b c1 c2 c3;go_wp2_with fail;rw[By.out];by_cases Ak:a<y.node.entries.length
     .have Ah:(a:Int)<(y.node.entries.length:Int):=by omega
      have Bo:decide (a<y.node.entries.length)=true:=uU Ak;have HZ:Hid (zDb G root key=.inl (({ y with at_:=(a:Int) } :: r2:List jC).map jC.pl)):=oh (by rw[HV.out,Ba.out];exact if_pos Ah);go_quiet ((go_at_call 206;exact Am.out _))
      go_wp2_with fail;go_ret;have H8:=H7.out.1.ext ((zss W7).drewN nq);exact CuD.good H8.1 (N7.out.trans H8.2) HZ.out
     .have Ah:¬ (a:Int)<(y.node.entries.length:Int):=by omega
      have Bo:decide (a<y.node.entries.length)=false:=uX Ak;have HZ:Hid (zDb G root key=qI G 1 (({ y with at_:=(a:Int)-1 } :: r2:List jC).map jC.pl)):=oh (by rw[HV.out,Ba.out];exact if_neg Ah);go_quiet ((go_at_call 206;exact Am.out _))
      clear d1 d4;have H8:=oh (H7.out.1.ext ((zss W7).drewN nq));go_wp2_with fail;refine (Cp.out _).mono ?_;rintro e w9 ⟨rfl,Bz⟩;have H9:=oh (H8.out.1.ext Bz);obtain⟨f9, -, -, -, -,c9⟩:=H9.out.1.cells;have C0:=oh (H9.out.1.put ((a:Int)-1) ⟨A6.out,by show (-2:Int)<=(a:Int)-1;omega,by show (a:Int)-1<=65537;omega⟩);have Cq:=oh (zMU 1 (by omega) (by omega) C0.out.1 (λz hz=>by
       rcases uP.1 hz with rfl|hz
       .exact⟨by show (-1:Int)<=(a:Int)-1;omega,by show (a:Int)-1<=65536;omega⟩
       .exact B0.out z hz) HT.out)
      clear Bz;go_wp2_with fail;refine (Cq.out).mono ?_;rintro e w11 hd;obtain⟨v,rfl⟩:=hd.form;have Bp:=oh hd;clear hd f9 c9;go_wp2_with fail;go_ret;rw[HZ.out];exact Bp.out.pre (((N7.out.trans H8.out.2).trans H9.out.2).trans C0.out.2)
    | false =>
     have Ac:=Bn A8;rw[A8] at d0 c0;obtain⟨ib,ioff,As,At⟩:=(H7.out.1.cu.fr { y with at_:=(a:Int) } uH).is.elem (k:=a) Ac zr;obtain⟨kid,A1⟩:∃kid,kid=y.node.kids[a]:=⟨_,rfl⟩;have e0:=At 0 (.int .i64 kid) (by rw[A1];rfl);simp only[uY,uO] at e0;have Ba:Hid (jQ G key (17-({ y with at_:=(a:Int) } :: r2:List jC).length) (({ y with at_:=(a:Int) } :: r2:List jC).map jC.pl) kid=jQ G key 17 [] root):=oh (by
      rw[Ag.out,if_neg (by rw[A8];simp)];have e1:y.node.kids.getD a 0=kid:=by rw[A1];simp[List.getD,Ac]
      have e2:17-({ y with at_:=(a:Int) } :: r2:List jC).length=16-r2.length:=by rw[uD];omega
      rw[e1,e2];rfl)
     have i1:(0:Int)<=(a:Int):=by omega
     have i2:(a:Int)<(y.node.kids.length:Int):=by omega
     rw[show ({ y with at_:=(a:Int) }:jC).ia=y.ia from rfl] at As;rw[show ({ y with at_:=(a:Int) }:jC).ia=y.ia from rfl,As] at d3;clear Bm Bn B9 A8 f7 d0 d1 f6b c1 c2 c3 At A1 Ac As;go_wp2_with fail;rw[By.out];go_quiet (fail)
     clear d3 d4 e0;have H8:=oh (H7.out.1.ext ((zss W7).drewN nq));go_wp2_with fail;go_roundg (gk-1)
     case measure=>omega
     case rel=>exact⟨{ y with at_:=(a:Int) } :: r2,kid,by rw[uD];omega,rfl,oh ⟨Co.out,F4,P4,_,H8.out.1,N7.out.trans H8.out.2,Ba.out⟩⟩
def CuF(F P:NP)(ad:Nat->Addr)(w:World)(base c s gen kb:Nat)(root:Int)(G:GA)(l:List Nat)(sv:Value)(r:StC ⊕ Err)(e:Ending)(w':World):Prop :=
 ∃(P' F':NP) (sv':Value) (st':List jC),CuI F' P' ad w' base c s gen kb root G l sv' st'/\zU (cuQ P kb sv) (cuQ P' kb sv') F F' ad w w' /\
  match r with
  | .inl sa=>e=.returned .nilIface/\st'.map jC.pl=sa
  | .inr (el,ek)=>st'=[]/\∃f,e=.returned (zI f)/\yN F' ad w' (zI f) (-1 :: el) ek
theorem zMV(op:ByteArray)(w:World) : Calls Tryz.prog 204 #[.pointer (some ⟨kb,0,none⟩),.string op,.nilIface] w λe w'=>e=.returned .nilIface/\w=w':=by
 go_enter Tryz.func204, Tryz.ntmps204
 go_wp2_with fail;refine (wrap_nil op w).mono ?_;rintro e w1 ⟨rfl,rfl⟩;go_wp2_with fail;go_ret;exact⟨rfl,rfl⟩
theorem zIZ(op:ByteArray)(h:CuI F P ad w base c s gen kb root G l sv st){f:Nat}{el:List Int}{ek:Nat}(hE:yN F ad w (zI f) el ek) :
  Calls Tryz.prog 204 #[.pointer (some ⟨kb,0,none⟩),.string op,zI f] w λe w'=>∃f',CuI F P ad w' base c s gen kb root G l (.slice none 0 0) []/\zU (cuQ P kb sv) (cuQ P kb (.slice none 0 0)) F F ad w w'/\e=.returned (zI f')/\yN F ad w' (zI f') (-1 :: el) ek:=by
 have H:=oh h;obtain⟨pa,pc,rfl, -, -⟩:=_root_.id h.cu.row.form;have k4:=h.cu.blk.d 4 (.slice pa st.reverse.length pc) rfl;have kf:=h.cu.blk.frozen;have H1:=oh h.nul;have C1:=hE.mods (zA.setCell (F:=F) (p:=⟨kb,4,none⟩) (zss w) (.inr (h.cu.nP kb (.inl rfl)).1) (.slice none 0 0));have HW:=oh (wrap_any H1.out.1.env op _ _ _ C1);clear h hE C1
 go_enter Tryz.func204, Tryz.ntmps204
 go_wp2_with fail;refine (HW.out).mono ?_;rintro e w2 ⟨f2,rfl,A4,A2⟩;have Ai:=oh A4;have H2:=oh (H1.out.1.ext A2);clear A4 A2;go_wp2_with fail;go_ret;exact⟨f2,H2.out.1,H1.out.2.trans H2.out.2,rfl,Ai.out⟩
theorem zRT(h:CuI F P ad w base c s gen kb root G l sv st)(Aw:zEm st)(ht:G.total) :
  Calls Tryz.prog 136 #[.pointer (some ⟨kb,0,none⟩)] w (CuF F P ad w base c s gen kb root G l sv (qI G 1 (st.map jC.pl))):=by
 have HC:=oh (zMU 1 (by omega) (by omega) h Aw ht);clear h ht Aw
 go_enter Tryz.func136, Tryz.ntmps136
 go_wp2_with fail;refine (HC.out).mono ?_;rintro e w1 hd;cases hr:qI G 1 (st.map jC.pl) with
 | inl sa =>
  rw[hr] at hd;obtain⟨P1,F1,sv1,st1,h1,n1,rfl,A0⟩:=hd;have H1:=oh h1;have N1:=oh n1;have HS:=oh A0;have HR:=oh hr;clear h1 n1 A0 hr;go_wp2_with fail;refine (zMV _ _).mono ?_;rintro e w2 ⟨rfl,rfl⟩;go_wp2_with fail;go_ret;refine⟨P1,F1,sv1,st1,H1.out,N1.out,?_⟩;rw[HR.out];exact⟨rfl,HS.out⟩
 | inr er =>
  obtain⟨el,ek⟩:=er;rw[hr] at hd;obtain⟨P1,F1,sv1,st1,h1,n1,f,rfl,hE⟩:=hd;have HF:=oh (λop=>zIZ op h1 hE);have N1:=oh n1;have HR:=oh hr;clear h1 n1 hE hr;go_wp2_with fail;refine (HF.out _).mono ?_;rintro e w2 ⟨f2,h2,n2,rfl,A4⟩;have H2:=oh h2;have N2:=oh (N1.out.trans n2);have Ai:=oh A4;clear h2 n2 A4;go_wp2_with fail;go_ret;refine⟨P1,F1,_,[],H2.out,N2.out,?_⟩;rw[HR.out];exact⟨rfl,f2,rfl,Ai.out⟩
def zB4(s:ByteArray):Bool:=decide (s=⟨#[]⟩) || qP s
theorem zGk(s:ByteArray)(w:World) : Calls Tryz.prog 203 #[.string s] w λe w'=>e=.returned (.bool (zB4 s))/\w=w':=by
 have HK:=oh (zBd s w);by_cases h:s=⟨#[]⟩
 .subst h;have HB:Hid (zB4 ⟨#[]⟩=true):=oh rfl
  go_enter Tryz.func203, Tryz.ntmps203
  go_wp2_with fail;go_ret;rw[HB.out];exact⟨rfl,rfl⟩
 .have HB:Hid (zB4 s=qP s):=oh (by unfold zB4;rw[uX h];rfl);have h1:s.toList≠[]:=λe=>h (toList_inj (by rw[e];simp[ByteArray.toList_eq]))
  have h2:s.toList.isEmpty=false:=by
   cases hs:s.toList with
   | nil=>exact absurd hs h1
   | cons _ _=>rfl
  have h3:(s.toList == [])=false:=uS.2 h1;clear h
  go_enter Tryz.func203, Tryz.ntmps203
  go_wp2_with fail;refine (HK.out).mono ?_;rintro e w1 ⟨rfl,rfl⟩;go_wp2_with fail;go_ret;rw[HB.out];exact⟨rfl,rfl⟩
end
def zIa(G:GA)(root:Int)(key:ByteArray):StC ⊕ Err:=if zB4 key=true then zDb G root key else .inr ([-1],2)
section
variable {F P P' F' P1 F1:NP}{ad:Nat->Addr}{w w' w0 w1:World}{base c s gen kb:Nat}{root:Int}{G G':GA}{l l':List Nat}{sv sv':Value}{st st':List jC}{x:jC}
theorem zPq(key:ByteArray)(h:CuI F P ad w base c s gen kb root G l sv st)(ht:G.total) :
  Calls Tryz.prog 133 #[.pointer (some ⟨kb,0,none⟩),.string key] w (CuF F P ad w base c s gen kb root G l sv (zIa G root key)):=by
 have HB:=oh (zGk key w);cases hb:zB4 key with
 | true =>
  have HC:=oh (zRS key h ht);have HV:Hid (zIa G root key=zDb G root key):=oh (by unfold zIa;rw[if_pos hb]);rw[hb] at HB;clear h ht hb
  go_enter Tryz.func133, Tryz.ntmps133
  go_wp2_with fail;refine (HB.out).mono ?_;rintro e w1 ⟨rfl,rfl⟩;go_wp2_with fail;refine (HC.out).mono ?_;rintro e w1 hd;cases hr:zDb G root key with
  | inl sa =>
   rw[hr] at hd;obtain⟨P1,F1,sv1,st1,h1,n1,rfl,A0⟩:=hd;have H1:=oh h1;have N1:=oh n1;have HS:=oh A0;have HR:=oh hr;clear h1 n1 A0 hr;go_wp2_with fail;refine (zMV _ _).mono ?_;rintro e w2 ⟨rfl,rfl⟩;go_wp2_with fail;go_ret;refine⟨P1,F1,sv1,st1,H1.out,N1.out,?_⟩;rw[HV.out,HR.out];exact⟨rfl,HS.out⟩
  | inr er =>
   obtain⟨el,ek⟩:=er;rw[hr] at hd;obtain⟨P1,F1,sv1,st1,h1,n1,f,rfl,hE⟩:=hd;have HF:=oh (λop=>zIZ op h1 hE);have N1:=oh n1;have HR:=oh hr;clear h1 n1 hE hr;go_wp2_with fail;refine (HF.out _).mono ?_;rintro e w2 ⟨f2,h2,n2,rfl,A4⟩;have H2:=oh h2;have N2:=oh (N1.out.trans n2);have Ai:=oh A4;clear h2 n2 A4;go_wp2_with fail;go_ret;refine⟨P1,F1,_,[],H2.out,N2.out,?_⟩;rw[HV.out,HR.out];exact⟨rfl,f2,rfl,Ai.out⟩
 | false =>
  have HV:Hid (zIa G root key=.inr ([-1],2)):=oh (by unfold zIa;rw[if_neg (by rw[hb];simp)]);have c2:=h.env.c2;have H:=oh h;rw[hb] at HB;clear h ht hb
  go_enter Tryz.func133, Tryz.ntmps133
  go_wp2_with fail;refine (HB.out).mono ?_;rintro e w1 ⟨rfl,rfl⟩;go_wp2_with fail;refine (yR H.out.env _ _ [] 2 (.sent 2 (by decide) (by decide))).mono ?_;rintro e w1 ⟨f,rfl,hE,hm⟩;have H1:=oh (H.out.ext hm);have HF:=oh (λop=>zIZ op H1.out.1 hE);clear hE hm c2;go_wp2_with fail;refine (HF.out _).mono ?_;rintro e w2 ⟨f2,h2,n2,rfl,A4⟩;have H2:=oh h2;have N2:=oh (H1.out.2.trans n2);have Ai:=oh A4;clear h2 n2 A4;go_wp2_with fail;go_ret;refine⟨P,F,_,[],H2.out,N2.out,?_⟩;rw[HV.out];exact⟨rfl,f2,rfl,Ai.out⟩
theorem zNl(h:CuI F P ad w base c s gen kb root G l sv st) :
  Calls Tryz.prog 134 #[.pointer (some ⟨kb,0,none⟩)] w λe w'=>e=.returned (.bool (!st.isEmpty))/\w=w':=by
 obtain⟨pa,pc,rfl, -, -⟩:=_root_.id h.cu.row.form;have Af:st.reverse.length=st.length:=rU;rw[Af] at h;have k4:=h.cu.blk.d 4 (.slice pa st.length pc) rfl;clear h Af;cases st with
 | nil =>
  simp only[uF] at k4
  go_enter Tryz.func134, Tryz.ntmps134
  go_wp2_with fail;go_ret;exact⟨rfl,rfl⟩
 | cons x r =>
  simp only[uD] at k4
  go_enter Tryz.func134, Tryz.ntmps134
  go_wp2_with fail;go_ret;exact⟨rfl,rfl⟩
theorem zSx{r:List jC}{a:Nat}{e:zR}(h:CuI F P ad w base c s gen kb root G l sv (x :: r))(ha:x.at_=(a:Int))(he:x.node.entries[a]? = some e) :
  Calls Tryz.prog 135 #[.pointer (some ⟨kb,0,none⟩)] w λen w'=>en=.returned (.string e.key)/\∃q,w'=w.drewN q:=by
 have HO:=oh (zNl h);simp only[List.isEmpty_cons,Bool.not_false] at HO;obtain⟨g,cp,rfl,b1,b2,b3, -,c1, -, -,c4⟩:=h.form;have hr:r.length<=15:=by have:=h.cu.few;simp at this;omega
 have Am:=oh (zOX h.cu.blk rfl (by omega));obtain⟨Al,A9⟩:=uB.1 he;obtain⟨eb,eoff,B1,Ab⟩:=(h.cu.fr x uH).es.elem Al zr;have d0:=Ab 0 (.string e.key) (by rw[A9];rfl);simp only[uO] at d0;rw[B1] at c1;rw[ha] at c4;have i1:(0:Int)<=(a:Int):=by omega
 have i2:(a:Int)<(x.node.entries.length:Int):=by omega
 clear h Ab B1 ha A9 he b3
 go_enter Tryz.func135, Tryz.ntmps135
 go_wp2_with fail;refine (HO.out).mono ?_;rintro e w1 ⟨rfl,rfl⟩;go_wp2_with fail;go_quiet ((go_at_call 206;exact Am.out _))
 go_wp2_with fail;go_ret;exact⟨rfl,_,rfl⟩
theorem zRU{r:List jC}{a:Nat}{e:zR}{v:ByteArray}(h:CuI F P ad w base c s gen kb root G l sv (x :: r))(ha:x.at_=(a:Int))(he:x.node.entries[a]? = some e)(hv:zDw G e=.inl v)(C2:zF5 G e)(hid : -9223372036854775808<=e.chain/\e.chain<=9223372036854775807) :
  Calls Tryz.prog 137 #[.pointer (some ⟨kb,0,none⟩)] w λen w'=>en=.returned (.tuple #[.string v,.nilIface])/\∃P' F',CuI F' P' ad w' base c s gen kb root G l sv (x :: r)/\zU (cuQ P kb sv) (cuQ P' kb sv) F F' ad w w':=by
 have HO:=oh (zNl h);simp only[List.isEmpty_cons,Bool.not_false] at HO;obtain⟨g,cp,rfl,b1,b2,b3, -,c1, -, -,c4⟩:=h.form;have hr:r.length<=15:=by have:=h.cu.few;simp at this;omega
 have Am:=oh (zOX h.cu.blk rfl (by omega));have Cr:=oh (zOX h.cu.blk rfl (by omega) 1);obtain⟨Al,A9⟩:=uB.1 he;obtain⟨eb,eoff,B1,B2,Ab⟩:=(h.cu.fr x uH).es.elemF Al;have d0:=Ab 0 (.string e.key) (by rw[A9];rfl);have d1:=Ab 1 (.string e.value) (by rw[A9];rfl);have d2:=Ab 2 (.int .i64 e.chain) (by rw[A9];rfl);have d3:=Ab 3 (.int .i64 e.size) (by rw[A9];rfl);simp only[uO] at d0;rw[B1] at c1;rw[ha] at c4;have p0:=h.cu.blk.d 0 (.pointer (some ⟨c,0,none⟩)) rfl;have p1:=h.cu.blk.d 1 (.pointer (some ⟨s,0,none⟩)) rfl;have p2:=h.cu.blk.d 2 (.int .u64 (gen:Int)) rfl;have i1:(0:Int)<=(a:Int):=by omega
 have i2:(a:Int)<(x.node.entries.length:Int):=by omega
 have Aa:Hid (¬ P kb/\¬ P g/\¬ P eb):=oh ⟨(h.cu.nP kb (.inl rfl)).2,(h.cu.nP g (.inr rfl)).2,λhp=>B2 (h.sub _ hp)⟩;have Bb:Hid (∀q:Nat,_):=oh (λq=>zPm (h.env.mods ((zss w).drewN q).ext) h.sub (h.pg.at ((zss w).drewN q)) gen e hid C2);rw[hv] at Bb;unfold pgV at Bb;have Bq:=oh (Bb.out 1);have HD:Hid (∀q,(w.drewN q).cell? ⟨kb,0,none⟩=some (.pointer (some ⟨c,0,none⟩))/\(w.drewN q).cell? ⟨kb,1,none⟩=some (.pointer (some ⟨s,0,none⟩))/\(w.drewN q).cell? ⟨kb,2,none⟩=some (.int .u64 (gen:Int))/\(w.drewN q).cell? ⟨g,r.length * 5+1,none⟩=some (.slice (some ⟨eb,eoff,none⟩) x.node.entries.length x.ec)/\(w.drewN q).cell? ⟨g,r.length * 5+4,none⟩=some (.int .i64 (a:Int)) /\
   (w.drewN q).cell? ⟨eb,eoff+a * 4,none⟩=some (.string e.key)/\(w.drewN q).cell? ⟨eb,eoff+a * 4+1,none⟩=some (.string e.value)/\(w.drewN q).cell? ⟨eb,eoff+a * 4+2,none⟩=some (.int .i64 e.chain)/\(w.drewN q).cell? ⟨eb,eoff+a * 4+3,none⟩=some (.int .i64 e.size)) :=
  oh (λq=>⟨zD ((zss w).drewN q) p0,zD ((zss w).drewN q) p1,zD ((zss w).drewN q) p2,zD ((zss w).drewN q) c1,zD ((zss w).drewN q) c4,zD ((zss w).drewN q) d0,zD ((zss w).drewN q) d1,zD ((zss w).drewN q) d2,zD ((zss w).drewN q) d3⟩)
 have H:=oh h;clear h Ab B1 ha A9 he b3 hv C2 hid B2
 go_enter Tryz.func137, Tryz.ntmps137
 go_wp2_with fail;refine (HO.out).mono ?_;rintro en w1 ⟨rfl,rfl⟩;go_wp2_with fail;go_region_held3 (λw'=>w'.cell? ⟨kb,0,none⟩=some (.pointer (some ⟨c,0,none⟩))/\w'.cell? ⟨kb,1,none⟩=some (.pointer (some ⟨s,0,none⟩))/\w'.cell? ⟨kb,2,none⟩=some (.int .u64 (gen:Int))/\w'.cell? ⟨g,r.length * 5+1,none⟩=some (.slice (some ⟨eb,eoff,none⟩) x.node.entries.length x.ec)/\w'.cell? ⟨g,r.length * 5+4,none⟩=some (.int .i64 (a:Int)) /\
   w'.cell? ⟨eb,eoff+a * 4,none⟩=some (.string e.key)/\w'.cell? ⟨eb,eoff+a * 4+1,none⟩=some (.string e.value)/\w'.cell? ⟨eb,eoff+a * 4+2,none⟩=some (.int .i64 e.chain)/\w'.cell? ⟨eb,eoff+a * 4+3,none⟩=some (.int .i64 e.size))
  (first|(with_reducible exact⟨p0,p1,p2,c1,c4,d0,d1,d2,d3⟩)|(with_reducible exact⟨y0,y1,y2,y3,y4,z0,z1,z2,z3⟩)|(with_reducible exact HD.out _)|go_keep)
  (first
   | (go_at_call 206;(first|(with_reducible refine (Am.out _).mono ?_)|(refine (Cr.out).mono ?_));rintro en w2 ⟨rfl,k2,rfl⟩)
   | (go_at_call 182;(first|(with_reducible refine (Bb.out _).mono ?_)|(refine (Bq.out).mono ?_));rintro en w4 ⟨P4,F4,C3,A5,rfl⟩;obtain⟨y0,y1,y2,y3,y4,z0,z1,z2,z3⟩:=HD.out k2;replace y0:=zDZ A5.stp.mods y0 Aa.out.1;replace y1:=zDZ A5.stp.mods y1 Aa.out.1;replace y2:=zDZ A5.stp.mods y2 Aa.out.1;replace y3:=zDZ A5.stp.mods y3 Aa.out.2.1;replace y4:=zDZ A5.stp.mods y4 Aa.out.2.1;replace z0:=zDZ A5.stp.mods z0 Aa.out.2.2;replace z1:=zDZ A5.stp.mods z1 Aa.out.2.2;replace z2:=zDZ A5.stp.mods z2 Aa.out.2.2;replace z3:=zDZ A5.stp.mods z3 Aa.out.2.2)
   | fail)
 all_goals
  have HP:=oh ((H.out.ext ((zss w).drewN _)).1.pag A5 C3);have HN:=oh ((H.out.ext ((zss w).drewN _)).2.trans HP.out.2);clear A5 C3 p0 p1 p2 c1 c4 d0 d1 d2 d3;go_wp2_with fail;refine (wrap_nil _ _).mono ?_;rintro en w5 ⟨rfl,rfl⟩;go_wp2_with fail;refine bodyPost_ret (v:=.tuple #[.string v,.nilIface]) (by simp[results,Tryz.results137,go_sem]) rfl ?_;exact⟨rfl,P4,F4,HP.out.1,HN.out⟩
theorem zU.shrink{Q P2:NP}(n:zU P Q F F' ad w w')(h:∀k,P2 k->Q k):zU P P2 F F' ad w w' :=
 ⟨⟨n.stp.mods,λk hk hp=>n.stp.old k hk (h k hp),λk hp=>n.stp.bd k (h k hp)⟩,λk hp=>n.sub k (h k hp),n.grow,n.oldF,n.env⟩
theorem CuI.start(hL:yE F ad w)(hP:∀k,P k->F k)(h:vJ F w P c s G l)(gen:Nat)(root:Int) :
  CuI (λk=>F k\/k=w.heap.size) P ad (w.alloc (.cells #[.pointer (some ⟨c,0,none⟩),.pointer (some ⟨s,0,none⟩),.int .u64 (gen:Int),.int .i64 root,.slice none 0 0] 321)) w.heap.size c s gen w.heap.size root G l (.slice none 0 0) [] /\
  zU P (cuQ P w.heap.size (.slice none 0 0)) F (λk=>F k\/k=w.heap.size) ad w (w.alloc (.cells #[.pointer (some ⟨c,0,none⟩),.pointer (some ⟨s,0,none⟩),.int .u64 (gen:Int),.int .i64 root,.slice none 0 0] 321)):=by
 have m:zG w (w.alloc (.cells #[.pointer (some ⟨c,0,none⟩),.pointer (some ⟨s,0,none⟩),.int .u64 (gen:Int),.int .i64 root,.slice none 0 0] 321)):=(zss w).alloc _;have hb:=zK.new w #[.pointer (some ⟨c,0,none⟩),.pointer (some ⟨s,0,none⟩),.int .u64 (gen:Int),.int .i64 root,.slice none 0 0] 321;have B3:∀k,k<w.heap.size->¬ F k->¬ (F k\/k=w.heap.size):=λk hk hn hf=>by rcases hf with hf|hf;exact hn hf;omega
 have hE:yE (λk=>F k\/k=w.heap.size) ad (w.alloc (.cells #[.pointer (some ⟨c,0,none⟩),.pointer (some ⟨s,0,none⟩),.int .u64 (gen:Int),.int .i64 root,.slice none 0 0] 321)) :=
  hL.step m.ext B3 (λk hk=>by rcases hk with hk|hk;exact uG (hL.lt k hk) m.size;exact hk ▸ hb.lt)
 have hB:∀k,CuB w.heap.size (.slice none 0 0) k->k=w.heap.size:=λk hk=>by
  rcases hk with hk|hk
  .exact hk
  .simp[Value.ownBlock] at hk
 have hI:CuI (λk=>F k\/k=w.heap.size) P ad (w.alloc (.cells #[.pointer (some ⟨c,0,none⟩),.pointer (some ⟨s,0,none⟩),.int .u64 (gen:Int),.int .i64 root,.slice none 0 0] 321)) w.heap.size c s gen w.heap.size root G l (.slice none 0 0) [] :=
  ⟨hE,λk hk=>.inl (hP k hk),h.plus m (λ_ _ f=>f) (λk f=>f.elim) B3,⟨hb,yA.nil _ _ _ _ _ _,λx hx=>by simp at hx,λk hk=>⟨.inr (hB k hk),λhp=>by have:=hL.lt k (hP k hp);have:=hB k hk;omega⟩,⟨λx hx=>by simp at hx,by simp⟩⟩,m.size⟩
 refine⟨hI,⟨⟨m.ext,?_,hI.bd⟩,hI.subQ,λk hk=>.inl hk,λk hk hf=>by rcases hf with hf|hf;exact hf;omega,hE⟩⟩;rintro k hk (hp|hp)
 .exact hp
 .have:=hB k hp;omega
def zSy(F P:NP)(ad:Nat->Addr)(w:World)(c s gen:Nat)(root:Int)(G:GA)(l:List Nat)(e:Ending)(w':World):Prop :=
 ∃kb base F',e=.returned (.tuple #[.pointer (some ⟨kb,0,none⟩),.nilIface])/\CuI F' P ad w' base c s gen kb root G l (.slice none 0 0) []/\zU P (cuQ P kb (.slice none 0 0)) F F' ad w w'
theorem zSE(hL:yE F ad w)(hP:∀k,P k->F k)(h:vJ F w P c s G l)(gen:Nat)(root:Int) :
  Calls Tryz.prog 202 #[pgV c s gen,.int .i64 root] w (zSy F P ad w c s gen root G l):=by
 have m0:zG w (w.alloc (gP c s gen)):=(zss w).alloc _;have B4:=oh (zU.ext hL hP m0);have HS:=oh (CuI.start B4.out.env hP (h.at m0) gen root);clear hL hP h m0;unfold pgV
 go_enter Tryz.func202, Tryz.ntmps202
 go_wp2_with fail;refine bodyPost_ret (v:=.tuple #[.pointer (some ⟨w.heap.size+1,0,none⟩),.nilIface]) (by simp[results,Tryz.results202,go_sem]) rfl ?_;have hz:(w.alloc (gP c s gen)).heap.size=w.heap.size+1:=by simp
 have h1:=HS.out.1;have h2:=B4.out.trans HS.out.2;rw[hz] at h1 h2;exact⟨_,_,_,rfl,h1,h2⟩
def zGl(a b:ByteArray)(most:Int):Bool:=zB4 a && zB4 b && decide (0<=most) && decide (most<=65535)
def zTO(F P:NP)(ad:Nat->Addr)(w:World)(c s gen:Nat)(root:Int)(G:GA)(l:List Nat)(ok:Bool)(e:Ending)(w':World):Prop :=
 (ok=true/\zSy F P ad w c s gen root G l e w')\/(ok=false/\∃b F',e=.returned (.tuple #[.pointer none,zI b])/\vJ F' w' P c s G l/\zU P P F F' ad w w'/\yN F' ad w' (zI b) [-1] 2)
theorem zRV(hL:yE F ad w)(hP:∀k,P k->F k)(h:vJ F w P c s G l)(gen:Nat)(root:Int)(op from_ to_:ByteArray)(most:Int) :
  Calls Tryz.prog 132 #[.string op,pgV c s gen,.int .i64 root,.string from_,.string to_,.int .i64 most] w (zTO F P ad w c s gen root G l (zGl from_ to_ most)):=by
 have m0:zG w (w.alloc (gP c s gen)):=(zss w).alloc _;have B4:=oh (zU.ext hL hP m0);have C4:=oh (zSE B4.out.env hP (h.at m0) gen root);have An:=oh (zGk from_);have B5:=oh (zGk to_);clear hL hP h m0;unfold pgV at C4 ⊢
 go_enter Tryz.func132, Tryz.ntmps132
 go_wp2_with fail;refine (C4.out).mono ?_;rintro e w1 ⟨kb,base,F1,rfl,h1,n1⟩;have H1:=oh h1;have N1:=oh (B4.out.trans n1);have c2:=h1.env.c2;clear h1 n1;obtain⟨q1,Br⟩:∃q,zB4 from_=q:=⟨_,rfl⟩;obtain⟨q2,Bs⟩:∃q,zB4 to_=q:=⟨_,rfl⟩;obtain⟨q3,Ao⟩:∃q,decide (most<0)=q:=⟨_,rfl⟩;obtain⟨q4,Ap⟩:∃q,decide (most > 65535)=q:=⟨_,rfl⟩;rw[Br] at An;rw[Bs] at B5;have HA:Hid (zGl from_ to_ most=(q1 && q2 && !q3 && !q4)):=oh (by
  unfold zGl;rw[Br,Bs,<- Ao,<- Ap];congr 1
  .congr 1
   by_cases h:most<0
   .rw[uU h,uX (by omega)];rfl
   .rw[uX h,uU (by omega)];rfl
  .by_cases h:most > 65535
   .rw[uU h,uX (by omega)];rfl
   .rw[uX h,uU (by omega)];rfl)
 clear Br Bs;cases q1 with
 | false =>
  have HV:Hid (zGl from_ to_ most=false):=oh (by rw[HA.out];rfl);go_wp2_with fail;refine (An.out _).mono ?_;rintro e w2 ⟨rfl,rfl⟩;go_wp2_with fail;refine (yR H1.out.env _ _ [] 2 (.sent 2 (by decide) (by decide))).mono ?_;rintro e w2 ⟨b,rfl,hE,hm⟩;have HE:=oh hE;have H2:=oh (H1.out.ext hm);clear hE hm;go_wp2_with fail;refine bodyPost_ret (v:=.tuple #[.pointer none,zI b]) (by simp[results,Tryz.results132,go_sem]) rfl ?_;rw[HV.out];exact .inr ⟨rfl,b,F1,rfl,H2.out.1.pg,(N1.out.trans H2.out.2).shrink (λk hk=>.inl hk),HE.out⟩
 | true =>
  cases q2 with
  | false =>
   have HV:Hid (zGl from_ to_ most=false):=oh (by rw[HA.out];rfl);go_wp2_with fail;refine (An.out _).mono ?_;rintro e w2 ⟨rfl,rfl⟩;go_wp2_with fail;refine (B5.out _).mono ?_;rintro e w2 ⟨rfl,rfl⟩;go_wp2_with fail;refine (yR H1.out.env _ _ [] 2 (.sent 2 (by decide) (by decide))).mono ?_;rintro e w2 ⟨b,rfl,hE,hm⟩;have HE:=oh hE;have H2:=oh (H1.out.ext hm);clear hE hm;go_wp2_with fail;refine bodyPost_ret (v:=.tuple #[.pointer none,zI b]) (by simp[results,Tryz.results132,go_sem]) rfl ?_;rw[HV.out];exact .inr ⟨rfl,b,F1,rfl,H2.out.1.pg,(N1.out.trans H2.out.2).shrink (λk hk=>.inl hk),HE.out⟩
  | true =>
   cases q3 with
   | true =>
    have HV:Hid (zGl from_ to_ most=false):=oh (by rw[HA.out];rfl);have h3:=pG Ao;clear Ao Ap;go_wp2_with fail;refine (An.out _).mono ?_;rintro e w2 ⟨rfl,rfl⟩;go_wp2_with fail;refine (B5.out _).mono ?_;rintro e w2 ⟨rfl,rfl⟩;go_wp2_with fail;refine (yR H1.out.env _ _ [] 2 (.sent 2 (by decide) (by decide))).mono ?_;rintro e w2 ⟨b,rfl,hE,hm⟩;have HE:=oh hE;have H2:=oh (H1.out.ext hm);clear hE hm;go_wp2_with fail;refine bodyPost_ret (v:=.tuple #[.pointer none,zI b]) (by simp[results,Tryz.results132,go_sem]) rfl ?_;rw[HV.out];exact .inr ⟨rfl,b,F1,rfl,H2.out.1.pg,(N1.out.trans H2.out.2).shrink (λk hk=>.inl hk),HE.out⟩
   | false =>
    have h3:=of_decide_eq_false Ao;cases q4 with
    | true =>
     have HV:Hid (zGl from_ to_ most=false):=oh (by rw[HA.out];rfl);have h4:=pG Ap;clear Ao Ap;go_wp2_with fail;refine (An.out _).mono ?_;rintro e w2 ⟨rfl,rfl⟩;go_wp2_with fail;refine (B5.out _).mono ?_;rintro e w2 ⟨rfl,rfl⟩;go_wp2_with fail;refine (yR H1.out.env _ _ [] 2 (.sent 2 (by decide) (by decide))).mono ?_;rintro e w2 ⟨b,rfl,hE,hm⟩;have HE:=oh hE;have H2:=oh (H1.out.ext hm);clear hE hm;go_wp2_with fail;refine bodyPost_ret (v:=.tuple #[.pointer none,zI b]) (by simp[results,Tryz.results132,go_sem]) rfl ?_;rw[HV.out];exact .inr ⟨rfl,b,F1,rfl,H2.out.1.pg,(N1.out.trans H2.out.2).shrink (λk hk=>.inl hk),HE.out⟩
    | false =>
     have HV:Hid (zGl from_ to_ most=true):=oh (by rw[HA.out];rfl);have h4:=of_decide_eq_false Ap;clear Ao Ap;go_wp2_with fail;refine (An.out _).mono ?_;rintro e w2 ⟨rfl,rfl⟩;go_wp2_with fail;refine (B5.out _).mono ?_;rintro e w2 ⟨rfl,rfl⟩;go_wp2_with fail;refine bodyPost_ret (v:=.tuple #[.pointer (some ⟨kb,0,none⟩),.nilIface]) (by simp[results,Tryz.results132,go_sem]) rfl ?_;rw[HV.out];exact .inl ⟨rfl,kb,base,F1,rfl,H1.out,N1.out⟩
end
end Go.Proofs.YtgphfebjjedeaaaGreatDoor
