import Derived.Test.YtchklfmggpconaaGreatDoorK38
import Derived.StillTailTactics
import Derived.Deep.RegionHeld3
namespace Go.Proofs.YtchklfmggpconaaGreatDoor
open Lib renaming hid→oh
set_option maxHeartbeats 2000000
set_option maxRecDepth 100000
open Go.RowKit
attribute [local go_sem ↓] Go.wp_at_zero Go.wp_at_succ
section
variable {F P P' F' P1 F1:Nat→Prop}{ad:Nat→Addr}{w w' w0 w1:World}{base c s gen kb:Nat}{root:Int}{G G':GA}{l l':List Nat}{sv sv':Value}{st st':List FrE}{x:FrE}
theorem curDown_any(last:Bool){r:List FrE}(h:CuI F P ad w base c s gen kb root G l sv (x :: r))(hx:TopOk x.pl)(ht:G.total) :
  Calls Tryz.prog 162 #[.pointer (some ⟨kb,0,none⟩),.bool last] w (CuD F P ad w base c s gen kb root G l sv (downF G last ((x :: r).map FrE.pl))):=by
 have H:=oh h;have HT:=oh ht;have HXT:=oh hx;have hfew:=h.cu.few;have hfr:r.length≤15:=by simp at hfew;omega
 obtain⟨N,hN⟩:∃N,N=16-r.length:=⟨_,rfl⟩;have HN:=oh hN;clear h hx ht hfew hN
 go_enter Tryz.func162, Tryz.ntmps162
 go_wp2_with fail;go_loopg [] N (λm wr=>∃(x1:FrE) (r1:List FrE),m+r1.length=16∧r1.length≤15∧TopOk x1.pl∧Hid (∃(F1 P1:Nat→Prop) (sv1:Value),CuI F1 P1 ad wr base c s gen kb root G l sv1 (x1 :: r1)∧Nxt (cuQ P kb sv) (cuQ P1 kb sv1) F F1 ad w wr∧downF G last ((x1 :: r1).map FrE.pl)=downF G last ((x :: r).map FrE.pl)))
 case atStart=>exact⟨x,r,by have:=HN.out;omega,hfr,HXT.out,oh ⟨F,P,sv,H.out,Nxt.refl H.out.env H.out.subQ,rfl⟩⟩
 case round =>
  obtain⟨x1,r1,hk,hr1,hx1,HR⟩:=hrel;have HX1:=oh hx1;obtain⟨F1,P1,sv1,h1,n1,e1⟩:=HR.out;obtain⟨g,cp,rfl,b1,b2,b3,c0,c1,c2,c3,c4⟩:=h1.form;have H1:=oh h1;have N1:=oh n1;have E1:=oh e1;have HTP:=oh (top_any h1.cu.blk rfl (by omega));have HC:=oh (And.intro c0 (And.intro c3 c4));clear hx1 h1 n1 e1 b3 c0 c1 c2 c3 c4;go_wp2_with fail;refine (HTP.out).mono ?_;rintro e w2 ⟨rfl,hm2⟩;have H2:=oh (H1.out.ext hm2);have c0:=cellE hm2 HC.out.1;have c3:=cellE hm2 HC.out.2.1;have c4:=cellE hm2 HC.out.2.2;clear hm2;cases hl:x1.node.leaf with
  | true =>
   rw[hl] at c0;have HZ:Hid (downF G last ((x :: r).map FrE.pl)=.inl ((x1 :: r1).map FrE.pl)):=oh (by
    rw[← E1.out];exact downF_leaf (by exact hl) (by simp;omega))
   clear hl;go_wp2_with fail;go_ret;exact CuD.good H2.out.1 (N1.out.trans H2.out.2) HZ.out
  | false =>
   rw[hl] at c0;have hok:=HX1.out hl;obtain⟨a,ha⟩:∃a:Nat,x1.at_=(a:Int):=⟨x1.at_.toNat,by have:=hok.1;simp only[FrE.pl] at this;omega⟩;have hak:a<x1.node.kids.length:=by have:=hok.2;simp only[FrE.pl] at this;omega
   obtain⟨ib,ioff,hia,hic⟩:=(H2.out.1.cu.fr x1 List.mem_cons_self).is.elem hak (Mods.refl _ _);obtain⟨kid,hkid⟩:∃kid,kid=x1.node.kids[a]:=⟨_,rfl⟩;have d0:=hic 0 (.int .i64 kid) (by rw[hkid];rfl);simp only[Nat.mul_one,Nat.add_zero] at d0;have HZ:Hid (downF G last ((x :: r).map FrE.pl)=match pushA G ((x1 :: r1).map FrE.pl) kid with | .inr e=>.inr e | .inl st=>downF G last (edgeTop last st)):=oh (by
    rw[← E1.out];have:=downF_step (G:=G) (last:=last) (n:=x1.node) (a:=x1.at_) (r:=r1.map FrE.pl) hl (by simp;omega);have e:x1.node.kids.getD x1.at_.toNat 0=kid:=by rw[ha,hkid];simp[List.getD,hak]
    rw[e] at this;exact this)
   have HPU:=oh (push_any (H2.out.1.ext (Mods.refl _ _).drew).1 HT.out kid);have i1:(0:Int)≤(a:Int):=by omega
   have i2:(a:Int)<(x1.node.kids.length:Int):=by omega
   rw[ha] at c4;rw[hia] at c3;clear hl hok hic hkid hak ha;go_wp2_with fail;go_still_tail 12,(by kernel_rfl)
   change wpList _ _ _ _ _ w2.drew
   have HD2:=oh (H2.out.1.ext (Mods.refl _ _).drew);clear c0 c3 c4 d0;go_wp2_with fail;refine (HPU.out).mono ?_;rintro e w4 hd;cases hp:pushA G ((x1 :: r1).map FrE.pl) kid with
   | inr er =>
    obtain⟨el,ek⟩:=er;rw[hp] at hd HZ;obtain⟨P4,F4,sv4,st4,h4,n4,f,rfl,hE⟩:=hd;have H4:=oh h4;have N4:=oh n4;have HE:=oh hE;clear h4 n4 hE hp;go_wp2_with fail;go_ret;exact CuD.bad H4.out (((N1.out.trans H2.out.2).trans HD2.out.2).trans N4.out) HE.out HZ.out
   | inl sa =>
    rw[hp] at hd HZ;obtain⟨P4,F4,sv4,st4,h4,n4,rfl,hsa⟩:=hd;obtain⟨_,n,hsn,_⟩:=pushA_ok HD2.out.1.cu.ok hp;rw[hsn] at hsa;obtain⟨y,r2,rfl⟩:∃y r2,st4=y :: r2:=by
     cases st4 with
     | nil=>simp at hsa
     | cons y r2=>exact⟨y,r2,rfl⟩
    have HSA:Hid (sa=(y :: r2).map FrE.pl):=oh (by rw[hsn];exact hsa.symm);rw[List.map_cons] at hsa;injection hsa with hs1 hs2;have hrl:r2.length=r1.length+1:=by have:=congrArg List.length hs2;simpa using this
    have hr2:r2.length≤15:=by have:=h4.cu.few;simp at this;omega
    have hrl1:r1.length+1≤r2.length:=by omega
    have hrl2:r2.length≤r1.length+1:=by omega
    have H4:=oh h4;have N4:=oh (((N1.out.trans H2.out.2).trans HD2.out.2).trans n4);have HYT:Hid (TopOk y.pl):=oh (by rw[hs1];exact (zero_ok (by have:=h4.cu.ok.1 y.pl (by simp);rw[hs1] at this;exact this.1)).2);clear h4 n4 hs1 hs2 hsn hp hrl;cases last with
    | false =>
     have HZ2:Hid (downF G false ((y :: r2).map FrE.pl)=downF G false ((x :: r).map FrE.pl)):=oh (by rw[HZ.out,HSA.out];rfl);go_wp2_with fail;go_roundg (gk-1)
     case measure=>omega
     case rel=>exact⟨y,r2,by omega,hr2,HYT.out,oh ⟨F4,P4,_,H4.out,N4.out,HZ2.out⟩⟩
    | true =>
     have HZ2:Hid (downF G true (({ y with at_:=lastI y.node } :: r2:List FrE).map FrE.pl)=downF G true ((x :: r).map FrE.pl)):=oh (by rw[HZ.out,HSA.out];rfl);obtain⟨g2,cp2,rfl,b4,b5, -, -⟩:=_root_.id H4.out.form;have HT4:=oh (top_any H4.out.cu.blk rfl (by omega));go_wp2_with fail;refine (HT4.out).mono ?_;rintro e w5 ⟨rfl,hm5⟩;have H5:=oh (H4.out.ext hm5);have HT5:=oh (top_any H5.out.1.cu.blk rfl (by omega));clear hm5;go_wp2_with fail;refine (HT5.out).mono ?_;rintro e w6 ⟨rfl,hm6⟩;have H6:=oh (H5.out.1.ext hm6);obtain⟨f6,e0,e1',e2,e3,e4⟩:=H6.out.1.cells;have HEN:=oh (ends_any y.node e0 e1' e3);clear hm6 e0 e1' e2 e3;go_wp2_with fail;refine (HEN.out).mono ?_;rintro e w7 ⟨rfl,rfl⟩;have HRN:Hid (rightN y.node=true):=oh (H6.out.1.cu.ok.1 y.pl (by simp)).1;have he7:(endsA y.node:Int)≤65536:=by
      have hf:=rightN_few HRN.out;unfold endsA;split <;> omega
     have he8:(0:Int)≤(endsA y.node:Int):=by omega
     go_wp2_with fail;have HPT:=oh (H6.out.1.put (lastI y.node) (lastI_ok HRN.out).1);go_roundg (gk-1)
     case measure=>omega
     case rel=>exact⟨{ y with at_:=lastI y.node },r2,by omega,hr2,(lastI_ok HRN.out).2,oh ⟨F4,P4,_,HPT.out.1,((N4.out.trans H5.out.2).trans H6.out.2).trans HPT.out.2,HZ2.out⟩⟩
end
section
variable {F P P' F' P1 F1:Nat→Prop}{ad:Nat→Addr}{w w' w0 w1:World}{base c s gen kb:Nat}{root:Int}{G G':GA}{l l':List Nat}{sv sv':Value}{st st':List FrE}{x:FrE}
theorem downA_ne{G:GA}{last:Bool}:∀(f:Nat) (st sa:StC),st≠[]→downA G last f st=.inl sa→sa≠[]
 | 0,st,sa,h,hd=>by rw[downA] at hd;injection hd with hd;subst hd;exact h
 | f+1,[],sa,h,hd=>absurd rfl h
 | f+1,(n,a) :: r,sa,h,hd=>by
  rw[downA] at hd;split at hd
  ·injection hd with hd;subst hd;simp
  ·split at hd
   ·cases hd
   ·rename_i st1 hp;refine downA_ne f _ sa ?_ hd;have:(edgeTop last st1).length≠0:=by
     rw[edgeTop_len];unfold pushA at hp;split at hp
     ·cases hp
     ·split at hp
      ·cases hp
      ·injection hp with hp;subst hp;simp
    intro e;rw[e] at this;exact this rfl
theorem downF_ne{G:GA}{last:Bool}{st sa:StC}(h:st≠[])(hd:downF G last st=.inl sa):sa≠[]:=downA_ne _ _ _ h hd
theorem edge_any(last:Bool)(h:CuI F P ad w base c s gen kb root G l sv st)(ht:G.total) :
  Calls Tryz.prog 114 #[.pointer (some ⟨kb,0,none⟩),.bool last] w (CuD F P ad w base c s gen kb root G l sv (edgeA G root last)):=by
 have H:=oh h;have HT:=oh ht;obtain⟨pa,pc,rfl, -, -⟩:=_root_.id h.cu.row.form;have k4:=h.cu.blk.cell (o:=4) (v:=.slice pa st.reverse.length pc) rfl;have k3:=h.cu.blk.cell (o:=3) (v:=.int .i64 root) rfl;have kf:=h.cu.blk.frozen;have H1:=oh h.nul;by_cases hr:root=0
 ·have hrb:(root == 0)=true:=beq_iff_eq.2 hr;have HV:Hid (edgeA G root last=.inl []):=oh (by unfold edgeA;rw[if_pos hr]);clear h ht hr
  go_enter Tryz.func114, Tryz.ntmps114
  go_wp2_with fail;go_ret;exact CuD.good H1.out.1 H1.out.2 HV.out
 ·have hrb:(root == 0)=false:=beq_eq_false_iff_ne.2 hr;have HV:Hid (edgeA G root last=match pushA G [] root with
   | .inr e=>.inr e
   | .inl st=>match downF G last (edgeTop last st) with
    | .inr e=>.inr e
    | .inl st1=>if topNone st1=true then .inl [] else .inl st1):=oh (by unfold edgeA;rw[if_neg hr];rfl)
  have HPU:=oh (push_any H1.out.1 HT.out root);clear h ht hr
  go_enter Tryz.func114, Tryz.ntmps114
  go_wp2_with fail;refine (HPU.out).mono ?_;rintro e w4 hd;rw[List.map_nil] at hd;cases hp:pushA G [] root with
  | inr er =>
   obtain⟨el,ek⟩:=er;rw[hp] at hd HV;obtain⟨P4,F4,sv4,st4,h4,n4,f,rfl,hE⟩:=hd;have H4:=oh h4;have N4:=oh n4;have HE:=oh hE;clear h4 n4 hE hp k3 k4 kf;go_wp2_with fail;go_ret;exact CuD.bad H4.out (H1.out.2.trans N4.out) HE.out HV.out
  | inl sa =>
   rw[hp] at hd HV;obtain⟨P4,F4,sv4,st4,h4,n4,rfl,hsa⟩:=hd;obtain⟨_,n,hsn,_⟩:=pushA_ok (st:=[]) ⟨λx hx=>by simp at hx,by simp⟩ hp;rw[hsn] at hsa;obtain⟨y,rfl⟩:∃y,st4=[y]:=List.length_eq_one_iff.1 (by have:=congrArg List.length hsa;simpa using this);have hs1:y.pl=(n,0):=by simpa using hsa
   have HRN:Hid (rightN y.node=true):=oh (h4.cu.ok.1 y.pl (by simp)).1;have HYT:Hid (TopOk y.pl):=oh (by rw[hs1];exact (zero_ok (by have:=h4.cu.ok.1 y.pl (by simp);rw[hs1] at this;exact this.1)).2);have HSA:Hid (sa=[y.pl]):=oh (by rw[hsn,hs1]);have HAT:Hid (y.at_=0):=oh (by have:=congrArg Prod.snd hs1;exact this);have H4:=oh h4;have N4:=oh (H1.out.2.trans n4);clear h4 n4 hsa hs1 hsn hp k3 k4 kf;cases last with
   | false =>
    have HZ:Hid (edgeA G root false=match downF G false [y.pl] with
     | .inr e=>.inr e
     | .inl st1=>if topNone st1=true then .inl [] else .inl st1):=oh (by rw[HV.out,HSA.out];rfl)
    have HA:=H4;have NA:=N4;have HTA:=HYT;have HDN:=oh (curDown_any false HA.out HTA.out HT.out);go_wp2_with fail;refine (HDN.out).mono ?_;rintro e w8 hd;rw[List.map_cons,List.map_nil] at hd;cases hq:downF G false [y.pl] with
    | inr er =>
     obtain⟨el,ek⟩:=er;rw[hq] at hd HZ;obtain⟨P8,F8,sv8,st8,h8,n8,f,rfl,hE⟩:=hd;have H8:=oh h8;have N8:=oh n8;have HE:=oh hE;clear h8 n8 hE hq;go_wp2_with fail;go_ret;exact CuD.bad H8.out (NA.out.trans N8.out) HE.out HZ.out
    | inl sa8 =>
     rw[hq] at hd HZ;obtain⟨P8,F8,sv8,st8,h8,n8,rfl,hsa⟩:=hd;have hne:=downF_ne (by simp) hq;obtain⟨z,r8,rfl⟩:∃z r8,st8=z :: r8:=by
      cases st8 with
      | nil=>exact absurd hsa.symm hne
      | cons z r8=>exact⟨z,r8,rfl⟩
     have HS8:=oh hsa;obtain⟨g8,cp8,rfl, -, -, -, -⟩:=_root_.id h8.form;have hr8:r8.length≤15:=by have:=h8.cu.few;simp at this;omega
     have HTP:=oh (top_any h8.cu.blk rfl (by omega));have H8:=oh h8;have N8:=oh (NA.out.trans n8);clear h8 n8 hsa hne hq;go_wp2_with fail;refine (HTP.out).mono ?_;rintro e w9 ⟨rfl,hm9⟩;have H9:=oh (H8.out.ext hm9);obtain⟨f9,e0,e1',e2,e3,e4⟩:=H9.out.1.cells;have k4:=H9.out.1.cu.blk.cell (o:=4) (v:=.slice (some ⟨g8,0,none⟩) (r8.length+1) cp8) rfl;have kf:=H9.out.1.cu.blk.frozen;have hel:z.node.entries.length≤65535:=(rightN_few (H9.out.1.cu.ok.1 z.pl (by simp)).1).1;by_cases h0:z.node.entries.length=0
     ·have h0b:((z.node.entries.length:Int) == 0)=true:=by rw[h0];rfl
      have HTN:Hid (topNone sa8=true):=oh (by rw[← HS8.out];show z.node.entries.isEmpty=true;rw[List.eq_nil_of_length_eq_zero h0];rfl);have H10:=oh H9.out.1.nul;clear h0 hm9 e0 e2 e3 e4 f9;go_wp2_with fail;go_ret;exact CuD.good H10.out.1 ((N8.out.trans H9.out.2).trans H10.out.2) (by rw[HZ.out];simp only[HTN.out,if_true];rfl)
     ·have h0b:((z.node.entries.length:Int) == 0)=false:=beq_eq_false_iff_ne.2 (by omega);have HTN:Hid (topNone sa8=false):=oh (by
       rw[← HS8.out];show z.node.entries.isEmpty=false;cases hze:z.node.entries with
       | nil=>rw[hze] at h0;exact absurd rfl h0
       | cons _ _=>rfl)
      clear h0 hm9 e0 e2 e3 e4 f9;go_wp2_with fail;go_ret;exact CuD.good H9.out.1 (N8.out.trans H9.out.2) (by rw[HZ.out];simp only[HTN.out,Bool.false_eq_true,if_false];rw[HS8.out])
   | true =>
    have HZ:Hid (edgeA G root true=match downF G true [({ y with at_:=lastI y.node }:FrE).pl] with
     | .inr e=>.inr e
     | .inl st1=>if topNone st1=true then .inl [] else .inl st1):=oh (by rw[HV.out,HSA.out];rfl)
    obtain⟨g2,cp2,rfl,b4,b5, -, -⟩:=_root_.id H4.out.form;have HT4:=oh (top_any H4.out.cu.blk rfl (by simp));go_wp2_with fail;refine (HT4.out).mono ?_;rintro e w5 ⟨rfl,hm5⟩;have H5:=oh (H4.out.ext hm5);have HT5:=oh (top_any H5.out.1.cu.blk rfl (by simp));clear hm5;go_wp2_with fail;refine (HT5.out).mono ?_;rintro e w6 ⟨rfl,hm6⟩;have H6:=oh (H5.out.1.ext hm6);obtain⟨f6,e0,e1',e2,e3,e4⟩:=H6.out.1.cells;simp only[List.length_nil,Nat.zero_mul,Nat.zero_add] at e0 e1' e2 e3 e4 ⊢;have HEN:=oh (ends_any y.node (o:=0) e0 e1' e3);clear hm6 e0 e1' e2 e3;go_wp2_with fail;refine (HEN.out).mono ?_;rintro e w7 ⟨rfl,rfl⟩;have he7:(endsA y.node:Int)≤65536:=by
     have hf:=rightN_few HRN.out;unfold endsA;split <;> omega
    have he8:(0:Int)≤(endsA y.node:Int):=by omega
    have HPT:=oh (H6.out.1.put (r:=[]) (lastI y.node) (lastI_ok HRN.out).1);have HA:Hid (CuI F4 P4 ad (w6.setCell ⟨g2,4,none⟩ (.int .i64 (max 0 ((endsA y.node:Int)-1)))) base c s gen kb root G l (.slice (some ⟨g2,0,none⟩) 1 cp2) [{ y with at_:=lastI y.node }]):=oh HPT.out.1;have NA:=oh (((N4.out.trans H5.out.2).trans H6.out.2).trans HPT.out.2);have HTA:Hid (TopOk ({ y with at_:=lastI y.node }:FrE).pl):=oh (lastI_ok HRN.out).2;have HDN:=oh (curDown_any true HA.out HTA.out HT.out);go_wp2_with fail;refine (HDN.out).mono ?_;rintro e w8 hd;rw[List.map_cons,List.map_nil] at hd;cases hq:downF G true [({ y with at_:=lastI y.node }:FrE).pl] with
    | inr er =>
     obtain⟨el,ek⟩:=er;rw[hq] at hd HZ;obtain⟨P8,F8,sv8,st8,h8,n8,f,rfl,hE⟩:=hd;have H8:=oh h8;have N8:=oh n8;have HE:=oh hE;clear h8 n8 hE hq;go_wp2_with fail;go_ret;exact CuD.bad H8.out (NA.out.trans N8.out) HE.out HZ.out
    | inl sa8 =>
     rw[hq] at hd HZ;obtain⟨P8,F8,sv8,st8,h8,n8,rfl,hsa⟩:=hd;have hne:=downF_ne (by simp) hq;obtain⟨z,r8,rfl⟩:∃z r8,st8=z :: r8:=by
      cases st8 with
      | nil=>exact absurd hsa.symm hne
      | cons z r8=>exact⟨z,r8,rfl⟩
     have HS8:=oh hsa;obtain⟨g8,cp8,rfl, -, -, -, -⟩:=_root_.id h8.form;have hr8:r8.length≤15:=by have:=h8.cu.few;simp at this;omega
     have HTP:=oh (top_any h8.cu.blk rfl (by omega));have H8:=oh h8;have N8:=oh (NA.out.trans n8);clear h8 n8 hsa hne hq;go_wp2_with fail;refine (HTP.out).mono ?_;rintro e w9 ⟨rfl,hm9⟩;have H9:=oh (H8.out.ext hm9);obtain⟨f9,e0,e1',e2,e3,e4⟩:=H9.out.1.cells;have k4:=H9.out.1.cu.blk.cell (o:=4) (v:=.slice (some ⟨g8,0,none⟩) (r8.length+1) cp8) rfl;have kf:=H9.out.1.cu.blk.frozen;have hel:z.node.entries.length≤65535:=(rightN_few (H9.out.1.cu.ok.1 z.pl (by simp)).1).1;by_cases h0:z.node.entries.length=0
     ·have h0b:((z.node.entries.length:Int) == 0)=true:=by rw[h0];rfl
      have HTN:Hid (topNone sa8=true):=oh (by rw[← HS8.out];show z.node.entries.isEmpty=true;rw[List.eq_nil_of_length_eq_zero h0];rfl);have H10:=oh H9.out.1.nul;clear h0 hm9 e0 e2 e3 e4 f9;go_wp2_with fail;go_ret;exact CuD.good H10.out.1 ((N8.out.trans H9.out.2).trans H10.out.2) (by rw[HZ.out];simp only[HTN.out,if_true];rfl)
     ·have h0b:((z.node.entries.length:Int) == 0)=false:=beq_eq_false_iff_ne.2 (by omega);have HTN:Hid (topNone sa8=false):=oh (by
       rw[← HS8.out];show z.node.entries.isEmpty=false;cases hze:z.node.entries with
       | nil=>rw[hze] at h0;exact absurd rfl h0
       | cons _ _=>rfl)
      clear h0 hm9 e0 e2 e3 e4 f9;go_wp2_with fail;go_ret;exact CuD.good H9.out.1 (N8.out.trans H9.out.2) (by rw[HZ.out];simp only[HTN.out,Bool.false_eq_true,if_false];rw[HS8.out])
end
section
variable {F P P' F' P1 F1:Nat→Prop}{ad:Nat→Addr}{w w' w0 w1:World}{base c s gen kb:Nat}{root:Int}{G G':GA}{l l':List Nat}{sv sv':Value}{st st':List FrE}{x:FrE}
def TightF(st:List FrE):Prop:=∀x∈st, -1≤x.at_∧x.at_≤65536
theorem move_any(by_:Int)(hb1 : -1≤by_)(hb2:by_≤1)(h:CuI F P ad w base c s gen kb root G l sv st)(hti:TightF st)(ht:G.total) :
  Calls Tryz.prog 120 #[.pointer (some ⟨kb,0,none⟩),.int .i64 by_] w (CuD F P ad w base c s gen kb root G l sv (moveA G by_ (st.map FrE.pl))):=by
 have H:=oh h;have HT:=oh ht;have HTI:=oh hti;clear h ht hti
 go_enter Tryz.func120, Tryz.ntmps120
 go_wp2_with fail;go_loopg [] st.length (λm wr=>∃(st1:List FrE),st1.length≤m∧m≤st1.length∧Hid (TightF st1∧∃(F1 P1:Nat→Prop) (sv1:Value),CuI F1 P1 ad wr base c s gen kb root G l sv1 st1∧Nxt (cuQ P kb sv) (cuQ P1 kb sv1) F F1 ad w wr∧moveA G by_ (st1.map FrE.pl)=moveA G by_ (st.map FrE.pl)))
 case atStart=>exact⟨st,Nat.le_refl _,Nat.le_refl _,oh ⟨HTI.out,F,P,sv,H.out,Nxt.refl H.out.env H.out.subQ,rfl⟩⟩
 case round =>
  obtain⟨st1,hk1,hk2,HR⟩:=hrel;cases st1 with
  | nil =>
   obtain⟨-,F1,P1,sv1,h1,n1,e1⟩:=HR.out;obtain⟨a,cp,rfl, -, -⟩:=_root_.id h1.cu.row.form;have k4:=h1.cu.blk.cell (o:=4) (v:=.slice a 0 cp) rfl;have H1:=oh h1;have N1:=oh n1;have E1:=oh e1;clear h1 n1 e1;go_wp2_with fail;go_ret;exact CuD.good H1.out N1.out (by rw[← E1.out];rfl)
  | cons x1 r1 =>
   obtain⟨hti1,F1,P1,sv1,h1,n1,e1⟩:=HR.out;obtain⟨g,cp,rfl,b1,b2, -, -⟩:=h1.form;have hr1:r1.length≤15:=by have:=h1.cu.few;simp at this;omega
   have k4:=h1.cu.blk.cell (o:=4) (v:=.slice (some ⟨g,0,none⟩) (r1.length+1) cp) rfl;have H1:=oh h1;have N1:=oh n1;have E1:=oh e1;have HTP:=oh (top_any h1.cu.blk rfl (by omega));have a1:=(hti1 x1 List.mem_cons_self).1;have a2:=(hti1 x1 List.mem_cons_self).2;have HTI1:Hid (TightF r1):=oh (λy hy=>hti1 y (List.mem_cons_of_mem _ hy));simp only[List.length_cons] at hk1 hk2;clear hti1 h1 n1 e1;go_wp2_with fail;refine (HTP.out).mono ?_;rintro e w2 ⟨rfl,hm2⟩;have H2:=oh (H1.out.ext hm2);obtain⟨f2,c0,c1,c2,c3,c4⟩:=H2.out.1.cells;have hro:=(H2.out.1.cu.ok.1 x1.pl (by simp)).1;have HRN:Hid (rightN x1.node=true):=oh hro;have H3:=oh (H2.out.1.put (x1.at_+by_) ⟨hro,by show -2≤x1.at_+by_;omega,by show x1.at_+by_≤65537;omega⟩);obtain⟨W3,hW3⟩:∃W3,w2.setCell ⟨g,r1.length * 5+4,none⟩ (.int .i64 (x1.at_+by_))=W3:=⟨_,rfl⟩;have HW3:=oh hW3;clear hm2 hro c1 c2 hW3 k4;go_wp2_with fail;rw[HW3.out] at H3 ⊢;obtain⟨f3,d0,d1,d2,d3,d4⟩:=H3.out.1.cells;have HEN:Hid (∀q,Calls Tryz.prog 161 #[.pointer (some ⟨g,r1.length * 5,none⟩)] (W3.drewN q) λe w'=>e=.returned (.int .i64 (endsA x1.node:Int))∧w'=W3.drewN q):=oh (λq=>(ends_any x1.node (w:=W3.drewN q) d0 d1 d3).mono (λe w' h=>⟨h.1,h.2.symm⟩));have he7:(endsA x1.node:Int)≤65536:=by
    have hf:=rightN_few HRN.out;unfold endsA;split <;> omega
   have he8:(0:Int)≤(endsA x1.node:Int):=by omega
   clear f2 c0 c3 c4 f3 d0 d1 d2 d3;by_cases hge:0≤x1.at_+by_
   ·have hgd:decide (0≤x1.at_+by_)=true:=decide_eq_true hge;by_cases hlt:x1.at_+by_<(endsA x1.node:Int)
    ·have HZ:Hid (moveA G by_ (st.map FrE.pl)=downF G (decide (by_<0)) (({ x1 with at_:=x1.at_+by_ } :: r1:List FrE).map FrE.pl)):=oh (by
      rw[← E1.out];show moveA G by_ ((x1.node,x1.at_) :: r1.map FrE.pl)=_;rw[moveA,if_pos ⟨hge,hlt⟩];rfl)
     have HTO:Hid (TopOk ({ x1 with at_:=x1.at_+by_ }:FrE).pl):=oh (λhl=>by
      have hl':x1.node.leaf=false:=hl;have h2:=hlt;unfold endsA at h2;rw[if_neg (by rw[hl'];simp)] at h2;exact⟨hge,h2⟩)
     have HDN:=oh (λq=>curDown_any (decide (by_<0)) (H3.out.1.ext ((Mods.refl _ W3).drewN q)).1 HTO.out HT.out);go_wp2_with fail;go_quiet ((go_at_call 161;exact Calls.quiet_of_same (HEN.out _)))
     clear d4;go_wp2_with fail;refine (HDN.out _).mono ?_;rintro e w5 hd;obtain⟨v,rfl⟩:=hd.form;have HD5:=oh hd;clear hd;go_wp2_with fail;go_ret;rw[HZ.out];exact HD5.out.pre (((N1.out.trans H2.out.2).trans H3.out.2).trans (H3.out.1.ext ((Mods.refl _ W3).drewN _)).2)
    ·have hlf:decide (x1.at_+by_<(endsA x1.node:Int))=false:=decide_eq_false hlt;have HZ:Hid (moveA G by_ (r1.map FrE.pl)=moveA G by_ (st.map FrE.pl)):=oh (by
      rw[← E1.out];show _=moveA G by_ ((x1.node,x1.at_) :: r1.map FrE.pl);rw[moveA,if_neg (by omega)])
     go_wp2_with fail;go_quiet ((go_at_call 161;exact Calls.quiet_of_same (HEN.out _)))
     clear d4;have H4:=oh (H3.out.1.ext ((Mods.refl _ W3).drewN nq));go_wp2_with fail;obtain⟨W5,hW5⟩:∃W5,W3.drewN nq=W5:=⟨_,rfl⟩;rw[hW5] at H4 ⊢;have k4:=H4.out.1.cu.blk.cell (o:=4) (v:=.slice (some ⟨g,0,none⟩) (r1.length+1) cp) rfl;have kf:=H4.out.1.cu.blk.frozen;clear hW5;have u1:IntKind.i64.wrap (r1.length:Int)=(r1.length:Int):=IntWalk.i64_in _ (by omega);have u2:(0:Int)≤(r1.length:Int):=by omega
     have u3:(r1.length:Int)≤(cp:Int):=by omega
     have u4:r1.length≤cp:=by omega
     go_still_tail 14,(by kernel_rfl)
     change wpList _ _ _ _ _ W5.drew
     have HD5:=oh (H4.out.1.ext (Mods.refl _ W5).drew);clear k4 kf;have k4:=HD5.out.1.cu.blk.cell (o:=4) (v:=.slice (some ⟨g,0,none⟩) (r1.length+1) cp) rfl;have kf:=HD5.out.1.cu.blk.frozen;have HPP:=oh HD5.out.1.pop;clear u1;go_wp2_with fail;go_roundg (gk-1)
     case measure=>omega
     case rel=>exact⟨r1,by omega,by omega,oh ⟨HTI1.out,F1,P1,_,HPP.out.1,((((N1.out.trans H2.out.2).trans H3.out.2).trans H4.out.2).trans HD5.out.2).trans HPP.out.2,HZ.out⟩⟩
   ·have hgd:decide (0≤x1.at_+by_)=false:=decide_eq_false hge;have HZ:Hid (moveA G by_ (r1.map FrE.pl)=moveA G by_ (st.map FrE.pl)):=oh (by
     rw[← E1.out];show _=moveA G by_ ((x1.node,x1.at_) :: r1.map FrE.pl);rw[moveA,if_neg (by omega)])
    go_wp2_with fail;go_quiet (fail)
    clear d4;have H4:=oh (H3.out.1.ext ((Mods.refl _ W3).drewN nq));go_wp2_with fail;obtain⟨W5,hW5⟩:∃W5,W3.drewN nq=W5:=⟨_,rfl⟩;rw[hW5] at H4 ⊢;have k4:=H4.out.1.cu.blk.cell (o:=4) (v:=.slice (some ⟨g,0,none⟩) (r1.length+1) cp) rfl;have kf:=H4.out.1.cu.blk.frozen;clear hW5;have u1:IntKind.i64.wrap (r1.length:Int)=(r1.length:Int):=IntWalk.i64_in _ (by omega);have u2:(0:Int)≤(r1.length:Int):=by omega
    have u3:(r1.length:Int)≤(cp:Int):=by omega
    have u4:r1.length≤cp:=by omega
    go_still_tail 14,(by kernel_rfl)
    change wpList _ _ _ _ _ W5.drew
    have HD5:=oh (H4.out.1.ext (Mods.refl _ W5).drew);clear k4 kf;have k4:=HD5.out.1.cu.blk.cell (o:=4) (v:=.slice (some ⟨g,0,none⟩) (r1.length+1) cp) rfl;have kf:=HD5.out.1.cu.blk.frozen;have HPP:=oh HD5.out.1.pop;clear u1;go_wp2_with fail;go_roundg (gk-1)
    case measure=>omega
    case rel=>exact⟨r1,by omega,by omega,oh ⟨HTI1.out,F1,P1,_,HPP.out.1,((((N1.out.trans H2.out.2).trans H3.out.2).trans H4.out.2).trans HD5.out.2).trans HPP.out.2,HZ.out⟩⟩
end
section
variable {F P P' F' P1 F1:Nat→Prop}{ad:Nat→Addr}{w w' w0 w1:World}{base c s gen kb:Nat}{root:Int}{G G':GA}{l l':List Nat}{sv sv':Value}{st st':List FrE}{x:FrE}
theorem seek_any(key:ByteArray)(h:CuI F P ad w base c s gen kb root G l sv st)(ht:G.total) :
  Calls Tryz.prog 119 #[.pointer (some ⟨kb,0,none⟩),.string key] w (CuD F P ad w base c s gen kb root G l sv (seekA G root key)):=by
 have H:=oh h;have HT:=oh ht;obtain⟨pa,pc,rfl, -, -⟩:=_root_.id h.cu.row.form;have k4:=h.cu.blk.cell (o:=4) (v:=.slice pa st.reverse.length pc) rfl;have k3:=h.cu.blk.cell (o:=3) (v:=.int .i64 root) rfl;have kf:=h.cu.blk.frozen;have H1:=oh h.nul;by_cases hr:root=0
 ·have hrb:(root == 0)=true:=beq_iff_eq.2 hr;have HV:Hid (seekA G root key=.inl []):=oh (by unfold seekA;rw[if_pos hr]);clear h ht hr
  go_enter Tryz.func119, Tryz.ntmps119
  go_wp2_with fail;go_ret;exact CuD.good H1.out.1 H1.out.2 HV.out
 ·have hrb:(root == 0)=false:=beq_eq_false_iff_ne.2 hr;have HV:Hid (seekA G root key=match seekDown G key 17 [] root with
   | .inr e=>.inr e
   | .inl []=>.inl []
   | .inl ((n,a) :: r)=>if a<(n.entries.length:Int) then .inl ((n,a) :: r) else moveA G 1 ((n,a-1) :: r)):=oh (by unfold seekA;rw[if_neg hr];rfl)
  clear h ht hr
  go_enter Tryz.func119, Tryz.ntmps119
  go_wp2_with fail;clear k3 k4 kf;go_loopg [5] 17 (λm v5 wr=>∃(st1:List FrE) (id1:Int),m+st1.length=17∧v5=.int .i64 id1∧Hid (TightF st1∧∃(F1 P1:Nat→Prop) (sv1:Value),CuI F1 P1 ad wr base c s gen kb root G l sv1 st1∧Nxt (cuQ P kb (.slice pa st.reverse.length pc)) (cuQ P1 kb sv1) F F1 ad w wr∧seekDown G key (17-st1.length) (st1.map FrE.pl) id1=seekDown G key 17 [] root))
  case atStart=>exact⟨[],root,by simp,rfl,oh ⟨λx hx=>by simp at hx,F,P,_,H1.out.1,H1.out.2,rfl⟩⟩
  case round =>
   obtain⟨st1,id1,hk,rfl,HR⟩:=hrel;obtain⟨-,F1,P1,sv1,h1,n1,e1⟩:=HR.out;have hl1:=h1.cu.few;have H2:=oh h1;have N1:=oh n1;have E1:=oh e1;have HPU:=oh (push_any h1 HT.out id1);have HST:Hid (seekDown G key 17 [] root=match pushA G (st1.map FrE.pl) id1 with
    | .inr e=>.inr e
    | .inl []=>.inl []
    | .inl ((n,_) :: r)=>if n.leaf=true then .inl ((n,((findN n key).1:Int)) :: r) else seekDown G key (16-st1.length) ((n,((findN n key).1:Int)) :: r) (n.kids.getD (findN n key).1 0)):=oh (by
    rw[← e1];obtain⟨f,hf⟩:∃f,17-st1.length=f+1:=⟨16-st1.length,by omega⟩;have hf2:16-st1.length=f:=by omega
    rw[hf,hf2,seekDown];rfl)
   clear h1 n1 e1;go_wp2_with fail;refine (HPU.out).mono ?_;rintro e w4 hd;cases hp:pushA G (st1.map FrE.pl) id1 with
   | inr er =>
    obtain⟨el,ek⟩:=er;rw[hp] at hd HST;obtain⟨P4,F4,sv4,st4,h4,n4,f,rfl,hE⟩:=hd;have H4:=oh h4;have N4:=oh n4;have HE:=oh hE;clear h4 n4 hE hp;go_wp2_with fail;go_ret;exact CuD.bad H4.out (N1.out.trans N4.out) HE.out (by rw[HV.out,HST.out])
   | inl sa =>
    rw[hp] at hd;obtain⟨P4,F4,sv4,st4,h4,n4,rfl,hsa⟩:=hd;obtain⟨_,n,hsn,_⟩:=pushA_ok H2.out.cu.ok hp;rw[hsn] at hsa;obtain⟨y,r2,rfl⟩:∃y r2,st4=y :: r2:=by
     cases st4 with
     | nil=>simp at hsa
     | cons y r2=>exact⟨y,r2,rfl⟩
    rw[List.map_cons] at hsa;injection hsa with hs1 hs2;have hyn:y.node=n:=congrArg Prod.fst hs1;have hrl:r2.length=st1.length:=by have:=congrArg List.length hs2;simpa using this
    have hr2:r2.length≤15:=by have:=h4.cu.few;simp at this;omega
    have hrl1:st1.length≤r2.length:=by omega
    have hrl2:r2.length≤st1.length:=by omega
    have HTI2:Hid (TightF r2):=oh (λz hz=>by
     have hz2:z.pl∈st1.map FrE.pl:=by rw[← hs2];exact List.mem_map_of_mem hz
     obtain⟨u,hu,hue⟩:=List.mem_map.1 hz2;have:=HR.out.1 u hu;have he:u.at_=z.at_:=congrArg Prod.snd hue;rw[he] at this;exact this)
    have HST2:Hid (seekDown G key 17 [] root=if y.node.leaf=true then .inl ((y.node,((findN y.node key).1:Int)) :: r2.map FrE.pl) else seekDown G key (16-r2.length) ((y.node,((findN y.node key).1:Int)) :: r2.map FrE.pl) (y.node.kids.getD (findN y.node key).1 0)):=oh (by
     rw[HST.out,hp,hsn,hyn,hs2,hrl])
    have H4:=oh h4;have N4:=oh (N1.out.trans n4);have HRN:Hid (rightN y.node=true):=oh (h4.cu.ok.1 y.pl (by simp)).1;clear h4 n4 hsn hp hs1 hs2 hyn hrl HST HR;obtain⟨g,cp,rfl,b4,b5, -, -⟩:=_root_.id H4.out.form;have HT4:=oh (top_any H4.out.cu.blk rfl (by omega));go_wp2_with fail;refine (HT4.out).mono ?_;rintro e w5 ⟨rfl,hm5⟩;have H5:=oh (H4.out.ext hm5);obtain⟨f5,c0,c1,c2,c3,c4⟩:=H5.out.1.cells;have hfr:=H5.out.1.cu.fr y List.mem_cons_self;have HFN:=oh (findNode_any y.node key (.slice y.ea y.node.entries.length y.ec) (.slice y.ka y.node.keys.length y.kc) (.slice y.ia y.node.kids.length y.ic) hfr.es hfr.ks);clear hm5 hfr f5 c4;go_wp2_with fail;refine (HFN.out).mono ?_;rintro e w6 ⟨rfl,hm6⟩;have H6:=oh (H5.out.1.ext hm6);clear c0 c1 c2 c3 hm6;obtain⟨f6, -, -, -, -,c4⟩:=H6.out.1.cells;obtain⟨a,ha⟩:∃a,a=(findN y.node key).1:=⟨_,rfl⟩;rw[← ha] at HST2 ⊢;have hal:=findN_le HRN.out key;rw[← ha] at hal;obtain⟨ha1,ha2,ha3⟩:=hal;have H7:=oh (H6.out.1.put (a:Int) ⟨HRN.out,by show (-2:Int)≤(a:Int);omega,by show (a:Int)≤65537;omega⟩);obtain⟨W7,hW7⟩:∃W7,w6.setCell ⟨g,r2.length * 5+4,none⟩ (.int .i64 (a:Int))=W7:=⟨_,rfl⟩;have N7:=oh (((N4.out.trans H5.out.2).trans H6.out.2).trans H7.out.2);have HA:=oh ha;clear ha;rw[hW7] at H7 N7;have HW7:=oh hW7;obtain⟨f6b,c0,c1,c2,c3, -⟩:=H6.out.1.cells;obtain⟨f7,d0,d1, -,d3,d4⟩:=H7.out.1.cells;have HTA:Hid (TightF ({ y with at_:=(a:Int) } :: r2:List FrE)):=oh (λz hz=>by
     rcases List.mem_cons.1 hz with rfl|hz
     ·exact⟨by show (-1:Int)≤(a:Int);omega,by show (a:Int)≤65536;omega⟩
     ·exact HTI2.out z hz)
    cases hlf:y.node.leaf with
    | true =>
     have hae:=ha2 hlf;rw[hlf] at d0 c0;have HSD:Hid (seekDown G key 17 [] root=.inl ((y.node,(a:Int)) :: r2.map FrE.pl)):=oh (by rw[HST2.out,if_pos hlf]);have hle:y.node.entries.length≤65535:=(rightN_few HRN.out).1;have HTQ:=oh (top_q H7.out.1.cu.blk rfl (by omega));have HT8:=oh (λq=>top_any (H7.out.1.ext ((Mods.refl _ W7).drewN q)).1.cu.blk rfl (by omega));clear ha2 ha3 hW7 hlf f7 d0 d3 f6b c1 c2 c3;go_wp2_with fail;rw[HW7.out];by_cases hlt:a<y.node.entries.length
     ·have hlti:(a:Int)<(y.node.entries.length:Int):=by omega
      have hltd:decide (a<y.node.entries.length)=true:=decide_eq_true hlt;have HZ:Hid (seekA G root key=.inl (({ y with at_:=(a:Int) } :: r2:List FrE).map FrE.pl)):=oh (by rw[HV.out,HSD.out];exact if_pos hlti);go_quiet ((go_at_call 115;exact HTQ.out _))
      go_wp2_with fail;go_ret;have H8:=H7.out.1.ext ((Mods.refl _ W7).drewN nq);exact CuD.good H8.1 (N7.out.trans H8.2) HZ.out
     ·have hlti:¬ (a:Int)<(y.node.entries.length:Int):=by omega
      have hltd:decide (a<y.node.entries.length)=false:=decide_eq_false hlt;have HZ:Hid (seekA G root key=moveA G 1 (({ y with at_:=(a:Int)-1 } :: r2:List FrE).map FrE.pl)):=oh (by rw[HV.out,HSD.out];exact if_neg hlti);go_quiet ((go_at_call 115;exact HTQ.out _))
      clear d1 d4;have H8:=oh (H7.out.1.ext ((Mods.refl _ W7).drewN nq));go_wp2_with fail;refine (HT8.out _).mono ?_;rintro e w9 ⟨rfl,hm9⟩;have H9:=oh (H8.out.1.ext hm9);obtain⟨f9, -, -, -, -,c9⟩:=H9.out.1.cells;have H10:=oh (H9.out.1.put ((a:Int)-1) ⟨HRN.out,by show (-2:Int)≤(a:Int)-1;omega,by show (a:Int)-1≤65537;omega⟩);have HMV:=oh (move_any 1 (by omega) (by omega) H10.out.1 (λz hz=>by
       rcases List.mem_cons.1 hz with rfl|hz
       ·exact⟨by show (-1:Int)≤(a:Int)-1;omega,by show (a:Int)-1≤65536;omega⟩
       ·exact HTI2.out z hz) HT.out)
      clear hm9;go_wp2_with fail;refine (HMV.out).mono ?_;rintro e w11 hd;obtain⟨v,rfl⟩:=hd.form;have HD11:=oh hd;clear hd f9 c9;go_wp2_with fail;go_ret;rw[HZ.out];exact HD11.out.pre (((N7.out.trans H8.out.2).trans H9.out.2).trans H10.out.2)
    | false =>
     have hak:=ha3 hlf;rw[hlf] at d0 c0;obtain⟨ib,ioff,hia,hic⟩:=(H7.out.1.cu.fr { y with at_:=(a:Int) } List.mem_cons_self).is.elem (k:=a) hak (Mods.refl _ _);obtain⟨kid,hkid⟩:∃kid,kid=y.node.kids[a]:=⟨_,rfl⟩;have e0:=hic 0 (.int .i64 kid) (by rw[hkid];rfl);simp only[Nat.mul_one,Nat.add_zero] at e0;have HSD:Hid (seekDown G key (17-({ y with at_:=(a:Int) } :: r2:List FrE).length) (({ y with at_:=(a:Int) } :: r2:List FrE).map FrE.pl) kid=seekDown G key 17 [] root):=oh (by
      rw[HST2.out,if_neg (by rw[hlf];simp)];have e1:y.node.kids.getD a 0=kid:=by rw[hkid];simp[List.getD,hak]
      have e2:17-({ y with at_:=(a:Int) } :: r2:List FrE).length=16-r2.length:=by rw[List.length_cons];omega
      rw[e1,e2];rfl)
     have i1:(0:Int)≤(a:Int):=by omega
     have i2:(a:Int)<(y.node.kids.length:Int):=by omega
     rw[show ({ y with at_:=(a:Int) }:FrE).ia=y.ia from rfl] at hia;rw[show ({ y with at_:=(a:Int) }:FrE).ia=y.ia from rfl,hia] at d3;clear ha2 ha3 hW7 hlf f7 d0 d1 f6b c1 c2 c3 hic hkid hak hia;go_wp2_with fail;rw[HW7.out];go_quiet (fail)
     clear d3 d4 e0;have H8:=oh (H7.out.1.ext ((Mods.refl _ W7).drewN nq));go_wp2_with fail;go_roundg (gk-1)
     case measure=>omega
     case rel=>exact⟨{ y with at_:=(a:Int) } :: r2,kid,by rw[List.length_cons];omega,rfl,oh ⟨HTA.out,F4,P4,_,H8.out.1,N7.out.trans H8.out.2,HSD.out⟩⟩
end
section
variable {F P P' F' P1 F1:Nat→Prop}{ad:Nat→Addr}{w w' w0 w1:World}{base c s gen kb:Nat}{root:Int}{G G':GA}{l l':List Nat}{sv sv':Value}{st st':List FrE}{x:FrE}
def CuF(F P:Nat→Prop)(ad:Nat→Addr)(w:World)(base c s gen kb:Nat)(root:Int)(G:GA)(l:List Nat)(sv:Value)(r:StC ⊕ Err)(e:Ending)(w':World):Prop :=
 ∃(P' F':Nat→Prop) (sv':Value) (st':List FrE),CuI F' P' ad w' base c s gen kb root G l sv' st'∧Nxt (cuQ P kb sv) (cuQ P' kb sv') F F' ad w w' ∧
  match r with
  | .inl sa=>e=.returned .nilIface∧st'.map FrE.pl=sa
  | .inr (el,ek)=>st'=[]∧∃f,e=.returned (faultV f)∧ErrC F' ad w' (faultV f) (-1 :: el) ek
theorem fail_nil(op:ByteArray)(w:World) : Calls Tryz.prog 113 #[.pointer (some ⟨kb,0,none⟩),.string op,.nilIface] w λe w'=>e=.returned .nilIface∧w=w':=by
 go_enter Tryz.func113, Tryz.ntmps113
 go_wp2_with fail;refine (wrap_nil op w).mono ?_;rintro e w1 ⟨rfl,rfl⟩;go_wp2_with fail;go_ret;exact⟨rfl,rfl⟩
theorem fail_err(op:ByteArray)(h:CuI F P ad w base c s gen kb root G l sv st){f:Nat}{el:List Int}{ek:Nat}(hE:ErrC F ad w (faultV f) el ek) :
  Calls Tryz.prog 113 #[.pointer (some ⟨kb,0,none⟩),.string op,faultV f] w λe w'=>∃f',CuI F P ad w' base c s gen kb root G l (.slice none 0 0) []∧Nxt (cuQ P kb sv) (cuQ P kb (.slice none 0 0)) F F ad w w'∧e=.returned (faultV f')∧ErrC F ad w' (faultV f') (-1 :: el) ek:=by
 have H:=oh h;obtain⟨pa,pc,rfl, -, -⟩:=_root_.id h.cu.row.form;have k4:=h.cu.blk.cell (o:=4) (v:=.slice pa st.reverse.length pc) rfl;have kf:=h.cu.blk.frozen;have H1:=oh h.nul;have hE1:=hE.mods (Mods.setCell (F:=F) (p:=⟨kb,4,none⟩) (Mods.refl _ w) (.inr (h.cu.nP kb (.inl rfl)).1) (.slice none 0 0));have HW:=oh (wrap_any H1.out.1.env op _ _ _ hE1);clear h hE hE1
 go_enter Tryz.func113, Tryz.ntmps113
 go_wp2_with fail;refine (HW.out).mono ?_;rintro e w2 ⟨f2,rfl,hE2,hm2⟩;have HE2:=oh hE2;have H2:=oh (H1.out.1.ext hm2);clear hE2 hm2;go_wp2_with fail;go_ret;exact⟨f2,H2.out.1,H1.out.2.trans H2.out.2,rfl,HE2.out⟩
theorem first_any(h:CuI F P ad w base c s gen kb root G l sv st)(ht:G.total) :
  Calls Tryz.prog 73 #[.pointer (some ⟨kb,0,none⟩)] w (CuF F P ad w base c s gen kb root G l sv (edgeA G root false)):=by
 have HC:=oh (edge_any false h ht);clear h ht
 go_enter Tryz.func73, Tryz.ntmps73
 go_wp2_with fail;refine (HC.out).mono ?_;rintro e w1 hd;cases hr:edgeA G root false with
 | inl sa =>
  rw[hr] at hd;obtain⟨P1,F1,sv1,st1,h1,n1,rfl,hsa⟩:=hd;have H1:=oh h1;have N1:=oh n1;have HS:=oh hsa;have HR:=oh hr;clear h1 n1 hsa hr;go_wp2_with fail;refine (fail_nil _ _).mono ?_;rintro e w2 ⟨rfl,rfl⟩;go_wp2_with fail;go_ret;refine⟨P1,F1,sv1,st1,H1.out,N1.out,?_⟩;rw[HR.out];exact⟨rfl,HS.out⟩
 | inr er =>
  obtain⟨el,ek⟩:=er;rw[hr] at hd;obtain⟨P1,F1,sv1,st1,h1,n1,f,rfl,hE⟩:=hd;have HF:=oh (λop=>fail_err op h1 hE);have N1:=oh n1;have HR:=oh hr;clear h1 n1 hE hr;go_wp2_with fail;refine (HF.out _).mono ?_;rintro e w2 ⟨f2,h2,n2,rfl,hE2⟩;have H2:=oh h2;have N2:=oh (N1.out.trans n2);have HE2:=oh hE2;clear h2 n2 hE2;go_wp2_with fail;go_ret;refine⟨P1,F1,_,[],H2.out,N2.out,?_⟩;rw[HR.out];exact⟨rfl,f2,rfl,HE2.out⟩
theorem next_any(h:CuI F P ad w base c s gen kb root G l sv st)(hti:TightF st)(ht:G.total) :
  Calls Tryz.prog 85 #[.pointer (some ⟨kb,0,none⟩)] w (CuF F P ad w base c s gen kb root G l sv (moveA G 1 (st.map FrE.pl))):=by
 have HC:=oh (move_any 1 (by omega) (by omega) h hti ht);clear h ht hti
 go_enter Tryz.func85, Tryz.ntmps85
 go_wp2_with fail;refine (HC.out).mono ?_;rintro e w1 hd;cases hr:moveA G 1 (st.map FrE.pl) with
 | inl sa =>
  rw[hr] at hd;obtain⟨P1,F1,sv1,st1,h1,n1,rfl,hsa⟩:=hd;have H1:=oh h1;have N1:=oh n1;have HS:=oh hsa;have HR:=oh hr;clear h1 n1 hsa hr;go_wp2_with fail;refine (fail_nil _ _).mono ?_;rintro e w2 ⟨rfl,rfl⟩;go_wp2_with fail;go_ret;refine⟨P1,F1,sv1,st1,H1.out,N1.out,?_⟩;rw[HR.out];exact⟨rfl,HS.out⟩
 | inr er =>
  obtain⟨el,ek⟩:=er;rw[hr] at hd;obtain⟨P1,F1,sv1,st1,h1,n1,f,rfl,hE⟩:=hd;have HF:=oh (λop=>fail_err op h1 hE);have N1:=oh n1;have HR:=oh hr;clear h1 n1 hE hr;go_wp2_with fail;refine (HF.out _).mono ?_;rintro e w2 ⟨f2,h2,n2,rfl,hE2⟩;have H2:=oh h2;have N2:=oh (N1.out.trans n2);have HE2:=oh hE2;clear h2 n2 hE2;go_wp2_with fail;go_ret;refine⟨P1,F1,_,[],H2.out,N2.out,?_⟩;rw[HR.out];exact⟨rfl,f2,rfl,HE2.out⟩
def boundB(s:ByteArray):Bool:=decide (s=⟨#[]⟩) || keyB s
theorem bound_any(s:ByteArray)(w:World) : Calls Tryz.prog 118 #[.string s] w λe w'=>e=.returned (.bool (boundB s))∧w=w':=by
 have HK:=oh (key_any s w);by_cases h:s=⟨#[]⟩
 ·subst h;have HB:Hid (boundB ⟨#[]⟩=true):=oh rfl
  go_enter Tryz.func118, Tryz.ntmps118
  go_wp2_with fail;go_ret;rw[HB.out];exact⟨rfl,rfl⟩
 ·have HB:Hid (boundB s=keyB s):=oh (by unfold boundB;rw[decide_eq_false h];rfl);have h1:s.toList≠[]:=λe=>h (toList_inj (by rw[e];simp[ByteArray.toList_eq]))
  have h2:s.toList.isEmpty=false:=by
   cases hs:s.toList with
   | nil=>exact absurd hs h1
   | cons _ _=>rfl
  have h3:(s.toList == [])=false:=beq_eq_false_iff_ne.2 h1;clear h
  go_enter Tryz.func118, Tryz.ntmps118
  go_wp2_with fail;refine (HK.out).mono ?_;rintro e w1 ⟨rfl,rfl⟩;go_wp2_with fail;go_ret;rw[HB.out];exact⟨rfl,rfl⟩
end
end Go.Proofs.YtchklfmggpconaaGreatDoor
