import Derived.Test.YteabpacpngaoaaaGreatDoorB07
import Derived.Test.YteabpacpngaoaaaGreatDoorShelf
namespace Go.Proofs.YteabpacpngaoaaaGreatDoor
open Lib renaming hid→oh
open Go.RowKit
def IsRes(F:Nat→Prop)(ad:Nat→Addr)(w:World)(c:Nat)(ev:Value):Prop :=
 (c=0∧ev=.nilIface)∨(c≠0∧∃b l,ev=faultV b∧ErrC F ad w (faultV b) l c)
theorem IsRes.nil(F:Nat→Prop)(ad:Nat→Addr)(w:World):IsRes F ad w 0 .nilIface:=.inl ⟨rfl,rfl⟩
def ChkPost(F:Nat→Prop)(ad:Nat→Addr)(w:World)(c:Nat)(e:Ending)(w':World):Prop :=
 ∃ev,e=.returned ev∧IsRes F ad w' c ev∧Ext w w'
theorem all_right{ls:List (List PairB)}{k:Nat}(h:k<ls.length)(hr:rightP ls[k]=false):ls.all rightP=false:=by
 rw[List.all_eq_false];exact⟨ls[k],by simp,by simp[hr]⟩
set_option maxHeartbeats 1000000 in
theorem check_any{F:Nat→Prop}{ad:Nat→Addr}{w:World}(hL:Env F ad w)(op:ByteArray)(size:Int)(lv:Value)(vs:List Value)(ls:List (List PairB))
  (hlv:Sl F w 1 encV lv vs) (hlen:vs.length=ls.length) (hvs:∀(i:Nat) (v:Value) (l:List PairB),vs[i]? = some v→ls[i]? = some l→Sl F w 2 encP v l) :
  Calls Tryz.prog 88 #[.string op,.int .i64 size,lv] w (ChkPost F ad w (codeN size ls)):=by
 have g1:=hL.c1;have g2:=hL.c2;by_cases hs:size<256∨1024<size
 ·have hc:Hid (codeN size ls=2):=oh (by unfold codeN;rw[if_pos hs]);have HL:=oh hL;by_cases hs1:size<256
  all_goals
   try have hs2:1024<size:=by omega
   clear hs hlv hlen hvs hL
   go_enter Tryz.func88, Tryz.ntmps88
   go_wp2_with (go_at_call 43;refine (new_any HL.out op _ _ 2 (.sent 2 (by omega) (by omega))).mono ?_;rintro e w' ⟨b,rfl,hE,hM⟩);go_ret;exact⟨_,rfl,by rw[hc.out];exact .inr ⟨by omega,b,_,rfl,hE⟩,hM⟩
 ·obtain⟨h256,h1024⟩:256≤size∧size≤1024:=by omega
  have hcd:Hid (codeN size ls=if ls.all rightP then 0 else 1):=oh (by unfold codeN;rw[if_neg hs]);clear hs;obtain⟨a,cap,rfl,h1,h2,h3,h4⟩:=hlv;unfold maxLen at h2;have HV:=oh hvs;have HL:=oh hL;have HLN:=oh hlen;have hvl:vs.length≤140737488355328:=h3;clear hvs hL hlen
  go_enter Tryz.func88, Tryz.ntmps88
  go_wp2
  go_loopg [23] vs.length (λm i wr=>∃k:Nat,k+m=vs.length∧i=.int .i64 k∧Hid (∀j (h:j<ls.length),j<k→rightP ls[j]=true)∧Ext w wr)
  case atStart=>exact⟨0,by omega,rfl,oh (λj _ h=>by omega),Mods.refl _ _⟩
  case round =>
   obtain⟨k,hk,rfl,HR,hm⟩:=hrel;by_cases hlt:k<vs.length
   ·obtain⟨b,off,rfl,hb,hF,hc⟩:=Sl.at h4 hm (λ_ _ f=>f.elim) k hlt;have c0:=hc 0 _ rfl;simp only[Nat.mul_one,Nat.add_zero] at c0;clear hc h4;have hlt2:k<ls.length:=by have:=HLN.out;omega
    have hin:=HV.out k vs[k] ls[k] (by simp) (by simp);generalize hv0:vs[k]=v0 at *
    generalize hl0:ls[k]=l at *
    obtain⟨a2,cap2,rfl,i1,i2,i3,i4⟩:=hin;unfold maxLen at i2;have HHV:=oh hv0;have HHL:=oh hl0;clear hv0 hl0;go_wp2
    obtain⟨wo,rfl⟩:∃wo:World,wo=wr:=⟨_,rfl⟩;obtain⟨gko,rfl⟩:∃g:Nat,g=gk:=⟨_,rfl⟩;go_loopg [9,29] l.length (λm t i wr=>∃q:Nat,∃lk:ByteArray,q+m=l.length∧i=.int .i64 q∧t=.string lk∧Hid (rightFrom lk (l.drop q)=rightP l)∧Ext w wr)
    case atStart=>exact⟨0,_,by omega,rfl,rfl,oh rfl,hm⟩
    case round =>
     obtain⟨q,lk,hq,rfl,rfl,HQ,hm⟩:=hrel;by_cases hqt:q<l.length
     ·obtain⟨b2,off2,rfl,hb2,hF2,hc2⟩:=Sl.atE i4 hm q hqt;have d0:=hc2 0 _ rfl;have d1:=hc2 1 _ rfl;simp only[Nat.add_zero] at d0;clear hc2 i4;have hrd:=HQ.out;rw[rightFrom_drop lk l q hqt] at hrd;have HRD:=oh hrd;clear hrd HQ;have HLr:=oh (HL.out.mods (Mods.ext hm));have g1r:=HLr.out.c1;have hgz : 2 < wr.heap.size:=Nat.lt_of_lt_of_le (by decide) HLr.out.size;have hbad:Hid (rightP l=false→codeN size ls=1):=oh (λhr=>by rw[hcd.out,all_right hlt2 (by rw[HHL.out];exact hr)];rfl);have hle:(Op.bytesLess l[q].1.toList lk.toList || l[q].1.toList == lk.toList)=leS l[q].1 lk:=rfl;cases hkb:keyB l[q].1
      ·have hf:=oh (hbad.out (by rw[← HRD.out,hkb];rfl));clear hle;go_wp2_with (first|(go_at_call 139;refine (key_any _ _).mono ?_;rintro e w' ⟨rfl,rfl⟩)|(go_at_call 43;refine (new_any (HLr.out.mods ((Mods.refl F _).alloc _)) op _ _ 1 (.sent 1 (by omega) (by omega))).mono ?_;rintro e w' ⟨b,rfl,hE,hM⟩));go_ret;exact⟨_,rfl,by rw[hf.out];exact .inr ⟨by omega,_,_,rfl,hE⟩,(hm.alloc _).trans hM⟩
      ·cases hlb:leS l[q].1 lk
       ·rw[hlb] at hle;by_cases hsz:l[q].2.size≤4096
        ·have hnext:Hid (rightFrom l[q].1 (l.drop (q+1))=rightP l):=oh (by rw[← HRD.out,hkb,hlb];simp[hsz]);go_wp2_with (first|(go_at_call 139;refine (key_any _ _).mono ?_;rintro e w' ⟨rfl,rfl⟩));go_roundg (gk-1)
         case measure=>omega
         case rel=>exact⟨q+1,_,by omega,by go_num,rfl,hnext,hm.alloc _⟩
        ·have hf:=oh (hbad.out (by rw[← HRD.out,hkb,hlb];simp[hsz]));go_wp2_with (first|(go_at_call 139;refine (key_any _ _).mono ?_;rintro e w' ⟨rfl,rfl⟩)|(go_at_call 43;refine (new_any (HLr.out.mods ((Mods.refl F _).alloc _)) op _ _ 1 (.sent 1 (by omega) (by omega))).mono ?_;rintro e w' ⟨b,rfl,hE,hM⟩));go_ret;exact⟨_,rfl,by rw[hf.out];exact .inr ⟨by omega,_,_,rfl,hE⟩,(hm.alloc _).trans hM⟩
       ·rw[hlb] at hle;have hf:=oh (hbad.out (by rw[← HRD.out,hkb,hlb];rfl));go_wp2_with (first|(go_at_call 139;refine (key_any _ _).mono ?_;rintro e w' ⟨rfl,rfl⟩)|(go_at_call 43;refine (new_any (HLr.out.mods ((Mods.refl F _).alloc _)) op _ _ 1 (.sent 1 (by omega) (by omega))).mono ?_;rintro e w' ⟨b,rfl,hE,hM⟩));go_ret;exact⟨_,rfl,by rw[hf.out];exact .inr ⟨by omega,_,_,rfl,hE⟩,(hm.alloc _).trans hM⟩
     ·have hqe:q=l.length:=by omega
      have hrl:Hid (rightP l=true):=oh (by rw[← HQ.out,hqe,List.drop_length];rfl);have HR2:Hid (∀j (h:j<ls.length),j<k+1→rightP ls[j]=true):=oh (λj h hj=>by
       by_cases e:j=k
       ·subst e;rw[HHL.out];exact hrl.out
       ·exact HR.out j h (by omega))
      clear HQ hqe HR;go_wp2
      go_roundg (gko-1)
      case measure=>omega
      case rel=>exact⟨k+1,by omega,by go_num,HR2,hm⟩
   ·have hall:Hid (codeN size ls=0):=oh (by
     rw[hcd.out,if_pos];rw[List.all_eq_true];intro x hx;obtain⟨j,hj,rfl⟩:=List.getElem_of_mem hx;exact HR.out j hj (by have:=HLN.out;omega))
    clear HR h4;go_wp2
    go_ret;exact⟨_,rfl,by rw[hall.out];exact IsRes.nil _ _ _,hm⟩
end Go.Proofs.YteabpacpngaoaaaGreatDoor
