import Derived.BigQuiet
import Derived.Test.YtchklfmggpconaaGreatDoorK38
namespace Go.Proofs.YtchklfmggpconaaGreatDoor
open Lib renaming hid→oh
set_option maxHeartbeats 4000000
set_option maxRecDepth 100000
open Go.RowKit
attribute [local go_sem ↓] Go.wp_at_zero Go.wp_at_succ
section
variable {P P' F F':Nat→Prop}{ad:Nat→Addr}{w w':World}{c s:Nat}
theorem bapply1_any(k:ByteArray)(b1 b2:Bool)(v u:ByteArray) : Calls Tryz.prog 60 #[.agg #[.string k,.bool b1,.bool b2,.string v,.string u]] w λe w'=>e=.returned (.string k)∧Ext w w':=by
 have m0:Ext w (w.alloc (.cells #[.string k,.bool b1,.bool b2,.string v,.string u] 67)):=(Mods.refl _ w).alloc _;have M0:=oh m0;clear m0
 go_enter Tryz.func60, Tryz.ntmps60
 go_wp2_with fail;go_ret;exact⟨rfl,M0.out⟩
theorem brisingC_any(l:List ChV)(lv:Value)(hl:Sl F w 5 encCh lv l) :
  Calls Tryz.prog 59 #[lv,.func (.func 60) #[] #[]] w λe w'=>e=.returned (.bool (risesB e0 (l.map (·.key))))∧Ext w w':=by
 have HL:=oh hl;obtain⟨la,lc,rfl,h1,h2,h3, -⟩:=hl;unfold maxLen at h2
 go_enter Tryz.func59, Tryz.ntmps59
 go_wp2_with fail;go_loopg [5,10] l.length (λm v5 v10 wr=>∃(k:Nat) (last:ByteArray),k+m=l.length∧v5=.string last∧v10=.int .i64 (k:Int)∧Hid (risesB last ((l.drop k).map (·.key))=risesB e0 (l.map (·.key))∧Ext w wr))
 case atStart=>exact⟨0,e0,by omega,rfl,rfl,oh ⟨rfl,Mods.refl _ _⟩⟩
 case round =>
  obtain⟨k,last,hkm,rfl,rfl,HR⟩:=hrel;by_cases hlt:k<l.length
  ·obtain⟨qb,qoff,hqa,hc⟩:=HL.out.elem hlt HR.out.2;have c0:=hc 0 (.string l[k].key) rfl;have c1:=hc 1 (.bool l[k].was) rfl;have c2:=hc 2 (.bool l[k].is) rfl;have c3:=hc 3 (.string l[k].old) rfl;have c4:=hc 4 (.string l[k].new) rfl;simp only[Nat.add_zero] at c0;subst hqa;have hdr:l.drop k=l[k] :: l.drop (k+1):=List.drop_eq_getElem_cons hlt;obtain⟨x,hx⟩:∃x,x=l[k]:=⟨_,rfl⟩;obtain⟨key,q1,q2,v,u⟩:=x;rw[← hx] at c0 c1 c2 c3 c4 hdr;simp only at c0 c1 c2 c3 c4;have HRB:Hid (risesB e0 (l.map (·.key))=if keyB key=true∧ltS last key=true then risesB key ((l.drop (k+1)).map (·.key)) else false):=oh (by rw[← HR.out.1,hdr,List.map_cons,risesB]);have i1:(0:Int)≤(k:Int):=by omega
   have i2:(k:Int)<(l.length:Int):=by omega
   have HX:Hid (∀W,Ext wr W→Ext w W):=oh (λW m=>HR.out.2.trans m);have m0:Ext wr (wr.alloc (.cells #[.string key,.bool q1,.bool q2,.string v,.string u] 67)):=(Mods.refl _ wr).alloc _;have HC:=λW=>bapply1_any (w:=W) key q1 q2 v u
   have HC:=oh HC;have HK:=oh (key_any key);have hB:=Blk.new wr #[.string key,.bool q1,.bool q2,.string v,.string u] 67;have HBX:=oh hB;have HM0:=oh m0;clear hc hdr hx m0 hB;go_wp2_with fail;refine (HC.out _).mono ?_;rintro e w3 ⟨rfl,hm3⟩;have hB3:=HBX.out.ext hm3;have b0:=hB3.cell (o:=0) rfl;have b1:=hB3.cell (o:=1) rfl;have b2:=hB3.cell (o:=2) rfl;have b3:=hB3.cell (o:=3) rfl;have b4:=hB3.cell (o:=4) rfl;have HM3:=oh (HM0.out.trans hm3);have HB3:=oh hB3;clear hm3 hB3;go_wp2_with fail;refine (HK.out _).mono ?_;rintro e w4 ⟨rfl,rfl⟩;cases hk:keyB key with
   | false =>
    have HF:Hid (risesB e0 (l.map (·.key))=false):=oh (by rw[HRB.out,if_neg (by rw[hk];simp)]);clear hk;go_wp2_with fail;go_ret;exact⟨by rw[HF.out];rfl,HX.out _ HM3.out⟩
   | true =>
    have HKY:=oh hk;clear hk;go_wp2_with fail;refine (HC.out _).mono ?_;rintro e w5 ⟨rfl,hm5⟩;have hB5:=HB3.out.ext hm5;have b0:=hB5.cell (o:=0) rfl;have b1:=hB5.cell (o:=1) rfl;have b2:=hB5.cell (o:=2) rfl;have b3:=hB5.cell (o:=3) rfl;have b4:=hB5.cell (o:=4) rfl;have HM5:=oh (HM3.out.trans hm5);clear hm5 hB5;cases ht:ltS last key with
    | false =>
     have HF:Hid (risesB e0 (l.map (·.key))=false):=oh (by rw[HRB.out,if_neg (by rw[ht];simp)]);have hle:(Op.bytesLess key.toList last.toList || key.toList == last.toList)=true:=by
      rcases ltS_tri last key with h|h|h
      ·rw[h] at ht;cases ht
      ·rw[h];simp
      ·unfold ltS at h;rw[h];rfl
     clear ht;go_wp2_with fail;go_ret;exact⟨by rw[HF.out];rfl,HX.out _ HM5.out⟩
    | true =>
     have HT:Hid (risesB key ((l.drop (k+1)).map (·.key))=risesB e0 (l.map (·.key))):=oh (by rw[HRB.out,if_pos ⟨HKY.out,ht⟩]);have hb1:Op.bytesLess key.toList last.toList=false:=by have:=ltS_asymm ht;unfold ltS at this;exact this
     have hb2:(key.toList == last.toList)=false:=beq_eq_false_iff_ne.2 (λe=>ltS_ne ht (toList_inj e).symm);clear ht;go_wp2_with fail;refine (HC.out _).mono ?_;rintro e w6 ⟨rfl,hm6⟩;have HM6:=oh (HM5.out.trans hm6);clear hm6;go_wp2_with fail;go_roundg (gk-1)
     case measure=>omega
     case rel=>exact⟨k+1,key,by omega,rfl,by go_num,oh ⟨HT.out,HX.out _ HM6.out⟩⟩
  ·have hk:k=l.length:=by omega
   have HE:Hid (risesB e0 (l.map (·.key))=true):=oh (by rw[← HR.out.1,hk,List.drop_length];rfl);go_wp2_with fail;go_ret;exact⟨by rw[HE.out];rfl,HR.out.2⟩
end
theorem leS_ltS(a b:ByteArray):leS a b = !ltS b a:=by
 unfold leS;change (ltS a b || a.toList == b.toList) = !ltS b a
 rcases ltS_tri a b with h|h|h
 ·rw[h,ltS_asymm h];rfl
 ·subst h;rw[ltS_irrefl];simp
 ·rw[h,ltS_asymm h];have:a.toList≠b.toList:=λe=>ltS_ne h (toList_inj e.symm)
  simp[this]
section
variable {F:Nat→Prop}{w w':World}
theorem rising15_any(l:List ByteArray)(lv:Value)(hl:Sl F w 1 encS lv l) : Calls Tryz.prog 28 #[lv] w λe w'=>e=.returned (.bool (risesB e0 l))∧Ext w w':=by
 have HL:=oh hl;obtain⟨la,lc,rfl,h1,h2,h3, -⟩:=hl;unfold maxLen at h2
 go_enter Tryz.func28, Tryz.ntmps28
 go_wp2_with fail;go_loopg [3] l.length (λm v3 wr=>∃(k:Nat) (last:ByteArray),k+m=l.length∧v3=.int .i64 (k:Int)∧Hid (risesB last (l.drop k)=risesB e0 l)∧Hid (k=0→last=e0)∧Hid (∀h:0<k,∀h2:k-1<l.length,l[k-1]=last)∧Hid (Ext w wr))
 case atStart=>exact⟨0,e0,by omega,rfl,oh (by simp),oh (λ_=>rfl),oh (λh=>by omega),oh (Mods.refl _ _)⟩
 case round =>
  obtain⟨k,last,hkm,rfl,HR,H0,H1,HM⟩:=hrel;by_cases hlt:k<l.length
  ·have hrd:=HR.out;rw[List.drop_eq_getElem_cons hlt,risesB] at hrd;obtain⟨qb,qoff,hqa,hc⟩:=HL.out.elem hlt HM.out;have c0:=hc 0 (.string l[k]) rfl;simp only[Nat.mul_one,Nat.add_zero] at c0;have HE:=oh hqa;obtain⟨x,hx⟩:∃x,x=l[k]:=⟨_,rfl⟩;have HX:=oh hx;rw[← hx] at hrd c0;have i1:(0:Int)≤(k:Int):=by omega
   have i2:(k:Int)<(l.length:Int):=by omega
   have HRD:=oh hrd;subst hqa;clear hc hrd hx;cases hkb:keyB x
   ·have hf:=oh (show risesB e0 l=false by rw[← HRD.out,if_neg (by rw[hkb];simp)]);go_wp2_with fail;go_quiet ((go_at_call 57;exact Calls.quiet_of_same ((key07_any _ _).mono (λ_ _ h=>⟨h.1,h.2.symm⟩))))
    go_wp2_with fail;go_ret;exact⟨ret_bool hf.out.symm,HM.out.drewN _⟩
   ·by_cases hk0:k=0
    ·have hnext:Hid (risesB x (l.drop (k+1))=risesB e0 l):=oh (by rw[← HRD.out,H0.out hk0,if_pos ⟨hkb,e0_lt hkb⟩]);have hz:decide (0<k)=false:=by simp;omega
     have HK:=oh hk0;clear hk0;go_wp2_with fail;go_quiet ((go_at_call 57;exact Calls.quiet_of_same ((key07_any _ _).mono (λ_ _ h=>⟨h.1,h.2.symm⟩))))
     go_wp2_with fail;go_roundg (gk-1)
     case measure=>omega
     case rel=>exact⟨k+1,x,by omega,by go_num,hnext,oh (λh=>by omega),oh (λ_ _=>by rw[HX.out];simp),oh (HM.out.drewN _)⟩
    ·have hlk:=H1.out (by omega) (by omega);obtain⟨b',off',ha,hc'⟩:=HL.out.elem (k:=k-1) (by omega) HM.out;obtain⟨rfl,rfl⟩:qb=b'∧qoff=off':=by simp at ha;exact ha
     have d2:=hc' 0 _ rfl;simp only[Nat.mul_one,Nat.add_zero] at d2;rw[hlk] at d2;change _=some (Value.string last) at d2
     have hz:decide (0<k)=true:=by simp;omega
     have i3:(0:Int)≤(k:Int)-1:=by omega
     have i4:(k:Int)-1<(l.length:Int):=by omega
     have i5:((k:Int)-1).toNat=k-1:=by omega
     have HK:=oh hk0;have hle:(Op.bytesLess x.toList last.toList || x.toList == last.toList)=leS x last:=rfl;have hln:=leS_ltS x last;clear hk0 hlk ha hc';cases hlb:leS x last
     ·rw[hlb] at hle hln;have hlt2:ltS last x=true:=by simpa using hln
      have hnext:Hid (risesB x (l.drop (k+1))=risesB e0 l):=oh (by rw[← HRD.out,if_pos ⟨hkb,hlt2⟩]);clear hln hlt2;go_wp2_with fail;go_quiet ((go_at_call 57;exact Calls.quiet_of_same ((key07_any _ _).mono (λ_ _ h=>⟨h.1,h.2.symm⟩))))
      go_wp2_with fail;go_roundg (gk-1)
      case measure=>omega
      case rel=>exact⟨k+1,x,by omega,by go_num,hnext,oh (λh=>by omega),oh (λ_ _=>by rw[HX.out];simp),oh (HM.out.drewN _)⟩
     ·rw[hlb] at hle hln;have hlt2:ltS last x=false:=by simpa using hln
      have hf:=oh (show risesB e0 l=false by rw[← HRD.out,if_neg (by rw[hlt2];simp)]);clear hln hlt2;go_wp2_with fail;go_quiet ((go_at_call 57;exact Calls.quiet_of_same ((key07_any _ _).mono (λ_ _ h=>⟨h.1,h.2.symm⟩))))
      go_wp2_with fail;go_ret;exact⟨ret_bool hf.out.symm,HM.out.drewN _⟩
  ·have hke:k=l.length:=by omega
   have hf:=oh (show risesB e0 l=true by rw[← HR.out,hke,List.drop_length];rfl);go_wp2_with fail;go_ret;exact⟨ret_bool hf.out.symm,HM.out⟩
end
theorem keys11_any{F:Nat→Prop}{w:World}(q:List PairS)(qv:Value)(hq:Sl F w 2 encP qv q)(hlen:q.length≤100000) :
  Calls Tryz.prog 20 #[qv] w λe w'=>∃kv,e=.returned kv∧Own (λ_=>False) w' w.heap.size 9 1 encS kv (q.map (·.1))∧Ext w w':=by
 have HQ:=oh hq;obtain⟨qa,qc,rfl,b1,b2,b3, -⟩:=hq;unfold maxLen at b2;have HO0:Hid (Own (λ_=>False) (w.alloc (.cells #[] 9)) w.heap.size 9 1 encS (.slice (some ⟨w.heap.size,0,none⟩) 0 0) (([]:List PairS).map (·.1))):=oh (Own.empty (λk f=>f.elim) _ _ _ encS_ok.len);have HM0:Hid (Ext w (w.alloc (.cells #[] 9))):=oh ((Mods.refl _ w).alloc _)
 go_enter Tryz.func20, Tryz.ntmps20
 go_wp2_with fail;go_loopg [3,4] q.length (λm v3 v4 wr=>∃(k:Nat) (kv:Value),k+m=q.length∧kv=v3∧v4=.int .i64 (k:Int)∧Hid (Own (λ_=>False) wr w.heap.size 9 1 encS kv ((q.take k).map (·.1))∧Ext w wr))
 case atStart=>exact⟨0,_,by omega,rfl,rfl,oh ⟨HO0.out,HM0.out⟩⟩
 case round =>
  obtain⟨k,v3,hk,rfl,rfl,HR⟩:=hrel;by_cases hlt:k<q.length
  ·obtain⟨x,hx⟩:∃x,x=q[k]:=⟨_,rfl⟩;obtain⟨pa,pc,hv, -, -⟩:=_root_.id HR.out.1.form;have hl:((q.take k).map (·.1)).length=k:=by rw[List.length_map,List.length_take];omega
   rw[hl] at hv;obtain⟨qb,qoff,hqa,hc⟩:=HQ.out.elem hlt HR.out.2;have d0:=hc 0 (.string x.1) (by rw[hx];rfl);simp only[Nat.add_zero] at d0;have HX:Hid ((q.take (k+1)).map (·.1)=(q.take k).map (·.1)++[x.1]):=oh (by rw[take_one _ _ _ (List.getElem?_eq_getElem hlt),List.map_append,hx];rfl);have HLN:=oh hl;have HOW:=oh (HR.out.1.ext ((Mods.refl _ wr).alloc (.cells #[.string x.1] 9)));have HSZ:=oh HR.out.2.size;subst hv;have i1:(0:Int)≤(k:Int):=by omega
   have i2:(k:Int)<(q.length:Int):=by omega
   subst hqa;clear hc hx hl;go_wp2_with (first
    | (at_builtin;refine wpl_app2 Tryz.elS encS_ok rfl _ _ rfl w.heap.size (.slice pa k pc) (.slice (some ⟨wr.heap.size,0,none⟩) 1 1) ((q.take k).map (·.1)) [x.1] rfl rfl HOW.out (Sl.one (F:=λ_=>False) (x:=x.1) (t := 9) (fz:=(0,0)) (heap_at rfl) (λf=>f)) (by rw[HLN.out];simp only[List.length_cons,List.length_nil];omega) (Nat.le_trans HSZ.out (by simp)) (λf=>f) ?_;intro a' c' w4 hown4 hmod4 hat4;rw[HLN.out] at hown4 ⊢;simp only[List.length_cons,List.length_nil,Nat.zero_add] at hown4 ⊢;have HO4:=oh hown4;have HM4:=oh hmod4;have HA4:=oh HR.out.1.lt;clear hown4 hmod4 hat4)
    | fail)
   go_roundg (gk-1)
   case measure=>omega
   case rel =>
    refine⟨k+1,_,by omega,rfl,by go_num,oh ⟨by rw[HX.out];exact HO4.out,(HR.out.2.alloc (.cells #[.string x.1] 9)).trans' HM4.out (λi hi hg=>?_)⟩⟩;have:=(HA4.out i hg).1;omega
  ·have hkq:k=q.length:=by omega
   have HF:Hid (Own (λ_=>False) wr w.heap.size 9 1 encS v3 (q.map (·.1))):=oh (by have:=HR.out.1;rw[hkq,List.take_length] at this;exact this);have HM:=oh HR.out.2;clear hkq;go_wp2_with fail;go_ret;exact⟨_,rfl,HF.out,HM.out⟩
end Go.Proofs.YtchklfmggpconaaGreatDoor
