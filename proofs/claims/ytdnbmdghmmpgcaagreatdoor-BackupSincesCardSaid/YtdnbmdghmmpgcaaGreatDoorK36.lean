import Derived.Test.YtdnbmdghmmpgcaaGreatDoorK35
namespace Go.Proofs.YtdnbmdghmmpgcaaGreatDoor
open Lib renaming hid→oh
section
open Go.RowKit
end
section
open Go.RowKit
attribute [local go_sem ↓] Go.wp_at_zero Go.wp_at_succ
theorem docC_len(a b:List PairS)(k:ByteArray):(docC a b k).length≤1:=by
 unfold docC docO;split <;> simp
theorem flatD_take{α β:Type}(f:α→List β){l:List α}{k:Nat}(h:k<l.length):(l.take (k+1)).flatMap f=(l.take k).flatMap f++f l[k]:=by
 rw[take_one _ _ _ (List.getElem?_eq_getElem h),List.flatMap_append];simp
theorem flatD_few{α β:Type}(f:α→List β)(hf:∀x,(f x).length≤1):∀(l:List α),(l.flatMap f).length≤l.length
 | []=>by simp
 | x :: l=>by rw[List.flatMap_cons,List.length_append,List.length_cons];have:=hf x;have:=flatD_few f hf l;omega
theorem keysD_snoc(a:List PairS){b:List PairS}{k:Nat}(h:k<b.length):keysD a (b.take (k+1))=withP b[k].1 emS true (keysD a (b.take k)):=by
 unfold keysD;rw[take_one _ _ _ (List.getElem?_eq_getElem h),List.foldl_append];rfl
theorem keysD_len:∀(b a:List PairS),(keysD a b).length≤a.length+b.length
 | [],a=>by simp[keysD]
 | y :: b,a=>by
  have h1:=keysD_len b (withP y.1 emS true a);have h2:=withP_len y.1 emS true a;rw[show keysD a (y :: b)=keysD (withP y.1 emS true a) b from rfl,List.length_cons];omega
set_option maxRecDepth 100000 in
set_option maxHeartbeats 4000000 in
theorem doc15_any{F Q:Nat→Prop}{w:World}(a b:List PairS)(av bv:Value)(ha:Sl F w 2 encP av a)(hb:Sl Q w 2 encP bv b)(hla:a.length≤100)(hlb:b.length≤100) :
  Calls Tryz.prog 30 #[av,bv] w λe w'=>∃kv,e=.returned kv∧Own (λ_=>False) w' w.heap.size 72 5 encCh kv (docDiff a b)∧Ext w w':=by
 have HA:=oh ha;have HB:=oh hb;obtain⟨aa,ac,rfl,a1,a2,a3, -⟩:=ha;obtain⟨ba,bc,rfl,b1,b2,b3, -⟩:=hb;unfold maxLen at a2 b2;have HO0:Hid (Own (λ_=>False) (w.alloc (.cells #[] 111)) w.heap.size 111 2 encP (.slice (some ⟨w.heap.size,0,none⟩) 0 0) ([]:List PairS)):=oh (Own.empty (λk f=>f.elim) _ _ _ encP_ok.len);have HM0:Hid (Ext w (w.alloc (.cells #[] 111))):=oh ((Mods.refl _ w).alloc _)
 go_enter Tryz.func30, Tryz.ntmps30
 go_wp2_with (at_builtin;(refine wpl_app2 Tryz.elP encP_ok rfl _ _ rfl w.heap.size _ (.slice aa a.length ac) [] a rfl rfl HO0.out (HA.out.ext HM0.out) (by simp only[List.length_nil];omega) HM0.out.size (λf=>f) ?_;rw[List.nil_append,List.length_nil,Nat.zero_add];intro a' c' w4 hown4 hmod4 hat4;have HO4:=oh hown4;have HM4:Hid (Ext w w4):=oh (Mods.past HM0.out (hmod4.mono (λk hk=>(HO0.out.lt k hk).1)));clear hown4 hmod4 hat4));go_loopg [5,6] b.length (λm v5 v6 wr=>∃(k:Nat) (kv:Value),k+m=b.length∧kv=v5∧v6=.int .i64 (k:Int)∧Hid (Own (λ_=>False) wr w.heap.size 111 2 encP kv (keysD a (b.take k))∧Ext w wr))
 case atStart=>exact⟨0,_,by omega,rfl,rfl,oh ⟨HO4.out,HM4.out⟩⟩
 case round =>
  obtain⟨k,v5,hk,rfl,rfl,HR⟩:=hrel;by_cases hlt:k<b.length
  ·obtain⟨x,hx⟩:∃x,x=b[k]:=⟨_,rfl⟩;have HKL:Hid ((keysD a (b.take k)).length≤200):=oh (by have:=keysD_len (b.take k) a;rw[List.length_take] at this;omega);obtain⟨qb,qoff,hqa,hc⟩:=HB.out.elem hlt HR.out.2;have d0:=hc 0 (.string x.1) (by rw[hx];rfl);simp only[Nat.add_zero] at d0;have HX:Hid (keysD a (b.take (k+1))=withP x.1 ⟨#[]⟩ true (keysD a (b.take k))):=oh (by rw[keysD_snoc a hlt,hx];rfl);have HWT:=oh (with_any (keysD a (b.take k)) v5 (HR.out.1.sl encP_ok.len (by have:=HKL.out;omega)) (by have:=HKL.out;omega) x.1 ⟨#[]⟩ true);have i1:(0:Int)≤(k:Int):=by omega
   have i2:(k:Int)<(b.length:Int):=by omega
   have HLT:=oh hlt;subst hqa;clear hc hx hlt;go_wp2_with fail;refine HWT.out.mono ?_;rintro e w5 ⟨v,rfl,hO5,hm5⟩;have HO5:=oh (hO5.rebase (HR.out.2.size));have HM5:=oh (HR.out.2.trans hm5);clear hO5 hm5;go_wp2_with fail;go_roundg (gk-1)
   case measure=>have:=HLT.out;omega
   case rel=>exact⟨k+1,_,by have:=HLT.out;omega,rfl,by go_num,oh ⟨by rw[HX.out];exact HO5.out,HM5.out⟩⟩
  ·have hkq:k=b.length:=by omega
   obtain⟨K,hK⟩:∃K,K=keysD a b:=⟨_,rfl⟩;have HKK:=oh hK;have HKO:Hid (Own (λ_=>False) wr w.heap.size 111 2 encP v5 K):=oh (by have:=HR.out.1;rw[hkq,List.take_length,← hK] at this;exact this);have hKL:K.length≤200:=by have:=keysD_len b a;rw[hK];omega
   obtain⟨ka,kc,hkv,k1,k2⟩:=_root_.id HKO.out.form;unfold maxLen at k2;have HKS:=oh (HKO.out.sl encP_ok.len (by omega));have HMR:=oh HR.out.2;have HSZ:=oh HR.out.2.size;have HO1:Hid (Own (λ_=>False) (wr.alloc (.cells #[] 72)) wr.heap.size 72 5 encCh (.slice (some ⟨wr.heap.size,0,none⟩) 0 0) ([]:List ChV)):=oh (Own.empty (λk f=>f.elim) _ _ _ encCh_ok.len);have HM1:Hid (Ext wr (wr.alloc (.cells #[] 72))):=oh ((Mods.refl _ wr).alloc _);obtain⟨wo,rfl⟩:∃wo:World,wo=wr:=⟨_,rfl⟩;subst hkv;have HLB:=oh hlb;clear hkq hK hk HR hlb;go_wp2_with fail;go_loopg [7,8] K.length (λm v7 v8 wr=>∃(k:Nat) (kv:Value),k+m=K.length∧kv=v7∧v8=.int .i64 (k:Int)∧Hid (Own (λ_=>False) wr wo.heap.size 72 5 encCh kv ((K.take k).flatMap (λx=>docC a b x.1))∧Ext wo wr))
   case atStart=>exact⟨0,_,by omega,rfl,rfl,oh ⟨HO1.out,HM1.out⟩⟩
   case round =>
    obtain⟨k,v7,hk,rfl,rfl,HR⟩:=hrel;by_cases hlt:k<K.length
    ·obtain⟨x,hx⟩:∃x,x=K[k]:=⟨_,rfl⟩;obtain⟨D,hD⟩:∃D,D=(K.take k).flatMap (λx=>docC a b x.1):=⟨_,rfl⟩;have hDL:D.length≤k:=by have:=flatD_few (λx:PairS=>docC a b x.1) (λx=>docC_len a b x.1) (K.take k);rw[← hD,List.length_take] at this;omega
     obtain⟨qb,qoff,hqa,hc⟩:=HKS.out.elem hlt HR.out.2;have d0:=hc 0 (.string x.1) (by rw[hx];rfl);simp only[Nat.add_zero] at d0;have HX:Hid ((K.take (k+1)).flatMap (λx=>docC a b x.1)=D++docC a b x.1):=oh (by rw[flatD_take _ hlt,hD,hx]);have HRO:Hid (Own (λ_=>False) wr wo.heap.size 72 5 encCh v7 D):=oh (by rw[hD];exact HR.out.1);obtain⟨pa,pc,hpv, -, -⟩:=_root_.id HRO.out.form;have HFA:=oh (find11_any a _ (HA.out.ext (HMR.out.trans HR.out.2)) (by omega) x.1);have HFB:=oh (find11_any b _ (HB.out.ext (HMR.out.trans HR.out.2)) (by have:=HLB.out;omega) x.1);obtain⟨bo,hbo⟩:∃bo,bo=(findP x.1 a).isSome:=⟨_,rfl⟩;obtain⟨bn,hbn⟩:∃bn,bn=(findP x.1 b).isSome:=⟨_,rfl⟩;obtain⟨so,hso⟩:∃so,so=(findP x.1 a).getD e0:=⟨_,rfl⟩;obtain⟨sn,hsn⟩:∃sn,sn=(findP x.1 b).getD e0:=⟨_,rfl⟩;have HDO:Hid (docC a b x.1=if bo=bn∧so=sn then [] else [⟨x.1,bo,bn,so,sn⟩]):=oh (by rw[hbo,hbn,hso,hsn];rfl);unfold FoundP at HFA HFB;rw[← hbo,← hso] at HFA;rw[← hbn,← hsn] at HFB;have i1:(0:Int)≤(k:Int):=by omega
     have i2:(k:Int)<(K.length:Int):=by omega
     have HLT:=oh hlt;have HDL:=oh hDL;have HRX:=oh HR.out.2;have HSR:=oh HR.out.2.size;subst hqa hpv;clear hc hx hlt hD hDL hbo hbn hso hsn HR;by_cases hd:bo=bn∧so=sn
     ·obtain⟨rfl,rfl⟩:=hd;have HDE:Hid (docC a b x.1=[]):=oh (by rw[HDO.out,if_pos ⟨rfl,rfl⟩]);go_wp2_with fail;refine HFA.out.mono ?_;rintro e w5 ⟨rfl,rfl⟩;go_wp2_with fail;refine HFB.out.mono ?_;rintro e w5 ⟨rfl,rfl⟩;go_wp2_with fail;go_roundg (gk-1)
      case measure=>have:=HLT.out;omega
      case rel=>exact⟨k+1,_,by have:=HLT.out;omega,rfl,by go_num,oh ⟨by rw[HX.out,HDE.out,List.append_nil];exact HRO.out,HRX.out⟩⟩
     ·have HDE:Hid (docC a b x.1=[⟨x.1,bo,bn,so,sn⟩]):=oh (by rw[HDO.out,if_neg hd]);have hway:((bo == bn)=false)∨((bo == bn)=true∧(so.toList == sn.toList)=false):=by
       by_cases hb:bo=bn
       ·exact .inr ⟨beq_iff_eq.2 hb,beq_eq_false_iff_ne.2 (λe=>hd ⟨hb,toList_inj e⟩)⟩
       ·exact .inl (beq_eq_false_iff_ne.2 hb)
      have HOW:=oh (HRO.out.ext ((Mods.refl _ wr).alloc (.cells #[.string x.1,.bool bo,.bool bn,.string so,.string sn] 72)));have HAL:Hid (Ext wo (wr.alloc (.cells #[.string x.1,.bool bo,.bool bn,.string so,.string sn] 72))):=oh (HRX.out.alloc _);clear hd;rcases hway with e1|⟨e1,e2⟩
      all_goals
       go_wp2_with fail;refine HFA.out.mono ?_;rintro e w5 ⟨rfl,rfl⟩;go_wp2_with fail;refine HFB.out.mono ?_;rintro e w5 ⟨rfl,rfl⟩;go_wp2_with (at_builtin;(refine wpl_app2 Tryz.elDh encCh_ok rfl _ _ rfl wo.heap.size (.slice pa D.length pc) (.slice (some ⟨wr.heap.size,0,none⟩) 1 1) D [⟨x.1,bo,bn,so,sn⟩] rfl rfl HOW.out (Sl.one (F:=λ_=>False) (x:=(⟨x.1,bo,bn,so,sn⟩:ChV)) (t := 72) (fz:=(0,0)) (heap_at rfl) (λf=>f)) (by have:=HDL.out;have:=HLT.out;simp only[List.length_cons,List.length_nil];omega) (Nat.le_trans HSR.out (by simp)) (λf=>f) ?_;simp only[List.length_cons,List.length_nil,Nat.zero_add];intro a6 c6 w6 hO6 hm6 hat6;have HO6:=oh hO6;have HM6:=oh (HAL.out.trans' hm6 (λi hi hg=>by have:=(HRO.out.lt i hg).1;omega));clear hO6 hm6 hat6));go_roundg (gk-1)
       case measure=>have:=HLT.out;omega
       case rel=>exact⟨k+1,_,by have:=HLT.out;omega,rfl,by go_num,oh ⟨by rw[HX.out,HDE.out];exact HO6.out,HM6.out⟩⟩
    ·have hkq:k=K.length:=by omega
     have HF:Hid (Own (λ_=>False) wr w.heap.size 72 5 encCh v7 (docDiff a b)):=oh (by have:=HR.out.1;rw[hkq,List.take_length,HKK.out] at this;exact this.rebase HSZ.out);have HM:=oh (HMR.out.trans HR.out.2);clear hkq HR;go_wp2_with fail;go_ret;exact⟨_,rfl,HF.out,HM.out⟩
end
end Go.Proofs.YtdnbmdghmmpgcaaGreatDoor
