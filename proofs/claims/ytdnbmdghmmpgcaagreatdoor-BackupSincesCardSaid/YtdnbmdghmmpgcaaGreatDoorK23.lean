import Derived.Test.YtdnbmdghmmpgcaaGreatDoorK22
import Derived.Lib.ConvBytes
import Derived.Laws.AppendOwn
namespace Go.Proofs.YtdnbmdghmmpgcaaGreatDoor
open Lib renaming hid→oh
set_option maxHeartbeats 2000000
set_option maxRecDepth 100000
section
open Go.RowKit
attribute [local go_sem ↓] Go.wp_at_zero Go.wp_at_succ
section
variable {F:Nat→Prop}{ad:Nat→Addr}{w w':World}
theorem bkRising(l:List PairS)(lv:Value)(hl:Sl F w 2 encP lv l) :
  Calls Tryz.prog 50 #[lv] w λe w'=>e=.returned (.bool (rightL e0 l))∧Ext w w':=by
 have HL:=oh hl;obtain⟨la,lc,rfl,h1,h2,h3, -⟩:=hl;unfold maxLen at h2
 go_enter Tryz.func50, Tryz.ntmps50
 go_wp2_with fail;go_loopg [3,8] l.length (λm v3 v8 wr=>∃(k:Nat) (last:ByteArray),k+m=l.length∧v3=.string last∧v8=.int .i64 (k:Int)∧Hid (rightL last (l.drop k)=rightL e0 l∧Ext w wr))
 case atStart=>exact⟨0,e0,by omega,rfl,rfl,oh ⟨rfl,Mods.refl _ _⟩⟩
 case round =>
  obtain⟨k,last,hkm,rfl,rfl,HR⟩:=hrel;by_cases hlt:k<l.length
  ·obtain⟨qb,qoff,hqa,hc⟩:=HL.out.elem hlt HR.out.2;have c0:=hc 0 (.string l[k].1) rfl;have c1:=hc 1 (.string l[k].2) rfl;simp only[Nat.add_zero] at c0;subst hqa;have hdr:l.drop k=l[k] :: l.drop (k+1):=List.drop_eq_getElem_cons hlt;obtain⟨x,hx⟩:∃x,x=l[k]:=⟨_,rfl⟩;obtain⟨key,v⟩:=x;rw[← hx] at c0 c1 hdr;simp only at c0 c1;have HRB:Hid (rightL e0 l=(keyB key && ltS last key && decide (v.size≤4096) && rightL key (l.drop (k+1)))):=oh (by rw[← HR.out.1,hdr,rightL]);have i1:(0:Int)≤(k:Int):=by omega
   have i2:(k:Int)<(l.length:Int):=by omega
   have HX:Hid (∀W,Ext wr W→Ext w W):=oh (λW m=>HR.out.2.trans m);have m0:Ext wr (wr.alloc (.cells #[.string key,.string v] 111)):=(Mods.refl _ wr).alloc _;have HK:=oh (key_any key);have HM0:=oh m0;obtain⟨kb,hkb⟩:∃kb,kb=keyB key:=⟨_,rfl⟩;rw[← hkb] at HK HRB;clear hc hdr hx m0 hkb;cases kb with
   | false =>
    have HF:Hid (rightL e0 l=false):=oh (by rw[HRB.out];rfl);go_wp2_with fail;refine (HK.out _).mono ?_;rintro e w4 ⟨rfl,rfl⟩;go_wp2_with fail;go_ret;exact⟨by rw[HF.out];rfl,HX.out _ HM0.out⟩
   | true =>
    go_wp2_with fail;refine (HK.out _).mono ?_;rintro e w4 ⟨rfl,rfl⟩;cases ht:ltS last key with
    | false =>
     have HF:Hid (rightL e0 l=false):=oh (by rw[HRB.out,ht];rfl);have hle:(Op.bytesLess key.toList last.toList || key.toList == last.toList)=true:=by
      rcases ltS_tri last key with h|h|h
      ·rw[h] at ht;cases ht
      ·rw[h];simp
      ·unfold ltS at h;rw[h];rfl
     clear ht;go_wp2_with fail;go_ret;exact⟨by rw[HF.out];rfl,HX.out _ HM0.out⟩
    | true =>
     have hb1:Op.bytesLess key.toList last.toList=false:=by have:=ltS_asymm ht;unfold ltS at this;exact this
     have hb2:(key.toList == last.toList)=false:=beq_eq_false_iff_ne.2 (λe=>ltS_ne ht (toList_inj e).symm);by_cases hv:v.size≤4096
     ·have HF:Hid (rightL e0 l=rightL key (l.drop (k+1))):=oh (by rw[HRB.out,ht,decide_eq_true hv];rfl);have hv2:¬ (4096:Int)<(v.size:Int):=by omega
      clear ht hv;go_wp2_with fail;go_roundg (gk-1)
      case measure=>omega
      case rel=>exact⟨k+1,key,by omega,rfl,by go_num,oh ⟨HF.out.symm,HX.out _ HM0.out⟩⟩
     ·have HF:Hid (rightL e0 l=false):=oh (by rw[HRB.out,ht,decide_eq_false hv];rfl);have hv2:(4096:Int)<(v.size:Int):=by omega
      clear ht hv;go_wp2_with fail;go_ret;exact⟨by rw[HF.out];rfl,HX.out _ HM0.out⟩
  ·have hke:k=l.length:=by omega
   subst hke;have HQ:=HR;go_wp2_with fail;go_ret;exact⟨by rw[← HQ.out.1,List.drop_length];rfl,HQ.out.2⟩
end
end
section
open Go.RowKit
section
variable {F:Nat→Prop}{w:World}
theorem bytes_ext(w:World)(e:TypeId)(s:ByteArray):Ext w (Lib.bytesWorld w e s) :=
 ⟨rfl,rfl,rfl,by rw[Lib.bytesWorld_size];omega,λk hk _=>Lib.bytesWorld_at_old w e s k hk⟩
theorem bytes_sl(w:World)(e:TypeId)(s:ByteArray)(hF:¬ F w.heap.size)(hs:s.size≤140737488355328):Sl F (Lib.bytesWorld w e s) 1 encB (.slice (some ⟨w.heap.size,0,none⟩) s.size (grownCap w s.size 0 e)) s.data.toList:=by
 refine⟨some ⟨w.heap.size,0,none⟩,_,by rw[size_toList],by rw[size_toList];exact grownCap_ge _ _ _ _,grownCap_le_maxLen _ _ _ _ (by unfold maxLen;omega),by rw[size_toList];exact hs,.inr ⟨w.heap.size,0,rfl,by rw[Lib.bytesWorld_size];omega,hF,λi x hi j u hu=>?_⟩⟩;obtain⟨hi1,hi2⟩:=List.getElem?_eq_some_iff.1 hi;rw[size_toList] at hi1;have hj:j=0:=by
  have:=(List.getElem?_eq_some_iff.1 hu).1;simp[encB] at this;omega
 subst hj;have hc:=Lib.bytesWorld_cell w e s i hi1;rw[Nat.mul_one,Nat.add_zero,Nat.zero_add,hc];have hx:s.data.toList.getD i 0=x:=by rw[List.getD_eq_getElem?_getD,hi];rfl
 rw[hx];simpa[encB] using hu
end
end
section
open Go.RowKit
attribute [local go_sem ↓] Go.wp_at_zero Go.wp_at_succ
section
variable {F:Nat→Prop}{w w':World}
theorem two_row{W:World}{G:Nat→Prop}{b:Nat}(n:Nat)(hn:n<65536)(h:W.heap[b]? = some (.cells #[.int .u8 ((n:Int) % 256),.int .u8 ((n:Int) / 256)] 5 (0,0)))(hF:¬ G b):Sl G W 1 encB (.slice (some ⟨b,0,none⟩) 2 2) (leB 2 n):=by
 refine⟨_,2,by rw[leB_len03],by rw[leB_len03];omega,by simp[maxLen],by rw[leB_len03];omega,.inr ⟨b,0,rfl,(Array.getElem?_eq_some_iff.1 h).1,hF,λi z hi j u hu=>?_⟩⟩;have e:leB 2 n=[UInt8.ofNat n,UInt8.ofNat (n / 256)]:=by simp[leB]
 rw[e] at hi;have hj:j=0:=by
  have:=(List.getElem?_eq_some_iff.1 hu).1;simp[encB] at this;omega
 subst hj;rw[cells_of_block h];match i,hi with
 | 0,hi =>
  simp at hi;subst hi;simp[encB] at hu;subst hu;simp
 | 1,hi =>
  simp at hi;subst hi;simp[encB] at hu;subst hu;simp;omega
 | i+2,hi=>simp at hi
theorem PutText03_any(bv:Value)(l:List UInt8)(hb:Sl F w 1 encB bv l)(s:ByteArray)(hs:s.size≤65535)(hlen:l.length≤1000000000) :
  Calls Tryz.prog 112 #[bv,.string s] w λe w'=>∃a c,e=.returned (.tuple #[.slice a (l.length+2+s.size) c,.int .i64 0]) ∧
   Own (λ_=>False) w' w.heap.size 5 1 encB (.slice a (l.length+2+s.size) c) (l++txtB s)∧Ext w w':=by
 have HB:=oh hb;obtain⟨ba,bc,rfl,i1,i2,i3,i4⟩:=hb;obtain⟨n,hn⟩:∃n,n=s.size:=⟨_,rfl⟩;have HN:=oh hn;have hs2:n≤65535:=by omega
 have hsl:¬ (65535:Int)<(s.size:Int):=by omega
 have hse:(s.size:Int)=(n:Int):=by omega
 have t1:(n:Int).tmod 256=(n:Int) % 256:=by rw[Int.tmod_eq_emod_of_nonneg (by omega)]
 have t2:(n:Int).tdiv 256=(n:Int) / 256:=by rw[Int.tdiv_eq_ediv_of_nonneg (by omega)]
 have u1:IntKind.u8.wrap ((n:Int) % 256)=(n:Int) % 256:=IntWalk.u8_in _ (by omega);have u2:IntKind.u8.wrap ((n:Int) / 256)=(n:Int) / 256:=IntWalk.u8_in _ (by omega);clear i4 hs hn
 go_enter Tryz.func112, Tryz.ntmps112
 go_wp2_with (first
  | (at_builtin;refine wpl_app2 Tryz.elB encB_ok rfl _ _ rfl w.heap.size (.slice (some ⟨w.heap.size,0,none⟩) 0 0) _ ([]:List UInt8) l rfl rfl (Own.made (cur:=#[]) (b:=w.heap.size) (cap:=0) (l:=([]:List UInt8)) (sz:=1) (enc:=encB) (F:=λ_=>False) (Blk.new w #[] 5) (Nat.le_refl _) (λf=>f) (by simp) (by simp[maxLen]) rfl rfl encB_ok.len) (HB.out.ext ((Mods.refl _ w).alloc _)) (by simp;omega) (by simp) (λf=>f) ?_;simp only[List.length_nil,Nat.zero_add,List.nil_append];intro a4 c4 w4 hO4 hm4 hat4;have x4:Ext w w4:=((Mods.refl _ w).alloc (.cells #[] 5)).trans' hm4 (λi hi h=>by simp[Value.ownBlock] at h;omega);have y4:=x4.size)
  | (at_builtin;refine wpl_app2 Tryz.elB encB_ok rfl _ _ rfl w.heap.size (.slice a4 l.length c4) (.slice (some ⟨w4.heap.size,0,none⟩) 2 2) l (leB 2 n) rfl rfl (hO4.ext ((Mods.refl _ _).alloc _)) (two_row (G:=λ_=>False) n (by omega) (heap_at rfl) (λf=>f)) (by simp[leB_len03];omega) (by simp;omega) (λf=>f) ?_;intro a5 c5 w5 hO5 hm5 hat5;rw[leB_len03] at hO5;have x5:Ext w w5:=(x4.alloc (.cells #[.int .u8 ((n:Int) % 256),.int .u8 ((n:Int) / 256)] 5)).trans' hm5 (λi hi h=>by have:=(hO4.lt i h).1;omega);have y5:=x5.size;have hcv:=Go.Lib.run_convert_string_bytes (P:=Tryz.prog) w5 9 26 5 s Tryz.underlying9 Tryz.underlying26 Tryz.underlying5)
  | (at_builtin;refine wpl_app2 Tryz.elB encB_ok rfl _ _ rfl w.heap.size (.slice a5 (l.length+2) c5) _ (l++leB 2 n) s.data.toList rfl rfl (hO5.ext (bytes_ext w5 _ s)) (bytes_sl (F:=λ_=>False) w5 _ s (λf=>f) (by omega)) (by rw[size_toList];simp[leB_len03];omega) (by rw[Lib.bytesWorld_size];omega) (λf=>f) ?_;intro a6 c6 w6 hO6 hm6 hat6)
  | fail)
 have x6:Ext w w6:=(x5.trans (bytes_ext w5 5 s)).trans' hm6 (λi hi h=>by have:=(hO5.lt i h).1;omega);have HX:=oh x6;have HO:=oh hO6;clear hO4 hO5 hO6 hm4 hm5 hm6 hat4 hat5 hat6 x4 x5 x6 hcv;go_ret2
 rw[size_toList] at HO;refine⟨a6,c6,?_,?_,HX.out⟩
 ·first|rfl|(simp[leB_len03])
 ·have h:=HO.out;rw[List.length_append,leB_len03] at h;unfold txtB;rw[← HN.out,← List.append_assoc];first|exact h|(rw[HN.out];exact h)|(rw[← HN.out] at h;exact h)
end
end
end Go.Proofs.YtdnbmdghmmpgcaaGreatDoor
