import Derived.Test.YtdnbmdghmmpgcaaGreatDoorK39
import Derived.Test.YtdnbmdghmmpgcaaGreatDoorK41
namespace Go.Proofs.YtdnbmdghmmpgcaaGreatDoor
open Lib renaming hid→oh
set_option maxHeartbeats 8000000
set_option maxRecDepth 100000
open Go.RowKit
attribute [local go_sem ↓] Go.wp_at_zero Go.wp_at_succ
section
variable {P P' F F':Nat→Prop}{ad:Nat→Addr}{w w':World}{S d c sp:Nat}{s:SupA}{home keys:Int}{G G':GA}{l l':List Nat}{root:Nat}
def WholeD(F P:Nat→Prop)(ad:Nat→Addr)(w:World)(S d c sp:Nat)(s:SupA)(home root keys:Int)(G:GA)(l:List Nat)(o:List PairS)(e:Ending)(w':World):Prop :=
 ∃P' F' v,e=.returned (.tuple #[v,.nilIface])∧Sl F' w' 1 encB v (wholeB s.gen o)∧StR F' w' P' S d c sp s home root keys G l∧Nxt P P' F F' ad w w'
theorem flatP_take(o:List PairS)(k:Nat)(hk:k<o.length):(o.take (k+1)).flatMap pairB=(o.take k).flatMap pairB++txtB o[k].1++txtB o[k].2:=by
 rw[List.take_succ_eq_append_getElem hk,List.flatMap_append,List.flatMap_singleton,pairB,List.append_assoc]
theorem flatP_le(o:List PairS)(k:Nat):((o.take k).flatMap pairB).length≤(o.flatMap pairB).length:=by
 have h:o.flatMap pairB=(o.take k).flatMap pairB++(o.drop k).flatMap pairB:=by rw[← List.flatMap_append,List.take_append_drop]
 rw[h,List.length_append];omega
theorem stWhole(hL:Env F ad w)(hP:∀k,P k→F k)(h:StR F w P S d c sp s home (root:Int) keys G l)(hg:s.gen+1<18446744073709551616)(o:List PairS)(hn:o.length≤65535)(ht:∀x∈o,x.1.size≤65535∧x.2.size≤65535)(hz:(o.flatMap pairB).length≤800000000)
  (hR:∀W,Env F ad W→PgR F W P c sp G l → Calls Tryz.prog 77 #[pgV c sp (s.gen+1),.int .i64 (root:Int),.string e0,.string e0,.int .i64 65535] W (RangeD F P ad W c sp G l o)) :
  Calls Tryz.prog 18 #[.pointer (some ⟨S,0,none⟩)] w (WholeD F P ad w S d c sp s home (root:Int) keys G l o):=by
 have HRA:=oh (stRange hL hP h hg e0 e0 65535 o hR);have HT:=oh ht;have HZ:=oh hz;have HNN:=oh hn;have HGG:=oh hg;clear hL hP h hg hR ht hz hn
 go_enter Tryz.func18, Tryz.ntmps18
 go_wp2_with fail;refine HRA.out.mono ?_;rintro e w1 ⟨P1,F1,v1,rfl,hs1,h1,n1⟩;have HS1:=oh hs1;have HH1:=oh h1;have HN1:=oh n1;obtain⟨a,cc,rfl, -⟩:=hs1;have HGE:=oh (stGen h1);have HBG:=oh (begin_ok n1.env ⟨1,s.gen,0,o.length⟩ (by show (1:Nat)<256;omega) (by have:=HGG.out;show s.gen<18446744073709551616;omega) (by show (0:Nat)<18446744073709551616;omega) (by have:=HNN.out;show o.length<4294967296;omega));obtain⟨gg,hgg⟩:∃gg,gg=s.gen:=⟨_,rfl⟩;unfold headV at HBG;simp only at HBG;rw[← hgg] at HGE HBG;have HGQ:=oh hgg;clear h1 n1 hgg;go_wp2_with fail;refine HGE.out.mono ?_;rintro e w2 ⟨rfl,rfl⟩;go_wp2_with fail;refine HBG.out.mono ?_;rintro e w3 ⟨B,rfl,hB3,hL3,hq3,m3⟩;have HB3:=oh hB3;have HL3:=oh hL3;have HQ3:=oh hq3;have HM3:=oh m3;clear hB3 hL3 hq3 m3;go_wp2_with fail;go_loopg [26] o.length (λm v26 wr=>∃(k:Nat),k+m=o.length∧v26=.int .i64 (k:Int)∧Hid (BwR (plusR F1 B) wr B (headB ⟨1,gg,0,o.length⟩ ++ (o.take k).flatMap pairB)∧Env (plusR F1 B) ad wr∧Ext w1 wr))
 case atStart=>exact⟨0,by omega,rfl,oh ⟨by simpa using HB3.out,HL3.out,HM3.out⟩⟩
 case round =>
  obtain⟨k,hkm,rfl,HR⟩:=hrel;by_cases hlt:k<o.length
  ·obtain⟨qb,qoff,hqa,hc⟩:=HS1.out.elem hlt HR.out.2.2;have c0:=hc 0 (.string o[k].1) rfl;have c1:=hc 1 (.string o[k].2) rfl;simp only[Nat.add_zero] at c0;subst hqa;have HX:=oh (HT.out _ (List.getElem_mem hlt));have HFT:=oh (flatP_take o k hlt);obtain⟨x,hx⟩:∃x,x=o[k]:=⟨_,rfl⟩;rw[← hx] at c0 c1 HX HFT;obtain⟨key,v⟩:=x;simp only at c0 c1 HX HFT;have i1:(0:Int)≤(k:Int):=by omega
   have i2:(k:Int)<(o.length:Int):=by omega
   have i3:(o.length:Int)≤65535:=by have:=HNN.out;omega
   have m0:Ext wr (wr.alloc (.cells #[.string key,.string v] 111)):=(Mods.refl _ wr).alloc _;have hBl:∀k,(headB ⟨1,gg,0,o.length⟩ ++ (o.take k).flatMap pairB).length≤800000025:=λk=>by
    have:=flatP_le o k;have:=HZ.out;rw[List.length_append,headB_length];omega
   have HT1:=oh (bwText (HR.out.2.1.mods m0.ext) (.inr rfl:plusR F1 B B) (HR.out.1.ext m0) key HX.out.1 (by have:=hBl k;omega));have HBL:=oh hBl;have HB0:=oh (Blk.new wr #[.string key,.string v] 111);have HRZ:=oh (show B≠wr.heap.size from λe=>by have:=HR.out.2.1.lt B (.inr rfl);omega);have HM0:=oh m0;clear hc hx m0 hBl;go_wp2_with fail;refine HT1.out.mono ?_;rintro e w5 ⟨rfl,hB5,m5⟩;have hP5:=HB0.out.mods m5 (λh=>HRZ.out h.symm);have b1:=hP5.cell (o:=1) (v:=.string v) rfl;have mF:Mods (plusR F1 B) (wr.alloc (.cells #[.string key,.string v] 111)) w5:=m5.mono (λj (h:j=B)=>.inr h);have hL5:=(HR.out.2.1.mods HM0.out.ext).mods mF;have HT2:=oh (bwText hL5 (.inr rfl:plusR F1 B B) hB5 v HX.out.2 (by have:=HBL.out k;rw[List.length_append,txtB_length];have:=HX.out.1;omega));have HM5:=oh ((HR.out.2.2.trans HM0.out).trans' m5 (λi hi (h:i=B)=>by have:=HQ3.out;omega));have HL5:=oh hL5;clear hB5 m5 hP5 mF hL5;go_wp2_with fail;refine HT2.out.mono ?_;rintro e w6 ⟨rfl,hB6,m6⟩;have HF6:Hid (BwR (plusR F1 B) w6 B (headB ⟨1,gg,0,o.length⟩ ++ (o.take (k+1)).flatMap pairB)∧Env (plusR F1 B) ad w6∧Ext w1 w6):=oh ⟨by rw[HFT.out];simpa[List.append_assoc] using hB6,HL5.out.mods (m6.mono (λj (h:j=B)=>.inr h)),HM5.out.trans' m6 (λi hi (h:i=B)=>by have:=HQ3.out;omega)⟩;clear hB6 m6;go_wp2_with fail;go_roundg (gk-1)
   case measure=>omega
   case rel=>exact⟨k+1,by omega,by go_num,HF6⟩
  ·have hke:k=o.length:=by omega
   subst hke;go_wp2_with fail;refine (bwEnd HR.out.2.1 (.inr rfl:plusR F1 B B) HR.out.1 _ (by have:=flatP_le o o.length;have:=HZ.out;rw[List.length_append,headB_length];omega)).mono ?_;rintro e w5 ⟨v5,rfl,hs5,m5⟩;have HM5:=oh (HR.out.2.2.trans' m5 (λi hi (h:i=B)=>by have:=HQ3.out;omega));have HS5:=oh hs5;clear hs5 m5;go_wp2_with fail;go_ret2
   refine⟨P1,F1,v5,rfl,?_,HH1.out.at HM5.out,HN1.out.trans (Nxt.ext HN1.out.env HN1.out.sub HM5.out)⟩;have h:=HS5.out;rw[List.take_length,HGQ.out] at h;exact h.anti (λk _ hk=>.inl hk)
end
def aw20:List PairS:=[(⟨#[97]⟩,⟨#[120]⟩)]
theorem aw20_read:readB (wholeB 1 aw20)=.inl (⟨1,1,0,1⟩,aw20):=read_whole (by omega) (by decide) (by decide +kernel) (by intro x hx;simp only[aw20,List.mem_cons,List.not_mem_nil,or_false] at hx;subst hx;decide)
theorem aw20_len:(wholeB 1 aw20).length=35:=by
 unfold wholeB;rw[endB_length,List.length_append,headB_length];rfl
theorem awake20_any{ad:Nat→Addr}{w:World}(hL:Env NoB ad w) : Calls Tryz.prog 13 #[] w λe w'=>e=.returned (.bool true)∧Ext w w':=by
 have HL:=oh hL;clear hL
 go_enter Tryz.func13, Tryz.ntmps13
 go_wp2_with fail;have m0:Ext w (w.alloc (.cells #[.string ⟨#[97]⟩,.string ⟨#[120]⟩] 111)):=(Mods.refl _ w).alloc _;have hrow:Sl NoB (w.alloc (.cells #[.string ⟨#[97]⟩,.string ⟨#[120]⟩] 111)) 2 encP (.slice (some ⟨w.heap.size,0,none⟩) 1 1) [((⟨#[97]⟩,⟨#[120]⟩):PairS)]:=Sl.one (F:=NoB) (x:=((⟨#[97]⟩,⟨#[120]⟩):PairS)) (Blk.new w _ _) (λf=>f);refine (made20_one (HL.out.mods m0.ext) ⟨#[97]⟩ ⟨#[120]⟩ (by decide) (by decide) _ hrow).mono ?_;rintro e w1 ⟨S,d,c,sp,P1,F1,rfl,h1,n1⟩;have hn1:=n1.shrink (P2:=P1) (λk h=>.inl h);have HW:=oh (stWhole n1.env hn1.sub h1 (by show 1+1<_;omega) aw20 (by decide) (by intro x hx;simp only[aw20,List.mem_cons,List.not_mem_nil,or_false] at hx;subst hx;decide) (by decide) (one_range hn1.sub D250_dry (by decide) (by decide) _ _));have HN1:=oh hn1;have HM0:=oh m0;clear h1 n1 hn1 hrow m0;go_wp2_with fail;refine HW.out.mono ?_;rintro e w2 ⟨P2,F2,v,rfl,hv, -,n2⟩;have HN2:=oh (HN1.out.trans n2);have HX2:=oh (HM0.out.trans HN2.out.stp.mods);have HRD:=oh (bkRead HN2.out.env v _ hv (by show (wholeB 1 aw20).length≤_;rw[aw20_len];omega));have hrd:readB (wholeB (sup1A D250).gen aw20)=.inl (⟨1,1,0,1⟩,aw20):=aw20_read;unfold ReadD at HRD;rw[hrd] at HRD;simp only at HRD;clear n2 hrd;obtain⟨a,cp,rfl, -⟩:=hv;go_wp2_with fail;refine HRD.out.mono ?_;rintro e w3 ⟨⟨v3,rfl,hv3⟩,hm3⟩;obtain⟨a3,c3,rfl, -⟩:=id hv3;obtain⟨qb,qoff,hqa,hqF,hcc⟩:=hv3.elemF (k:=0) (by decide);have d1:=hcc 1 (.string ⟨#[120]⟩) rfl;simp only[Nat.zero_mul,Nat.add_zero] at d1;subst hqa;have HX3:=oh (HX2.out.trans hm3);rw[show headV ⟨1,1,0,1⟩=.agg #[.int .i64 1,.int .u64 1,.int .u64 0,.int .i64 1] from rfl,show aw20.length=1 from rfl];clear hm3 hv3 hcc hqF;have d2:=cell_alloc d1 (.cells #[.int .i64 1,.int .u64 1,.int .u64 0,.int .i64 1] 46);have HX4:=oh (HX3.out.alloc (.cells #[.int .i64 1,.int .u64 1,.int .u64 0,.int .i64 1] 46));clear d1;go_wp2_with fail;go_ret;exact⟨rfl,HX4.out⟩
theorem rightL_lt:∀(l:List PairS) (last:ByteArray),rightL last l=true→∀x∈l,ltS last x.1=true
 | [],_,_,x,hx=>by cases hx
 | y :: l,last,h,x,hx=>by
  rw[rightL] at h;simp only[Bool.and_eq_true,decide_eq_true_eq] at h;rcases List.mem_cons.1 hx with rfl|hx
  ·exact h.1.1.2
  ·exact ltS_trans h.1.1.2 (rightL_lt l y.1 h.2 x hx)
theorem rightL_sorted:∀(l:List PairS) (last:ByteArray),rightL last l=true→SortedP l
 | [],_,_=>List.Pairwise.nil
 | y :: l,last,h=>by
  rw[rightL] at h;simp only[Bool.and_eq_true,decide_eq_true_eq] at h;exact List.pairwise_cons.2 ⟨λx hx=>rightL_lt l y.1 h.2 x hx,rightL_sorted l y.1 h.2⟩
section
variable {F:Nat→Prop}{ad:Nat→Addr}{w w':World}
theorem tells20_one(hL:Env F ad w)(hfu:Full ad)(f:Nat)(el:List Int)(he:ErrC F ad w (faultV f) el 1) : Calls Tryz.prog 12 #[faultV f,.int .i64 1] w λe w'=>e=.returned (.bool true)∧w=w':=by
 have HC:=oh (code_any hL hfu _ el 1 he);rw[show ((1:Nat):Int)=1 from rfl] at HC;unfold faultV at HC ⊢;clear hL hfu he
 go_enter Tryz.func12, Tryz.ntmps12
 go_wp2_with fail;refine HC.out.mono ?_;rintro e w1 ⟨rfl,rfl⟩;go_wp2_with fail;go_ret;exact⟨rfl,rfl⟩
theorem BackupSinces_any(hE:Env NoB ad w)(hF:Full ad)(l0 l1:List PairS)(v0 v1:Value)(s0:Sl NoB w 2 encP v0 l0)(s1:Sl NoB w 2 encP v1 l1)(g b:Nat)(hg:g<18446744073709551616)(hb:b<18446744073709551616) :
  Calls Tryz.prog 3 #[v0,v1,.agg #[.int .u64 (g:Int),.int .u64 (b:Int)]] w λe w'=>e=.returned (.bool true)∧Ext w w':=by
 obtain⟨q0,hq0⟩:∃q,q=min l0.length 30:=⟨_,rfl⟩;obtain⟨q1,hq1⟩:∃q,q=min l1.length 30:=⟨_,rfl⟩;have hm0:min (l0.length:Int) 30=(q0:Int):=by omega
 have hm1:min (l1.length:Int) 30=(q1:Int):=by omega
 have m0:Ext w (w.alloc (.cells #[.int .u64 (g:Int),.int .u64 (b:Int)] 25)):=(Mods.refl _ w).alloc _;have HB:=oh (Blk.new w #[.int .u64 (g:Int),.int .u64 (b:Int)] 25);have HE:=oh (hE.mods m0.ext);have HFU:=oh hF;have HM0:=oh m0;obtain⟨aa,ac,rfl,a1,a2,a3, -⟩:=id s0;obtain⟨ba,bc,rfl,b1,b2,b3, -⟩:=id s1;unfold maxLen at a2 b2;have h0:=Sl.pre (s0.ext m0) q0 (by omega);have h1:=Sl.pre (s1.ext m0) q1 (by omega);obtain⟨was,hwas⟩:∃was,was=l0.take q0:=⟨_,rfl⟩;obtain⟨is_,his⟩:∃is_,is_=l1.take q1:=⟨_,rfl⟩;rw[← hwas] at h0;rw[← his] at h1;have hl0:was.length=q0:=by rw[hwas,List.length_take];omega
 have hl1:is_.length=q1:=by rw[his,List.length_take];omega
 have H0:=oh h0;have H1:=oh h1;have HLN:=oh (show was.length≤30∧is_.length≤30 by omega);have HSI:=oh (bkSince HE.out g b hg hb was is_ (.slice aa q0 ac) (.slice ba q1 bc) h0 h1 (by omega) (by omega));have HR0:=oh (λW (m:Ext (w.alloc (.cells #[.int .u64 (g:Int),.int .u64 (b:Int)] 25)) W)=>Right19_any (.slice aa q0 ac) was W (H0.out.ext m));have HR1:=oh (λW (m:Ext (w.alloc (.cells #[.int .u64 (g:Int),.int .u64 (b:Int)] 25)) W)=>Right19_any (.slice ba q1 bc) is_ W (H1.out.ext m));have HAW:=oh (λW (m:Ext (w.alloc (.cells #[.int .u64 (g:Int),.int .u64 (b:Int)] 25)) W)=>awake20_any (HE.out.mods m.ext));have HGB:=oh (And.intro hg hb);rw[show rightP was=rightL e0 was from right_eq was e0] at HR0;rw[show rightP is_=rightL e0 is_ from right_eq is_ e0] at HR1;have HS0:=oh (λh:rightL e0 was=true=>And.intro (rightL_sorted was e0 h) (rightL_sz was e0 h));have HS1:=oh (λh:rightL e0 is_=true=>And.intro (rightL_sorted is_ e0 h) (rightL_sz is_ e0 h));obtain⟨r0,hr0⟩:∃r,r=rightL e0 was:=⟨_,rfl⟩;obtain⟨r1,hr1⟩:∃r,r=rightL e0 is_:=⟨_,rfl⟩;unfold SinceD at HSI;rw[← hr0,← hr1] at HSI;rw[← hr0] at HR0 HS0;rw[← hr1] at HR1 HS1;have hbx:=HB.out;have c0:=hbx.cell (o:=0) (v:=.int .u64 (g:Int)) rfl;have c1:=hbx.cell (o:=1) (v:=.int .u64 (b:Int)) rfl;have i0:(0:Int)≤(q0:Int):=by omega
 have i1:(0:Int)≤(q1:Int):=by omega
 have i2:(q0:Int)≤(ac:Int):=by omega
 have i3:(q1:Int)≤(bc:Int):=by omega
 clear hE hF s0 s1 hg hb m0 h0 h1 hq0 hq1 hwas his hl0 hl1 hr0 hr1 hbx;rcases (show r0=false∨r0=true∧r1=false∨r0=true∧r1=true by cases r0 <;> cases r1 <;> simp) with rfl|⟨rfl,rfl⟩|⟨rfl,rfl⟩
 focus
  simp only[Bool.false_and,Bool.false_eq_true,if_false] at HSI
  go_enter Tryz.func3, Tryz.ntmps3
  go_wp2_with fail;refine HSI.out.mono ?_;rintro e w2 ⟨⟨f,rfl,hER⟩,hm2⟩;have HM2:=oh hm2;have HER:=oh hER;clear hm2 hER;go_wp2_with fail;refine (HR0.out _ HM2.out).mono ?_;rintro e w4 ⟨rfl,hm4⟩;have HM4:=oh (HM2.out.trans hm4);have HER4:=oh (HER.out.mods hm4.ext);clear hm4;go_wp2_with fail
 rotate_left;focus
  simp only[Bool.true_and,Bool.false_eq_true,if_false] at HSI
  go_enter Tryz.func3, Tryz.ntmps3
  go_wp2_with fail;refine HSI.out.mono ?_;rintro e w2 ⟨⟨f,rfl,hER⟩,hm2⟩;have HM2:=oh hm2;have HER:=oh hER;clear hm2 hER;go_wp2_with fail;refine (HR0.out _ HM2.out).mono ?_;rintro e w3 ⟨rfl,hm3⟩;have HM3:=oh (HM2.out.trans hm3);have HER3:=oh (HER.out.mods hm3.ext);clear hm3;go_wp2_with fail;refine (HR1.out _ HM3.out).mono ?_;rintro e w4 ⟨rfl,hm4⟩;have HM4:=oh (HM3.out.trans hm4);have HER4:=oh (HER3.out.mods hm4.ext);clear hm4;go_wp2_with fail
 rotate_left;focus
  simp only[Bool.and_self,if_true] at HSI;have HSW:Hid (sinceB g was is_ b=endB (headB ⟨2,g,b,(diffP was is_).length⟩ ++ (diffP was is_).flatMap recB)):=oh rfl;have HDO:=oh (docDiff_eq (HS0.out rfl).1 (HS1.out rfl).1);have HSZ:=oh (diffP_sz was is_ (HS0.out rfl).2 (HS1.out rfl).2);have HDL:=oh (Nat.le_trans (diff_len was is_) (Nat.add_le_add HLN.out.1 HLN.out.2));obtain⟨o,ho⟩:∃o,o=diffP was is_:=⟨_,rfl⟩;rw[← ho] at HSW HDO HSZ HDL;rw[HSW.out] at HSI;have HLB:Hid ((endB (headB ⟨2,g,b,o.length⟩ ++ o.flatMap recB)).length≤1000000):=oh (by
   have:=flatR_le o HSZ.out;have:=HDL.out;rw[endB_length,List.length_append,headB_length];omega)
  obtain⟨bb,hbb⟩:∃bb,bb=endB (headB ⟨2,g,b,o.length⟩ ++ o.flatMap recB):=⟨_,rfl⟩;have HSN:=oh (λW (m:Ext (w.alloc (.cells #[.int .u64 (g:Int),.int .u64 (b:Int)] 25)) W)=>since20_any g b HGB.out.1 HGB.out.2 was is_ (.slice aa q0 ac) (.slice ba q1 bc) (H0.out.ext m) (H1.out.ext m) (by have:=HLN.out.1;omega) (by have:=HLN.out.2;omega) o HDO.out HSZ.out (by have:=HDL.out;omega));unfold Byt at HSN;rw[← hbb] at HSN HSI HLB;clear ho hbb HSW
  go_enter Tryz.func3, Tryz.ntmps3
  go_wp2_with fail;refine HSI.out.mono ?_;rintro e w2 ⟨⟨v,rfl,hv⟩,hm2⟩;have HM2:=oh hm2;have HV:=oh hv;obtain⟨va,vc,rfl, -⟩:=hv;clear hm2;go_wp2_with fail;refine (HR0.out _ HM2.out).mono ?_;rintro e w3 ⟨rfl,hm3⟩;have HM3:=oh (HM2.out.trans hm3);have HV3:=oh (HV.out.ext hm3);clear hm3;go_wp2_with fail;refine (HR1.out _ HM3.out).mono ?_;rintro e w4 ⟨rfl,hm4⟩;have HM4:=oh (HM3.out.trans hm4);have HV4:=oh (HV3.out.ext hm4);have hb4:=HB.out.ext HM4.out;have c0:=hb4.cell (o:=0) (v:=.int .u64 (g:Int)) rfl;have c1:=hb4.cell (o:=1) (v:=.int .u64 (b:Int)) rfl;clear hm4 hb4;go_wp2_with fail;refine (HSN.out _ HM4.out).mono ?_;rintro e w5 ⟨v5,rfl,hO5,hm5⟩;have HM5:=oh (HM4.out.trans hm5);have HSB:=oh (SameBytes_any (F:=NoB) (.slice va bb.length vc) v5 bb bb (HV4.out.ext hm5) (hO5.sl encB_ok.len (by have:=HLB.out;omega)));rw[decide_eq_true (rfl:bb=bb)] at HSB;clear hO5 hm5;go_wp2_with fail;refine HSB.out.mono ?_;rintro e w6 ⟨rfl,hm6⟩;have HM6:=oh (HM5.out.trans hm6);clear hm6;go_wp2_with fail;refine (HAW.out _ HM6.out).mono ?_;rintro e w7 ⟨rfl,hm7⟩;have HM7:=oh (HM0.out.trans (HM6.out.trans hm7));clear hm7;go_wp2_with fail;go_ret;exact⟨rfl,HM7.out⟩
 all_goals
  refine (tells20_one (HE.out.mods HM4.out.ext) HFU.out f [-1] HER4.out).mono ?_;rintro e w5 ⟨rfl,rfl⟩;go_wp2_with fail;refine (HAW.out _ HM4.out).mono ?_;rintro e w6 ⟨rfl,hm6⟩;have HM6:=oh (HM0.out.trans (HM4.out.trans hm6));clear hm6;go_wp2_with fail;go_ret;exact⟨rfl,HM6.out⟩
end
end Go.Proofs.YtdnbmdghmmpgcaaGreatDoor
