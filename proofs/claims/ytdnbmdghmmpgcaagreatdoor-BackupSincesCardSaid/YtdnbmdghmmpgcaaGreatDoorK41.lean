import Derived.Test.YtdnbmdghmmpgcaaGreatDoorK40
import Derived.Test.YtdnbmdghmmpgcaaGreatDoorK36
namespace Go.Proofs.YtdnbmdghmmpgcaaGreatDoor
open Lib renaming hid→oh
set_option maxHeartbeats 8000000
set_option maxRecDepth 100000
open Go.RowKit
attribute [local go_sem ↓] Go.wp_at_zero Go.wp_at_succ
section
variable {F:Nat→Prop}{ad:Nat→Addr}{w w':World}{B:Nat}{l:List UInt8}
theorem bwRecord(hL:Env F ad w)(hF:F B)(h:BwR F w B l)(c:ChV)(h1:c.key.size≤65535)(h2:c.new.size≤65535)(h3:c.old.size≤65535)(hlen:l.length≤800000000) :
  Calls Tryz.prog 54 #[.pointer (some ⟨B,0,none⟩),.agg (encCh c).toArray] w λe w'=>e=.returned (.tuple #[])∧BwR F w' B (l++recB c)∧Mods (λj=>j=B) w w':=by
 obtain⟨key,was,is_,old,new⟩:=c;simp only at h1 h2 h3;rw[show (encCh ⟨key,was,is_,old,new⟩).toArray=#[.string key,.bool was,.bool is_,.string old,.string new] from rfl];have HB0:=oh (Blk.new w #[.string key,.bool was,.bool is_,.string old,.string new] 106);have m0:Ext w (w.alloc (.cells #[.string key,.bool was,.bool is_,.string old,.string new] 106)):=(Mods.refl _ w).alloc _;obtain⟨w1,hw1⟩:∃w1,w1=w.alloc (.cells #[.string key,.bool was,.bool is_,.string old,.string new] 106):=⟨_,rfl⟩;rw[← hw1] at HB0 m0;have hz:w1.heap.size=w.heap.size+1:=by rw[hw1];simp
 have hFn:¬ F w1.heap.size:=λf=>by have:=hL.lt _ f;omega
 have HCV:=oh (Go.Lib.run_convert_string_bytes (P:=Tryz.prog) w1 9 26 5 old Tryz.underlying9 Tryz.underlying26 Tryz.underlying5);have hsl:=bytes_sl (F:=F) w1 5 old hFn (by omega);have hx:=bytes_ext w1 5 old;have hcv:=HCV.out;obtain⟨w2,hw2⟩:∃w2,w2=Lib.bytesWorld w1 5 old:=⟨_,rfl⟩;rw[← hw2] at hsl hx hcv;obtain⟨cp,hcp⟩:∃cp,cp=grownCap w1 old.size 0 5:=⟨_,rfl⟩;rw[← hcp] at hsl hcv;rw[hz] at hcv;rw[hw1] at hcv;have hX2:Ext w w2:=m0.trans hx;have hne:¬ w.heap.size=B:=λe=>by have:=hL.lt _ hF;omega
 have HS:=oh (Sum_any (.slice (some ⟨w.heap.size+1,0,none⟩) old.size cp) old.data.toList w2 (by rw[← hz];exact hsl));have ec:IntKind.u64.wrap (crcSum old.data.toList:Int)=(crcSum old.data.toList:Int):=IntWalk.u64_in _ (by have:=crcSum_lt old.data.toList;omega);have hcl:=crcSum_lt old.data.toList;obtain⟨cs,hcs⟩:∃cs,cs=crcSum old.data.toList:=⟨_,rfl⟩;rw[← hcs] at HS ec hcl;have HCS:=oh hcs;have HL2:=oh (hL.mods hX2.ext);have HR2:=oh (h.ext hX2);have HX2:=oh hX2;have HBK2:=oh (HB0.out.ext hx);have HNE:=oh hne;have HF:=oh hF;have HLE:=oh hlen;have H123:=oh (And.intro h1 (And.intro h2 (And.intro h3 hcl)));have HMM:Hid (∀W,Mods (λj=>j=B) w2 W→Env F ad W∧Blk W w.heap.size #[.string key,.bool was,.bool is_,.string old,.string new] 106):=oh λW m=>⟨HL2.out.mods (m.mono (λj (h:j=B)=>by rw[h];exact HF.out)),HBK2.out.mods m HNE.out⟩
 clear hL hF h h1 h2 h3 hlen HB0 m0 HCV hsl hx hw2 hcp hX2 hne hcs hFn hw1 hz hcl;cases was with
 | false =>
  go_enter Tryz.func54, Tryz.ntmps54
  go_wp2_with fail;refine HS.out.mono ?_;rintro e w3 ⟨rfl,rfl⟩;have bk:=HBK2.out;have c1:=bk.cell (o:=1) rfl;have c2:=bk.cell (o:=2) rfl;clear bk hcv;go_wp2_with fail;refine (bwNum HL2.out HF.out HR2.out 1 1 (by decide) (by decide) (by have:=HLE.out;omega)).mono ?_;rintro e W3 ⟨rfl,hR3,mm3⟩;have HR3:=oh hR3;have HM3:=oh (mm3);have bk:=(HMM.out _ HM3.out).2;have c0:=bk.cell (o:=0) (v:=.string key) rfl;have c4:=bk.cell (o:=4) (v:=.string new) rfl;clear hR3 mm3 bk;go_wp2_with fail;refine (bwText (HMM.out _ HM3.out).1 HF.out HR3.out key H123.out.1 (by have:=HLE.out;have:=H123.out;simp[leB_length];omega)).mono ?_;rintro e W4 ⟨rfl,hR4,mm4⟩;have HR4:=oh hR4;have HM4:=oh (HM3.out.trans mm4);have bk:=(HMM.out _ HM4.out).2;have c0:=bk.cell (o:=0) (v:=.string key) rfl;have c4:=bk.cell (o:=4) (v:=.string new) rfl;clear hR4 mm4 bk;go_wp2_with fail;refine (bwText (HMM.out _ HM4.out).1 HF.out HR4.out new H123.out.2.1 (by have:=HLE.out;have:=H123.out;simp[leB_length,txtB_length];omega)).mono ?_;rintro e W5 ⟨rfl,hR5,mm5⟩;have HR5:=oh hR5;have HM5:=oh (HM4.out.trans mm5);have bk:=(HMM.out _ HM5.out).2;have c0:=bk.cell (o:=0) (v:=.string key) rfl;have c4:=bk.cell (o:=4) (v:=.string new) rfl;clear hR5 mm5 bk;go_wp2_with fail;go_end0
  exact⟨rfl,by have h:=HR5.out;simpa[recB,List.append_assoc] using h,HX2.out.ext.trans HM5.out⟩
 | true =>
  cases is_ with
  | false =>
   go_enter Tryz.func54, Tryz.ntmps54
   go_wp2_with fail;refine HS.out.mono ?_;rintro e w3 ⟨rfl,rfl⟩;have bk:=HBK2.out;have c1:=bk.cell (o:=1) rfl;have c2:=bk.cell (o:=2) rfl;clear bk hcv;go_wp2_with fail;refine (bwNum HL2.out HF.out HR2.out 3 1 (by decide) (by decide) (by have:=HLE.out;omega)).mono ?_;rintro e W3 ⟨rfl,hR3,mm3⟩;have HR3:=oh hR3;have HM3:=oh (mm3);have bk:=(HMM.out _ HM3.out).2;have c0:=bk.cell (o:=0) (v:=.string key) rfl;have c4:=bk.cell (o:=4) (v:=.string new) rfl;clear hR3 mm3 bk;go_wp2_with fail;refine (bwText (HMM.out _ HM3.out).1 HF.out HR3.out key H123.out.1 (by have:=HLE.out;have:=H123.out;simp[leB_length];omega)).mono ?_;rintro e W4 ⟨rfl,hR4,mm4⟩;have HR4:=oh hR4;have HM4:=oh (HM3.out.trans mm4);have bk:=(HMM.out _ HM4.out).2;have c0:=bk.cell (o:=0) (v:=.string key) rfl;have c4:=bk.cell (o:=4) (v:=.string new) rfl;clear hR4 mm4 bk;go_wp2_with fail;refine (bwNum (HMM.out _ HM4.out).1 HF.out HR4.out cs 4 (by decide) (by have:=H123.out.2.2.2;omega) (by have:=HLE.out;have:=H123.out;simp[leB_length,txtB_length];omega)).mono ?_;rintro e W5 ⟨rfl,hR5,mm5⟩;have HR5:=oh hR5;have HM5:=oh (HM4.out.trans mm5);have bk:=(HMM.out _ HM5.out).2;have c0:=bk.cell (o:=0) (v:=.string key) rfl;have c4:=bk.cell (o:=4) (v:=.string new) rfl;clear hR5 mm5 bk;go_wp2_with fail;go_end0
   exact⟨rfl,by have h:=HR5.out;rw[HCS.out] at h;simpa[recB,List.append_assoc] using h,HX2.out.ext.trans HM5.out⟩
  | true =>
   go_enter Tryz.func54, Tryz.ntmps54
   go_wp2_with fail;refine HS.out.mono ?_;rintro e w3 ⟨rfl,rfl⟩;have bk:=HBK2.out;have c1:=bk.cell (o:=1) rfl;have c2:=bk.cell (o:=2) rfl;clear bk hcv;go_wp2_with fail;refine (bwNum HL2.out HF.out HR2.out 2 1 (by decide) (by decide) (by have:=HLE.out;omega)).mono ?_;rintro e W3 ⟨rfl,hR3,mm3⟩;have HR3:=oh hR3;have HM3:=oh (mm3);have bk:=(HMM.out _ HM3.out).2;have c0:=bk.cell (o:=0) (v:=.string key) rfl;have c4:=bk.cell (o:=4) (v:=.string new) rfl;clear hR3 mm3 bk;go_wp2_with fail;refine (bwText (HMM.out _ HM3.out).1 HF.out HR3.out key H123.out.1 (by have:=HLE.out;have:=H123.out;simp[leB_length];omega)).mono ?_;rintro e W4 ⟨rfl,hR4,mm4⟩;have HR4:=oh hR4;have HM4:=oh (HM3.out.trans mm4);have bk:=(HMM.out _ HM4.out).2;have c0:=bk.cell (o:=0) (v:=.string key) rfl;have c4:=bk.cell (o:=4) (v:=.string new) rfl;clear hR4 mm4 bk;go_wp2_with fail;refine (bwText (HMM.out _ HM4.out).1 HF.out HR4.out new H123.out.2.1 (by have:=HLE.out;have:=H123.out;simp[leB_length,txtB_length];omega)).mono ?_;rintro e W5 ⟨rfl,hR5,mm5⟩;have HR5:=oh hR5;have HM5:=oh (HM4.out.trans mm5);have bk:=(HMM.out _ HM5.out).2;have c0:=bk.cell (o:=0) (v:=.string key) rfl;have c4:=bk.cell (o:=4) (v:=.string new) rfl;clear hR5 mm5 bk;go_wp2_with fail;refine (bwNum (HMM.out _ HM5.out).1 HF.out HR5.out cs 4 (by decide) (by have:=H123.out.2.2.2;omega) (by have:=HLE.out;have:=H123.out;simp[leB_length,txtB_length];omega)).mono ?_;rintro e W6 ⟨rfl,hR6,mm6⟩;have HR6:=oh hR6;have HM6:=oh (HM5.out.trans mm6);have bk:=(HMM.out _ HM6.out).2;have c0:=bk.cell (o:=0) (v:=.string key) rfl;have c4:=bk.cell (o:=4) (v:=.string new) rfl;clear hR6 mm6 bk;go_wp2_with fail;go_end0
   exact⟨rfl,by have h:=HR6.out;rw[HCS.out] at h;simpa[recB,List.append_assoc] using h,HX2.out.ext.trans HM6.out⟩
end
def szC(c:ChV):Prop:=c.key.size≤4096∧c.new.size≤4096∧c.old.size≤4096
def szP(x:PairS):Prop:=x.1.size≤4096∧x.2.size≤4096
theorem diffP_sz:∀(a b:List PairS),(∀x∈a,szP x)→(∀y∈b,szP y)→∀c∈diffP a b,szC c
 | [],ys,_,h2,c,hc=>by
  rw[diffP] at hc;obtain⟨y,hy,rfl⟩:=List.mem_map.1 hc;exact⟨(h2 y hy).1,(h2 y hy).2,by show (0:Nat)≤4096;omega⟩
 | x :: xs,[],h1,h2,c,hc=>by
  rw[diffP] at hc;rcases List.mem_cons.1 hc with rfl|hc
  ·have:=h1 x List.mem_cons_self;exact⟨this.1,by show (0:Nat)≤4096;omega,this.2⟩
  ·exact diffP_sz xs [] (λz hz=>h1 z (List.mem_cons_of_mem _ hz)) h2 c hc
 | x :: xs,y :: ys,h1,h2,c,hc=>by
  have hx:=h1 x List.mem_cons_self;have hy:=h2 y List.mem_cons_self;have h1':∀z∈xs,szP z:=λz hz=>h1 z (List.mem_cons_of_mem _ hz)
  have h2':∀z∈ys,szP z:=λz hz=>h2 z (List.mem_cons_of_mem _ hz)
  rw[diffP] at hc;split at hc
  ·rcases List.mem_cons.1 hc with rfl|hc
   ·exact⟨hx.1,by show (0:Nat)≤4096;omega,hx.2⟩
   ·exact diffP_sz xs (y :: ys) h1' h2 c hc
  ·split at hc
   ·rcases List.mem_cons.1 hc with rfl|hc
    ·exact⟨hy.1,hy.2,by show (0:Nat)≤4096;omega⟩
    ·exact diffP_sz (x :: xs) ys h1 h2' c hc
   ·split at hc
    ·exact diffP_sz xs ys h1' h2' c hc
    ·rcases List.mem_cons.1 hc with rfl|hc
     ·exact⟨hx.1,hy.2,hx.2⟩
     ·exact diffP_sz xs ys h1' h2' c hc
termination_by a b=>a.length+b.length
theorem rightL_sz:∀(l:List PairS) (last:ByteArray),rightL last l=true→∀x∈l,szP x
 | [],_,_,x,hx=>by cases hx
 | y :: l,last,h,x,hx=>by
  rw[rightL] at h;simp only[Bool.and_eq_true,decide_eq_true_eq] at h;rcases List.mem_cons.1 hx with rfl|hx
  ·have:=(keyB_iff x.1).1 h.1.1.1;exact⟨by omega,h.1.2⟩
  ·exact rightL_sz l y.1 h.2 x hx
theorem recB_len(c:ChV)(h:szC c):(recB c).length≤8300:=by
 obtain⟨h1,h2,h3⟩:=h;unfold recB;split
 ·simp[leB_length,txtB_length];omega
 ·split <;> simp[leB_length,txtB_length] <;> omega
theorem flatR_le:∀(l:List ChV),(∀c∈l,szC c)→(l.flatMap recB).length≤8300 * l.length
 | [],_=>by simp
 | c :: l,h=>by
  rw[List.flatMap_cons,List.length_append,List.length_cons];have:=recB_len c (h c List.mem_cons_self);have:=flatR_le l (λx hx=>h x (List.mem_cons_of_mem _ hx));omega
theorem flatR_take(o:List ChV)(k:Nat)(hk:k<o.length):(o.take (k+1)).flatMap recB=(o.take k).flatMap recB++recB o[k]:=by
 rw[List.take_succ_eq_append_getElem hk,List.flatMap_append,List.flatMap_singleton]
section
variable {F:Nat→Prop}{ad:Nat→Addr}{w w':World}
def SinceD(F:Nat→Prop)(ad:Nat→Addr)(gen:Nat)(was is_:List PairS)(base:Nat)(e:Ending)(w':World):Prop :=
 if (rightL e0 was && rightL e0 is_)=true then ∃v,e=.returned (.tuple #[v,.nilIface])∧Sl F w' 1 encB v (sinceB gen was is_ base)
 else ∃f,e=.returned (.tuple #[.slice none 0 0,faultV f])∧ErrC F ad w' (faultV f) [-1] 1
theorem bkSince(hL:Env F ad w)(gen base:Nat)(hg:gen<18446744073709551616)(hb:base<18446744073709551616)(was is_:List PairS)(wv iv:Value)(hw:Sl F w 2 encP wv was)(hi:Sl F w 2 encP iv is_)(hl1:was.length≤100)(hl2:is_.length≤100) :
  Calls Tryz.prog 10 #[.int .u64 (gen:Int),wv,iv,.int .u64 (base:Int)] w λe w'=>SinceD F ad gen was is_ base e w'∧Ext w w':=by
 have HR1:=oh (bkRising was wv hw);have HR2:=oh (λW (m:Ext w W)=>bkRising is_ iv (hi.ext m));have HDF:=oh (λW (m:Ext w W)=>bkDiff was is_ wv iv (hw.ext m) (hi.ext m) (by omega) (by omega));have HL:=oh hL;have HZ1:=oh (rightL_sz was e0);have HZ2:=oh (rightL_sz is_ e0);have HLN:=oh (And.intro hl1 hl2);have HGB:=oh (And.intro hg hb);obtain⟨aa,ac,rfl, -⟩:=hw;obtain⟨ba,bc,rfl, -⟩:=hi;obtain⟨q1,hq1⟩:∃q,q=rightL e0 was:=⟨_,rfl⟩;obtain⟨q2,hq2⟩:∃q,q=rightL e0 is_:=⟨_,rfl⟩;unfold SinceD;rw[← hq1] at HR1 HZ1;rw[← hq2] at HR2 HZ2;rw[← hq1,← hq2];clear hL hl1 hl2 hg hb hq1 hq2;rcases (show q1=false∨q1=true∧q2=false∨q1=true∧q2=true by cases q1 <;> cases q2 <;> simp) with rfl|⟨rfl,rfl⟩|⟨rfl,rfl⟩
 focus
  go_enter Tryz.func10, Tryz.ntmps10
  go_wp2_with fail;refine HR1.out.mono ?_;rintro e w1 ⟨rfl,hm1⟩;have HM1:=oh hm1;have hL1:=HL.out.mods hm1.ext;have g1:=hL1.c1;clear hm1 hL1;go_wp2_with fail
 rotate_left;focus
  go_enter Tryz.func10, Tryz.ntmps10
  go_wp2_with fail;refine HR1.out.mono ?_;rintro e w0 ⟨rfl,hm0⟩;have HM0:=oh hm0;clear hm0;go_wp2_with fail;refine (HR2.out _ HM0.out).mono ?_;rintro e w1 ⟨rfl,hm1⟩;have HM1:=oh (HM0.out.trans hm1);have hL1:=HL.out.mods HM1.out.ext;have g1:=hL1.c1;clear hm1 hL1;go_wp2_with fail
 rotate_left;focus
  go_enter Tryz.func10, Tryz.ntmps10
  go_wp2_with fail;refine HR1.out.mono ?_;rintro e w0 ⟨rfl,hm0⟩;have HM0:=oh hm0;clear hm0;go_wp2_with fail;refine (HR2.out _ HM0.out).mono ?_;rintro e w1 ⟨rfl,hm1⟩;have HM1:=oh (HM0.out.trans hm1);clear hm1;go_wp2_with fail;refine (HDF.out _ HM1.out).mono ?_;rintro e w2 ⟨kv,rfl,hO2,hm2⟩;have HM2:=oh (HM1.out.trans hm2);have HSZ:Hid (∀c∈diffP was is_,szC c):=oh (diffP_sz was is_ (HZ1.out (by simp)) (HZ2.out (by simp)));have HDL:=oh (Nat.le_trans (diff_len was is_) (Nat.add_le_add HLN.out.1 HLN.out.2));have HSB:Hid (sinceB gen was is_ base=endB (headB ⟨2,gen,base,(diffP was is_).length⟩ ++ (diffP was is_).flatMap recB)):=oh rfl;obtain⟨o,ho⟩:∃o,o=diffP was is_:=⟨_,rfl⟩;rw[← ho] at hO2 HSZ HDL HSB;have HOS:=oh ((hO2.blocks (G:=F) (λk hk f=>by have:=(hO2.lt k hk).1;have:=HL.out.lt k f;have:=HM1.out.size;omega)).sl encCh_ok.len (by have:=HDL.out;omega));have HL2:=oh (HL.out.mods HM2.out.ext);have HBG:=oh (begin_ok HL2.out ⟨2,gen,base,o.length⟩ (by show (2:Nat)<256;omega) HGB.out.1 HGB.out.2 (by have:=HDL.out;show o.length<4294967296;omega));unfold headV at HBG;simp only at HBG;rw[show ((2:Nat):Int)=2 from rfl] at HBG;obtain⟨oa,oc,rfl,hz1,hz2⟩:=hO2.form;have hdl:o.length≤200:=HDL.out;clear hm2 hO2 ho HR1 HR2 HDF hz1 hz2;go_wp2_with fail;refine HBG.out.mono ?_;rintro e w3 ⟨B,rfl,hB3,hL3,hq3,m3⟩;have HB3:=oh hB3;have HL3:=oh hL3;have HQ3:=oh hq3;have HM3:=oh m3;clear hB3 hL3 hq3 m3;go_wp2_with fail;go_loopg [35] o.length (λm v35 wr=>∃(k:Nat),k+m=o.length∧v35=.int .i64 (k:Int)∧Hid (BwR (plusR F B) wr B (headB ⟨2,gen,base,o.length⟩ ++ (o.take k).flatMap recB)∧Env (plusR F B) ad wr∧Ext w2 wr))
  case atStart=>exact⟨0,by omega,rfl,oh ⟨by simpa using HB3.out,HL3.out,HM3.out⟩⟩
  case round =>
   obtain⟨k,hkm,rfl,HR⟩:=hrel;have HLB:Hid (∀k,(headB ⟨2,gen,base,o.length⟩ ++ (o.take k).flatMap recB).length≤2000000):=oh (λk=>by
    have h1:=flatR_le (o.take k) (λc hc=>HSZ.out c (List.mem_of_mem_take hc));have h2:(o.take k).length≤o.length:=by rw[List.length_take];omega
    have:=HDL.out;rw[List.length_append,headB_length];omega)
   by_cases hlt:k<o.length
   ·obtain⟨qb,qoff,hqa,hc⟩:=HOS.out.elem hlt HR.out.2.2;have c0:=hc 0 (.string o[k].key) rfl;have c1:=hc 1 (.bool o[k].was) rfl;have c2:=hc 2 (.bool o[k].is) rfl;have c3:=hc 3 (.string o[k].old) rfl;have c4:=hc 4 (.string o[k].new) rfl;simp only[Nat.add_zero] at c0;subst hqa;have HX:=oh (HSZ.out _ (List.getElem_mem hlt));have HFT:=oh (flatR_take o k hlt);obtain⟨x,hx⟩:∃x,x=o[k]:=⟨_,rfl⟩;rw[← hx] at c0 c1 c2 c3 c4 HX HFT;have i1:(0:Int)≤(k:Int):=by omega
    have i2:(k:Int)<(o.length:Int):=by omega
    have m0:Ext wr (wr.alloc (.cells #[.string x.key,.bool x.was,.bool x.is,.string x.old,.string x.new] 106)):=(Mods.refl _ wr).alloc _;have HRC:=oh (bwRecord (HR.out.2.1.mods m0.ext) (.inr rfl:plusR F B B) (HR.out.1.ext m0) x (by have:=HX.out.1;omega) (by have:=HX.out.2.1;omega) (by have:=HX.out.2.2;omega) (by have:=HLB.out k;omega));rw[show (encCh x).toArray=#[.string x.key,.bool x.was,.bool x.is,.string x.old,.string x.new] from rfl] at HRC;have HM0:=oh m0;obtain⟨xk,xw,xi,xo,xn⟩:=x;simp only at c0 c1 c2 c3 c4 HRC HM0;clear hc hx m0;go_wp2_with fail;refine HRC.out.mono ?_;rintro e w5 ⟨rfl,hB5,m5⟩;have HF5:Hid (BwR (plusR F B) w5 B (headB ⟨2,gen,base,o.length⟩ ++ (o.take (k+1)).flatMap recB)∧Env (plusR F B) ad w5∧Ext w2 w5):=oh ⟨by rw[HFT.out];simpa[List.append_assoc] using hB5,(HR.out.2.1.mods HM0.out.ext).mods (m5.mono (λj (h:j=B)=>.inr h)),(HR.out.2.2.trans HM0.out).trans' m5 (λi hi (h:i=B)=>by have:=HQ3.out;omega)⟩;clear hB5 m5;go_wp2_with fail;go_roundg (gk-1)
    case measure=>omega
    case rel=>exact⟨k+1,by omega,by go_num,HF5⟩
   ·have hke:k=o.length:=by omega
    subst hke;go_wp2_with fail;refine (bwEnd HR.out.2.1 (.inr rfl:plusR F B B) HR.out.1 _ (by have:=HLB.out o.length;omega)).mono ?_;rintro e w5 ⟨v5,rfl,hs5,m5⟩;have HM5:=oh (HR.out.2.2.trans' m5 (λi hi (h:i=B)=>by have:=HQ3.out;omega));have HS5:=oh hs5;clear hs5 m5;go_wp2_with fail;go_ret2
    refine⟨?_,HM2.out.trans HM5.out⟩;refine⟨v5,rfl,?_⟩;have h:=HS5.out;rw[List.take_length] at h;rw[HSB.out];exact h.anti (λk _ hk=>.inl hk)
 all_goals
  refine (new_any (HL.out.mods HM1.out.ext) _ _ [] 1 (.sent 1 (by decide) (by decide))).mono ?_;rintro e w2 ⟨f,rfl,hE,hm2⟩;have HE:=oh hE;have HM2:=oh (HM1.out.trans hm2);clear hE hm2;go_wp2_with fail;go_ret2
  exact⟨⟨f,rfl,HE.out⟩,HM2.out⟩
end
section
variable {F:Nat→Prop}{w w':World}
theorem since20_any(gen base:Nat)(hg:gen<18446744073709551616)(hb:base<18446744073709551616)(was is_:List PairS)(wv iv:Value)(hw:Sl F w 2 encP wv was)(hi:Sl F w 2 encP iv is_)(hl1:was.length≤100)(hl2:is_.length≤100)(o:List ChV)(ho:docDiff was is_=o)(hsz:∀c∈o,szC c)(hol:o.length≤200) :
  Calls Tryz.prog 15 #[.int .u64 (gen:Int),wv,iv,.int .u64 (base:Int)] w (Byt w (endB (headB ⟨2,gen,base,o.length⟩ ++ o.flatMap recB))):=by
 have HD:=oh (doc15_any was is_ wv iv hw hi hl1 hl2);rw[ho] at HD;have HBG:=oh (λW=>begin20_any (w:=W) ⟨2,gen,base,o.length⟩ (by show (2:Nat)<256;omega) hg hb (by show o.length<4294967296;omega));simp only at HBG;rw[show ((2:Nat):Int)=2 from rfl] at HBG;have HSZ:=oh hsz;have HOL:=oh hol;obtain⟨aa,ac,rfl, -⟩:=hw;obtain⟨ba,bc,rfl, -⟩:=hi;clear hg hb hl1 hl2 hsz ho
 go_enter Tryz.func15, Tryz.ntmps15
 go_wp2_with fail;refine HD.out.mono ?_;rintro e w1 ⟨kv,rfl,hO,hm1⟩;have HX1:=oh hm1;have HOS:=oh (hO.sl encCh_ok.len (by omega));obtain⟨oa,oc,rfl, -, -⟩:=hO.form;clear hm1 hO;go_wp2_with fail;refine (HBG.out _).mono ?_;rintro e w2 ⟨v2,rfl,hO2,hm2⟩;have HO2:=oh (hO2.rebase HX1.out.size);have HX2:=oh hm2;clear hO2 hm2;go_wp2_with fail;go_loopg [10,11] o.length (λm v10 v11 wr=>∃(k:Nat) (bv:Value),k+m=o.length∧bv=v10∧v11=.int .i64 (k:Int)∧Hid (Own (λ_=>False) wr w.heap.size 5 1 encB bv (headB ⟨2,gen,base,o.length⟩ ++ (o.take k).flatMap recB)∧Ext w1 wr))
 case atStart=>exact⟨0,v2,by omega,rfl,rfl,oh ⟨by simpa using HO2.out,HX2.out⟩⟩
 case round =>
  obtain⟨k,bv,hkm,rfl,rfl,HR⟩:=hrel;have HLB:Hid (∀k,(headB ⟨2,gen,base,o.length⟩ ++ (o.take k).flatMap recB).length≤2000000):=oh (λk=>by
   have h1:=flatR_le (o.take k) (λc hc=>HSZ.out c (List.mem_of_mem_take hc));have h2:(o.take k).length≤o.length:=by rw[List.length_take];omega
   rw[List.length_append,headB_length];omega)
  by_cases hlt:k<o.length
  ·obtain⟨qb,qoff,hqa,hc⟩:=HOS.out.elem hlt (Mods.refl _ w1);have g0:=hc 0 (.string o[k].key) rfl;have g1:=hc 1 (.bool o[k].was) rfl;have g2:=hc 2 (.bool o[k].is) rfl;have g3:=hc 3 (.string o[k].old) rfl;have g4:=hc 4 (.string o[k].new) rfl;simp only[Nat.add_zero] at g0;subst hqa;have HX:=oh (HSZ.out _ (List.getElem_mem hlt));obtain⟨x,hx⟩:∃x,x=o[k]:=⟨_,rfl⟩;obtain⟨bl,hbl⟩:∃bl,bl=headB ⟨2,gen,base,o.length⟩ ++ (o.take k).flatMap recB:=⟨_,rfl⟩;have HBL:Hid (bl.length≤2000000):=oh (by rw[hbl];exact HLB.out k);have HFT:Hid (headB ⟨2,gen,base,o.length⟩ ++ (o.take (k+1)).flatMap recB=bl++recB x):=oh (by rw[flatR_take o k hlt,← List.append_assoc,hbl,hx]);have HR:Hid (Own (λ_=>False) wr w.heap.size 5 1 encB bv bl∧Ext w1 wr):=oh (by rw[hbl];exact HR.out);rw[← hx] at g0 g1 g2 g3 g4 HX;clear hbl;obtain⟨xk,xw,xi,xo,xn⟩:=x;simp only at g0 g1 g2 g3 g4;have HC:Hid (∀W,Ext w1 W→W.cell? ⟨qb,qoff+k * 5,none⟩=some (.string xk)∧W.cell? ⟨qb,qoff+k * 5+1,none⟩=some (.bool xw)∧W.cell? ⟨qb,qoff+k * 5+2,none⟩=some (.bool xi)∧W.cell? ⟨qb,qoff+k * 5+3,none⟩=some (.string xo)∧W.cell? ⟨qb,qoff+k * 5+4,none⟩=some (.string xn)):=oh λW m=>⟨cellE m g0,cellE m g1,cellE m g2,cellE m g3,cellE m g4⟩
   have H123:Hid (xk.size≤4096∧xn.size≤4096∧xo.size≤4096):=HX;have i1:(0:Int)≤(k:Int):=by omega
   have i2:(k:Int)<(o.length:Int):=by omega
   obtain⟨c0,c1,c2,c3,c4⟩:=HC.out _ HR.out.2;have hcv:=Go.Lib.run_convert_string_bytes (P:=Tryz.prog) wr 9 26 5 xo Tryz.underlying9 Tryz.underlying26 Tryz.underlying5;have hsl:=bytes_sl (F:=λ_=>False) wr 5 xo (λf=>f) (by have:=H123.out.2.2;omega);have hxb:=bytes_ext wr 5 xo;obtain⟨cp,hcp⟩:∃cp,cp=grownCap wr xo.size 0 5:=⟨_,rfl⟩;obtain⟨wb,hwb⟩:∃wb,wb=Lib.bytesWorld wr 5 xo:=⟨_,rfl⟩;rw[← hcp,← hwb] at hcv;rw[← hcp,← hwb] at hsl;rw[← hwb] at hxb;have HSM:=oh (Sum02_any _ _ _ hsl);have hcl:=crcSum_lt xo.data.toList;obtain⟨cs,hcs⟩:∃cs,cs=crcSum xo.data.toList:=⟨_,rfl⟩;rw[← hcs] at HSM hcl;have ec:IntKind.u64.wrap (cs:Int)=(cs:Int):=IntWalk.u64_in _ (by omega);have HCS:=oh hcs;have HCL:=oh hcl;have HXB:=oh hxb;clear hc hx g0 g1 g2 g3 g4 hcp hwb hsl hxb hcs hcl;go_wp2_with fail;refine HSM.out.mono ?_;rintro e w3 ⟨rfl,hm3⟩;have HX23:=oh (HXB.out.trans hm3);have HX3:=oh (HR.out.2.trans HX23.out);obtain⟨c0,c1,c2,c3,c4⟩:=HC.out _ HX3.out;have HNUM1:=oh (num20_1 (w:=w3.drew) _ _ (Byt.sl (HR.out.1.ext (HX23.out.trans (Mods.refl _ w3).drew)) (by have:=HBL.out;omega)) 1 (by omega) (by have:=HBL.out;omega));have HNUM2:=oh (num20_1 (w:=w3.drew) _ _ (Byt.sl (HR.out.1.ext (HX23.out.trans (Mods.refl _ w3).drew)) (by have:=HBL.out;omega)) 2 (by omega) (by have:=HBL.out;omega));have HNUM3:=oh (num20_1 (w:=w3.drew) _ _ (Byt.sl (HR.out.1.ext (HX23.out.trans (Mods.refl _ w3).drew)) (by have:=HBL.out;omega)) 3 (by omega) (by have:=HBL.out;omega));rw[show ((1:Nat):Int)=1 from rfl] at HNUM1;rw[show ((2:Nat):Int)=2 from rfl] at HNUM2;rw[show ((3:Nat):Int)=3 from rfl] at HNUM3;clear hm3 hcv;cases xw with
   | false =>
    go_wp2_with fail;have f0:=(HC.out _ (HX3.out.trans (Mods.refl _ w3).drew)).1;have f4:=(HC.out _ (HX3.out.trans (Mods.refl _ w3).drew)).2.2.2.2;go_region_held3 (λw'=>w'.cell? ⟨qb,qoff+k * 5,none⟩=some (.string xk)∧w'.cell? ⟨qb,qoff+k * 5+4,none⟩=some (.string xn))
     (first|(with_reducible exact⟨f0,f4⟩)|(with_reducible exact⟨z0,z4⟩)|fail)
     (first
      | (go_at_call 61;(with_reducible refine (HNUM1.out).mono ?_);rintro e y1 ⟨v1,rfl,o1,m1⟩;have x1:=(HX3.out.trans (Mods.refl _ w3).drew).trans m1;have z0:=(HC.out _ x1).1;have z4:=(HC.out _ x1).2.2.2.2)
      | (go_at_call 60;(with_reducible refine (text20_any _ _ (Byt.sl o1 (by have:=HBL.out;have:=H123.out;simp[leB_length];omega)) xk (by have:=H123.out.1;omega) (by have:=HBL.out;have:=H123.out;simp[leB_length];omega)).mono ?_);rintro e y2 ⟨v2,rfl,o2,m2⟩;have x2:=x1.trans m2;have z0:=(HC.out _ x2).1;have z4:=(HC.out _ x2).2.2.2.2)
      | (go_at_call 60;(with_reducible refine (text20_any _ _ (Byt.sl o2 (by have:=HBL.out;have:=H123.out;simp[leB_length,txtB_length];omega)) xn (by have:=H123.out.2.1;omega) (by have:=HBL.out;have:=H123.out;simp[leB_length,txtB_length];omega)).mono ?_);rintro e y3 ⟨v3,rfl,o3,m3⟩;have x3:=x2.trans m3;have z0:=(HC.out _ x3).1;have z4:=(HC.out _ x3).2.2.2.2)
      | fail)
    have HF:Hid (Own (λ_=>False) y3 w.heap.size 5 1 encB v3 (headB ⟨2,gen,base,o.length⟩ ++ (o.take (k+1)).flatMap recB)∧Ext w1 y3):=oh ⟨by rw[HFT.out];have h:=o3.rebase (show w.heap.size≤y2.heap.size from Nat.le_trans HX1.out.size x2.size);simpa[recB,List.append_assoc,HCS.out] using h,x3⟩;clear o1 m1 x1 o2 m2 x2 o3 m3 x3 z0 z4 f0 f4;go_wp2_with fail;go_roundg (gk-1)
    case measure=>omega
    case rel=>exact⟨k+1,v3,by omega,rfl,by go_num,HF⟩
   | true =>
    cases xi with
    | false =>
     go_wp2_with fail;have f0:=(HC.out _ (HX3.out.trans (Mods.refl _ w3).drew)).1;have f4:=(HC.out _ (HX3.out.trans (Mods.refl _ w3).drew)).2.2.2.2;go_region_held3 (λw'=>w'.cell? ⟨qb,qoff+k * 5,none⟩=some (.string xk))
      (first|(with_reducible exact f0)|(with_reducible exact z0)|fail)
      (first
       | (go_at_call 61;(with_reducible refine (HNUM3.out).mono ?_);rintro e y1 ⟨v1,rfl,o1,m1⟩;have x1:=(HX3.out.trans (Mods.refl _ w3).drew).trans m1;have z0:=(HC.out _ x1).1;have z4:=(HC.out _ x1).2.2.2.2)
       | (go_at_call 60;(with_reducible refine (text20_any _ _ (Byt.sl o1 (by have:=HBL.out;have:=H123.out;simp[leB_length];omega)) xk (by have:=H123.out.1;omega) (by have:=HBL.out;have:=H123.out;simp[leB_length];omega)).mono ?_);rintro e y2 ⟨v2,rfl,o2,m2⟩;have x2:=x1.trans m2;have z0:=(HC.out _ x2).1;have z4:=(HC.out _ x2).2.2.2.2)
       | (go_at_call 61;(with_reducible refine (num20_4 _ _ (Byt.sl o2 (by have:=HBL.out;have:=H123.out;simp[leB_length,txtB_length];omega)) cs HCL.out (by have:=HBL.out;have:=H123.out;simp[leB_length,txtB_length];omega)).mono ?_);rintro e y3 ⟨v3,rfl,o3,m3⟩;have x3:=x2.trans m3;have z0:=(HC.out _ x3).1;have z4:=(HC.out _ x3).2.2.2.2)
       | fail)
     have HF:Hid (Own (λ_=>False) y3 w.heap.size 5 1 encB v3 (headB ⟨2,gen,base,o.length⟩ ++ (o.take (k+1)).flatMap recB)∧Ext w1 y3):=oh ⟨by rw[HFT.out];have h:=o3.rebase (show w.heap.size≤y2.heap.size from Nat.le_trans HX1.out.size x2.size);simpa[recB,List.append_assoc,HCS.out] using h,x3⟩;clear o1 m1 x1 o2 m2 x2 o3 m3 x3 z0 z4 f0 f4;go_wp2_with fail;go_roundg (gk-1)
     case measure=>omega
     case rel=>exact⟨k+1,v3,by omega,rfl,by go_num,HF⟩
    | true =>
     go_wp2_with fail;have f0:=(HC.out _ (HX3.out.trans (Mods.refl _ w3).drew)).1;have f4:=(HC.out _ (HX3.out.trans (Mods.refl _ w3).drew)).2.2.2.2;go_region_held3 (λw'=>w'.cell? ⟨qb,qoff+k * 5,none⟩=some (.string xk)∧w'.cell? ⟨qb,qoff+k * 5+4,none⟩=some (.string xn))
      (first|(with_reducible exact⟨f0,f4⟩)|(with_reducible exact⟨z0,z4⟩)|fail)
      (first
       | (go_at_call 61;(with_reducible refine (HNUM2.out).mono ?_);rintro e y1 ⟨v1,rfl,o1,m1⟩;have x1:=(HX3.out.trans (Mods.refl _ w3).drew).trans m1;have z0:=(HC.out _ x1).1;have z4:=(HC.out _ x1).2.2.2.2)
       | (go_at_call 60;(with_reducible refine (text20_any _ _ (Byt.sl o1 (by have:=HBL.out;have:=H123.out;simp[leB_length];omega)) xk (by have:=H123.out.1;omega) (by have:=HBL.out;have:=H123.out;simp[leB_length];omega)).mono ?_);rintro e y2 ⟨v2,rfl,o2,m2⟩;have x2:=x1.trans m2;have z0:=(HC.out _ x2).1;have z4:=(HC.out _ x2).2.2.2.2)
       | (go_at_call 60;(with_reducible refine (text20_any _ _ (Byt.sl o2 (by have:=HBL.out;have:=H123.out;simp[leB_length,txtB_length];omega)) xn (by have:=H123.out.2.1;omega) (by have:=HBL.out;have:=H123.out;simp[leB_length,txtB_length];omega)).mono ?_);rintro e y3 ⟨v3,rfl,o3,m3⟩;have x3:=x2.trans m3;have z0:=(HC.out _ x3).1;have z4:=(HC.out _ x3).2.2.2.2)
       | (go_at_call 61;(with_reducible refine (num20_4 _ _ (Byt.sl o3 (by have:=HBL.out;have:=H123.out;simp[leB_length,txtB_length];omega)) cs HCL.out (by have:=HBL.out;have:=H123.out;simp[leB_length,txtB_length];omega)).mono ?_);rintro e y4 ⟨v4,rfl,o4,m4⟩;have x4:=x3.trans m4;have z0:=(HC.out _ x4).1;have z4:=(HC.out _ x4).2.2.2.2)
       | fail)
     have HF:Hid (Own (λ_=>False) y4 w.heap.size 5 1 encB v4 (headB ⟨2,gen,base,o.length⟩ ++ (o.take (k+1)).flatMap recB)∧Ext w1 y4):=oh ⟨by rw[HFT.out];have h:=o4.rebase (show w.heap.size≤y3.heap.size from Nat.le_trans HX1.out.size x3.size);simpa[recB,List.append_assoc,HCS.out] using h,x4⟩;clear o1 m1 x1 o2 m2 x2 o3 m3 x3 o4 m4 x4 z0 z4 f0 f4;go_wp2_with fail;go_roundg (gk-1)
     case measure=>omega
     case rel=>exact⟨k+1,v4,by omega,rfl,by go_num,HF⟩
  ·have hke:k=o.length:=by omega
   have HKE:=oh hke;have i2:¬ (k:Int)<(o.length:Int):=by omega
   clear hke;go_wp2_with fail;refine (end20_any bv _ (Byt.sl HR.out.1 (by have:=HLB.out k;omega)) (by have:=HLB.out k;omega)).mono ?_;rintro e w5 ⟨v5,rfl,hO5,hm5⟩;have HF:Hid (Own (λ_=>False) w5 w.heap.size 5 1 encB v5 (endB (headB ⟨2,gen,base,o.length⟩ ++ o.flatMap recB))∧Ext w w5):=oh ⟨by have h:=hO5.rebase (show w.heap.size≤wr.heap.size from Nat.le_trans HX1.out.size HR.out.2.size);rw[HKE.out,List.take_length] at h;exact h,HX1.out.trans (HR.out.2.trans hm5)⟩;clear hO5 hm5;go_wp2_with fail;go_ret;exact⟨v5,rfl,HF.out.1,HF.out.2⟩
end
end Go.Proofs.YtdnbmdghmmpgcaaGreatDoor
