import Derived.Test.YtchklfmggpconaaGreatDoorK45
import Derived.Test.YtchklfmggpconaaGreatDoorK49
import Derived.Test.YtchklfmggpconaaGreatDoorK48
import Derived.Deep.CutBlock
import Derived.Deep.DeepCutAuto
namespace Go.Proofs.YtchklfmggpconaaGreatDoor
open Lib renaming hid→oh
set_option maxHeartbeats 8000000
set_option maxRecDepth 100000
open Go.RowKit
attribute [local go_sem ↓] Go.wp_at_zero Go.wp_at_succ
section
variable {P P' F F':Nat→Prop}{ad:Nat→Addr}{w w':World}{c s:Nat}{G G':GA}{l l':List Nat}
theorem LoadE15_any(hL:Env F ad w)(gen:Nat)(ps:List PairS)(pv:Value)(hpv:Sl F w 2 encP pv ps)(hfu:Full ad)(k:Nat)(hd:checkL ps=some ([-1],k)) :
  Calls Tryz.prog 11 #[pgV c s gen,pv] w λe w'=>∃f,e=.returned (.tuple #[.int .i64 0,faultV f])∧ErrC F ad w' (faultV f) [-1] k∧Ext w w':=by
 have m0:Ext w (w.alloc (.cells #[.pointer (some ⟨c,0,none⟩),.pointer (some ⟨s,0,none⟩),.int .u64 (gen:Int)] 31)):=(Mods.refl _ w).alloc _;have HM0:=oh m0;have hck:=bcheck_any (c:=c) (s:=s) (hL.mods m0.ext) gen ps pv (hpv.ext m0) (.inl hfu);rw[hd] at hck;have HCK:=oh hck;obtain⟨pa,pc,rfl, -, -, -, -⟩:=hpv;unfold pgV at HCK ⊢;clear hL m0 hck hd
 go_enter Tryz.func11, Tryz.ntmps11
 go_wp2_with fail;refine HCK.out.mono ?_;rintro e w1 ⟨ev,rfl,⟨f,rfl,hE⟩,hm1⟩;have HE:=oh hE;have HM1:=oh (HM0.out.trans hm1);clear hm1 hE;go_wp2_with fail;refine bodyPost_ret (v:=.tuple #[.int .i64 0,faultV f]) (by simp[results,Tryz.results11,go_sem]) rfl ?_;exact⟨f,rfl,HE.out,HM1.out⟩
theorem bcheckN_any(hL:Env F ad w)(sp:Option Addr)(gen:Nat)(lv:Value) :
  Calls Tryz.prog 36 #[.agg #[.pointer none,.pointer sp,.int .u64 (gen:Int)],lv] w λe w'=>∃f,e=.returned (faultV f)∧ErrC F ad w' (faultV f) [-1] 7∧Ext w w':=by
 have m0:Ext w (w.alloc (.cells #[.pointer none,.pointer sp,.int .u64 (gen:Int)] 31)):=(Mods.refl _ w).alloc _;have HRD:=oh (bready_nil (hL.mods m0.ext) ⟨#[98,117,108,107,46,76,111,97,100]⟩ sp gen);have HM0:=oh m0;clear hL m0
 go_enter Tryz.func36, Tryz.ntmps36
 go_wp2_with fail;refine HRD.out.mono ?_;rintro e w1 ⟨f,rfl,hE,hm1⟩;have HE:=oh hE;have HM1:=oh (HM0.out.trans hm1);clear hm1 hE;go_wp2_with fail;go_ret;exact⟨f,rfl,HE.out,HM1.out⟩
theorem LoadN15_any(hL:Env F ad w)(sp:Option Addr)(gen:Nat)(pv:Value) :
  Calls Tryz.prog 11 #[.agg #[.pointer none,.pointer sp,.int .u64 (gen:Int)],pv] w λe w'=>∃f,e=.returned (.tuple #[.int .i64 0,faultV f])∧ErrC F ad w' (faultV f) [-1] 7∧Ext w w':=by
 have m0:Ext w (w.alloc (.cells #[.pointer none,.pointer sp,.int .u64 (gen:Int)] 31)):=(Mods.refl _ w).alloc _;have HRD:=oh (bcheckN_any (hL.mods m0.ext) sp gen pv);have HM0:=oh m0;clear hL m0
 go_enter Tryz.func11, Tryz.ntmps11
 go_wp2_with fail;refine HRD.out.mono ?_;rintro e w1 ⟨f,rfl,hE,hm1⟩;have HE:=oh hE;have HM1:=oh (HM0.out.trans hm1);clear hm1 hE;go_wp2_with fail;refine bodyPost_ret (v:=.tuple #[.int .i64 0,faultV f]) (by simp[results,Tryz.results11,go_sem]) rfl ?_;exact⟨f,rfl,HE.out,HM1.out⟩
theorem dumpN_any(hL:Env F ad w)(sp:Option Addr)(gen:Nat)(root:Int) :
  Calls Tryz.prog 18 #[.agg #[.pointer none,.pointer sp,.int .u64 (gen:Int)],.int .i64 root] w λe w'=>∃f,e=.returned (.tuple #[.slice none 0 0,faultV f])∧ErrC F ad w' (faultV f) [-1] 7∧Ext w w':=by
 have m0:Ext w (w.alloc (.cells #[.pointer none,.pointer sp,.int .u64 (gen:Int)] 31)):=(Mods.refl _ w).alloc _;have HRD:=oh (bready_nil (hL.mods m0.ext) ⟨#[98,117,108,107,46,68,117,109,112]⟩ sp gen);have HM0:=oh m0;clear hL m0
 go_enter Tryz.func18, Tryz.ntmps18
 go_wp2_with fail;refine HRD.out.mono ?_;rintro e w1 ⟨f,rfl,hE,hm1⟩;have HE:=oh hE;have HM1:=oh (HM0.out.trans hm1);clear hm1 hE;go_wp2_with fail;refine bodyPost_ret (v:=.tuple #[.slice none 0 0,faultV f]) (by simp[results,Tryz.results18,go_sem]) rfl ?_;exact⟨f,rfl,HE.out,HM1.out⟩
theorem applyN_any(hL:Env F ad w)(sp:Option Addr)(gen:Nat)(root:Int)(lv:Value) :
  Calls Tryz.prog 31 #[.agg #[.pointer none,.pointer sp,.int .u64 (gen:Int)],.int .i64 root,lv] w λe w'=>∃f,e=.returned (.tuple #[.int .i64 0,faultV f])∧ErrC F ad w' (faultV f) [-1] 7∧Ext w w':=by
 have m0:Ext w (w.alloc (.cells #[.pointer none,.pointer sp,.int .u64 (gen:Int)] 31)):=(Mods.refl _ w).alloc _;have HRD:=oh (bready_nil (hL.mods m0.ext) ⟨#[98,117,108,107,46,65,112,112,108,121]⟩ sp gen);have HM0:=oh m0;clear hL m0
 go_enter Tryz.func31, Tryz.ntmps31
 go_wp2_with fail;refine HRD.out.mono ?_;rintro e w1 ⟨f,rfl,hE,hm1⟩;have HE:=oh hE;have HM1:=oh (HM0.out.trans hm1);clear hm1 hE;go_wp2_with fail;refine bodyPost_ret (v:=.tuple #[.int .i64 0,faultV f]) (by simp[results,Tryz.results31,go_sem]) rfl ?_;exact⟨f,rfl,HE.out,HM1.out⟩
end
section
variable {P P' F F':Nat→Prop}{ad:Nat→Addr}{w w':World}{c s:Nat}
theorem applyF_any(hL:Env F ad w)(gen:Nat)(root:Int)(l:List ChV)(lv:Value)(hl:Sl F w 5 encCh lv l)(hb:risesB e0 (l.map (·.key))=false∨∃x r,l=x :: r∧x.was=false∧x.is=false) :
  Calls Tryz.prog 31 #[pgV c s gen,.int .i64 root,lv] w λe w'=>∃f,e=.returned (.tuple #[.int .i64 0,faultV f])∧ErrC F ad w' (faultV f) [-1] 1∧Ext w w':=by
 have m0:Ext w (w.alloc (.cells #[.pointer (some ⟨c,0,none⟩),.pointer (some ⟨s,0,none⟩),.int .u64 (gen:Int)] 31)):=(Mods.refl _ w).alloc _;have HM0:=oh m0;have HRD:=λW=>bready_ok (c:=c) (s:=s) (w:=W) ⟨#[98,117,108,107,46,65,112,112,108,121]⟩ gen
 unfold pgV at HRD ⊢;have HRD:=oh HRD;have HL:=oh hL;have HSL:=oh hl;have HBB:=oh hb;have HRS:=oh (λW (m:Ext w W)=>brisingC_any l lv (hl.ext m));obtain⟨la,lc,rfl,h1,h2,h3, -⟩:=hl;unfold maxLen at h2;clear hL hb m0
 go_enter Tryz.func31, Tryz.ntmps31
 go_wp2_with fail;refine (HRD.out _).mono ?_;rintro e w1 ⟨rfl,hm1⟩;have HM1:=oh (HM0.out.trans hm1);clear hm1;go_wp2_with fail;refine (HRS.out _ HM1.out).mono ?_;rintro e w2 ⟨rfl,hm2⟩;have HM2:=oh (HM1.out.trans hm2);have hL2:=HL.out.mods HM2.out.ext;have g1:=hL2.c1;have HL2:=oh hL2;clear hL2 hm2;cases hr:risesB e0 (l.map (·.key)) with
 | false =>
  clear hr;go_wp2_with fail;refine (new_any HL2.out _ _ [] 1 (.sent 1 (by decide) (by decide))).mono ?_;rintro e w3 ⟨f,rfl,hE,hm⟩;have HE:=oh hE;have HM:=oh hm;clear hE hm;go_wp2_with fail;refine bodyPost_ret (v:=.tuple #[.int .i64 0,faultV f]) (by simp[results,Tryz.results31,go_sem]) rfl ?_;exact⟨f,rfl,HE.out,HM2.out.trans HM.out⟩
 | true =>
  obtain⟨x,r,hxr,hx1,hx2⟩:∃x r,l=x :: r∧x.was=false∧x.is=false:=by
   rcases HBB.out with h|h
   ·rw[hr] at h;cases h
   ·exact h
  have hlt:0<l.length:=by rw[hxr];simp
  obtain⟨qb,qoff,hqa,hc⟩:=HSL.out.elem hlt HM2.out;have hx0:l[0]=x:=by simp[hxr]
  rw[hx0] at hc;have c0:=hc 0 (.string x.key) rfl;have c1:=hc 1 (.bool false) (by rw[← hx1];rfl);have c2:=hc 2 (.bool false) (by rw[← hx2];rfl);have c3:=hc 3 (.string x.old) rfl;have c4:=hc 4 (.string x.new) rfl;simp only[Nat.zero_mul,Nat.add_zero] at c0 c1 c2 c3 c4;subst hqa;clear hr hxr hx1 hx2 hc hx0;have i2:(0:Int)<(l.length:Int):=by omega
  go_wp2_with fail;go_loopg [27] 1 (λm v27 wr=>v27=.int .i64 0∧wr=w2∧m=1)
  case atStart=>exact⟨rfl,rfl,rfl⟩
  case round =>
   obtain⟨rfl,rfl,rfl⟩:=hrel;have HA0:=oh ((Mods.refl (λ_=>False) wr).alloc (.cells #[.string x.key,.bool false,.bool false,.string x.old,.string x.new] 67));have HL3:=oh (HL2.out.mods HA0.out.ext);have g1:=HL3.out.c1;go_wp2_with fail;refine (new_any HL3.out _ _ [] 1 (.sent 1 (by decide) (by decide))).mono ?_;rintro e w3 ⟨f,rfl,hE,hm⟩;have HE:=oh hE;have HM:=oh hm;clear hE hm;go_wp2_with fail;refine bodyPost_ret (v:=.tuple #[.int .i64 0,faultV f]) (by simp[results,Tryz.results31,go_sem]) rfl ?_;exact⟨f,rfl,HE.out,(HM2.out.trans HA0.out).trans HM.out⟩
end
section
variable {P P' F F':Nat→Prop}{ad:Nat→Addr}{w w':World}{c s:Nat}
theorem openN_any(hL:Env F ad w)(z:Int)(root:Int) :
  Calls Tryz.prog 41 #[.agg #[.pointer none,.pointer none,.int .u64 z],.int .i64 root] w λe w'=>∃f,e=.returned (.tuple #[.pointer none,faultV f])∧ErrC F ad w' (faultV f) [-1] 7∧Ext w w':=by
 have m0:Ext w (w.alloc (.cells #[.pointer none,.pointer none,.int .u64 z] 31)):=(Mods.refl _ w).alloc _;have HRD:=oh (new_nil (hL.mods m0.ext) none none (.inl rfl) z root);have HM0:=oh m0;clear hL m0
 go_enter Tryz.func41, Tryz.ntmps41
 go_wp2_with fail;refine HRD.out.mono ?_;rintro e w1 ⟨f,rfl,hE,hm1⟩;have HE:=oh hE;have HM1:=oh (HM0.out.trans hm1);clear hm1 hE;go_wp2_with fail;refine bodyPost_ret (v:=.tuple #[.pointer none,faultV f]) (by simp[results,Tryz.results41,go_sem]) rfl ?_;exact⟨f,rfl,HE.out,HM1.out⟩
theorem diffN_any(hL:Env F ad w)(z:Int)(r1 r2:Int) :
  Calls Tryz.prog 13 #[.agg #[.pointer none,.pointer none,.int .u64 z],.int .i64 r1,.int .i64 r2] w λe w'=>∃f,e=.returned (.tuple #[.slice none 0 0,faultV f])∧ErrC F ad w' (faultV f) [-1, -1] 7∧Ext w w':=by
 have m0:Ext w (w.alloc (.cells #[.pointer none,.pointer none,.int .u64 z] 31)):=(Mods.refl _ w).alloc _;have HRD:=oh (openN_any (hL.mods m0.ext) z r1);have HM0:=oh m0;have HL:=oh hL;clear hL m0
 go_enter Tryz.func13, Tryz.ntmps13
 go_wp2_with fail;refine HRD.out.mono ?_;rintro e w1 ⟨f,rfl,hE,hm1⟩;have HE:=oh hE;have HM1:=oh (HM0.out.trans hm1);clear hm1 hE;go_wp2_with fail;refine (wrap_any (HL.out.mods HM1.out.ext) _ _ [-1] 7 HE.out).mono ?_;rintro e w2 ⟨f2,rfl,hE2,hm2⟩;have HE2:=oh hE2;have HM2:=oh (HM1.out.trans hm2);clear hm2 hE2;go_wp2_with fail;refine bodyPost_ret (v:=.tuple #[.slice none 0 0,faultV f2]) (by simp[results,Tryz.results13,go_sem]) rfl ?_;exact⟨f2,rfl,HE2.out,HM2.out⟩
theorem compactN_any(hL:Env F ad w)(gen:Nat)(root:Int) :
  Calls Tryz.prog 27 #[.agg #[.pointer none,.pointer none,.int .u64 (gen:Int)],.int .i64 root] w λe w'=>∃f,e=.returned (.tuple #[.int .i64 0,faultV f])∧ErrC F ad w' (faultV f) [-1, -1] 7∧Ext w w':=by
 have m0:Ext w (w.alloc (.cells #[.pointer none,.pointer none,.int .u64 (gen:Int)] 31)):=(Mods.refl _ w).alloc _;have HRD:=oh (dumpN_any (hL.mods m0.ext) none gen root);have HM0:=oh m0;have HL:=oh hL;clear hL m0
 go_enter Tryz.func27, Tryz.ntmps27
 go_wp2_with fail;refine HRD.out.mono ?_;rintro e w1 ⟨f,rfl,hE,hm1⟩;have HE:=oh hE;have HM1:=oh (HM0.out.trans hm1);clear hm1 hE;go_wp2_with fail;refine (wrap_any (HL.out.mods HM1.out.ext) _ _ [-1] 7 HE.out).mono ?_;rintro e w2 ⟨f2,rfl,hE2,hm2⟩;have HE2:=oh hE2;have HM2:=oh (HM1.out.trans hm2);clear hm2 hE2;go_wp2_with fail;refine bodyPost_ret (v:=.tuple #[.int .i64 0,faultV f2]) (by simp[results,Tryz.results27,go_sem]) rfl ?_;exact⟨f2,rfl,HE2.out,HM2.out⟩
theorem tells15_k(hL:Env F ad w)(hfu:Full ad){f:Nat}{el:List Int}{k:Nat}(he:ErrC F ad w (faultV f) el k)(q:Nat)(hq:q<100)(hk:k=q) : Calls Tryz.prog 29 #[faultV f,.int .i64 (q:Int)] w λe w'=>e=.returned (.bool true)∧w=w':=by
 refine (tells15_any hL hfu (faultV f) (some (el,k)) ⟨f,rfl,he⟩ q hq).mono ?_;rintro e w' ⟨rfl,h⟩;refine⟨?_,h⟩;have:decide (codeO (some (el,k))=q)=true:=decide_eq_true hk;rw[this]
end
def cd15(l:List PairS)(k:Nat):Nat:=if risesB e0 (l.map (·.1))=false then 1 else if (l.take k).any (λx=>decide (4096<x.2.size))=true then 8 else 0
theorem cd15_end(l:List PairS):(checkL l=none∧cd15 l l.length=0)∨∃k,checkL l=some ([-1],k)∧cd15 l l.length=k∧(k=1∨k=8):=by
 unfold checkL cd15;rw[List.take_length];split
 ·exact .inr ⟨1,rfl,rfl,.inl rfl⟩
 ·split
  ·exact .inr ⟨8,rfl,rfl,.inr rfl⟩
  ·exact .inl ⟨rfl,rfl⟩
theorem cd15_succ{l:List PairS}{k:Nat}{x:PairS}(hx:l[k]? = some x):cd15 l (k+1)=if cd15 l k=0∧4096<x.2.size then 8 else cd15 l k:=by
 unfold cd15;rw[take_one l k x hx,List.any_append];by_cases h1:risesB e0 (l.map (·.1))=false
 ·simp[h1]
 ·by_cases h2:(l.take k).any (λx=>decide (4096<x.2.size))=true
  ·simp[h1,h2]
  ·by_cases h3:4096<x.2.size
   ·simp[h1,h2,h3]
   ·simp[h1,h2,h3]
theorem free250:spCount (spNew 250)=248:=by decide +kernel
theorem BulkRefuses_any{ad:Nat→Addr}{w:World}(hL:Env NoB ad w)(hfu:Full ad)(m:List PairS)(mv:Value)(hm:Sl NoB w 2 encP mv m)(x:ChV)(long:Bool) :
  Calls Tryz.prog 7 #[mv,.agg #[.string x.key,.bool x.was,.bool x.is,.string x.old,.string x.new],.bool long] w λe w'=>e=.returned (.bool true)∧Ext w w':=by
 obtain⟨z,hz⟩:∃z,z=min m.length 20:=⟨_,rfl⟩;obtain⟨wb,hwb⟩:∃wb,wb=w.alloc (.cells #[.string x.key,.bool x.was,.bool x.is,.string x.old,.string x.new] 67):=⟨_,rfl⟩;have m0:Ext w wb:=by rw[hwb];exact (Mods.refl _ w).alloc _
 have HXB:=oh (show Blk wb w.heap.size #[.string x.key,.bool x.was,.bool x.is,.string x.old,.string x.new] 67 by rw[hwb];exact Blk.new w _ _);have HL:=oh (hL.mods m0.ext);have HFU:=oh hfu;have HM0:=oh m0;have hml:=hm;obtain⟨ma,mc,rfl,h1,h2,h3, -⟩:=hml;unfold maxLen at h2;obtain⟨l,hl⟩:∃l,l=m.take z:=⟨_,rfl⟩;have hll:l.length=z:=by rw[hl,List.length_take];omega
 have HSM:Hid (Sl NoB wb 2 encP (.slice ma z mc) l):=oh (by rw[hl];exact (hm.ext m0).pre z (by omega));have hmin:min (m.length:Int) 20=(z:Int):=by omega
 have hz1:(z:Int)≤(mc:Int):=by omega
 have hz2:(0:Int)≤(z:Int):=by omega
 have hz20:z≤20:=by omega
 have HWB:=oh hwb;clear hL hfu m0 hm hl hwb hz
 go_enter Tryz.func7, Tryz.ntmps7
 go_wp2_with fail;rw[← HWB.out];refine (pager15_any HL.out).mono ?_;rintro e w1 ⟨c,s,P,F,rfl,hG,hN⟩;have hS:=LG.startZ (gen:=5) hG hN 5 rfl;have t0:=hS.c0;have t1:=hS.c1;have t2:_=some (Value.int .u64 5):=hS.c2;have HSL:=oh (hS.sl HSM.out);have HXB2:=oh (hS.old HXB.out);obtain⟨w2,hw2⟩:∃w2,w2=w1.alloc (.cells #[.pointer (some ⟨c,0,none⟩),.pointer (some ⟨s,0,none⟩),.int .u64 5] 31):=⟨_,rfl⟩;have HS:=oh hS;rw[← hw2] at HS HSL HXB2;have HKY:=oh (keys11_any (w:=w2) l (.slice ma z mc) HSL.out (by omega));have HW2:=oh hw2;rw[pgV5];clear hG hN hS hw2;go_wp2_with fail;rw[← HW2.out];refine HKY.out.mono ?_;rintro e w3 ⟨kv,rfl,hO3,hm3⟩;have HRS:=oh (rising15_any (w:=w3) (l.map (·.1)) kv (hO3.sl encS_ok.len (by rw[List.length_map];omega)));have HM3:=oh hm3;clear hO3 hm3 t0 t1 t2;go_wp2_with fail;refine HRS.out.mono ?_;rintro e w4 ⟨rfl,hm4⟩;have HS4:=oh ((HS.out.ext HM3.out).ext hm4);have HSL4:=oh ((HSL.out.ext HM3.out).ext hm4);have HXB4:=oh ((HXB2.out.ext HM3.out).ext hm4);clear hm4;cases hr:risesB e0 (l.map (·.1)) with
 | false =>
  have HC:Hid (cd15 l 0=1):=oh (by unfold cd15;rw[if_pos hr]);clear hr;go_wp2_with fail;go_loopg [9,10] z (λq v9 v10 wr=>∃k,k+q=z∧v9=.int .i64 ((cd15 l k:Nat):Int)∧v10=.int .i64 (k:Int)∧Hid (Ext w4 wr))
  case atStart=>exact⟨0,by omega,by rw[HC.out];rfl,rfl,oh (Mods.refl _ _)⟩
  case round =>
   obtain⟨k,hkq,rfl,rfl,HX⟩:=hrel;by_cases hlt:k<z
   ·obtain⟨y,hy⟩:∃y,l[k]? = some y:=⟨_,List.getElem?_eq_getElem (by omega)⟩;obtain⟨yk,yv⟩:=y;obtain⟨qb,qoff,hqa,hcr⟩:=HSL4.out.elem (k:=k) (by omega) HX.out;have hey:l[k]'(by omega)=(yk,yv):=by
     rw[List.getElem?_eq_getElem (by omega)] at hy;injection hy
    rw[hey] at hcr;have d1:=hcr 1 (.string yv) rfl;subst hqa;have HSU:=oh (cd15_succ hy);have i1:(0:Int)≤(k:Int):=by omega
    have i2:(k:Int)<(z:Int):=by omega
    obtain⟨cd,hcd⟩:∃cd,cd=cd15 l k:=⟨_,rfl⟩;rw[← hcd] at HSU ⊢;clear hy hey hcr hcd;by_cases hc0:cd=0
    ·subst hc0;by_cases hv:4096<yv.size
     ·have hv2:(4096:Int)<(yv.size:Int):=by omega
      have HN:Hid (cd15 l (k+1)=8):=oh (by rw[HSU.out,if_pos ⟨rfl,hv⟩]);go_wp2_with fail;go_roundg (gk-1)
      case measure=>omega
      case rel=>exact⟨k+1,by omega,by rw[HN.out];rfl,by go_num,HX⟩
     ·have hv2:¬ (4096:Int)<(yv.size:Int):=by omega
      have HN:Hid (cd15 l (k+1)=0):=oh (by rw[HSU.out,if_neg (λh=>hv h.2)]);go_wp2_with fail;go_roundg (gk-1)
      case measure=>omega
      case rel=>exact⟨k+1,by omega,by rw[HN.out];rfl,by go_num,HX⟩
    ·have hc1:((cd:Int) == 0)=false:=by rw[beq_eq_false_iff_ne];omega
     have HN:Hid (cd15 l (k+1)=cd):=oh (by rw[HSU.out,if_neg (λh=>hc0 h.1)]);go_wp2_with fail;go_roundg (gk-1)
     case measure=>omega
     case rel=>exact⟨k+1,by omega,by rw[HN.out],by go_num,HX⟩
   ·have hkz:k=l.length:=by omega
    have hXX:=HX.out;have hSL9:=HSL4.out.ext hXX;have hS9:=HS4.out.ext hXX;rcases cd15_end l with ⟨hck,hcd⟩|⟨k2,hck,hcd,hk2⟩
    ·rw[hkz,hcd];have HS9:=oh hS9;have hll2:(l.length:Int)=(z:Int):=by omega
     rw[hll2];obtain⟨w9,rfl⟩:∃w9:World,w9=wr:=⟨_,rfl⟩;clear hXX hSL9 hS9 hck hcd hll2;have HLN:=LoadN15_any (HS9.out.env) none 0 (.slice ma z mc);change Calls Tryz.prog 11 #[.agg #[.pointer none,.pointer none,.int .u64 0],.slice ma z mc] _ _ at HLN
     have HLN:=oh HLN;go_wp2_with fail;refine HLN.out.mono ?_;rintro e w10 ⟨f1,rfl,hE1,hm10⟩;have HS10:=oh (HS9.out.ext hm10);have HE1:=oh hE1;have HDN:=dumpN_any HS10.out.env none 0 0;change Calls Tryz.prog 18 #[.agg #[.pointer none,.pointer none,.int .u64 0],.int .i64 0] _ _ at HDN
     have HDN:=oh HDN;clear hE1 hm10;go_wp2_with fail;refine HDN.out.mono ?_;rintro e w11 ⟨f2,rfl,hE2,hm11⟩;have HS11:=oh (HS10.out.ext hm11);have HE1:=oh (HE1.out.mods hm11.ext);have HE2:=oh hE2;have HFN:=oh (diffN_any HS11.out.env 0 0 0);clear hE2 hm11;go_wp2_with fail;refine HFN.out.mono ?_;rintro e w12 ⟨f3,rfl,hE3,hm12⟩;have HS12:=oh (HS11.out.ext hm12);have HE1:=oh (HE1.out.mods hm12.ext);have HE2:=oh (HE2.out.mods hm12.ext);have HE3:=oh hE3;have HAN:=applyN_any HS12.out.env none 0 0 (.slice none 0 0);change Calls Tryz.prog 31 #[.agg #[.pointer none,.pointer none,.int .u64 0],.int .i64 0,.slice none 0 0] _ _ at HAN
     have HAN:=oh HAN;clear hE3 hm12;go_wp2_with fail;refine HAN.out.mono ?_;rintro e w13 ⟨f4,rfl,hE4,hm13⟩;have HS13:=oh (HS12.out.ext hm13);have HE1:=oh (HE1.out.mods hm13.ext);have HE2:=oh (HE2.out.mods hm13.ext);have HE3:=oh (HE3.out.mods hm13.ext);have HE4:=oh hE4;have HCN:=compactN_any HS13.out.env 0 0;change Calls Tryz.prog 27 #[.agg #[.pointer none,.pointer none,.int .u64 0],.int .i64 0] _ _ at HCN
     have HCN:=oh HCN;clear hE4 hm13;go_wp2_with fail;refine HCN.out.mono ?_;rintro e w14 ⟨f5,rfl,hE5,hm14⟩;have hS14:=HS13.out.ext hm14;have HS14:=oh hS14;have HE1:=oh (HE1.out.mods hm14.ext);have HE2:=oh (HE2.out.mods hm14.ext);have HE3:=oh (HE3.out.mods hm14.ext);have HE4:=oh (HE4.out.mods hm14.ext);have HE5:=oh hE5;have x0:=(hS14.old HXB.out).cell (o:=0) (v:=.string x.key) rfl;have t0:=hS14.c0;have t1:=hS14.c1;have t2:_=some (Value.int .u64 5):=hS14.c2;clear hE5 hm14 hS14;go_wp2_with fail;refine (tells15_k HS14.out.env HFU.out HE1.out 7 (by omega) rfl).mono ?_;rintro e w15 ⟨rfl,rfl⟩;go_wp2_with fail;refine (tells15_k HS14.out.env HFU.out HE2.out 7 (by omega) rfl).mono ?_;rintro e w15 ⟨rfl,rfl⟩;go_wp2_with fail;refine (tells15_k HS14.out.env HFU.out HE3.out 7 (by omega) rfl).mono ?_;rintro e w15 ⟨rfl,rfl⟩;go_wp2_with fail;refine (tells15_k HS14.out.env HFU.out HE4.out 7 (by omega) rfl).mono ?_;rintro e w15 ⟨rfl,rfl⟩;go_wp2_with fail;refine (tells15_k HS14.out.env HFU.out HE5.out 7 (by omega) rfl).mono ?_;rintro e w15 ⟨rfl,rfl⟩;obtain⟨w15,hw15⟩:∃W,W=w14.alloc (.cells #[.string x.key,.bool false,.bool false,.string ⟨#[]⟩,.string ⟨#[]⟩] 67):=⟨_,rfl⟩;have m15:Ext w14 w15:=by rw[hw15];exact (Mods.refl _ w14).alloc _
     have hB15:Blk w15 w14.heap.size #[.string x.key,.bool false,.bool false,.string ⟨#[]⟩,.string ⟨#[]⟩] 67:=by rw[hw15];exact Blk.new w14 _ _
     have hS15:=HS14.out.ext m15;have HA1:=applyF_any (c:=c) (s:=s) hS15.env 5 0 [⟨x.key,false,false,⟨#[]⟩,⟨#[]⟩⟩] (.slice (some ⟨w14.heap.size,0,none⟩) 1 1) (Sl.one (F:=F) (x:=(⟨x.key,false,false,⟨#[]⟩,⟨#[]⟩⟩:ChV)) (enc:=encCh) (sz:=5) hB15 (λf=>by have:=HS14.out.env.lt _ f;omega)) (.inr ⟨_,[],rfl,rfl,rfl⟩);rw[pgV5] at HA1;have HA1:=oh HA1;have HS15:=oh hS15;have HW15:=oh hw15;clear m15 hB15 hS15 hw15;go_wp2_with fail;rw[← HW15.out];refine HA1.out.mono ?_;rintro e w16 ⟨f6,rfl,hE6,hm16⟩;have hS16:=HS15.out.ext hm16;have HE6:=oh hE6;have t0:=hS16.c0;have t1:=hS16.c1;have t2:_=some (Value.int .u64 5):=hS16.c2;obtain⟨w17,hw17⟩:∃W,W=w16.alloc (.cells #[.string ⟨#[98]⟩,.bool false,.bool true,.string ⟨#[]⟩,.string ⟨#[]⟩,.string ⟨#[97]⟩,.bool false,.bool true,.string ⟨#[]⟩,.string ⟨#[]⟩] 67):=⟨_,rfl⟩;have m17:Ext w16 w17:=by rw[hw17];exact (Mods.refl _ w16).alloc _
     have hB17:Blk w17 w16.heap.size #[.string ⟨#[98]⟩,.bool false,.bool true,.string ⟨#[]⟩,.string ⟨#[]⟩,.string ⟨#[97]⟩,.bool false,.bool true,.string ⟨#[]⟩,.string ⟨#[]⟩] 67:=by rw[hw17];exact Blk.new w16 _ _
     have hS17:=hS16.ext m17;have HA2:=applyF_any (c:=c) (s:=s) hS17.env 5 0 [⟨⟨#[98]⟩,false,true,⟨#[]⟩,⟨#[]⟩⟩,⟨⟨#[97]⟩,false,true,⟨#[]⟩,⟨#[]⟩⟩] (.slice (some ⟨w16.heap.size,0,none⟩) 2 2) (Sl.duo (F:=F) (x:=(⟨⟨#[98]⟩,false,true,⟨#[]⟩,⟨#[]⟩⟩:ChV)) (y:=(⟨⟨#[97]⟩,false,true,⟨#[]⟩,⟨#[]⟩⟩:ChV)) (enc:=encCh) (sz:=5) hB17 rfl (λf=>by have:=hS16.env.lt _ f;omega)) (.inl (by decide +kernel));rw[pgV5] at HA2;have HA2:=oh HA2;have HS17:=oh hS17;have HE6:=oh (HE6.out.mods m17.ext);have HW17:=oh hw17;clear hE6 hm16 m17 hB17 hS16 hS17 hw17;go_wp2_with fail;rw[← HW17.out];refine HA2.out.mono ?_;rintro e w18 ⟨f7,rfl,hE7,hm18⟩;have HS18:=oh (HS17.out.ext hm18);have HE6:=oh (HE6.out.mods hm18.ext);have HE7:=oh hE7;have HAW:=oh (awake15_any (HL.out.mods HS18.out.ext0.ext));clear hE7 hm18 t0 t1 t2;go_wp2_with fail;refine (tells15_k HS18.out.env HFU.out HE6.out 1 (by omega) rfl).mono ?_;rintro e w19 ⟨rfl,rfl⟩;go_wp2_with fail;refine (tells15_k HS18.out.env HFU.out HE7.out 1 (by omega) rfl).mono ?_;rintro e w19 ⟨rfl,rfl⟩;go_wp2_with fail;refine HAW.out.mono ?_;rintro e w20 ⟨rfl,hm20⟩;have HM20:=oh hm20;clear hm20;go_wp2_with fail;go_ret;exact⟨rfl,(HM0.out.trans HS18.out.ext0).trans HM20.out⟩
    ·rw[hkz,hcd];have t0:=hS9.c0;have t1:=hS9.c1;have t2:_=some (Value.int .u64 5):=hS9.c2;have HLD:=LoadE15_any (c:=c) (s:=s) hS9.env 5 l (.slice ma z mc) hSL9 HFU.out k2 hck;rw[pgV5] at HLD;have HLD:=oh HLD;have HS8:=oh hS9;have hll2:(l.length:Int)=(z:Int):=by omega
     rw[hll2];have hk0:((k2:Int) == 0)=false:=by rw[beq_eq_false_iff_ne];omega
     have hk9:k2<100:=by omega
     clear hXX hSL9 hS9 hck hcd hll2 hk2;go_wp2_with fail;refine HLD.out.mono ?_;rintro e w9 ⟨f0,rfl,hE0,hm9⟩;have hS9:=HS8.out.ext hm9;have HE0:=oh hE0;have HFR:=pgFree hS9.pg;rw[free250] at HFR;have HFR:=oh HFR;have t0:=hS9.c0;have t1:=hS9.c1;have t2:_=some (Value.int .u64 5):=hS9.c2;have HS9:=oh hS9;clear hE0 hm9 hS9;go_wp2_with fail;refine (tells15_k HS9.out.env HFU.out HE0.out k2 hk9 rfl).mono ?_;rintro e w10 ⟨rfl,rfl⟩;go_wp2_with fail;refine HFR.out.mono ?_;rintro e w10 ⟨rfl,rfl⟩;clear t0 t1 t2;have HLN:=LoadN15_any (HS9.out.env) none 0 (.slice ma z mc);change Calls Tryz.prog 11 #[.agg #[.pointer none,.pointer none,.int .u64 0],.slice ma z mc] _ _ at HLN
     have HLN:=oh HLN;go_wp2_with fail;refine HLN.out.mono ?_;rintro e w10 ⟨f1,rfl,hE1,hm10⟩;have HS10:=oh (HS9.out.ext hm10);have HE1:=oh hE1;have HDN:=dumpN_any HS10.out.env none 0 0;change Calls Tryz.prog 18 #[.agg #[.pointer none,.pointer none,.int .u64 0],.int .i64 0] _ _ at HDN
     have HDN:=oh HDN;clear hE1 hm10;go_wp2_with fail;refine HDN.out.mono ?_;rintro e w11 ⟨f2,rfl,hE2,hm11⟩;have HS11:=oh (HS10.out.ext hm11);have HE1:=oh (HE1.out.mods hm11.ext);have HE2:=oh hE2;have HFN:=oh (diffN_any HS11.out.env 0 0 0);clear hE2 hm11;go_wp2_with fail;refine HFN.out.mono ?_;rintro e w12 ⟨f3,rfl,hE3,hm12⟩;have HS12:=oh (HS11.out.ext hm12);have HE1:=oh (HE1.out.mods hm12.ext);have HE2:=oh (HE2.out.mods hm12.ext);have HE3:=oh hE3;have HAN:=applyN_any HS12.out.env none 0 0 (.slice none 0 0);change Calls Tryz.prog 31 #[.agg #[.pointer none,.pointer none,.int .u64 0],.int .i64 0,.slice none 0 0] _ _ at HAN
     have HAN:=oh HAN;clear hE3 hm12;go_wp2_with fail;refine HAN.out.mono ?_;rintro e w13 ⟨f4,rfl,hE4,hm13⟩;have HS13:=oh (HS12.out.ext hm13);have HE1:=oh (HE1.out.mods hm13.ext);have HE2:=oh (HE2.out.mods hm13.ext);have HE3:=oh (HE3.out.mods hm13.ext);have HE4:=oh hE4;have HCN:=compactN_any HS13.out.env 0 0;change Calls Tryz.prog 27 #[.agg #[.pointer none,.pointer none,.int .u64 0],.int .i64 0] _ _ at HCN
     have HCN:=oh HCN;clear hE4 hm13;go_wp2_with fail;refine HCN.out.mono ?_;rintro e w14 ⟨f5,rfl,hE5,hm14⟩;have hS14:=HS13.out.ext hm14;have HS14:=oh hS14;have HE1:=oh (HE1.out.mods hm14.ext);have HE2:=oh (HE2.out.mods hm14.ext);have HE3:=oh (HE3.out.mods hm14.ext);have HE4:=oh (HE4.out.mods hm14.ext);have HE5:=oh hE5;have x0:=(hS14.old HXB.out).cell (o:=0) (v:=.string x.key) rfl;have t0:=hS14.c0;have t1:=hS14.c1;have t2:_=some (Value.int .u64 5):=hS14.c2;clear hE5 hm14 hS14;go_wp2_with fail;refine (tells15_k HS14.out.env HFU.out HE1.out 7 (by omega) rfl).mono ?_;rintro e w15 ⟨rfl,rfl⟩;go_wp2_with fail;refine (tells15_k HS14.out.env HFU.out HE2.out 7 (by omega) rfl).mono ?_;rintro e w15 ⟨rfl,rfl⟩;go_wp2_with fail;refine (tells15_k HS14.out.env HFU.out HE3.out 7 (by omega) rfl).mono ?_;rintro e w15 ⟨rfl,rfl⟩;go_wp2_with fail;refine (tells15_k HS14.out.env HFU.out HE4.out 7 (by omega) rfl).mono ?_;rintro e w15 ⟨rfl,rfl⟩;go_wp2_with fail;refine (tells15_k HS14.out.env HFU.out HE5.out 7 (by omega) rfl).mono ?_;rintro e w15 ⟨rfl,rfl⟩;obtain⟨w15,hw15⟩:∃W,W=w14.alloc (.cells #[.string x.key,.bool false,.bool false,.string ⟨#[]⟩,.string ⟨#[]⟩] 67):=⟨_,rfl⟩;have m15:Ext w14 w15:=by rw[hw15];exact (Mods.refl _ w14).alloc _
     have hB15:Blk w15 w14.heap.size #[.string x.key,.bool false,.bool false,.string ⟨#[]⟩,.string ⟨#[]⟩] 67:=by rw[hw15];exact Blk.new w14 _ _
     have hS15:=HS14.out.ext m15;have HA1:=applyF_any (c:=c) (s:=s) hS15.env 5 0 [⟨x.key,false,false,⟨#[]⟩,⟨#[]⟩⟩] (.slice (some ⟨w14.heap.size,0,none⟩) 1 1) (Sl.one (F:=F) (x:=(⟨x.key,false,false,⟨#[]⟩,⟨#[]⟩⟩:ChV)) (enc:=encCh) (sz:=5) hB15 (λf=>by have:=HS14.out.env.lt _ f;omega)) (.inr ⟨_,[],rfl,rfl,rfl⟩);rw[pgV5] at HA1;have HA1:=oh HA1;have HS15:=oh hS15;have HW15:=oh hw15;clear m15 hB15 hS15 hw15;go_wp2_with fail;rw[← HW15.out];refine HA1.out.mono ?_;rintro e w16 ⟨f6,rfl,hE6,hm16⟩;have hS16:=HS15.out.ext hm16;have HE6:=oh hE6;have t0:=hS16.c0;have t1:=hS16.c1;have t2:_=some (Value.int .u64 5):=hS16.c2;obtain⟨w17,hw17⟩:∃W,W=w16.alloc (.cells #[.string ⟨#[98]⟩,.bool false,.bool true,.string ⟨#[]⟩,.string ⟨#[]⟩,.string ⟨#[97]⟩,.bool false,.bool true,.string ⟨#[]⟩,.string ⟨#[]⟩] 67):=⟨_,rfl⟩;have m17:Ext w16 w17:=by rw[hw17];exact (Mods.refl _ w16).alloc _
     have hB17:Blk w17 w16.heap.size #[.string ⟨#[98]⟩,.bool false,.bool true,.string ⟨#[]⟩,.string ⟨#[]⟩,.string ⟨#[97]⟩,.bool false,.bool true,.string ⟨#[]⟩,.string ⟨#[]⟩] 67:=by rw[hw17];exact Blk.new w16 _ _
     have hS17:=hS16.ext m17;have HA2:=applyF_any (c:=c) (s:=s) hS17.env 5 0 [⟨⟨#[98]⟩,false,true,⟨#[]⟩,⟨#[]⟩⟩,⟨⟨#[97]⟩,false,true,⟨#[]⟩,⟨#[]⟩⟩] (.slice (some ⟨w16.heap.size,0,none⟩) 2 2) (Sl.duo (F:=F) (x:=(⟨⟨#[98]⟩,false,true,⟨#[]⟩,⟨#[]⟩⟩:ChV)) (y:=(⟨⟨#[97]⟩,false,true,⟨#[]⟩,⟨#[]⟩⟩:ChV)) (enc:=encCh) (sz:=5) hB17 rfl (λf=>by have:=hS16.env.lt _ f;omega)) (.inl (by decide +kernel));rw[pgV5] at HA2;have HA2:=oh HA2;have HS17:=oh hS17;have HE6:=oh (HE6.out.mods m17.ext);have HW17:=oh hw17;clear hE6 hm16 m17 hB17 hS16 hS17 hw17;go_wp2_with fail;rw[← HW17.out];refine HA2.out.mono ?_;rintro e w18 ⟨f7,rfl,hE7,hm18⟩;have HS18:=oh (HS17.out.ext hm18);have HE6:=oh (HE6.out.mods hm18.ext);have HE7:=oh hE7;have HAW:=oh (awake15_any (HL.out.mods HS18.out.ext0.ext));clear hE7 hm18 t0 t1 t2;go_wp2_with fail;refine (tells15_k HS18.out.env HFU.out HE6.out 1 (by omega) rfl).mono ?_;rintro e w19 ⟨rfl,rfl⟩;go_wp2_with fail;refine (tells15_k HS18.out.env HFU.out HE7.out 1 (by omega) rfl).mono ?_;rintro e w19 ⟨rfl,rfl⟩;go_wp2_with fail;refine HAW.out.mono ?_;rintro e w20 ⟨rfl,hm20⟩;have HM20:=oh hm20;clear hm20;go_wp2_with fail;go_ret;exact⟨rfl,(HM0.out.trans HS18.out.ext0).trans HM20.out⟩
 | true =>
  have HC:Hid (cd15 l 0=0):=oh (by unfold cd15;rw[if_neg (by rw[hr];simp)];simp);clear hr;go_wp2_with fail;go_loopg [9,10] z (λq v9 v10 wr=>∃k,k+q=z∧v9=.int .i64 ((cd15 l k:Nat):Int)∧v10=.int .i64 (k:Int)∧Hid (Ext w4 wr))
  case atStart=>exact⟨0,by omega,by rw[HC.out];rfl,rfl,oh (Mods.refl _ _)⟩
  case round =>
   obtain⟨k,hkq,rfl,rfl,HX⟩:=hrel;by_cases hlt:k<z
   ·obtain⟨y,hy⟩:∃y,l[k]? = some y:=⟨_,List.getElem?_eq_getElem (by omega)⟩;obtain⟨yk,yv⟩:=y;obtain⟨qb,qoff,hqa,hcr⟩:=HSL4.out.elem (k:=k) (by omega) HX.out;have hey:l[k]'(by omega)=(yk,yv):=by
     rw[List.getElem?_eq_getElem (by omega)] at hy;injection hy
    rw[hey] at hcr;have d1:=hcr 1 (.string yv) rfl;subst hqa;have HSU:=oh (cd15_succ hy);have i1:(0:Int)≤(k:Int):=by omega
    have i2:(k:Int)<(z:Int):=by omega
    obtain⟨cd,hcd⟩:∃cd,cd=cd15 l k:=⟨_,rfl⟩;rw[← hcd] at HSU ⊢;clear hy hey hcr hcd;by_cases hc0:cd=0
    ·subst hc0;by_cases hv:4096<yv.size
     ·have hv2:(4096:Int)<(yv.size:Int):=by omega
      have HN:Hid (cd15 l (k+1)=8):=oh (by rw[HSU.out,if_pos ⟨rfl,hv⟩]);go_wp2_with fail;go_roundg (gk-1)
      case measure=>omega
      case rel=>exact⟨k+1,by omega,by rw[HN.out];rfl,by go_num,HX⟩
     ·have hv2:¬ (4096:Int)<(yv.size:Int):=by omega
      have HN:Hid (cd15 l (k+1)=0):=oh (by rw[HSU.out,if_neg (λh=>hv h.2)]);go_wp2_with fail;go_roundg (gk-1)
      case measure=>omega
      case rel=>exact⟨k+1,by omega,by rw[HN.out];rfl,by go_num,HX⟩
    ·have hc1:((cd:Int) == 0)=false:=by rw[beq_eq_false_iff_ne];omega
     have HN:Hid (cd15 l (k+1)=cd):=oh (by rw[HSU.out,if_neg (λh=>hc0 h.1)]);go_wp2_with fail;go_roundg (gk-1)
     case measure=>omega
     case rel=>exact⟨k+1,by omega,by rw[HN.out],by go_num,HX⟩
   ·have hkz:k=l.length:=by omega
    have hXX:=HX.out;have hSL9:=HSL4.out.ext hXX;have hS9:=HS4.out.ext hXX;rcases cd15_end l with ⟨hck,hcd⟩|⟨k2,hck,hcd,hk2⟩
    ·rw[hkz,hcd];have HS9:=oh hS9;have hll2:(l.length:Int)=(z:Int):=by omega
     rw[hll2];obtain⟨w9,rfl⟩:∃w9:World,w9=wr:=⟨_,rfl⟩;clear hXX hSL9 hS9 hck hcd hll2;have HLN:=LoadN15_any (HS9.out.env) none 0 (.slice ma z mc);change Calls Tryz.prog 11 #[.agg #[.pointer none,.pointer none,.int .u64 0],.slice ma z mc] _ _ at HLN
     have HLN:=oh HLN;go_wp2_with fail;refine HLN.out.mono ?_;rintro e w10 ⟨f1,rfl,hE1,hm10⟩;have HS10:=oh (HS9.out.ext hm10);have HE1:=oh hE1;have HDN:=dumpN_any HS10.out.env none 0 0;change Calls Tryz.prog 18 #[.agg #[.pointer none,.pointer none,.int .u64 0],.int .i64 0] _ _ at HDN
     have HDN:=oh HDN;clear hE1 hm10;go_wp2_with fail;refine HDN.out.mono ?_;rintro e w11 ⟨f2,rfl,hE2,hm11⟩;have HS11:=oh (HS10.out.ext hm11);have HE1:=oh (HE1.out.mods hm11.ext);have HE2:=oh hE2;have HFN:=oh (diffN_any HS11.out.env 0 0 0);clear hE2 hm11;go_wp2_with fail;refine HFN.out.mono ?_;rintro e w12 ⟨f3,rfl,hE3,hm12⟩;have HS12:=oh (HS11.out.ext hm12);have HE1:=oh (HE1.out.mods hm12.ext);have HE2:=oh (HE2.out.mods hm12.ext);have HE3:=oh hE3;have HAN:=applyN_any HS12.out.env none 0 0 (.slice none 0 0);change Calls Tryz.prog 31 #[.agg #[.pointer none,.pointer none,.int .u64 0],.int .i64 0,.slice none 0 0] _ _ at HAN
     have HAN:=oh HAN;clear hE3 hm12;go_wp2_with fail;refine HAN.out.mono ?_;rintro e w13 ⟨f4,rfl,hE4,hm13⟩;have HS13:=oh (HS12.out.ext hm13);have HE1:=oh (HE1.out.mods hm13.ext);have HE2:=oh (HE2.out.mods hm13.ext);have HE3:=oh (HE3.out.mods hm13.ext);have HE4:=oh hE4;have HCN:=compactN_any HS13.out.env 0 0;change Calls Tryz.prog 27 #[.agg #[.pointer none,.pointer none,.int .u64 0],.int .i64 0] _ _ at HCN
     have HCN:=oh HCN;clear hE4 hm13;go_wp2_with fail;refine HCN.out.mono ?_;rintro e w14 ⟨f5,rfl,hE5,hm14⟩;have hS14:=HS13.out.ext hm14;have HS14:=oh hS14;have HE1:=oh (HE1.out.mods hm14.ext);have HE2:=oh (HE2.out.mods hm14.ext);have HE3:=oh (HE3.out.mods hm14.ext);have HE4:=oh (HE4.out.mods hm14.ext);have HE5:=oh hE5;have x0:=(hS14.old HXB.out).cell (o:=0) (v:=.string x.key) rfl;have t0:=hS14.c0;have t1:=hS14.c1;have t2:_=some (Value.int .u64 5):=hS14.c2;clear hE5 hm14 hS14;go_wp2_with fail;refine (tells15_k HS14.out.env HFU.out HE1.out 7 (by omega) rfl).mono ?_;rintro e w15 ⟨rfl,rfl⟩;go_wp2_with fail;refine (tells15_k HS14.out.env HFU.out HE2.out 7 (by omega) rfl).mono ?_;rintro e w15 ⟨rfl,rfl⟩;go_wp2_with fail;refine (tells15_k HS14.out.env HFU.out HE3.out 7 (by omega) rfl).mono ?_;rintro e w15 ⟨rfl,rfl⟩;go_wp2_with fail;refine (tells15_k HS14.out.env HFU.out HE4.out 7 (by omega) rfl).mono ?_;rintro e w15 ⟨rfl,rfl⟩;go_wp2_with fail;refine (tells15_k HS14.out.env HFU.out HE5.out 7 (by omega) rfl).mono ?_;rintro e w15 ⟨rfl,rfl⟩;obtain⟨w15,hw15⟩:∃W,W=w14.alloc (.cells #[.string x.key,.bool false,.bool false,.string ⟨#[]⟩,.string ⟨#[]⟩] 67):=⟨_,rfl⟩;have m15:Ext w14 w15:=by rw[hw15];exact (Mods.refl _ w14).alloc _
     have hB15:Blk w15 w14.heap.size #[.string x.key,.bool false,.bool false,.string ⟨#[]⟩,.string ⟨#[]⟩] 67:=by rw[hw15];exact Blk.new w14 _ _
     have hS15:=HS14.out.ext m15;have HA1:=applyF_any (c:=c) (s:=s) hS15.env 5 0 [⟨x.key,false,false,⟨#[]⟩,⟨#[]⟩⟩] (.slice (some ⟨w14.heap.size,0,none⟩) 1 1) (Sl.one (F:=F) (x:=(⟨x.key,false,false,⟨#[]⟩,⟨#[]⟩⟩:ChV)) (enc:=encCh) (sz:=5) hB15 (λf=>by have:=HS14.out.env.lt _ f;omega)) (.inr ⟨_,[],rfl,rfl,rfl⟩);rw[pgV5] at HA1;have HA1:=oh HA1;have HS15:=oh hS15;have HW15:=oh hw15;clear m15 hB15 hS15 hw15;go_wp2_with fail;rw[← HW15.out];refine HA1.out.mono ?_;rintro e w16 ⟨f6,rfl,hE6,hm16⟩;have hS16:=HS15.out.ext hm16;have HE6:=oh hE6;have t0:=hS16.c0;have t1:=hS16.c1;have t2:_=some (Value.int .u64 5):=hS16.c2;obtain⟨w17,hw17⟩:∃W,W=w16.alloc (.cells #[.string ⟨#[98]⟩,.bool false,.bool true,.string ⟨#[]⟩,.string ⟨#[]⟩,.string ⟨#[97]⟩,.bool false,.bool true,.string ⟨#[]⟩,.string ⟨#[]⟩] 67):=⟨_,rfl⟩;have m17:Ext w16 w17:=by rw[hw17];exact (Mods.refl _ w16).alloc _
     have hB17:Blk w17 w16.heap.size #[.string ⟨#[98]⟩,.bool false,.bool true,.string ⟨#[]⟩,.string ⟨#[]⟩,.string ⟨#[97]⟩,.bool false,.bool true,.string ⟨#[]⟩,.string ⟨#[]⟩] 67:=by rw[hw17];exact Blk.new w16 _ _
     have hS17:=hS16.ext m17;have HA2:=applyF_any (c:=c) (s:=s) hS17.env 5 0 [⟨⟨#[98]⟩,false,true,⟨#[]⟩,⟨#[]⟩⟩,⟨⟨#[97]⟩,false,true,⟨#[]⟩,⟨#[]⟩⟩] (.slice (some ⟨w16.heap.size,0,none⟩) 2 2) (Sl.duo (F:=F) (x:=(⟨⟨#[98]⟩,false,true,⟨#[]⟩,⟨#[]⟩⟩:ChV)) (y:=(⟨⟨#[97]⟩,false,true,⟨#[]⟩,⟨#[]⟩⟩:ChV)) (enc:=encCh) (sz:=5) hB17 rfl (λf=>by have:=hS16.env.lt _ f;omega)) (.inl (by decide +kernel));rw[pgV5] at HA2;have HA2:=oh HA2;have HS17:=oh hS17;have HE6:=oh (HE6.out.mods m17.ext);have HW17:=oh hw17;clear hE6 hm16 m17 hB17 hS16 hS17 hw17;go_wp2_with fail;rw[← HW17.out];refine HA2.out.mono ?_;rintro e w18 ⟨f7,rfl,hE7,hm18⟩;have HS18:=oh (HS17.out.ext hm18);have HE6:=oh (HE6.out.mods hm18.ext);have HE7:=oh hE7;have HAW:=oh (awake15_any (HL.out.mods HS18.out.ext0.ext));clear hE7 hm18 t0 t1 t2;go_wp2_with fail;refine (tells15_k HS18.out.env HFU.out HE6.out 1 (by omega) rfl).mono ?_;rintro e w19 ⟨rfl,rfl⟩;go_wp2_with fail;refine (tells15_k HS18.out.env HFU.out HE7.out 1 (by omega) rfl).mono ?_;rintro e w19 ⟨rfl,rfl⟩;go_wp2_with fail;refine HAW.out.mono ?_;rintro e w20 ⟨rfl,hm20⟩;have HM20:=oh hm20;clear hm20;go_wp2_with fail;go_ret;exact⟨rfl,(HM0.out.trans HS18.out.ext0).trans HM20.out⟩
    ·rw[hkz,hcd];have t0:=hS9.c0;have t1:=hS9.c1;have t2:_=some (Value.int .u64 5):=hS9.c2;have HLD:=LoadE15_any (c:=c) (s:=s) hS9.env 5 l (.slice ma z mc) hSL9 HFU.out k2 hck;rw[pgV5] at HLD;have HLD:=oh HLD;have HS8:=oh hS9;have hll2:(l.length:Int)=(z:Int):=by omega
     rw[hll2];have hk0:((k2:Int) == 0)=false:=by rw[beq_eq_false_iff_ne];omega
     have hk9:k2<100:=by omega
     clear hXX hSL9 hS9 hck hcd hll2 hk2;go_wp2_with fail;refine HLD.out.mono ?_;rintro e w9 ⟨f0,rfl,hE0,hm9⟩;have hS9:=HS8.out.ext hm9;have HE0:=oh hE0;have HFR:=pgFree hS9.pg;rw[free250] at HFR;have HFR:=oh HFR;have t0:=hS9.c0;have t1:=hS9.c1;have t2:_=some (Value.int .u64 5):=hS9.c2;have HS9:=oh hS9;clear hE0 hm9 hS9;go_wp2_with fail;refine (tells15_k HS9.out.env HFU.out HE0.out k2 hk9 rfl).mono ?_;rintro e w10 ⟨rfl,rfl⟩;go_wp2_with fail;refine HFR.out.mono ?_;rintro e w10 ⟨rfl,rfl⟩;clear t0 t1 t2;have HLN:=LoadN15_any (HS9.out.env) none 0 (.slice ma z mc);change Calls Tryz.prog 11 #[.agg #[.pointer none,.pointer none,.int .u64 0],.slice ma z mc] _ _ at HLN
     have HLN:=oh HLN;go_wp2_with fail;refine HLN.out.mono ?_;rintro e w10 ⟨f1,rfl,hE1,hm10⟩;have HS10:=oh (HS9.out.ext hm10);have HE1:=oh hE1;have HDN:=dumpN_any HS10.out.env none 0 0;change Calls Tryz.prog 18 #[.agg #[.pointer none,.pointer none,.int .u64 0],.int .i64 0] _ _ at HDN
     have HDN:=oh HDN;clear hE1 hm10;go_wp2_with fail;refine HDN.out.mono ?_;rintro e w11 ⟨f2,rfl,hE2,hm11⟩;have HS11:=oh (HS10.out.ext hm11);have HE1:=oh (HE1.out.mods hm11.ext);have HE2:=oh hE2;have HFN:=oh (diffN_any HS11.out.env 0 0 0);clear hE2 hm11;go_wp2_with fail;refine HFN.out.mono ?_;rintro e w12 ⟨f3,rfl,hE3,hm12⟩;have HS12:=oh (HS11.out.ext hm12);have HE1:=oh (HE1.out.mods hm12.ext);have HE2:=oh (HE2.out.mods hm12.ext);have HE3:=oh hE3;have HAN:=applyN_any HS12.out.env none 0 0 (.slice none 0 0);change Calls Tryz.prog 31 #[.agg #[.pointer none,.pointer none,.int .u64 0],.int .i64 0,.slice none 0 0] _ _ at HAN
     have HAN:=oh HAN;clear hE3 hm12;go_wp2_with fail;refine HAN.out.mono ?_;rintro e w13 ⟨f4,rfl,hE4,hm13⟩;have HS13:=oh (HS12.out.ext hm13);have HE1:=oh (HE1.out.mods hm13.ext);have HE2:=oh (HE2.out.mods hm13.ext);have HE3:=oh (HE3.out.mods hm13.ext);have HE4:=oh hE4;have HCN:=compactN_any HS13.out.env 0 0;change Calls Tryz.prog 27 #[.agg #[.pointer none,.pointer none,.int .u64 0],.int .i64 0] _ _ at HCN
     have HCN:=oh HCN;clear hE4 hm13;go_wp2_with fail;refine HCN.out.mono ?_;rintro e w14 ⟨f5,rfl,hE5,hm14⟩;have hS14:=HS13.out.ext hm14;have HS14:=oh hS14;have HE1:=oh (HE1.out.mods hm14.ext);have HE2:=oh (HE2.out.mods hm14.ext);have HE3:=oh (HE3.out.mods hm14.ext);have HE4:=oh (HE4.out.mods hm14.ext);have HE5:=oh hE5;have x0:=(hS14.old HXB.out).cell (o:=0) (v:=.string x.key) rfl;have t0:=hS14.c0;have t1:=hS14.c1;have t2:_=some (Value.int .u64 5):=hS14.c2;clear hE5 hm14 hS14;go_wp2_with fail;refine (tells15_k HS14.out.env HFU.out HE1.out 7 (by omega) rfl).mono ?_;rintro e w15 ⟨rfl,rfl⟩;go_wp2_with fail;refine (tells15_k HS14.out.env HFU.out HE2.out 7 (by omega) rfl).mono ?_;rintro e w15 ⟨rfl,rfl⟩;go_wp2_with fail;refine (tells15_k HS14.out.env HFU.out HE3.out 7 (by omega) rfl).mono ?_;rintro e w15 ⟨rfl,rfl⟩;go_wp2_with fail;refine (tells15_k HS14.out.env HFU.out HE4.out 7 (by omega) rfl).mono ?_;rintro e w15 ⟨rfl,rfl⟩;go_wp2_with fail;refine (tells15_k HS14.out.env HFU.out HE5.out 7 (by omega) rfl).mono ?_;rintro e w15 ⟨rfl,rfl⟩;obtain⟨w15,hw15⟩:∃W,W=w14.alloc (.cells #[.string x.key,.bool false,.bool false,.string ⟨#[]⟩,.string ⟨#[]⟩] 67):=⟨_,rfl⟩;have m15:Ext w14 w15:=by rw[hw15];exact (Mods.refl _ w14).alloc _
     have hB15:Blk w15 w14.heap.size #[.string x.key,.bool false,.bool false,.string ⟨#[]⟩,.string ⟨#[]⟩] 67:=by rw[hw15];exact Blk.new w14 _ _
     have hS15:=HS14.out.ext m15;have HA1:=applyF_any (c:=c) (s:=s) hS15.env 5 0 [⟨x.key,false,false,⟨#[]⟩,⟨#[]⟩⟩] (.slice (some ⟨w14.heap.size,0,none⟩) 1 1) (Sl.one (F:=F) (x:=(⟨x.key,false,false,⟨#[]⟩,⟨#[]⟩⟩:ChV)) (enc:=encCh) (sz:=5) hB15 (λf=>by have:=HS14.out.env.lt _ f;omega)) (.inr ⟨_,[],rfl,rfl,rfl⟩);rw[pgV5] at HA1;have HA1:=oh HA1;have HS15:=oh hS15;have HW15:=oh hw15;clear m15 hB15 hS15 hw15;go_wp2_with fail;rw[← HW15.out];refine HA1.out.mono ?_;rintro e w16 ⟨f6,rfl,hE6,hm16⟩;have hS16:=HS15.out.ext hm16;have HE6:=oh hE6;have t0:=hS16.c0;have t1:=hS16.c1;have t2:_=some (Value.int .u64 5):=hS16.c2;obtain⟨w17,hw17⟩:∃W,W=w16.alloc (.cells #[.string ⟨#[98]⟩,.bool false,.bool true,.string ⟨#[]⟩,.string ⟨#[]⟩,.string ⟨#[97]⟩,.bool false,.bool true,.string ⟨#[]⟩,.string ⟨#[]⟩] 67):=⟨_,rfl⟩;have m17:Ext w16 w17:=by rw[hw17];exact (Mods.refl _ w16).alloc _
     have hB17:Blk w17 w16.heap.size #[.string ⟨#[98]⟩,.bool false,.bool true,.string ⟨#[]⟩,.string ⟨#[]⟩,.string ⟨#[97]⟩,.bool false,.bool true,.string ⟨#[]⟩,.string ⟨#[]⟩] 67:=by rw[hw17];exact Blk.new w16 _ _
     have hS17:=hS16.ext m17;have HA2:=applyF_any (c:=c) (s:=s) hS17.env 5 0 [⟨⟨#[98]⟩,false,true,⟨#[]⟩,⟨#[]⟩⟩,⟨⟨#[97]⟩,false,true,⟨#[]⟩,⟨#[]⟩⟩] (.slice (some ⟨w16.heap.size,0,none⟩) 2 2) (Sl.duo (F:=F) (x:=(⟨⟨#[98]⟩,false,true,⟨#[]⟩,⟨#[]⟩⟩:ChV)) (y:=(⟨⟨#[97]⟩,false,true,⟨#[]⟩,⟨#[]⟩⟩:ChV)) (enc:=encCh) (sz:=5) hB17 rfl (λf=>by have:=hS16.env.lt _ f;omega)) (.inl (by decide +kernel));rw[pgV5] at HA2;have HA2:=oh HA2;have HS17:=oh hS17;have HE6:=oh (HE6.out.mods m17.ext);have HW17:=oh hw17;clear hE6 hm16 m17 hB17 hS16 hS17 hw17;go_wp2_with fail;rw[← HW17.out];refine HA2.out.mono ?_;rintro e w18 ⟨f7,rfl,hE7,hm18⟩;have HS18:=oh (HS17.out.ext hm18);have HE6:=oh (HE6.out.mods hm18.ext);have HE7:=oh hE7;have HAW:=oh (awake15_any (HL.out.mods HS18.out.ext0.ext));clear hE7 hm18 t0 t1 t2;go_wp2_with fail;refine (tells15_k HS18.out.env HFU.out HE6.out 1 (by omega) rfl).mono ?_;rintro e w19 ⟨rfl,rfl⟩;go_wp2_with fail;refine (tells15_k HS18.out.env HFU.out HE7.out 1 (by omega) rfl).mono ?_;rintro e w19 ⟨rfl,rfl⟩;go_wp2_with fail;refine HAW.out.mono ?_;rintro e w20 ⟨rfl,hm20⟩;have HM20:=oh hm20;clear hm20;go_wp2_with fail;go_ret;exact⟨rfl,(HM0.out.trans HS18.out.ext0).trans HM20.out⟩
end Go.Proofs.YtchklfmggpconaaGreatDoor
