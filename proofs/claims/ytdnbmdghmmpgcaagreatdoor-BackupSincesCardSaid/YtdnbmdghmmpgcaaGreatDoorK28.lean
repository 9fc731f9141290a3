import Derived.Test.YtdnbmdghmmpgcaaGreatDoorK26
import Derived.Test.YtdnbmdghmmpgcaaGreatDoorK23
import Derived.BigQuiet
import Derived.Deep.RegionWith
import Derived.Deep.QuietTactic
namespace Go.Proofs.YtdnbmdghmmpgcaaGreatDoor
open Lib renaming hid→oh
set_option maxHeartbeats 8000000
set_option maxRecDepth 100000
section
open Go.RowKit
theorem key07_t(s:ByteArray)(w:World)(b:Bool)(h:keyB s=b) : Calls Tryz.prog 56 #[.string s] w λe w'=>e=.returned (.bool b)∧w=w':=by
 have:=key07_any s w;rw[h] at this;exact this
end
section
open Go.RowKit
attribute [local go_sem ↓] Go.wp_at_zero Go.wp_at_succ
section
variable {F:Nat→Prop}{ad:Nat→Addr}{w w':World}{B:Nat}{v:Value}{l:List UInt8}{p:Nat}{ok:Bool}
theorem natB(a b:Nat):((a:Int) == (b:Int))=decide (a=b):=by
 by_cases h:a=b
 ·subst h;simp
 ·have h2:¬ (a:Int)=(b:Int):=by omega
  rw[decide_eq_false h];exact beq_false_of_ne h2
theorem bkForm(hL:Env F ad w)(op:ByteArray) : Calls Tryz.prog 68 #[.string op] w λe w'=>∃f,e=.returned (faultV f)∧ErrC F ad w' (faultV f) [-1] 1∧Ext w w':=by
 have g1:=hL.c1;have HL:=oh hL;clear hL
 go_enter Tryz.func68, Tryz.ntmps68
 go_wp2_with fail;refine (new_any HL.out _ _ [] 1 (.sent 1 (by decide) (by decide))).mono ?_;rintro e w1 ⟨f,rfl,hE,hm⟩;have HE:=oh hE;have HM:=oh hm;clear hE hm;go_wp2_with fail;go_ret;exact⟨f,rfl,HE.out,HM.out⟩
theorem brDone(h:BrR F w B v l p ok) : Calls Tryz.prog 71 #[.pointer (some ⟨B,0,none⟩)] w λe w'=>e=.returned (.bool (ok && decide (p=l.length)))∧Ext w w':=by
 obtain⟨ev,hB,hS,hO⟩:=h;obtain⟨a,c,rfl, -⟩:=hS;have b0:=hB.cell (o:=0) (v:=.slice a l.length c) rfl;have b1:=hB.cell (o:=1) (v:=.int .i64 (p:Int)) rfl;have b2:=hB.cell (o:=2) (v:=ev) rfl;have HD:=oh (natB p l.length);have HM:Hid (∀q,Ext w (w.drewN q)):=oh λq=>(Mods.refl (λ_=>False) w).drewN q
 have hbl:=hB.lt;clear hB;cases ok with
 | true =>
  have h0:ev=.nilIface:=hO;subst h0
  go_enter Tryz.func71, Tryz.ntmps71
  go_wp2_with fail;go_quiet (fail)
  go_wp2_with fail;go_ret;exact⟨by simp[HD.out],HM.out _⟩
 | false =>
  obtain⟨f,rfl⟩:=hO;unfold faultV at b2
  go_enter Tryz.func71, Tryz.ntmps71
  go_wp2_with fail;go_quiet (fail)
  go_wp2_with fail;go_ret;exact⟨rfl,HM.out _⟩
theorem Holds_any(bv:Value)(l:List UInt8)(hb:Sl F w 1 encB bv l)(n:Nat) : Calls Tryz.prog 119 #[bv,.int .u32 (n:Int)] w λe w'=>e=.returned (.bool (decide (crcSum l=n)))∧w=w':=by
 have HC:=oh (Sum_any bv l w hb);obtain⟨cs,hcs⟩:∃cs,cs=crcSum l:=⟨_,rfl⟩;rw[← hcs] at HC ⊢;obtain⟨a,c,rfl, -⟩:=hb;clear hcs;have HD:=oh (natB cs n)
 go_enter Tryz.func119, Tryz.ntmps119
 go_wp2_with fail;refine HC.out.mono ?_;rintro e w1 ⟨rfl,rfl⟩;go_wp2_with fail;go_ret;exact⟨by rw[HD.out];rfl,rfl⟩
theorem bkRecords(bv:Value)(l:List UInt8)(hb:Sl F w 1 encB bv l)(h4:4≤l.length)(hlen:l.length≤2000000000) :
  Calls Tryz.prog 69 #[bv] w λe w'=>∃B v,e=.returned (.pointer (some ⟨B,0,none⟩))∧BrR (plusR F B) w' B v (l.take (l.length-4)) 25 true∧Ext w w'∧w.heap.size≤B∧B<w'.heap.size:=by
 obtain⟨a,c,rfl,hz1,hz2,hz3,hz4⟩:=id hb;unfold maxLen at hz2;have hsl:=Sl.pre hb (l.length-4) (by omega);have m0:Ext w (w.alloc (.cells #[.slice a (l.length-4) c,.int .i64 25,.nilIface] 128)):=(Mods.refl _ w).alloc _;have HF:Hid (∃v,BrR (plusR F w.heap.size) (w.alloc (.cells #[.slice a (l.length-4) c,.int .i64 25,.nilIface] 128)) w.heap.size v (l.take (l.length-4)) 25 true):=oh ⟨_,_,Blk.new w _ _,hsl.withR m0,rfl⟩;have HM:=oh m0;have i1:((l.length:Int)-4).toNat=l.length-4:=by omega
 have i2:(4:Int)≤(l.length:Int):=by omega
 have i3:(l.length:Int)≤(c:Int):=by omega
 clear hb hz4 hsl m0
 go_enter Tryz.func69, Tryz.ntmps69
 go_wp2_with fail;go_ret;obtain⟨v,hv⟩:=HF.out;exact⟨w.heap.size,v,rfl,hv,HM.out,Nat.le_refl _,by simp⟩
end
section
variable {F:Nat→Prop}{w w':World}
def Byt(w:World)(l:List UInt8)(e:Ending)(w':World):Prop:=∃v,e=.returned v∧Own (λ_=>False) w' w.heap.size 5 1 encB v l∧Ext w w'
theorem num20_any(bv:Value)(l:List UInt8)(hb:Sl F w 1 encB bv l)(n W:Nat)(hw:W=1∨W=2∨W=4∨W=8)(hn:n<256 ^ W)(h64:n<18446744073709551616)(hlen:l.length≤1000000000) :
  Calls Tryz.prog 61 #[bv,.int .u64 (n:Int),.int .i64 (W:Int)] w (Byt w (l++leB W n)):=by
 have HP:=oh (Put03_any bv l hb n W hw hn h64 hlen);obtain⟨a,c,rfl, -⟩:=hb
 go_enter Tryz.func61, Tryz.ntmps61
 go_wp2_with fail;refine HP.out.mono ?_;rintro e w1 ⟨a1,c1,rfl,hO,hm⟩;have HF:Hid (Own (λ_=>False) w1 w.heap.size 5 1 encB (.slice a1 (l.length+W) c1) (l++leB W n)∧Ext w w1):=oh ⟨hO,hm⟩;clear hO hm;go_wp2_with fail;go_ret;exact⟨_,rfl,HF.out.1,HF.out.2⟩
theorem text20_any(bv:Value)(l:List UInt8)(hb:Sl F w 1 encB bv l)(s:ByteArray)(hs:s.size≤65535)(hlen:l.length≤1000000000) :
  Calls Tryz.prog 60 #[bv,.string s] w (Byt w (l++txtB s)):=by
 have HP:=oh (PutText03_any bv l hb s hs hlen);obtain⟨a,c,rfl, -⟩:=hb
 go_enter Tryz.func60, Tryz.ntmps60
 go_wp2_with fail;refine HP.out.mono ?_;rintro e w1 ⟨a1,c1,rfl,hO,hm⟩;have HF:Hid (Own (λ_=>False) w1 w.heap.size 5 1 encB (.slice a1 (l.length+2+s.size) c1) (l++txtB s)∧Ext w w1):=oh ⟨hO,hm⟩;clear hO hm;go_wp2_with fail;go_ret;exact⟨_,rfl,HF.out.1,HF.out.2⟩
theorem Byt.sl{v:Value}{l:List UInt8}{b:Nat}(h:Own (λ_=>False) w b 5 1 encB v l)(hl:l.length≤1000000000):Sl (λ_=>False) w 1 encB v l:=h.sl encB_ok.len (by omega)
theorem end20_any(bv:Value)(l:List UInt8)(hb:Sl F w 1 encB bv l)(hlen:l.length≤1000000000) :
  Calls Tryz.prog 62 #[bv] w (Byt w (endB l)):=by
 have HS:=oh (Sum02_any bv l w hb);have HP:=oh (λW (m:Ext w W)=>num20_any bv l (hb.ext m) (crcSum l) 4 (by decide) (crcSum_lt l) (by have:=crcSum_lt l;omega) hlen);have HE:=oh (show endB l=l++leB 4 (crcSum l) from rfl);have hcl:=crcSum_lt l;obtain⟨cs,hcs⟩:∃cs,cs=crcSum l:=⟨_,rfl⟩;rw[← hcs] at HS HP HE hcl;have ec:IntKind.u64.wrap (cs:Int)=(cs:Int):=IntWalk.u64_in _ (by omega);obtain⟨a,c,rfl, -⟩:=hb;clear hcs
 go_enter Tryz.func62, Tryz.ntmps62
 go_wp2_with fail;refine HS.out.mono ?_;rintro e w1 ⟨rfl,hm⟩;have HM:=oh hm;clear hm;go_wp2_with fail;refine (HP.out _ HM.out).mono ?_;rintro e w2 ⟨v2,rfl,hO,hm2⟩;have HF:Hid (Own (λ_=>False) w2 w.heap.size 5 1 encB v2 (l++leB 4 cs)∧Ext w w2):=oh ⟨hO.rebase HM.out.size,HM.out.trans hm2⟩;clear hO hm2;go_wp2_with fail;go_ret;rw[HE.out];exact⟨v2,rfl,HF.out.1,HF.out.2⟩
theorem sign_row{W:World}{G:Nat→Prop}{b:Nat}{fz:Nat × Nat}(h:W.heap[b]? = some (.cells #[.int .u8 83,.int .u8 67,.int .u8 82,.int .u8 49] 5 fz))(hF:¬ G b):Sl G W 1 encB (.slice (some ⟨b,0,none⟩) 4 4) signB:=by
 refine⟨_,4,rfl,by decide,by simp[maxLen],by decide,.inr ⟨b,0,rfl,(Array.getElem?_eq_some_iff.1 h).1,hF,λi z hi j u hu=>?_⟩⟩;have hj:j=0:=by
  have:=(List.getElem?_eq_some_iff.1 hu).1;simp[encB] at this;omega
 subst hj;rw[cells_of_block h];have hi4:i<4:=(List.getElem?_eq_some_iff.1 hi).1;match i,hi4 with
 | 0,_=>simp[signB] at hi;subst hi;simpa[encB] using hu
 | 1,_=>simp[signB] at hi;subst hi;simpa[encB] using hu
 | 2,_=>simp[signB] at hi;subst hi;simpa[encB] using hu
 | 3,_=>simp[signB] at hi;subst hi;simpa[encB] using hu
theorem num20_1(bv:Value)(l:List UInt8)(hb:Sl F w 1 encB bv l)(n:Nat)(hn:n<256)(hlen:l.length≤1000000000) : Calls Tryz.prog 61 #[bv,.int .u64 (n:Int),.int .i64 1] w (Byt w (l++leB 1 n)):=num20_any bv l hb n 1 (by decide) hn (by omega) hlen
theorem num20_4(bv:Value)(l:List UInt8)(hb:Sl F w 1 encB bv l)(n:Nat)(hn:n<4294967296)(hlen:l.length≤1000000000) : Calls Tryz.prog 61 #[bv,.int .u64 (n:Int),.int .i64 4] w (Byt w (l++leB 4 n)):=num20_any bv l hb n 4 (by decide) hn (by omega) hlen
theorem num20_8(bv:Value)(l:List UInt8)(hb:Sl F w 1 encB bv l)(n:Nat)(hn:n<18446744073709551616)(hlen:l.length≤1000000000) : Calls Tryz.prog 61 #[bv,.int .u64 (n:Int),.int .i64 8] w (Byt w (l++leB 8 n)):=num20_any bv l hb n 8 (by decide) hn (by omega) hlen
theorem begin20_any(h:HeadA)(h1:h.kind<256)(h2:h.gen<18446744073709551616)(h3:h.base<18446744073709551616)(h4:h.records<4294967296) :
  Calls Tryz.prog 58 #[.agg #[.int .i64 (h.kind:Int),.int .u64 (h.gen:Int),.int .u64 (h.base:Int),.int .i64 (h.records:Int)]] w (Byt w (headB h)):=by
 obtain⟨k,g,b,r⟩:=h;simp only at *;obtain⟨w1,hw1⟩:∃w1,w1=w.alloc (.cells #[.int .i64 (k:Int),.int .u64 (g:Int),.int .u64 (b:Int),.int .i64 (r:Int)] 73):=⟨_,rfl⟩;have hB:=Blk.new w #[.int .i64 (k:Int),.int .u64 (g:Int),.int .u64 (b:Int),.int .i64 (r:Int)] 73;rw[← hw1] at hB;have HX0:Hid (Ext w w1):=oh (by rw[hw1];exact (Mods.refl _ w).alloc _);have ek:IntKind.u64.wrap (k:Int)=(k:Int):=IntWalk.u64_in _ (by omega);have er:IntKind.u64.wrap (r:Int)=(r:Int):=IntWalk.u64_in _ (by omega);have xz:=((Mods.refl (λ_=>False) w1).alloc (.cells #[.int .u8 83,.int .u8 67,.int .u8 82,.int .u8 49] 5)).drew;have HC:Hid (∀W,Ext w1 W→W.cell? ⟨w.heap.size,0,none⟩=some (.int .i64 (k:Int))∧W.cell? ⟨w.heap.size,1,none⟩=some (.int .u64 (g:Int))∧W.cell? ⟨w.heap.size,2,none⟩=some (.int .u64 (b:Int))∧W.cell? ⟨w.heap.size,3,none⟩=some (.int .i64 (r:Int))):=oh λW m=>⟨(hB.ext m).cell rfl,(hB.ext m).cell rfl,(hB.ext m).cell rfl,(hB.ext m).cell rfl⟩
 have HN1:=oh (num20_1 (w:=(w1.alloc (.cells #[.int .u8 83,.int .u8 67,.int .u8 82,.int .u8 49] 5)).drew) (F:=λ_=>False) (.slice (some ⟨w1.heap.size,0,none⟩) 4 4) signB (sign_row (heap_at (by simp)) (λf=>f)) k (by omega) (by decide));obtain⟨f0,f1,f2,f3⟩:=HC.out _ (Mods.refl _ w1).drew;obtain⟨g0,g1,g2,g3⟩:=HC.out _ xz;have HW:=oh hw1;have H234:=oh (And.intro h2 (And.intro h3 h4));clear hw1 hB h1 h2 h3 h4
 go_enter Tryz.func58, Tryz.ntmps58
 go_wp2_with fail;rw[← HW.out];go_region_held3 (λw'=>w'.cell? ⟨w.heap.size,0,none⟩=some (.int .i64 (k:Int))∧w'.cell? ⟨w.heap.size,1,none⟩=some (.int .u64 (g:Int))∧w'.cell? ⟨w.heap.size,2,none⟩=some (.int .u64 (b:Int))∧w'.cell? ⟨w.heap.size,3,none⟩=some (.int .i64 (r:Int)))
  (first|(with_reducible exact⟨f0,f1,f2,f3⟩)|(with_reducible exact⟨g0,g1,g2,g3⟩)|(with_reducible exact zz)|fail)
  (first
   | (go_at_call 61;(with_reducible refine HN1.out.mono ?_);rintro e y1 ⟨v1,rfl,o1,m1⟩;have x1:=xz.trans m1;have zz:=HC.out _ x1)
   | (go_at_call 61;(with_reducible refine (num20_8 _ _ (Byt.sl o1 (by simp[leB_length,signB])) g H234.out.1 (by simp[leB_length,signB])).mono ?_);rintro e y2 ⟨v2,rfl,o2,m2⟩;have x2:=x1.trans m2;have zz:=HC.out _ x2)
   | (go_at_call 61;(with_reducible refine (num20_8 _ _ (Byt.sl o2 (by simp[leB_length,signB])) b H234.out.2.1 (by simp[leB_length,signB])).mono ?_);rintro e y3 ⟨v3,rfl,o3,m3⟩;have x3:=x2.trans m3;have zz:=HC.out _ x3)
   | (go_at_call 61;(with_reducible refine (num20_4 _ _ (Byt.sl o3 (by simp[leB_length,signB])) r H234.out.2.2 (by simp[leB_length,signB])).mono ?_);rintro e y4 ⟨v4,rfl,o4,m4⟩;have x4:=x3.trans m4;have zz:=HC.out _ x4)
   | fail)
 have HF:Hid (Own (λ_=>False) y4 w.heap.size 5 1 encB v4 (signB++leB 1 k++leB 8 g++leB 8 b++leB 4 r)∧Ext w y4):=oh ⟨o4.rebase (Nat.le_trans HX0.out.size x3.size),HX0.out.trans x4⟩;clear o1 o2 o3 o4 m1 m2 m3 m4 x1 x2 x3 x4 zz;go_wp2_with fail;go_ret;exact⟨v4,rfl,HF.out.1,HF.out.2⟩
end
end
section
open Go.RowKit
theorem encCh_ok:EncOk encCh 5:=⟨λ_=>rfl,by intro x u hu;simp[encCh] at hu;rcases hu with rfl|rfl|rfl|rfl|rfl <;> rfl⟩
theorem Tryz.mkCh:(Tryz.prog.info? 106).map (λi=>(i.zero,i.size,i.bytes))=some (some (.agg #[.string ⟨#[]⟩,.bool false,.bool false,.string ⟨#[]⟩,.string ⟨#[]⟩]),5,56):=by kernel_rfl
theorem Tryz.elCh:ElT Tryz.prog 102 106 (.agg #[.string ⟨#[]⟩,.bool false,.bool false,.string ⟨#[]⟩,.string ⟨#[]⟩]) 5 56:=⟨Tryz.underlying102,Tryz.mkCh,rfl,by decide,by decide⟩
theorem Tryz.mkDh:(Tryz.prog.info? 72).map (λi=>(i.zero,i.size,i.bytes))=some (some (.agg #[.string ⟨#[]⟩,.bool false,.bool false,.string ⟨#[]⟩,.string ⟨#[]⟩]),5,56):=by kernel_rfl
theorem Tryz.elDh:ElT Tryz.prog 69 72 (.agg #[.string ⟨#[]⟩,.bool false,.bool false,.string ⟨#[]⟩,.string ⟨#[]⟩]) 5 56:=⟨Tryz.underlying69,Tryz.mkDh,rfl,by decide,by decide⟩
end
section
open Go.RowKit
attribute [local go_sem ↓] Go.wp_at_zero Go.wp_at_succ
section
variable {F:Nat→Prop}{ad:Nat→Addr}{w w':World}
theorem Sl.tl{α:Type}{sz:Nat}{enc:α→List Value}{b off n c:Nat}{x:α}{l:List α}(h:Sl F w sz enc (.slice (some ⟨b,off,none⟩) n c) (x :: l)) :
  (c=1→Sl F w sz enc (.slice (some ⟨b,off,none⟩) (n-1) (c-1)) l)∧(¬ c=1→Sl F w sz enc (.slice (some ⟨b,off+sz,none⟩) (n-1) (c-1)) l):=by
 obtain⟨a,cap,he,h1,h2,h3,h4⟩:=id h;simp only[Value.slice.injEq] at he;obtain⟨rfl,rfl,rfl⟩:=he;rw[List.length_cons] at h1 h3;refine⟨λhc=>?_,λhc=>?_⟩
 ·have hl:l=[]:=List.length_eq_zero_iff.1 (by omega);subst hl;exact⟨some ⟨b,off,none⟩,c-1,by simp,by simp,by unfold maxLen at *;omega,by simp,.inl rfl⟩
 ·have:=Sl.sub h 1 (l.length+1) (by omega) (by simp);simpa using this
theorem bkDiff(a b:List PairS)(av bv:Value)(ha:Sl F w 2 encP av a)(hb:Sl F w 2 encP bv b)(hla:a.length≤100000)(hlb:b.length≤100000) :
  Calls Tryz.prog 52 #[av,bv] w λe w'=>∃kv,e=.returned kv∧Own (λ_=>False) w' w.heap.size 106 5 encCh kv (diffP a b)∧Ext w w':=by
 have HA:=oh ha;have HB:=oh hb;obtain⟨aa,ac,rfl,a1,a2,a3, -⟩:=ha;obtain⟨ba,bc,rfl,b1,b2,b3, -⟩:=hb;unfold maxLen at a2 b2
 go_enter Tryz.func52, Tryz.ntmps52
 go_wp2_with fail;go_loopg [0,1,5] (a.length+b.length) (λm v0 v1 v5 wr=>∃(xs ys:List PairS) (o:List ChV),xs.length+ys.length=m∧Hid (diffP a b=o++diffP xs ys∧o.length+xs.length+ys.length≤200000)∧Hid (Sl F w 2 encP v0 xs∧Sl F w 2 encP v1 ys∧Own (λ_=>False) wr w.heap.size 106 5 encCh v5 o∧Ext w wr))
 case atStart=>exact⟨a,b,[],rfl,oh ⟨by simp,by simp;omega⟩,oh ⟨HA.out,HB.out,Own.nil _ _ _ _ _ _,Mods.refl _ _⟩⟩
 case round =>
  obtain⟨xs,ys,o,hm,HQ,HS⟩:=hrel;obtain⟨xa,xc,rfl,x1,x2,x3,x4⟩:=id HS.out.1;obtain⟨ya,yc,rfl,y1,y2,y3,y4⟩:=id HS.out.2.1;obtain⟨oa,oc,rfl, -, -⟩:=HS.out.2.2.1.form;unfold maxLen at x2 y2;clear HA HB a1 a2 a3 b1 b2 b3 x4 y4;cases xs with
  | nil =>
   cases ys with
   | nil =>
    go_wp2_with fail;go_ret;have h:=HQ.out.1;rw[diffP,List.map_nil,List.append_nil] at h;exact⟨_,rfl,by rw[h];exact HS.out.2.2.1,HS.out.2.2.2⟩
   | cons y ys =>
    obtain⟨yb,yo,hya,hcy⟩:=HS.out.2.1.elem (k:=0) (by simp) (Mods.refl _ w);have yg0:=hcy 0 (.string y.1) rfl;have yg1:=hcy 1 (.string y.2) rfl;simp only[Nat.zero_mul,Nat.add_zero] at yg0 yg1;subst hya;obtain⟨yk,yv⟩:=y;simp only at yg0 yg1;rw[List.length_cons] at y1 y3;have HTy:=oh (Sl.tl HS.out.2.1);rw[List.length_cons,List.length_nil];obtain⟨k,hk⟩:∃k,k=ys.length+1:=⟨_,rfl⟩;rw[← hk] at y1 y3 ⊢;have Hk:=oh hk;rw[List.length_cons,← hk] at HTy;have k1:(0:Int)<(k:Int):=by omega
    have k2:(1:Int)≤(k:Int):=by omega
    have k3:((k:Int) == 0)=false:=beq_false_of_ne (by omega);have k4:0<k:=by omega
    have k5:¬ k=0:=by omega
    clear hk hcy;go_wp2_with fail;go_quiet (fail)
    go_wp2_with fail;go_quiet (fail)
    go_wp2_with fail;generalize hw2:World.drewN (World.drewN wr _) _=w2
    have HM2:Hid (Ext w w2):=oh (by rw[← hw2];exact HS.out.2.2.2.trans (((Mods.refl _ wr).drewN _).drewN _));have HOW:Hid (Own (λ_=>False) w2 w.heap.size 106 5 encCh (.slice oa o.length oc) o):=oh (by rw[← hw2];exact HS.out.2.2.1.ext (((Mods.refl _ wr).drewN _).drewN _));clear hw2;have f0:=cellE (HM2.out.trans (Mods.refl _ w2).drew) yg0;have y0_:=cellE (HM2.out.trans ((Mods.refl _ w2).alloc (.cells #[.string yk,.bool false,.bool true,.string ⟨#[]⟩,.string yv] 106)).drew) yg0;have f1:=cellE (HM2.out.trans (Mods.refl _ w2).drew) yg1;have y1_:=cellE (HM2.out.trans ((Mods.refl _ w2).alloc (.cells #[.string yk,.bool false,.bool true,.string ⟨#[]⟩,.string yv] 106)).drew) yg1;go_region_held3 (λw'=>w'.cell? ⟨yb,yo,none⟩=some (.string yk)∧w'.cell? ⟨yb,yo+1,none⟩=some (.string yv))
     (first|(with_reducible exact⟨f0,f1⟩)|(with_reducible exact⟨y0_,y1_⟩)|(with_reducible exact⟨z0,z1⟩)|go_keep)
     (first
      | (refine step_app2 Tryz.elCh encCh_ok (by rfl) _ _ (by rfl) w.heap.size _ _ o [(⟨yk,false,true,emS,yv⟩:ChV)] (by rfl) (by rfl) (HOW.out.ext (by first|exact ((Mods.refl _ w2).alloc _).drew|exact ((Mods.refl _ w2).drew).alloc _)) (Sl.one (F:=λ_=>False) (heap_at (by simp)) (λf=>f)) (by have:=HQ.out.2;simp only[List.length_cons,List.length_nil];omega) (by have:=HM2.out.size;simp;omega) (λf=>f) ?_;simp only[List.length_cons,List.length_nil,Nat.zero_add];intro a6 c6 w6 hO6 hm6 hat6;have m6:Ext w w6:=(HM2.out.trans (((Mods.refl _ w2).alloc (.cells #[.string yk,.bool false,.bool true,.string ⟨#[]⟩,.string yv] 106)).drew)).trans' hm6 (λj hj h=>absurd (HOW.out.lt j h).1 (by omega));have z0:=cellE m6 yg0;have z1:=cellE m6 yg1)
      | fail)
    all_goals
     have HO6:=oh hO6;have HM6:=oh m6;clear hO6 hm6 hat6 m6 z0 f0 y0_ z1 f1 y1_;go_wp2_with fail
    all_goals
     go_roundg (([]:List PairS).length+ys.length)
     case measure=>simp only[List.length_cons,List.length_nil] at hm ⊢;omega
     case rel=>exact⟨([]:List PairS),ys,o++[⟨yk,false,true,emS,yv⟩],rfl,oh ⟨by rw[HQ.out.1];simp[diffP,insC],by have:=HQ.out.2;simp only[List.length_cons,List.length_nil,List.length_append] at this ⊢;omega⟩,oh ⟨HS.out.1,(by first|exact HTy.out.2 (by assumption)|(have e:yc=1:=(by assumption);have q:=HTy.out.1 e;rw[e] at q;exact q)),HO6.out,HM6.out⟩⟩
  | cons x xs =>
   obtain⟨xb,xo,hxa,hcx⟩:=HS.out.1.elem (k:=0) (by simp) (Mods.refl _ w);have xg0:=hcx 0 (.string x.1) rfl;have xg1:=hcx 1 (.string x.2) rfl;simp only[Nat.zero_mul,Nat.add_zero] at xg0 xg1;subst hxa;obtain⟨xk,xv⟩:=x;simp only at xg0 xg1;rw[List.length_cons] at x1 x3;have HTx:=oh (Sl.tl HS.out.1);cases ys with
   | nil =>
    rw[List.length_cons,List.length_nil];obtain⟨n,hn⟩:∃n,n=xs.length+1:=⟨_,rfl⟩;rw[← hn] at x1 x3 ⊢;have Hn:=oh hn;rw[List.length_cons,← hn] at HTx;have n1:(0:Int)<(n:Int):=by omega
    have n2:(1:Int)≤(n:Int):=by omega
    have n3:((n:Int) == 0)=false:=beq_false_of_ne (by omega);have n4:0<n:=by omega
    have n5:¬ n=0:=by omega
    clear hn hcx;go_wp2_with fail;go_quiet (fail)
    go_wp2_with fail;generalize hw2:World.drewN wr _=w2
    have HM2:Hid (Ext w w2):=oh (by rw[← hw2];exact HS.out.2.2.2.trans ((Mods.refl _ wr).drewN _));have HOW:Hid (Own (λ_=>False) w2 w.heap.size 106 5 encCh (.slice oa o.length oc) o):=oh (by rw[← hw2];exact HS.out.2.2.1.ext ((Mods.refl _ wr).drewN _));clear hw2;have f0:=cellE (HM2.out.trans (Mods.refl _ w2).drew) xg0;have y0_:=cellE (HM2.out.trans ((Mods.refl _ w2).alloc (.cells #[.string xk,.bool true,.bool false,.string xv,.string ⟨#[]⟩] 106)).drew) xg0;have f1:=cellE (HM2.out.trans (Mods.refl _ w2).drew) xg1;have y1_:=cellE (HM2.out.trans ((Mods.refl _ w2).alloc (.cells #[.string xk,.bool true,.bool false,.string xv,.string ⟨#[]⟩] 106)).drew) xg1;go_region_held3 (λw'=>w'.cell? ⟨xb,xo,none⟩=some (.string xk)∧w'.cell? ⟨xb,xo+1,none⟩=some (.string xv))
     (first|(with_reducible exact⟨f0,f1⟩)|(with_reducible exact⟨y0_,y1_⟩)|(with_reducible exact⟨z0,z1⟩)|go_keep)
     (first
      | (refine step_app2 Tryz.elCh encCh_ok (by rfl) _ _ (by rfl) w.heap.size _ _ o [(⟨xk,true,false,xv,emS⟩:ChV)] (by rfl) (by rfl) (HOW.out.ext (by first|exact ((Mods.refl _ w2).alloc _).drew|exact ((Mods.refl _ w2).drew).alloc _)) (Sl.one (F:=λ_=>False) (heap_at (by simp)) (λf=>f)) (by have:=HQ.out.2;simp only[List.length_cons,List.length_nil];omega) (by have:=HM2.out.size;simp;omega) (λf=>f) ?_;simp only[List.length_cons,List.length_nil,Nat.zero_add];intro a6 c6 w6 hO6 hm6 hat6;have m6:Ext w w6:=(HM2.out.trans (((Mods.refl _ w2).alloc (.cells #[.string xk,.bool true,.bool false,.string xv,.string ⟨#[]⟩] 106)).drew)).trans' hm6 (λj hj h=>absurd (HOW.out.lt j h).1 (by omega));have z0:=cellE m6 xg0;have z1:=cellE m6 xg1)
      | fail)
    all_goals
     have HO6:=oh hO6;have HM6:=oh m6;clear hO6 hm6 hat6 m6 z0 f0 y0_ z1 f1 y1_;go_wp2_with fail
    all_goals
     go_roundg (xs.length+([]:List PairS).length)
     case measure=>simp only[List.length_cons,List.length_nil] at hm ⊢;omega
     case rel=>exact⟨xs,([]:List PairS),o++[⟨xk,true,false,xv,emS⟩],rfl,oh ⟨by rw[HQ.out.1];simp[diffP,delC],by have:=HQ.out.2;simp only[List.length_cons,List.length_nil,List.length_append] at this ⊢;omega⟩,oh ⟨(by first|exact HTx.out.2 (by assumption)|(have e:xc=1:=(by assumption);have q:=HTx.out.1 e;rw[e] at q;exact q)),HS.out.2.1,HO6.out,HM6.out⟩⟩
   | cons y ys =>
    obtain⟨yb,yo,hya,hcy⟩:=HS.out.2.1.elem (k:=0) (by simp) (Mods.refl _ w);have yg0:=hcy 0 (.string y.1) rfl;have yg1:=hcy 1 (.string y.2) rfl;simp only[Nat.zero_mul,Nat.add_zero] at yg0 yg1;subst hya;obtain⟨yk,yv⟩:=y;simp only at yg0 yg1;rw[List.length_cons] at y1 y3;have HTy:=oh (Sl.tl HS.out.2.1);rw[List.length_cons,List.length_cons];obtain⟨n,hn⟩:∃n,n=xs.length+1:=⟨_,rfl⟩;rw[← hn] at x1 x3 ⊢;have Hn:=oh hn;rw[List.length_cons,← hn] at HTx;have n1:(0:Int)<(n:Int):=by omega
    have n2:(1:Int)≤(n:Int):=by omega
    have n3:((n:Int) == 0)=false:=beq_false_of_ne (by omega);have n4:0<n:=by omega
    have n5:¬ n=0:=by omega
    clear hn hcx;obtain⟨k,hk⟩:∃k,k=ys.length+1:=⟨_,rfl⟩;rw[← hk] at y1 y3 ⊢;have Hk:=oh hk;rw[List.length_cons,← hk] at HTy;have k1:(0:Int)<(k:Int):=by omega
    have k2:(1:Int)≤(k:Int):=by omega
    have k3:((k:Int) == 0)=false:=beq_false_of_ne (by omega);have k4:0<k:=by omega
    have k5:¬ k=0:=by omega
    clear hk hcy;have x0:=cellE HS.out.2.2.2 xg0;have y0:=cellE HS.out.2.2.2 yg0;cases h1:ltS xk yk with
    | true =>
     have HD:Hid (diffP ((xk,xv) :: xs) ((yk,yv) :: ys)=⟨xk,true,false,xv,emS⟩ :: diffP xs ((yk,yv) :: ys)):=oh (by rw[diffP,if_pos h1];rfl);have h2:Op.bytesLess xk.toList yk.toList=true:=h1;clear h1;go_wp2_with fail;go_quiet (fail)
     go_wp2_with fail;clear h2 x0 y0;generalize hw2:World.drewN wr _=w2
     have HM2:Hid (Ext w w2):=oh (by rw[← hw2];exact HS.out.2.2.2.trans ((Mods.refl _ wr).drewN _));have HOW:Hid (Own (λ_=>False) w2 w.heap.size 106 5 encCh (.slice oa o.length oc) o):=oh (by rw[← hw2];exact HS.out.2.2.1.ext ((Mods.refl _ wr).drewN _));clear hw2;have f0:=cellE (HM2.out.trans (Mods.refl _ w2).drew) xg0;have y0_:=cellE (HM2.out.trans ((Mods.refl _ w2).alloc (.cells #[.string xk,.bool true,.bool false,.string xv,.string ⟨#[]⟩] 106)).drew) xg0;have f1:=cellE (HM2.out.trans (Mods.refl _ w2).drew) xg1;have y1_:=cellE (HM2.out.trans ((Mods.refl _ w2).alloc (.cells #[.string xk,.bool true,.bool false,.string xv,.string ⟨#[]⟩] 106)).drew) xg1;go_region_held3 (λw'=>w'.cell? ⟨xb,xo,none⟩=some (.string xk)∧w'.cell? ⟨xb,xo+1,none⟩=some (.string xv))
      (first|(with_reducible exact⟨f0,f1⟩)|(with_reducible exact⟨y0_,y1_⟩)|(with_reducible exact⟨z0,z1⟩)|go_keep)
      (first
       | (refine step_app2 Tryz.elCh encCh_ok (by rfl) _ _ (by rfl) w.heap.size _ _ o [(⟨xk,true,false,xv,emS⟩:ChV)] (by rfl) (by rfl) (HOW.out.ext (by first|exact ((Mods.refl _ w2).alloc _).drew|exact ((Mods.refl _ w2).drew).alloc _)) (Sl.one (F:=λ_=>False) (heap_at (by simp)) (λf=>f)) (by have:=HQ.out.2;simp only[List.length_cons,List.length_nil];omega) (by have:=HM2.out.size;simp;omega) (λf=>f) ?_;simp only[List.length_cons,List.length_nil,Nat.zero_add];intro a6 c6 w6 hO6 hm6 hat6;have m6:Ext w w6:=(HM2.out.trans (((Mods.refl _ w2).alloc (.cells #[.string xk,.bool true,.bool false,.string xv,.string ⟨#[]⟩] 106)).drew)).trans' hm6 (λj hj h=>absurd (HOW.out.lt j h).1 (by omega));have z0:=cellE m6 xg0;have z1:=cellE m6 xg1)
       | fail)
     all_goals
      have HO6:=oh hO6;have HM6:=oh m6;clear hO6 hm6 hat6 m6 z0 f0 y0_ z1 f1 y1_;go_wp2_with fail
     all_goals
      go_roundg (xs.length+((yk,yv) :: ys).length)
      case measure=>simp only[List.length_cons] at hm ⊢;omega
      case rel=>exact⟨xs,((yk,yv) :: ys),o++[⟨xk,true,false,xv,emS⟩],rfl,oh ⟨by rw[HQ.out.1,HD.out];simp,by have:=HQ.out.2;simp only[List.length_cons,List.length_nil,List.length_append] at this ⊢;omega⟩,oh ⟨(by first|exact HTx.out.2 (by assumption)|(have e:xc=1:=(by assumption);have q:=HTx.out.1 e;rw[e] at q;exact q)),(by have h:=HS.out.2.1;rw[List.length_cons,← Hk.out] at h;exact h),HO6.out,HM6.out⟩⟩
    | false =>
     have h2:Op.bytesLess xk.toList yk.toList=false:=h1;cases h3:ltS yk xk with
     | true =>
      have HD:Hid (diffP ((xk,xv) :: xs) ((yk,yv) :: ys)=⟨yk,false,true,emS,yv⟩ :: diffP ((xk,xv) :: xs) ys):=oh (by rw[diffP,if_neg (by rw[h1];simp),if_pos h3];rfl);have h4:Op.bytesLess yk.toList xk.toList=true:=h3;clear h1 h3;go_wp2_with fail;go_quiet (fail)
      go_wp2_with fail;go_quiet (fail)
      go_wp2_with fail;clear h2 h4 x0 y0;generalize hw2:World.drewN (World.drewN wr _) _=w2
      have HM2:Hid (Ext w w2):=oh (by rw[← hw2];exact HS.out.2.2.2.trans (((Mods.refl _ wr).drewN _).drewN _));have HOW:Hid (Own (λ_=>False) w2 w.heap.size 106 5 encCh (.slice oa o.length oc) o):=oh (by rw[← hw2];exact HS.out.2.2.1.ext (((Mods.refl _ wr).drewN _).drewN _));clear hw2;have f0:=cellE (HM2.out.trans (Mods.refl _ w2).drew) yg0;have y0_:=cellE (HM2.out.trans ((Mods.refl _ w2).alloc (.cells #[.string yk,.bool false,.bool true,.string ⟨#[]⟩,.string yv] 106)).drew) yg0;have f1:=cellE (HM2.out.trans (Mods.refl _ w2).drew) yg1;have y1_:=cellE (HM2.out.trans ((Mods.refl _ w2).alloc (.cells #[.string yk,.bool false,.bool true,.string ⟨#[]⟩,.string yv] 106)).drew) yg1;go_region_held3 (λw'=>w'.cell? ⟨yb,yo,none⟩=some (.string yk)∧w'.cell? ⟨yb,yo+1,none⟩=some (.string yv))
       (first|(with_reducible exact⟨f0,f1⟩)|(with_reducible exact⟨y0_,y1_⟩)|(with_reducible exact⟨z0,z1⟩)|go_keep)
       (first
        | (refine step_app2 Tryz.elCh encCh_ok (by rfl) _ _ (by rfl) w.heap.size _ _ o [(⟨yk,false,true,emS,yv⟩:ChV)] (by rfl) (by rfl) (HOW.out.ext (by first|exact ((Mods.refl _ w2).alloc _).drew|exact ((Mods.refl _ w2).drew).alloc _)) (Sl.one (F:=λ_=>False) (heap_at (by simp)) (λf=>f)) (by have:=HQ.out.2;simp only[List.length_cons,List.length_nil];omega) (by have:=HM2.out.size;simp;omega) (λf=>f) ?_;simp only[List.length_cons,List.length_nil,Nat.zero_add];intro a6 c6 w6 hO6 hm6 hat6;have m6:Ext w w6:=(HM2.out.trans (((Mods.refl _ w2).alloc (.cells #[.string yk,.bool false,.bool true,.string ⟨#[]⟩,.string yv] 106)).drew)).trans' hm6 (λj hj h=>absurd (HOW.out.lt j h).1 (by omega));have z0:=cellE m6 yg0;have z1:=cellE m6 yg1)
        | fail)
      all_goals
       have HO6:=oh hO6;have HM6:=oh m6;clear hO6 hm6 hat6 m6 z0 f0 y0_ z1 f1 y1_;go_wp2_with fail
      all_goals
       go_roundg (((xk,xv) :: xs).length+ys.length)
       case measure=>simp only[List.length_cons] at hm ⊢;omega
       case rel=>exact⟨((xk,xv) :: xs),ys,o++[⟨yk,false,true,emS,yv⟩],rfl,oh ⟨by rw[HQ.out.1,HD.out];simp,by have:=HQ.out.2;simp only[List.length_cons,List.length_nil,List.length_append] at this ⊢;omega⟩,oh ⟨(by have h:=HS.out.1;rw[List.length_cons,← Hn.out] at h;exact h),(by first|exact HTy.out.2 (by assumption)|(have e:yc=1:=(by assumption);have q:=HTy.out.1 e;rw[e] at q;exact q)),HO6.out,HM6.out⟩⟩
     | false =>
      have h4:Op.bytesLess yk.toList xk.toList=false:=h3;have HKE:Hid (xk=yk):=oh (by rcases ltS_tri xk yk with h|h|h;rw[h] at h1;cases h1;exact h;rw[h] at h3;cases h3);have x1':=cellE HS.out.2.2.2 xg1;have y1':=cellE HS.out.2.2.2 yg1;by_cases hv:xv=yv
      ·have HD:Hid (diffP ((xk,xv) :: xs) ((yk,yv) :: ys)=diffP xs ys):=oh (by rw[diffP,if_neg (by rw[h1];simp),if_neg (by rw[h3];simp),if_pos hv]);have h5:(xv.toList == yv.toList)=true:=by rw[hv];simp
       clear h1 h3 hv;go_wp2_with fail;go_quiet (fail)
       go_wp2_with fail;go_quiet (fail)
       go_wp2_with fail;go_quiet (fail)
       go_wp2_with fail;go_quiet (fail)
       have HX:Hid (∀W,Ext wr W→Ext w W):=oh (λW m=>HS.out.2.2.2.trans m);go_wp2_with fail;all_goals
        go_roundg (xs.length+ys.length)
        case measure=>simp only[List.length_cons] at hm ⊢;omega
        case rel=>exact⟨xs,ys,o,rfl,oh ⟨by rw[HQ.out.1,HD.out],by have:=HQ.out.2;simp only[List.length_cons] at this ⊢;omega⟩,oh ⟨(by first|exact HTx.out.2 (by assumption)|(have e:xc=1:=(by assumption);have q:=HTx.out.1 e;rw[e] at q;exact q)),(by first|exact HTy.out.2 (by assumption)|(have e:yc=1:=(by assumption);have q:=HTy.out.1 e;rw[e] at q;exact q)),HS.out.2.2.1.ext (by first|exact (Mods.refl _ wr).drewN _|exact ((((Mods.refl _ wr).drewN _).drewN _).drewN _).drewN _),HX.out _ (by first|exact (Mods.refl _ wr).drewN _|exact ((((Mods.refl _ wr).drewN _).drewN _).drewN _).drewN _)⟩⟩
      ·have HD:Hid (diffP ((xk,xv) :: xs) ((yk,yv) :: ys)=⟨yk,true,true,xv,yv⟩ :: diffP xs ys):=oh (by rw[diffP,if_neg (by rw[h1];simp),if_neg (by rw[h3];simp),if_neg hv,← HKE.out];rfl);have h5:(xv.toList == yv.toList)=false:=beq_eq_false_iff_ne.2 (λe=>hv (toList_inj e));clear h1 h3 hv;go_wp2_with fail;go_quiet (fail)
       go_wp2_with fail;go_quiet (fail)
       go_wp2_with fail;go_quiet (fail)
       go_wp2_with fail;clear h2 h4 h5 x0 y0 x1' y1';generalize hw2:World.drewN (World.drewN (World.drewN wr _) _) _=w2
       have HM2:Hid (Ext w w2):=oh (by rw[← hw2];exact HS.out.2.2.2.trans ((((Mods.refl _ wr).drewN _).drewN _).drewN _));have HOW:Hid (Own (λ_=>False) w2 w.heap.size 106 5 encCh (.slice oa o.length oc) o):=oh (by rw[← hw2];exact HS.out.2.2.1.ext ((((Mods.refl _ wr).drewN _).drewN _).drewN _));clear hw2;have f0:=cellE (HM2.out.trans (Mods.refl _ w2).drew) yg0;have y0_:=cellE (HM2.out.trans ((Mods.refl _ w2).alloc (.cells #[.string yk,.bool true,.bool true,.string xv,.string yv] 106)).drew) yg0;have f1:=cellE (HM2.out.trans (Mods.refl _ w2).drew) xg1;have y1_:=cellE (HM2.out.trans ((Mods.refl _ w2).alloc (.cells #[.string yk,.bool true,.bool true,.string xv,.string yv] 106)).drew) xg1;have f2:=cellE (HM2.out.trans (Mods.refl _ w2).drew) yg1;have y2_:=cellE (HM2.out.trans ((Mods.refl _ w2).alloc (.cells #[.string yk,.bool true,.bool true,.string xv,.string yv] 106)).drew) yg1;go_region_held3 (λw'=>w'.cell? ⟨yb,yo,none⟩=some (.string yk)∧w'.cell? ⟨xb,xo+1,none⟩=some (.string xv)∧w'.cell? ⟨yb,yo+1,none⟩=some (.string yv))
        (first|(with_reducible exact⟨f0,f1,f2⟩)|(with_reducible exact⟨y0_,y1_,y2_⟩)|(with_reducible exact⟨z0,z1,z2⟩)|go_keep)
        (first
         | (refine step_app2 Tryz.elCh encCh_ok (by rfl) _ _ (by rfl) w.heap.size _ _ o [(⟨yk,true,true,xv,yv⟩:ChV)] (by rfl) (by rfl) (HOW.out.ext (by first|exact ((Mods.refl _ w2).alloc _).drew|exact ((Mods.refl _ w2).drew).alloc _)) (Sl.one (F:=λ_=>False) (heap_at (by simp)) (λf=>f)) (by have:=HQ.out.2;simp only[List.length_cons,List.length_nil];omega) (by have:=HM2.out.size;simp;omega) (λf=>f) ?_;simp only[List.length_cons,List.length_nil,Nat.zero_add];intro a6 c6 w6 hO6 hm6 hat6;have m6:Ext w w6:=(HM2.out.trans (((Mods.refl _ w2).alloc (.cells #[.string yk,.bool true,.bool true,.string xv,.string yv] 106)).drew)).trans' hm6 (λj hj h=>absurd (HOW.out.lt j h).1 (by omega));have z0:=cellE m6 yg0;have z1:=cellE m6 xg1;have z2:=cellE m6 yg1)
         | fail)
       all_goals
        have HO6:=oh hO6;have HM6:=oh m6;clear hO6 hm6 hat6 m6 z0 f0 y0_ z1 f1 y1_ z2 f2 y2_;go_wp2_with fail
       all_goals
        go_quiet (fail)
        go_wp2_with fail
       all_goals
        go_roundg (xs.length+ys.length)
        case measure=>simp only[List.length_cons] at hm ⊢;omega
        case rel=>exact⟨xs,ys,o++[⟨yk,true,true,xv,yv⟩],rfl,oh ⟨by rw[HQ.out.1,HD.out];simp,by have:=HQ.out.2;simp only[List.length_cons,List.length_nil,List.length_append] at this ⊢;omega⟩,oh ⟨(by first|exact HTx.out.2 (by assumption)|(have e:xc=1:=(by assumption);have q:=HTx.out.1 e;rw[e] at q;exact q)),(by first|exact HTy.out.2 (by assumption)|(have e:yc=1:=(by assumption);have q:=HTy.out.1 e;rw[e] at q;exact q)),(by first|exact HO6.out.ext ((Mods.refl _ w6).drewN _)|exact HO6.out),(by first|exact HM6.out.trans ((Mods.refl _ w6).drewN _)|exact HM6.out)⟩⟩
end
end
section
open Go.RowKit
theorem key19_any(s:ByteArray)(w:World) : Calls Tryz.prog 56 #[.string s] w λe w'=>e=.returned (.bool (keyB s))∧w'=w:=(key07_any s w).mono (by rintro e w' ⟨h1,h2⟩;exact⟨h1,by first|exact h2|exact h2.symm⟩)
theorem leS_empty(s:ByteArray)(h:keyB s=true):leS s ⟨#[]⟩=false:=by
 have hs:=((keyB_iff s).1 h).1;have hl:(⟨#[]⟩:ByteArray).toList=[]:=by rw[ByteArray.toList_eq]
 have hne:s.toList≠[]:=by
  intro e;have:=congrArg List.length e;rw[ByteArray.toList_eq] at this;simp at this;rw[this] at hs;simp at hs
 unfold leS;rw[hl];cases hst:s.toList with
 | nil=>exact absurd hst hne
 | cons a r=>rfl
theorem Right19_any{F:Nat→Prop}(lv:Value)(l:List PairB)(w:World)(hl:Sl F w 2 encP lv l) :
  Calls Tryz.prog 11 #[lv] w λe w'=>e=.returned (.bool (rightP l))∧Ext w w':=by
 obtain⟨a,cap,rfl,h1,h2,h3,h4⟩:=hl;unfold maxLen at h2
 go_enter Tryz.func11, Tryz.ntmps11
 go_wp2
 go_loopg [3] l.length (λn i wr=>∃k:Nat,∃lk:ByteArray,k+n=l.length∧i=.int .i64 k∧Hid (rightFrom lk (l.drop k)=rightP l)∧Hid (k=0→lk=⟨#[]⟩)∧Hid (∀h:k-1<l.length,0<k→lk=l[k-1].1)∧Ext w wr)
 case atStart=>exact⟨0,⟨#[]⟩,by omega,rfl,oh rfl,oh (λ_=>rfl),oh (λ_ h=>by omega),Mods.refl _ _⟩
 case round =>
  obtain⟨k,lk,hk,rfl,HQ,H0,H1,hm⟩:=hrel;by_cases hlt:k<l.length
  ·obtain⟨b,off,rfl,hb,hF,hc⟩:=Sl.atE h4 hm k hlt;have d0:=hc 0 _ rfl;have d1:=hc 1 _ rfl;simp only[Nat.add_zero] at d0;have hrd:=HQ.out;rw[rightFrom_drop lk l k hlt] at hrd;have HRD:=oh hrd;clear hrd HQ hc;have i1:(0:Int)≤(k:Int):=by omega
   have i2:(k:Int)<(l.length:Int):=by omega
   cases hkb:keyB l[k].1
   ·have hf:=oh (show rightP l=false by rw[← HRD.out,hkb];rfl);clear h4;go_wp2
    go_quiet ((go_at_call 56;exact Calls.quiet_of_same (key19_any _ _)))
    go_wp2
    go_ret;exact⟨ret_bool hf.out.symm,hm.drewN _⟩
   ·by_cases hsz:l[k].2.size≤4096
    ·have hs1:decide ((4096:Int)<(l[k].2.size:Int))=false:=by simp;omega
     by_cases hk0:k=0
     ·have hlk:=H0.out hk0;have hnext:Hid (rightFrom l[k].1 (l.drop (k+1))=rightP l):=oh (by rw[← HRD.out,hkb,hlk,leS_empty _ hkb];simp[hsz]);have hz:decide (0<k)=false:=by simp;omega
      have HK:=oh hk0;clear hk0 hlk h4;go_wp2
      go_quiet ((go_at_call 56;exact Calls.quiet_of_same (key19_any _ _)))
      go_wp2
      go_roundg (gk-1)
      case measure=>omega
      case rel=>exact⟨k+1,l[k].1,by omega,by go_num,hnext,oh (λh=>by omega),oh (λ_ _=>by simp),hm.drewN _⟩
     ·have hlk:=H1.out (by omega) (by omega);obtain⟨b',off',ha,_,_,hc'⟩:=Sl.atE h4 hm (k-1) (by omega);obtain⟨rfl,rfl⟩:b=b'∧off=off':=by simp at ha;exact ha
      have d2:=hc' 0 _ rfl;simp only[Nat.add_zero] at d2;rw[← hlk] at d2;have hz:decide (0<k)=true:=by simp;omega
      have i3:(0:Int)≤(k:Int)-1:=by omega
      have i4:(k:Int)-1<(l.length:Int):=by omega
      have i5:((k:Int)-1).toNat=k-1:=by omega
      have HK:=oh hk0;have hle:(Op.bytesLess l[k].1.toList lk.toList || l[k].1.toList == lk.toList)=leS l[k].1 lk:=rfl;clear hk0 hlk ha hc' h4;cases hlb:leS l[k].1 lk
      ·rw[hlb] at hle;have hnext:Hid (rightFrom l[k].1 (l.drop (k+1))=rightP l):=oh (by rw[← HRD.out,hkb,hlb];simp[hsz]);go_wp2
       go_quiet ((go_at_call 56;exact Calls.quiet_of_same (key19_any _ _)))
       go_wp2
       go_roundg (gk-1)
       case measure=>omega
       case rel=>exact⟨k+1,l[k].1,by omega,by go_num,hnext,oh (λh=>by omega),oh (λ_ _=>by simp),hm.drewN _⟩
      ·rw[hlb] at hle;have hf:=oh (show rightP l=false by rw[← HRD.out,hkb,hlb];rfl);go_wp2
       go_quiet ((go_at_call 56;exact Calls.quiet_of_same (key19_any _ _)))
       go_wp2
       go_ret;exact⟨ret_bool hf.out.symm,hm.drewN _⟩
    ·have hs1:decide ((4096:Int)<(l[k].2.size:Int))=true:=by simp;omega
     have hf:=oh (show rightP l=false by rw[← HRD.out,hkb];simp[hsz]);clear h4;go_wp2
     go_quiet ((go_at_call 56;exact Calls.quiet_of_same (key19_any _ _)))
     go_wp2
     go_ret;exact⟨ret_bool hf.out.symm,hm.drewN _⟩
  ·have hke:k=l.length:=by omega
   have hf:Hid (rightP l=true):=oh (by rw[← HQ.out,hke,List.drop_length];rfl);clear HQ hke h4;go_wp2
   go_ret;exact⟨ret_bool hf.out.symm,hm⟩
theorem ltS_notle(a b:ByteArray):ltS a b = !leS b a:=by
 unfold ltS leS;rcases ltS_tri a b with h|h|h
 ·have h1:=ltS_asymm h;have h2:=ltS_ne h;unfold ltS at h h1;rw[h,h1];have:(b.toList == a.toList)=false:=beq_eq_false_iff_ne.2 (λe=>h2 (toList_inj e).symm);rw[this];rfl
 ·subst h;have:Op.bytesLess a.toList a.toList=false:=by
   cases hh:Op.bytesLess a.toList a.toList with
   | false=>rfl
   | true=>exact absurd rfl (ltS_ne (show ltS a a=true from hh))
  rw[this];simp
 ·have h1:=ltS_asymm h;unfold ltS at h h1;rw[h,h1];rfl
theorem right_eq:∀(l:List PairS) (last:ByteArray),rightFrom last l=rightL last l
 | [],_=>rfl
 | x :: l,last=>by rw[rightFrom,rightL,ltS_notle,right_eq l x.1]
end
end Go.Proofs.YtdnbmdghmmpgcaaGreatDoor
