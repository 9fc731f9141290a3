import Derived.Test.YtdnbmdghmmpgcaaGreatDoorK32
import Derived.IntWalk
import Derived.Deep.RegionHeld3
import Derived.Test.YtdnbmdghmmpgcaaGreatDoorK27
namespace Go.Proofs.YtdnbmdghmmpgcaaGreatDoor
open Lib renaming hid→oh
set_option maxHeartbeats 4000000
set_option maxRecDepth 100000
section
open Go.RowKit
attribute [local go_sem ↓] Go.wp_at_zero Go.wp_at_succ
section
variable {P P' P1 P2 F F' F1 F2 Q:Nat→Prop}{ad:Nat→Addr}{w w' wr w2:World}{c s:Nat}{G:GA}{l:List Nat}{v v':Value}{st st':List (Int × Nat)}{gen:Nat}
theorem PgR.anti(h:PgR F w P c s G l)(hQ:∀k,Q k→F k):PgR Q w P c s G l :=
 h.plus (Q:=λ_=>False) (Mods.refl _ w) (λ_ _ f=>f) (λ_ f=>f.elim) (λk _ hn hq=>hn (hQ k hq))
theorem Nxt.least(n:Nxt P P' F F' ad w w'):Nxt P P' F (λk=>F k∨P' k) ad w w' :=
 ⟨n.stp,λ_ h=>.inr h,λ_ h=>.inl h,λk hk h=>h.elim id (λh=>n.oldF k hk (n.sub k h)),n.env.anti (λk h=>h.elim (n.grow k) (n.sub k))⟩
end
end
section
open Go.RowKit
theorem bytesE_wt(e:EntryA):((bytesE e).length:Int)=weightE e:=by
 unfold bytesE weightE;by_cases h:e.chain=0
 ·rw[if_pos h,if_pos h];simp only[List.length_append,leB_length,bytesT_len];omega
 ·rw[if_neg h,if_neg h];simp only[List.length_append,leB_length,bytesT_len];omega
theorem flatE_len:∀l:List EntryA,((l.flatMap bytesE).length:Int)=sumE l
 | []=>rfl
 | e :: l=>by
  rw[List.flatMap_cons,List.length_append,sumE,← flatE_len l,← bytesE_wt e];omega
theorem flatK_len:∀(l:List ByteArray) (k:List Int),l.length≤k.length→(((l.zip k).flatMap bytesK).length:Int)=sumK l
 | [],_,_=>rfl
 | s :: l,[],h=>by simp at h
 | s :: l,c :: k,h=>by
  rw[List.zip_cons_cons,List.flatMap_cons,List.length_append,sumK,← flatK_len l k (by simpa using h)];unfold bytesK;rw[List.length_append,bytesT_len,leB_length];simp only;omega
def formN(n:NodeA):Prop:=if n.leaf=true then n.keys=[]∧n.kids=[] else n.entries=[]∧n.kids.length=n.keys.length+1
theorem weight_len{n:NodeA}(h:formN n):weightN n=((bytesN n).length:Int):=by
 unfold formN at h;unfold weightN bytesN;cases hl:n.leaf with
 | true =>
  rw[if_pos hl] at h;simp only[if_true];rw[h.1,List.length_append,leB_length];have:=flatE_len n.entries;simp only[sumK];omega
 | false =>
  rw[if_neg (by rw[hl];simp)] at h;simp only[Bool.false_eq_true,if_false];rw[h.1,List.length_append,List.length_append,leB_length,leB_length];have:=flatK_len n.keys n.kids.tail (by rw[List.length_tail];omega);simp only[sumE];omega
theorem form_right{n:NodeA}(h:rightN n=true):formN n:=by
 unfold formN;unfold rightN at h;cases hl:n.leaf with
 | true =>
  rw[if_pos hl] at h;simp only[Bool.and_eq_true,List.isEmpty_iff] at h;rw[if_pos rfl];exact⟨h.1.1.1.2,h.1.1.2⟩
 | false =>
  rw[if_neg (by rw[hl];simp)] at h;simp only[Bool.and_eq_true,List.isEmpty_iff,decide_eq_true_eq] at h;rw[if_neg (by simp)];exact⟨h.1.1.1.1.1.1.1,h.1.1.1.1.1.2⟩
end
section
open Go.RowKit
attribute [local go_sem ↓] Go.wp_at_zero Go.wp_at_succ
theorem Own.slF{α:Type}{F:Nat→Prop}{w:World}{base:Nat}{e:TypeId}{sz:Nat}{enc:α→List Value}{v:Value}{l:List α}(h:Own (λ_=>False) w base e sz enc v l)(hF:∀k,F k→k<base)(henc:∀x,(enc x).length=sz)(hl:l.length≤140737488355328):Sl F w sz enc v l :=
 (h.blocks (G:=F) (λg hg hf=>by have:=(h.lt g hg).1;have:=hF g hf;omega)).sl henc hl
def kindA(n:NodeA):Int:=if n.leaf=true then 3 else 2
def downOk(n:NodeA)(size:Nat):Prop:=rightN n=true∧weightN n≤(size:Int)-24
instance (n:NodeA) (size:Nat):Decidable (downOk n size):=by unfold downOk;exact inferInstance
def downI(G:GA)(l:List Nat)(old:Nat)(n:NodeA):Option Nat:=if downOk n G.size then placeI l old else none
def downG(G:GA)(l:List Nat)(gen old:Nat)(n:NodeA):GA:=match downI G l old n with
 | none=>G
 | some i=>(placeG G l old).put ⟨kindA n,(i:Int),gen,bytesN n⟩
def downL(G:GA)(l:List Nat)(old:Nat)(n:NodeA):List Nat:=if downOk n G.size then placeL l old else l
def downK(G:GA)(n:NodeA):Nat:=if downOk n G.size then 3 else 1
def DownP(ad:Nat→Addr)(o:Option Nat)(k:Nat)(F':Nat→Prop)(w':World)(e:Ending):Prop :=
 (∃i,o=some i∧e=.returned (.tuple #[.int .i64 (i:Int),.nilIface]))∨(o=none∧∃f el,e=.returned (.tuple #[.int .i64 0,faultV f])∧ErrC F' ad w' (faultV f) el k)
theorem placeI_lt{l:List Nat}{old i:Nat}(h:placeI l old=some i):i<l.length:=by
 unfold placeI at h;split at h
 ·rename_i h1;injection h with h;subst h;have:=h1.2;unfold spFresh at this;simp only[Bool.and_eq_true,decide_eq_true_eq,Int.toNat_natCast] at this;exact (List.getElem?_eq_some_iff.1 this.2).1
 ·exact (spFree_at h).2
theorem placeG_none{G:GA}{l:List Nat}{old:Nat}(h:placeI l old=none):placeG G l old=G:=by
 unfold placeI at h;unfold placeG;split at h
 ·cases h
 ·rw[if_pos h];split <;> rfl
theorem placeG_lim(G:GA)(l:List Nat)(old:Nat):(placeG G l old).size=G.size∧(placeG G l old).blocks=G.blocks∧(placeG G l old).cost=G.cost:=by
 unfold placeG;split
 ·exact⟨rfl,rfl,rfl⟩
 ·split <;> exact⟨rfl,rfl,rfl⟩
section
variable {P P' F F':Nat→Prop}{ad:Nat→Addr}{w w':World}{c s:Nat}{G:GA}{l:List Nat}
theorem down_any(hL:Env F ad w)(hP:∀k,P k→F k)(h:PgR F w P c s G l)(gen old:Nat)(hgen:gen<18446744073709551616)(n:NodeA)(ve vk vi:Value)(hve:Sl F w 4 encE ve n.entries)(hvk:Sl F w 1 encS vk n.keys)(hvi:Sl F w 1 encI vi n.kids)
  (hlen:rightN n=true→(bytesN n).length≤100000) (hok:placeOk l old) (ho2:old=0∨2≤old) (hob:old<256) (hll:l.length≤G.blocks) (hco:G.cost<1000000) :
  Calls Tryz.prog 171 #[pgV c s gen,.int .i64 (old:Int),.agg #[.bool n.leaf,ve,vk,vi]] w (PgDone F P ad w c s (downG G l gen old n) (downL G l old n) (DownP ad (downI G l old n) (downK G n))):=by
 have m0:Ext w ((w.alloc (.cells #[.pointer (some ⟨c,0,none⟩),.pointer (some ⟨s,0,none⟩),.int .u64 (gen:Int)] 142)).alloc (.cells #[.bool n.leaf,ve,vk,vi] 272)):=((Mods.refl _ w).alloc _).alloc _;have HB0:=oh ((Blk.new w #[.pointer (some ⟨c,0,none⟩),.pointer (some ⟨s,0,none⟩),.int .u64 (gen:Int)] 142).alloc (.cells #[.bool n.leaf,ve,vk,vi] 272));have HN0:Hid (Blk ((w.alloc (.cells #[.pointer (some ⟨c,0,none⟩),.pointer (some ⟨s,0,none⟩),.int .u64 (gen:Int)] 142)).alloc (.cells #[.bool n.leaf,ve,vk,vi] 272)) (w.heap.size+1) #[.bool n.leaf,ve,vk,vi] 272):=oh (heap_at (by simp));have hx:=hL.mods m0.ext;have HPUT:=oh (nodePut_any hx n ve vk vi (hve.ext m0) (hvk.ext m0) (hvi.ext m0) hlen);have HM0:=oh m0;have HP:=oh hP;have HG:=oh (h.at m0);have HL:=oh hx;have HLW:=oh hL;have HX0:Hid (Nxt P P F F ad w _):=oh (Nxt.ext hL hP m0);have HBP:Hid (¬ P w.heap.size∧¬ P (w.heap.size+1)):=oh ⟨λhp=>by have:=h.bd _ hp;omega,λhp=>by have:=h.bd _ hp;omega⟩;have HOK:=oh hok;have HLIM:=oh h.lim;have HLEN:=oh hlen;have HFT:Hid (rightN n=true→∀W,Ext w W → Calls Tryz.prog 232 #[.agg #[.bool n.leaf,ve,vk,vi],.int .i64 (G.size:Int)] W λe w'=>e=.returned (.bool (decide (weightN n≤(G.size:Int)-24)))∧Ext W w'):=oh (λhr W m=>fits_any n ve vk vi W (hve.ext m) (hvk.ext m) (by
  rw[weight_len (form_right hr)];have:=hlen hr;omega) _ (by omega) (by have:=h.lim;omega))
 have HSZ:=oh (λW (m:Ext w W)=>inSize_any (h.at m) gen);obtain⟨ea,ec,rfl,_,_,_,_⟩:=hve;obtain⟨ka,kc,rfl,_,_,_,_⟩:=hvk;obtain⟨ia,ic,rfl,_,_,_,_⟩:=hvi;clear hL hP h m0 hok hlen hx;unfold pgV at HSZ ⊢
 go_enter Tryz.func171, Tryz.ntmps171
 go_wp2_with fail;refine HPUT.out.mono ?_;rintro e w1 ⟨hm1,⟨hr,a,cc,rfl,hO⟩|⟨hr,f,rfl,hE⟩⟩
 ·have HM1:=oh (HM0.out.trans hm1);have HR:=oh hr;have HO:=oh hO;have HB1:=oh (HB0.out.ext hm1);have HN1:=oh (HN0.out.ext hm1);have HX1:=oh (HX0.out.trans (Nxt.ext HL.out HP.out hm1));have HG1:=oh (HG.out.at hm1);have b0:=HB1.out.cell (o:=0) rfl;have b1:=HB1.out.cell (o:=1) rfl;have b2:=HB1.out.cell (o:=2) rfl;have n0:=HN1.out.cell (o:=0) rfl;have n1:=HN1.out.cell (o:=1) rfl;have n2:=HN1.out.cell (o:=2) rfl;have n3:=HN1.out.cell (o:=3) rfl;clear hm1 hr hO;go_wp2_with fail;go_region_held3 (λw'=>w'.cell? ⟨w.heap.size+1,0,none⟩=some (.bool n.leaf)∧w'.cell? ⟨w.heap.size+1,1,none⟩=some (.slice ea n.entries.length ec)∧w'.cell? ⟨w.heap.size+1,2,none⟩=some (.slice ka n.keys.length kc)∧w'.cell? ⟨w.heap.size+1,3,none⟩=some (.slice ia n.kids.length ic) ∧
    w'.cell? ⟨w.heap.size,0,none⟩=some (.pointer (some ⟨c,0,none⟩))∧w'.cell? ⟨w.heap.size,1,none⟩=some (.pointer (some ⟨s,0,none⟩))∧w'.cell? ⟨w.heap.size,2,none⟩=some (.int .u64 (gen:Int)))
   (first|(with_reducible exact⟨n0,n1,n2,n3,b0,b1,b2⟩)|(with_reducible exact⟨y0,y1,y2,y3,d0,d1,d2⟩)|(with_reducible exact⟨z0,z1,z2,z3,f0,f1,f2⟩)|go_keep)
   (first
    | (go_at_call 233;(with_reducible refine (HSZ.out _ HM1.out.drew).mono ?_);rintro e w2 ⟨rfl,hm2⟩;have y0:=cellE hm2 n0;have y1:=cellE hm2 n1;have y2:=cellE hm2 n2;have y3:=cellE hm2 n3;have d0:=cellE hm2 b0;have d1:=cellE hm2 b1;have d2:=cellE hm2 b2)
    | (go_at_call 232;refine (HFT.out HR.out _ (HM1.out.drew.trans hm2)).mono ?_;rintro e w3 ⟨rfl,hm3⟩;have z0:=cellE hm3 y0;have z1:=cellE hm3 y1;have z2:=cellE hm3 y2;have z3:=cellE hm3 y3;have f0:=cellE hm3 d0;have f1:=cellE hm3 d1;have f2:=cellE hm3 d2)
    | fail)
  have HM2:Hid (Ext w1 w2):=oh ((Mods.refl _ w1).drew.trans hm2);have HM3:=oh (HM2.out.trans hm3);have HB3:=oh (HB1.out.ext (HM2.out.trans hm3));have HN3:=oh (HN1.out.ext (HM2.out.trans hm3));have HX3:=oh (HX1.out.trans (Nxt.ext HX1.out.env HX1.out.sub (HM2.out.trans hm3)));have HG3:=oh (HG1.out.at (HM2.out.trans hm3));have b0:=HB3.out.cell (o:=0) rfl;have b1:=HB3.out.cell (o:=1) rfl;have b2:=HB3.out.cell (o:=2) rfl;have g1:=HX3.out.env.c1;clear hm3;cases hfit:decide (weightN n≤(G.size:Int)-24) with
  | false =>
   have HD:Hid (¬ downOk n G.size):=oh (λhd=>by rw[decide_eq_true hd.2] at hfit;cases hfit);clear hfit;go_wp2_with fail;refine (at_any HX3.out.env _ (old:Int) _ [] 1 (.sent 1 (by decide) (by decide))).mono ?_;rintro e w4 ⟨f,rfl,hE,hm4⟩;have HE:=oh hE;have HM4:=oh hm4;clear hE hm4;go_wp2_with fail;go_ret2
   refine⟨P,F,?_,HX3.out.trans (Nxt.ext HX3.out.env HX3.out.sub HM4.out),?_⟩
   ·have e1:downG G l gen old n=G:=by unfold downG downI;rw[if_neg HD.out]
    have e2:downL G l old n=l:=by unfold downL;rw[if_neg HD.out]
    rw[e1,e2];exact HG3.out.at HM4.out
   ·have e1:downI G l old n=none:=by unfold downI;rw[if_neg HD.out]
    have e2:downK G n=1:=by unfold downK;rw[if_neg HD.out]
    rw[e1,e2];exact .inr ⟨rfl,f,_,rfl,HE.out⟩
  | true =>
   have HD:Hid (downOk n G.size):=oh ⟨HR.out,of_decide_eq_true hfit⟩;have HPL:=place_any HX3.out.env HX3.out.sub HG3.out gen old HOK.out ho2 hob;unfold pgV at HPL;have HPC:=oh HPL;clear hfit HPL;go_wp2_with fail;refine HPC.out.mono ?_;rintro e w4 ⟨P4,F4,hG4,hN4,hr4⟩;have HG4:=oh hG4;have HX4:=oh (HX3.out.trans hN4);have hp3:¬ P w.heap.size∧¬ P (w.heap.size+1):=HBP.out;have HB4:=oh (hN4.blk HB3.out hp3.1);have HN4:=oh (hN4.blk HN3.out hp3.2);have HSB:Hid (Sl F4 w4 1 encB (.slice a (bytesN n).length cc) (bytesN n)):=oh (hN4.sl HX3.out.sub (((HO.out.blocks (G:=F) (λg hg=>by
    have:=(HO.out.lt g hg).1;have hlt:=HLW.out.lt g;intro hf;have:=hlt hf;simp at *;omega)).sl encB_ok.len (by have:=HLEN.out HR.out;omega)).ext HM3.out))
   clear hG4 hN4 hp3;rcases hr4 with ⟨i,hi,rfl⟩|⟨hi,f,rfl,hE⟩
   ·have hil:=placeI_lt hi;have HI:=oh hi;have HIL:Hid (i<G.blocks∧i<256):=oh (by have:=HLIM.out;omega);have b0:=HB4.out.cell (o:=0) rfl;have b2:=HB4.out.cell (o:=2) rfl;have n0:=HN4.out.cell (o:=0) (v:=.bool n.leaf) rfl;have HDI:Hid (downI G l old n=some i):=oh (by unfold downI;rw[if_pos HD.out,HI.out]);have HDG:Hid (downG G l gen old n=(placeG G l old).put ⟨kindA n,(i:Int),gen,bytesN n⟩):=oh (by unfold downG;rw[HDI.out]);have HDL:Hid (downL G l old n=placeL l old):=oh (by unfold downL;rw[if_pos HD.out]);have hwl:((bytesN n).length:Int)+24≤(G.size:Int):=by
     have:=HD.out.2;rw[weight_len (form_right HR.out)] at this;omega
    have HPC:Hid (pgCheck ⟨kindA n,(i:Int),gen,bytesN n⟩ ((placeG G l old).size:Int)=none):=oh (by
     rw[(placeG_lim G l old).1];unfold pgCheck;have:=HLIM.out;rw[if_neg (by unfold sizedB;simp;omega),if_neg];have hk:kindB (kindA n)=true:=by unfold kindA;split <;> rfl
     have:=HIL.out;simp only[hk];simp;omega)
    clear hi hil hwl;cases hlf:n.leaf
    all_goals
     rw[hlf] at n0;have HK:Hid (kindA n=_):=oh (by unfold kindA;rw[hlf]);simp only[Bool.false_eq_true,if_false,if_true] at HK;have HPT:=oh (λW (m:Ext w4 W)=>pgPut (HX4.out.env.mods m.ext) HX4.out.sub (HG4.out.at m) ⟨kindA n,(i:Int),gen,bytesN n⟩ _ (HSB.out.ext m) hgen ⟨by simp,by rw[(placeG_lim G l old).2.1];have:=HIL.out;simp;omega⟩ HPC.out (by rw[(placeG_lim G l old).2.2];exact hco));unfold pageV at HPT;simp only[HK.out] at HPT;clear hlf;go_wp2_with fail;refine (HPT.out _ ?_).mono ?_
     ·first|exact Mods.refl _ _|exact (Mods.refl _ _).alloc _
     rintro e w5 ⟨P5,F5,hG5,hN5,rfl⟩;have HG5:=oh hG5;have HX5:=oh ((HX4.out.trans (Nxt.ext HX4.out.env HX4.out.sub (by first|exact Mods.refl _ _|exact (Mods.refl _ _).alloc _))).trans hN5);clear hG5 hN5;go_wp2_with fail;go_ret2
     refine⟨P5,F5,?_,HX5.out,?_⟩
     ·rw[HDG.out,HDL.out,HK.out];exact HG5.out
     ·rw[HDI.out];exact .inl ⟨i,rfl,rfl⟩
   ·have HDI:Hid (downI G l old n=none):=oh (by unfold downI;rw[if_pos HD.out,hi]);have HDG:Hid (downG G l gen old n=placeG G l old):=oh (by unfold downG;rw[HDI.out,placeG_none hi]);have HDL:Hid (downL G l old n=placeL l old):=oh (by unfold downL;rw[if_pos HD.out]);have HDK:Hid (downK G n=3):=oh (by unfold downK;rw[if_pos HD.out]);have HE:=oh hE;clear hi hE;go_wp2_with fail;refine (wrap_any HX4.out.env _ _ _ _ HE.out).mono ?_;rintro e w5 ⟨f5,rfl,hE5,hm5⟩;have HE5:=oh hE5;have HM5:=oh hm5;clear hE5 hm5;go_wp2_with fail;go_ret2
    refine⟨P4,F4,?_,HX4.out.trans (Nxt.ext HX4.out.env HX4.out.sub HM5.out),?_⟩
    ·rw[HDG.out,HDL.out];exact HG4.out.at HM5.out
    ·rw[HDI.out,HDK.out];exact .inr ⟨rfl,f5,_,rfl,HE5.out⟩
 ·have HD:Hid (¬ downOk n G.size):=oh (λhd=>by rw[hd.1] at hr;cases hr);have HE:=oh hE;have HX1:=oh (HX0.out.trans (Nxt.ext HL.out HP.out hm1));have HG1:=oh (HG.out.at hm1);clear hE hm1 hr;go_wp2_with fail;refine (wrap_any HX1.out.env _ _ _ _ HE.out).mono ?_;rintro e w5 ⟨f5,rfl,hE5,hm5⟩;have HE5:=oh hE5;have HM5:=oh hm5;clear hE5 hm5;go_wp2_with fail;go_ret2
  refine⟨P,F,?_,HX1.out.trans (Nxt.ext HX1.out.env HX1.out.sub HM5.out),?_⟩
  ·have e1:downG G l gen old n=G:=by unfold downG downI;rw[if_neg HD.out]
   have e2:downL G l old n=l:=by unfold downL;rw[if_neg HD.out]
   rw[e1,e2];exact HG1.out.at HM5.out
  ·have e1:downI G l old n=none:=by unfold downI;rw[if_neg HD.out]
   have e2:downK G n=1:=by unfold downK;rw[if_neg HD.out]
   rw[e1,e2];exact .inr ⟨rfl,f5,_,rfl,HE5.out⟩
end
end
section
open Go.RowKit
structure Upd(G:GA)(l:List Nat)(A:Nat→Prop)(G':GA)(l':List Nat)(A':Nat→Prop):Prop where
 sz:G'.size=G.size
 bl:G'.blocks=G.blocks
 len:l'.length=l.length
 inn:∀i,A' i→(A i∧l'[i]? = l[i]?)∨(l[i]? = some 0∧l'[i]? = some 2)
 gone:∀i,A i→¬ A' i→(l[i]? = some 2∧l'[i]? = some 0)∨(l[i]? = some 1∧l'[i]? = some 3)
 rest:∀i,¬ A i→¬ A' i→l'[i]? = l[i]? ∧ (l[i]? ≠ some 0→G'.view i=G.view i)
 keep:∀i,l[i]? = some 1∨l[i]? = some 3→G'.look i=G.look i∧(G'.view i=G.view i∨G'.view i=openO (G.look i) i)
section
variable {G G1 G2:GA}{l l1 l2:List Nat}{A A1 A2 B:Nat→Prop}
theorem Upd.iff{A' A1':Nat→Prop}(h:Upd G l A G1 l1 A1)(h1:∀i,A' i ↔ A i)(h2:∀i,A1' i ↔ A1 i):Upd G l A' G1 l1 A1' :=
 ⟨h.sz,h.bl,h.len,λi hi=>(h.inn i ((h2 i).1 hi)).imp (λx=>⟨(h1 i).2 x.1,x.2⟩) id,λi hi hn=>h.gone i ((h1 i).1 hi) (λx=>hn ((h2 i).2 x)),λi hi hn=>h.rest i (λx=>hi ((h1 i).2 x)) (λx=>hn ((h2 i).2 x)),h.keep⟩
end
def phiL(l:List Nat):Int:=(l.countP (· == 0):Int)-(l.countP (· == 1):Int)
theorem phi_set{l:List Nat}{i x y:Nat}(h:l[i]? = some x):phiL (l.set i y)=phiL l+((if y=0 then 1 else 0)-(if y=1 then 1 else 0))-((if x=0 then 1 else 0)-(if x=1 then 1 else 0)):=by
 unfold phiL;have h0:=countP_set (· == 0) l i y x h;have h1:=countP_set (· == 1) l i y x h;simp only[beq_iff_eq] at h0 h1;have e:∀(p:Prop) [Decidable p],(if p then (1:Int) else 0)=((if p then (1:Nat) else 0:Nat):Int):=λp _=>by split <;> rfl
 simp only[e];omega
section
variable {G:GA}{l:List Nat}
theorem put_view(G:GA)(p:PageA)(i:Nat):(G.put p).view i=if i=p.id.toNat then some (.inl p) else G.view i:=by
 show upd G.view p.id.toNat (some (.inl p)) i=_;unfold upd;rfl
theorem put_look(G:GA)(p:PageA){i:Nat}(h:i≠p.id.toNat):(G.put p).look i=G.look i:=upd_ne _ _ h
theorem drop_view(G:GA)(k i:Nat):(G.drop k).view i=if i=k then openO (G.look k) k else G.view i:=by
 show upd G.view k (openO (G.look k) k) i=_;unfold upd;rfl
theorem upd_take{i:Nat}(hi:spFree l=some i)(p:PageA)(hp:p.id=(i:Int)):Upd G l (λ_=>False) (G.put p) (l.set i 2) (λk=>k=i):=by
 have h0:=spFree_at hi;have hpi:p.id.toNat=i:=by omega
 refine⟨rfl,rfl,by simp,λk hk=>?_,λ_ f=>f.elim,λk _ hk=>?_,λk hk=>?_⟩
 ·subst hk;exact .inr ⟨h0.1,List.getElem?_set_self h0.2⟩
 ·exact⟨List.getElem?_set_ne (λe=>hk e.symm),λ_=>by rw[put_view,hpi,if_neg hk]⟩
 ·have hne:k≠i:=λe=>by rw[e,h0.1] at hk;simp at hk
  exact⟨put_look G p (by rw[hpi];exact hne),.inl (by rw[put_view,hpi,if_neg hne])⟩
theorem upd_again{i:Nat}(hi:l[i]? = some 2)(p:PageA)(hp:p.id=(i:Int)):Upd G l (λk=>k=i) (G.put p) l (λk=>k=i):=by
 have hpi:p.id.toNat=i:=by omega
 refine⟨rfl,rfl,rfl,λk hk=>.inl ⟨hk,rfl⟩,λk hk hn=>absurd hk hn,λk hk _=>⟨rfl,λ_=>by rw[put_view,hpi,if_neg hk]⟩,λk hk=>?_⟩;have hne:k≠i:=λe=>by rw[e,hi] at hk;simp at hk
 exact⟨put_look G p (by rw[hpi];exact hne),.inl (by rw[put_view,hpi,if_neg hne])⟩
theorem give_last{l:List Nat}{i:Nat}(h2:2≤i)(hi:l[i]? = some 1):spGive l (i:Int)=(l.set i 3,none):=by
 have hlt:=(List.getElem?_eq_some_iff.1 hi).1;unfold spGive spCheck;rw[if_neg (by omega)];simp only[Int.toNat_natCast,hi];simp
theorem upd_place{old i:Nat}(ho:old=0∨(2≤old∧(l[old]? = some 1∨l[old]? = some 2)))(hi:placeI l old=some i)(p:PageA)(hp:p.id=(i:Int))(h0:l[0]? ≠ some 0) :
  Upd G l (λk=>k=old∧old≠0) ((placeG G l old).put p) (placeL l old) (λk=>k=i)∧phiL l-(if old=0 then 1 else 0)≤phiL (placeL l old)∧1≤i:=by
 rcases ho with rfl|⟨h2,ho⟩
 ·have e1:placeG G l 0=G:=by unfold placeG;rw[if_pos (.inl rfl)]
  have hf:spFree l=some i:=by unfold placeI at hi;rw[if_neg (by simp)] at hi;exact hi
  have e2:placeL l 0=l.set i 2:=by unfold placeL spTake;rw[if_pos rfl,hf]
  rw[e1,e2];refine⟨(upd_take hf p hp).iff (λk=>by simp) (λk=>Iff.rfl),?_,?_⟩
  ·rw[phi_set (spFree_at hf).1];simp
  ·rcases Nat.eq_zero_or_pos i with e|e
   ·rw[e] at hf;exact absurd (spFree_at hf).1 h0
   ·exact e
 ·have hz:old≠0:=by omega
  rcases ho with ho|ho
  ·have hfr:spFresh l (old:Int)=false:=by unfold spFresh;rw[Int.toNat_natCast,ho];simp
   have hf:spFree l=some i:=by unfold placeI at hi;rw[if_neg (by rw[hfr];simp)] at hi;exact hi
   have hne:i≠old:=λe=>by have:=(spFree_at hf).1;rw[e,ho] at this;simp at this
   have e1:placeG G l old=G.drop old:=by unfold placeG;rw[if_neg (by rw[hfr];simp[hz]),if_neg (by rw[hf];simp)]
   have ho2:(l.set i 2)[old]? = some 1:=by rw[List.getElem?_set_ne hne];exact ho
   have e2:placeL l old=(l.set i 2).set old 3:=by
    unfold placeL;rw[if_neg hz,if_neg (by rw[hfr];simp),hf];simp only;rw[give_last h2 ho2]
   have h0f:=spFree_at hf;have hol:=(List.getElem?_eq_some_iff.1 ho).1;have hpi:p.id.toNat=i:=by omega
   rw[e1,e2];refine⟨⟨rfl,rfl,by simp,λk hk=>?_,λk hk _=>?_,λk hk hn=>?_,λk hk=>?_⟩,?_,?_⟩
   ·subst hk;exact .inr ⟨h0f.1,by rw[List.getElem?_set_ne hne.symm];exact List.getElem?_set_self h0f.2⟩
   ·obtain⟨rfl,_⟩:=hk;exact .inr ⟨ho,List.getElem?_set_self (by simpa using hol)⟩
   ·have hk2:k≠old:=λe=>hk ⟨e,hz⟩
    refine⟨by rw[List.getElem?_set_ne hk2.symm,List.getElem?_set_ne (λe=>hn e.symm)],λ_=>?_⟩;rw[put_view,hpi,if_neg hn,drop_view,if_neg hk2]
   ·have hki:k≠i:=λe=>by rw[e,h0f.1] at hk;simp at hk
    refine⟨put_look (G.drop old) p (by rw[hpi];exact hki),?_⟩;rw[put_view,hpi,if_neg hki,drop_view];by_cases e:k=old
    ·subst e;rw[if_pos rfl];exact .inr rfl
    ·rw[if_neg e];exact .inl rfl
   ·rw[phi_set ho2,phi_set h0f.1];simp[hz]
   ·rcases Nat.eq_zero_or_pos i with e|e
    ·rw[e] at hf;exact absurd (spFree_at hf).1 h0
    ·exact e
  ·have hfr:spFresh l (old:Int)=true:=by unfold spFresh;rw[Int.toNat_natCast,ho];simp
   have hio:old=i:=by unfold placeI at hi;rw[if_pos ⟨hz,hfr⟩] at hi;exact Option.some.inj hi
   subst hio;have e1:placeG G l old=G:=by unfold placeG;rw[if_pos (.inr hfr)]
   have e2:placeL l old=l:=by unfold placeL;rw[if_neg hz,if_pos hfr]
   rw[e1,e2];exact⟨(upd_again ho p hp).iff (λk=>by simp[hz]) (λk=>Iff.rfl),by simp[hz],by omega⟩
end
structure OutA where
 id0:Nat
 id1:Nat
 key:ByteArray
 two:Bool
 news:Bool
abbrev StA(α:Type):=(GA × List Nat × α) ⊕ Nat
def settleA(G:GA)(l:List Nat)(gen old:Nat)(n:NodeA):StA OutA :=
 if weightN n≤(G.size:Int)-24 then (match downI G l old n with
  | some i=>.inl (downG G l gen old n,downL G l old n,⟨i,0,e0,false,false⟩)
  | none=>.inr (downK G n))
 else match cutA n with
  | none=>.inr 8
  | some (a,k,b)=>if weightN a≤(G.size:Int)-24∧weightN b≤(G.size:Int)-24 then (match downI G l old a with
    | none=>.inr (downK G a)
    | some i=>match downI (downG G l gen old a) (downL G l old a) 0 b with
     | none=>.inr (downK (downG G l gen old a) b)
     | some j=>.inl (downG (downG G l gen old a) (downL G l old a) gen 0 b,downL (downG G l gen old a) (downL G l old a) 0 b,⟨i,j,k,true,false⟩))
   else .inr 8
def withE(n:NodeA)(key:ByteArray)(e:EntryA):NodeA :=
  { n with entries:=n.entries.take (entAt key n.entries)++[e]++n.entries.drop (entAt key n.entries+if entIs key n.entries=true then 1 else 0) }
def leaf0:NodeA:=⟨true,[],[],[]⟩
structure FrG(G:GA)(l:List Nat)(G':GA)(l':List Nat):Prop where
 sz:G'.size=G.size
 bl:G'.blocks=G.blocks
 len:l'.length=l.length
 keep:∀i,l[i]? = some 1∨l[i]? = some 3→(l'[i]? = some 1∨l'[i]? = some 3)∧G'.look i=G.look i∧(G'.view i=G.view i∨G'.view i=openO (G.look i) i)
 low:∀i,i<2→l[i]? = some 1→l'[i]? = some 1
 other:∀i:Nat,l[i]? = some 0∨l[i]? = some 2→l'[i]? = some 0∨l'[i]? = some 2
section
variable {G G1 G2:GA}{l l1 l2:List Nat}
theorem FrG.refl(G:GA)(l:List Nat):FrG G l G l:=⟨rfl,rfl,rfl,λ_ h=>⟨h,rfl,.inl rfl⟩,λ_ _ h=>h,λ_ h=>h⟩
def LowL(l:List Nat):Prop:=l[0]? = some 1∧l[1]? = some 1
theorem Upd.fr{A A1:Nat→Prop}(h:Upd G l A G1 l1 A1)(hA:∀i,A i→2≤i):FrG G l G1 l1:=by
 refine⟨h.sz,h.bl,h.len,λi hi=>⟨?_,h.keep i hi⟩,λi hi h1=>?_,λi hi=>?_⟩
 ·by_cases h1:A1 i
  ·rcases h.inn i h1 with ⟨_,h2⟩|⟨h2,_⟩
   ·rw[h2];exact hi
   ·rcases hi with e|e <;> rw[h2] at e <;> simp at e
  ·by_cases ha:A i
   ·rcases h.gone i ha h1 with ⟨h2,_⟩|⟨_,h2⟩
    ·rcases hi with e|e <;> rw[h2] at e <;> simp at e
    ·exact .inr h2
   ·rw[(h.rest i ha h1).1];exact hi
 ·have ha:¬ A i:=λha=>by have:=hA i ha;omega
  have hn:¬ A1 i:=λh2=>by
   rcases h.inn i h2 with ⟨h3,_⟩|⟨h3,_⟩
   ·exact ha h3
   ·rw[h3] at h1;simp at h1
  rw[(h.rest i ha hn).1];exact h1
 ·by_cases h1:A1 i
  ·rcases h.inn i h1 with ⟨_,h2⟩|⟨_,h2⟩
   ·rw[h2];exact hi
   ·exact .inr h2
  ·by_cases ha:A i
   ·rcases h.gone i ha h1 with ⟨_,h2⟩|⟨h2,_⟩
    ·exact .inl h2
    ·rcases hi with e|e <;> rw[h2] at e <;> simp at e
   ·rw[(h.rest i ha h1).1];exact hi
theorem downL_none{G:GA}{l:List Nat}{old:Nat}{n:NodeA}(h:downI G l old n=none)(_ho:old=0∨(2≤old∧(l[old]? = some 1∨l[old]? = some 2))):downL G l old n=l:=by
 unfold downI at h;unfold downL;split at h
 ·rename_i hd;rw[if_pos hd];unfold placeI at h;unfold placeL;split at h
  ·cases h
  ·rename_i hf;by_cases hz:old=0
   ·rw[if_pos hz];unfold spTake;rw[h]
   ·rw[if_neg hz,if_neg (λhf2=>hf ⟨hz,hf2⟩),h]
 ·rename_i hd;rw[if_neg hd]
theorem downG_none{gen old:Nat}{n:NodeA}(h:downI G l old n=none):downG G l gen old n=G:=by unfold downG;rw[h]
def PlaceOf(l:List Nat)(old:Nat):Prop:=old=0∨(2≤old∧(l[old]? = some 1∨l[old]? = some 2))
theorem PlaceOf.ok{old:Nat}(h:PlaceOf l old):placeOk l old:=h.imp id (λh=>h.2)
theorem PlaceOf.two{old:Nat}(h:PlaceOf l old):old=0∨2≤old:=h.imp id (λh=>h.1)
theorem PlaceOf.lt{old:Nat}(h:PlaceOf l old)(hl:l.length≤256):old<256:=by
 rcases h with rfl|⟨_,h|h⟩
 ·omega
 ·have:=(List.getElem?_eq_some_iff.1 h).1;omega
 ·have:=(List.getElem?_eq_some_iff.1 h).1;omega
theorem upd_down{gen old i:Nat}{n:NodeA}(ho:PlaceOf l old)(hi:downI G l old n=some i)(h0:l[0]? ≠ some 0) :
  Upd G l (λk=>k=old∧old≠0) (downG G l gen old n) (downL G l old n) (λk=>k=i)∧phiL l-(if old=0 then 1 else 0)≤phiL (downL G l old n)∧1≤i∧i<l.length∧(downG G l gen old n).view i=some (.inl ⟨kindA n,(i:Int),gen,bytesN n⟩)∧downOk n G.size:=by
 have hd:downOk n G.size:=by
  unfold downI at hi;split at hi
  ·rename_i h;exact h
  ·cases hi
 have hp:placeI l old=some i:=by unfold downI at hi;rw[if_pos hd] at hi;exact hi
 have e1:downG G l gen old n=(placeG G l old).put ⟨kindA n,(i:Int),gen,bytesN n⟩:=by unfold downG;rw[hi]
 have e2:downL G l old n=placeL l old:=by unfold downL;rw[if_pos hd]
 obtain⟨u1,u2,u3⟩:=upd_place (G:=G) ho hp ⟨kindA n,(i:Int),gen,bytesN n⟩ rfl h0;rw[e1,e2];exact⟨u1,u2,u3,placeI_lt hp,by rw[put_view];simp,hd⟩
theorem fr_down{gen old:Nat}{n:NodeA}(ho:PlaceOf l old)(h0:l[0]? ≠ some 0):FrG G l (downG G l gen old n) (downL G l old n):=by
 cases hi:downI G l old n with
 | none=>rw[downG_none hi,downL_none hi ho];exact FrG.refl G l
 | some i=>exact (upd_down ho hi h0).1.fr (λk hk=>by
   obtain⟨rfl,hz⟩:=hk;rcases ho with h|h
   ·exact absurd h hz
   ·exact h.1)
end
end
section
open Go.RowKit
attribute [local go_sem ↓] Go.wp_at_zero Go.wp_at_succ
structure VarR(F P:Nat→Prop)(w0 wr:World)(b:Nat)(c:Array Value)(t:TypeId):Prop where
 blk:Blk wr b c t
 f:F b
 p:¬ P b
 new:w0.heap.size≤b
section
variable {P P' F F':Nat→Prop}{ad:Nat→Addr}{w0 w w':World}{b b2:Nat}{c c2:Array Value}{t t2:TypeId}
theorem VarR.nxt(h:VarR F P w0 w b c t)(n:Nxt P P' F F' ad w w'):VarR F' P' w0 w' b c t:=⟨n.blk h.blk h.p,n.grow b h.f,n.not h.blk.lt h.p,h.new⟩
theorem VarR.ext(h:VarR F P w0 w b c t)(m:Ext w w'):VarR F P w0 w' b c t:=⟨h.blk.ext m,h.f,h.p,h.new⟩
theorem VarR.other(h:VarR F P w0 w b c t){b2:Nat}(m:Mods (λk=>k=b2) w w')(hb:b≠b2):VarR F P w0 w' b c t:=⟨h.blk.mods m hb,h.f,h.p,h.new⟩
end
section
variable {P P0 F F0:Nat→Prop}{ad:Nat→Addr}{w0 w w':World}{b:Nat}{cc:Array Value}{t:TypeId}{c s:Nat}{G:GA}{l:List Nat}
theorem PgR.var(h:PgR F w P c s G l)(v:VarR F P w0 w b cc t)(m:Mods (λk=>k=b) w w'):PgR F w' P c s G l:=h.res m v.p v.f
theorem Nxt.var(n:Nxt P0 P F0 F ad w0 w)(v:VarR F P w0 w b cc t)(m:Mods (λk=>k=b) w w'):Nxt P0 P F0 F ad w0 w':=n.resD m v.new v.f
theorem VarR.mF(v:VarR F P w0 w b cc t)(m:Mods (λk=>k=b) w w'):Mods F w w':=m.mono (λ_ hk=>hk ▸ v.f)
end
def outC(o:OutA):Array Value:=#[.int .i64 (o.id0:Int),.int .i64 (o.id1:Int),.string o.key,.bool o.two,.bool o.news]
def out0:OutA:=⟨0,0,e0,false,false⟩
abbrev outZc:Array Value:=#[.int .i64 0,.int .i64 0,.string ⟨#[]⟩,.bool false,.bool false]
def OutP(F P:Nat→Prop)(ad:Nat→Addr)(w:World)(c s:Nat)(G:GA)(l:List Nat)(r:StA OutA)(e:Ending)(w':World):Prop :=
  ∃(P' F':Nat→Prop) (G':GA) (l':List Nat),PgR F' w' P' c s G' l'∧Nxt P P' F F' ad w w' ∧
    ((∃ o, r = .inl (G', l', o) ∧ e = .returned (.tuple #[.agg (outC o), .nilIface])) ∨
     (∃k o f el,r=.inr k∧FrG G l G' l'∧e=.returned (.tuple #[.agg (outC o),faultV f])∧ErrC F' ad w' (faultV f) el k))
theorem Tryz.outSz:(Tryz.prog.info? 267).map (·.size)=some 5:=by kernel_rfl
theorem downI_ok{G:GA}{l:List Nat}{old i:Nat}{n:NodeA}(h:downI G l old n=some i):downOk n G.size:=by
 unfold downI at h;split at h
 ·rename_i hd;exact hd
 ·cases h
theorem downG_lim(G:GA)(l:List Nat)(gen old:Nat)(n:NodeA):(downG G l gen old n).size=G.size∧(downG G l gen old n).blocks=G.blocks∧(downG G l gen old n).cost≤G.cost+1:=by
 unfold downG;split
 ·exact⟨rfl,rfl,by omega⟩
 ·obtain⟨h1,h2,h3⟩:=placeG_lim G l old;exact⟨h1,h2,by show (placeG G l old).cost+1≤_;omega⟩
structure SetOk(G:GA)(l:List Nat)(old:Nat)(n:NodeA):Prop where
 place:PlaceOf l old
 low:LowL l
 len:l.length≤G.blocks
 cost:G.cost+10≤1000000
 wt:weightN n≤100000
 bytes:rightN n=true→(bytesN n).length≤100000
 cut:¬ weightN n≤(G.size:Int)-24→∃a k b,cutA n=some (a,k,b)∧weightN a≤(G.size:Int)-24∧weightN b≤(G.size:Int)-24
 few:n.entries.length≤100000∧n.keys.length≤100000∧n.kids.length≤100000
section
variable {P P' F F':Nat→Prop}{ad:Nat→Addr}{w w':World}{c s:Nat}{G:GA}{l:List Nat}
theorem settleF_any(n:NodeA)(hF:weightN n≤(G.size:Int)-24)(hL:Env F ad w)(hP:∀k,P k→F k)(h:PgR F w P c s G l)(gen old:Nat)(hgen:gen<18446744073709551616)(ve vk vi:Value)(hve:Sl F w 4 encE ve n.entries)(hvk:Sl F w 1 encS vk n.keys)(hvi:Sl F w 1 encI vi n.kids)(hok:SetOk G l old n) :
  Calls Tryz.prog 227 #[pgV c s gen,.int .i64 (old:Int),.agg #[.bool n.leaf,ve,vk,vi]] w (OutP F P ad w c s G l (settleA G l gen old n)):=by
 have HFF:=oh hF;clear hF;obtain⟨w1,hw1⟩:∃w1,w1=(((w.alloc (.cells #[.pointer (some ⟨c,0,none⟩),.pointer (some ⟨s,0,none⟩),.int .u64 (gen:Int)] 142)).alloc (.cells #[.bool n.leaf,ve,vk,vi] 272)).alloc (.cells outZc 267)).alloc (.cells outZc 267):=⟨_,rfl⟩;have m0:Ext w w1:=by rw[hw1];exact ((((Mods.refl _ w).alloc _).alloc _).alloc _).alloc _
 have hz:w1.heap.size=w.heap.size+4:=by rw[hw1];simp
 have hN:Nxt P P F (λk=>F k∨(w.heap.size≤k∧k<w1.heap.size)) ad w w1:=Nxt.new hL hP (Q:=λk=>w.heap.size≤k∧k<w1.heap.size) m0 (λk hk=>hk.1) (λk hk=>hk.2);have HB:=oh (show VarR (λk=>F k∨(w.heap.size≤k∧k<w1.heap.size)) P w w1 w.heap.size #[.pointer (some ⟨c,0,none⟩),.pointer (some ⟨s,0,none⟩),.int .u64 (gen:Int)] 142 from ⟨by rw[hw1];exact (((Blk.new w _ _).alloc _).alloc _).alloc _,.inr ⟨by omega,by omega⟩,λhp=>by have:=h.bd _ hp;omega,by omega⟩);have HD:=oh (show VarR (λk=>F k∨(w.heap.size≤k∧k<w1.heap.size)) P w w1 (w.heap.size+1) #[.bool n.leaf,ve,vk,vi] 272 from ⟨by rw[hw1];exact ((show Blk ((w.alloc _).alloc (.cells #[.bool n.leaf,ve,vk,vi] 272)) (w.heap.size+1) #[.bool n.leaf,ve,vk,vi] 272 from heap_at (by simp)).alloc _).alloc _,.inr ⟨by omega,by omega⟩,λhp=>by have:=h.bd _ hp;omega,by omega⟩);have HR:=oh (show VarR (λk=>F k∨(w.heap.size≤k∧k<w1.heap.size)) P w w1 (w.heap.size+1+1) outZc 267 from ⟨by rw[hw1];exact (show Blk (((w.alloc _).alloc _).alloc (.cells outZc 267)) (w.heap.size+1+1) outZc 267 from heap_at (by simp)).alloc _,.inr ⟨by omega,by omega⟩,λhp=>by have:=h.bd _ hp;omega,by omega⟩);have HO:=oh (show VarR (λk=>F k∨(w.heap.size≤k∧k<w1.heap.size)) P w w1 (w.heap.size+1+1+1) outZc 267 from ⟨by rw[hw1];exact heap_at (by simp),.inr ⟨by omega,by omega⟩,λhp=>by have:=h.bd _ hp;omega,by omega⟩);have HG:=oh (h.plusNew hP (Q:=λk=>w.heap.size≤k∧k<w1.heap.size) m0 (λk hk=>hk.1));have HVE:=oh (hN.sl hP hve);have HVK:=oh (hN.sl hP hvk);have HVI:=oh (hN.sl hP hvi);have HLIM:=oh h.lim;have HN:=oh hN;have HOK:=oh hok;have HSZ:=oh (λW (m:Ext w1 W)=>inSize_any (HG.out.at m) gen);have HFT:Hid (∀W,Ext w1 W → Calls Tryz.prog 232 #[.agg #[.bool n.leaf,ve,vk,vi],.int .i64 (G.size:Int)] W λe w'=>e=.returned (.bool (decide (weightN n≤(G.size:Int)-24)))∧Ext W w'):=oh (λW m=>fits_any n ve vk vi W (HVE.out.ext m) (HVK.out.ext m) (by have:=hok.wt;omega) _ (by omega) (by have:=HLIM.out;omega));obtain⟨ea,ec,rfl,_,_,_,_⟩:=hve;obtain⟨ka,kc,rfl,_,_,_,_⟩:=hvk;obtain⟨ia,ic,rfl,_,_,_,_⟩:=hvi;have b0:=HB.out.blk.cell (o:=0) rfl;have b1:=HB.out.blk.cell (o:=1) rfl;have b2:=HB.out.blk.cell (o:=2) rfl;have n0:=HD.out.blk.cell (o:=0) rfl;have n1:=HD.out.blk.cell (o:=1) rfl;have n2:=HD.out.blk.cell (o:=2) rfl;have n3:=HD.out.blk.cell (o:=3) rfl;have HW1:=oh hw1;clear hL hP h m0 hN hok hw1;unfold pgV at HSZ ⊢
 go_enter Tryz.func227, Tryz.ntmps227
 go_wp2_with fail;rw[← HW1.out];go_cut [17] (λv17 wx=>v17=.bool (decide (weightN n≤(G.size:Int)-24))∧Hid (Ext w1 wx))
 case first =>
  go_region_held3 (λw'=>w'.cell? ⟨w.heap.size+1,0,none⟩=some (.bool n.leaf)∧w'.cell? ⟨w.heap.size+1,1,none⟩=some (.slice ea n.entries.length ec)∧w'.cell? ⟨w.heap.size+1,2,none⟩=some (.slice ka n.keys.length kc)∧w'.cell? ⟨w.heap.size+1,3,none⟩=some (.slice ia n.kids.length ic) ∧
    w'.cell? ⟨w.heap.size,0,none⟩=some (.pointer (some ⟨c,0,none⟩))∧w'.cell? ⟨w.heap.size,1,none⟩=some (.pointer (some ⟨s,0,none⟩))∧w'.cell? ⟨w.heap.size,2,none⟩=some (.int .u64 (gen:Int)))
   (first|(with_reducible exact⟨n0,n1,n2,n3,b0,b1,b2⟩)|(with_reducible exact⟨y0,y1,y2,y3,d0,d1,d2⟩)|(with_reducible exact⟨z0,z1,z2,z3,f0,f1,f2⟩)|go_keep)
   (first
    | (go_at_call 233;(with_reducible refine (HSZ.out _ (Mods.refl _ w1).drew).mono ?_);rintro e w2 ⟨rfl,hm2⟩;have y0:=cellE hm2 n0;have y1:=cellE hm2 n1;have y2:=cellE hm2 n2;have y3:=cellE hm2 n3;have d0:=cellE hm2 b0;have d1:=cellE hm2 b1;have d2:=cellE hm2 b2)
    | (go_at_call 232;refine (HFT.out _ ((Mods.refl _ w1).drew.trans hm2)).mono ?_;rintro e w3 ⟨rfl,hm3⟩;have z0:=cellE hm3 y0;have z1:=cellE hm3 y1;have z2:=cellE hm3 y2;have z3:=cellE hm3 y3;have f0:=cellE hm3 d0;have f1:=cellE hm3 d1;have f2:=cellE hm3 d2)
    | fail)
  all_goals
   go_wp2_with fail;go_meet;exact⟨rfl,oh ((Mods.refl _ w1).drew.trans (hm2.trans hm3))⟩
 obtain⟨rfl,HX⟩:=hcut;have HB:=oh (HB.out.ext HX.out);have HD:=oh (HD.out.ext HX.out);have HR:=oh (HR.out.ext HX.out);have HO:=oh (HO.out.ext HX.out);have HN1:=oh (HN.out.trans (Nxt.ext HN.out.env HN.out.sub HX.out));have HG:=oh (HG.out.at HX.out);have b0:=HB.out.blk.cell (o:=0) rfl;have b1:=HB.out.blk.cell (o:=1) rfl;have b2:=HB.out.blk.cell (o:=2) rfl;have n0:=HD.out.blk.cell (o:=0) rfl;have n1:=HD.out.blk.cell (o:=1) rfl;have n2:=HD.out.blk.cell (o:=2) rfl;have n3:=HD.out.blk.cell (o:=3) rfl;cases hfit:decide (weightN n≤(G.size:Int)-24) with
 | true =>
  have HFT:=oh (of_decide_eq_true hfit);have HDW:=oh (down_any HN1.out.env HN1.out.sub HG.out gen old hgen n _ _ _ (HVE.out.ext HX.out) (HVK.out.ext HX.out) (HVI.out.ext HX.out) HOK.out.bytes HOK.out.place.ok HOK.out.place.two (HOK.out.place.lt (by have:=HLIM.out;omega)) HOK.out.len (by have:=HOK.out.cost;omega));unfold pgV at HDW;clear hfit;go_wp2_with fail;refine HDW.out.mono ?_;rintro e w2 ⟨P2,F2,hG2,hN2,hr⟩;have HR2:=oh (HR.out.nxt hN2);have hO2:=HO.out.nxt hN2;have HG2:=oh hG2;have HN2:=oh (HN1.out.trans hN2);have o0:=hO2.blk.cell (o:=0) rfl;have o1:=hO2.blk.cell (o:=1) rfl;have o2:=hO2.blk.cell (o:=2) rfl;have o3:=hO2.blk.cell (o:=3) rfl;have o4:=hO2.blk.cell (o:=4) rfl;have of:=hO2.blk.frozen;have HO2:=oh hO2;have r0:=HR2.out.blk.cell (o:=0) rfl;have r1:=HR2.out.blk.cell (o:=1) rfl;have r2:=HR2.out.blk.cell (o:=2) rfl;have r3:=HR2.out.blk.cell (o:=3) rfl;have r4:=HR2.out.blk.cell (o:=4) rfl;have rf:=HR2.out.blk.frozen;clear hG2 hN2 hO2;rcases hr with ⟨i,hi,rfl⟩|⟨hi,f,el,rfl,hE⟩
  ·have HSA:Hid (settleA G l gen old n=.inl (downG G l gen old n,downL G l old n,⟨i,0,e0,false,false⟩)):=oh (by unfold settleA;rw[if_pos HFT.out,hi]);clear hi;go_wp2_with fail;have mO:=Mods.at (λk=>k=w.heap.size+1+1+1) w2 (w.heap.size+1+1+1) 0 (.int .i64 (i:Int)) rfl;have g3:=HG2.out.var HO2.out mO;have n3:=HN2.out.var HO2.out mO;have r3:=HR2.out.other mO (by omega);have mR:=Mods.set5 (F:=λk=>k=w.heap.size+1+1) (Mods.refl _ (w2.setCell ⟨w.heap.size+1+1+1,0,none⟩ (.int .i64 (i:Int)))) (R:=w.heap.size+1+1) (.inr rfl) (.int .i64 (i:Int)) (.int .i64 0) (.string ⟨#[]⟩) (.bool false) (.bool false);have bR:=r3.blk.set5 (.int .i64 (i:Int)) (.int .i64 0) (.string ⟨#[]⟩) (.bool false) (.bool false);refine bodyPost_ret (results_row_tmp rfl _ _ (w.heap.size+1+1) 267 _ _ rfl bR Tryz.underlying267 rfl Tryz.outSz) rfl ?_;exact⟨P2,F2,_,_,g3.var r3 mR,n3.var r3 mR,.inl ⟨_,HSA.out,rfl⟩⟩
  ·have HSA:Hid (settleA G l gen old n=.inr (downK G n)):=oh (by unfold settleA;rw[if_pos HFT.out,hi]);have HFR:Hid (FrG G l (downG G l gen old n) (downL G l old n)):=oh (fr_down HOK.out.place (by rw[HOK.out.low.1];simp));have HE:=oh hE;clear hi hE;go_wp2_with fail;have mO:=Mods.at (λk=>k=w.heap.size+1+1+1) w2 (w.heap.size+1+1+1) 0 (.int .i64 0) rfl;have g3:=HG2.out.var HO2.out mO;have n3:=HN2.out.var HO2.out mO;have r3:=HR2.out.other mO (by omega);have mR:=Mods.set5 (F:=λk=>k=w.heap.size+1+1) (Mods.refl _ (w2.setCell ⟨w.heap.size+1+1+1,0,none⟩ (.int .i64 0))) (R:=w.heap.size+1+1) (.inr rfl) (.int .i64 0) (.int .i64 0) (.string ⟨#[]⟩) (.bool false) (.bool false);have bR:=r3.blk.set5 (.int .i64 0) (.int .i64 0) (.string ⟨#[]⟩) (.bool false) (.bool false);refine bodyPost_ret (results_row_tmp rfl _ _ (w.heap.size+1+1) 267 _ _ rfl bR Tryz.underlying267 rfl Tryz.outSz) rfl ?_;exact⟨P2,F2,_,_,g3.var r3 mR,n3.var r3 mR,.inr ⟨_,out0,_,_,HSA.out,HFR.out,rfl,(HE.out.mods (HO2.out.mF mO)).mods (r3.mF mR)⟩⟩
 | false=>exact absurd HFF.out (of_decide_eq_false hfit)
end
end
end Go.Proofs.YtdnbmdghmmpgcaaGreatDoor
