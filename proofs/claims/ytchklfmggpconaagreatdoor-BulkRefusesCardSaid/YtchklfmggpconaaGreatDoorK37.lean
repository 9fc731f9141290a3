import Derived.Test.YtchklfmggpconaaGreatDoorK36
import Derived.Deep.RegionHeld3
namespace Go.Proofs.YtchklfmggpconaaGreatDoor
open Lib renaming hid→oh
set_option maxHeartbeats 8000000
set_option maxRecDepth 100000
section
open Go.RowKit
attribute [local go_sem ↓] Go.wp_at_zero Go.wp_at_succ
section
variable {P P' F F':Nat→Prop}{ad:Nat→Addr}{w w':World}{c s:Nat}{G:GA}{l:List Nat}
theorem bentryS_any(gen:Nat)(key v:ByteArray)(hv:v.size≤24) :
  Calls Tryz.prog 66 #[pgV c s gen,.agg #[.string key,.string v]] w λe w'=>e=.returned (.tuple #[.agg #[.string key,.string v,.int .i64 0,.int .i64 0],.nilIface])∧Ext w w':=by
 have hv2:(v.size:Int)≤24:=by omega
 have HB:Hid (Blk (((w.alloc (.cells #[.pointer (some ⟨c,0,none⟩),.pointer (some ⟨s,0,none⟩),.int .u64 (gen:Int)] 31)).alloc (.cells #[.string key,.string v] 25)).alloc (.cells #[.string key,.string v,.int .i64 0,.int .i64 0] 141)) (w.heap.size+1+1) #[.string key,.string v,.int .i64 0,.int .i64 0] 141):=oh (heap_at (by simp));have HM:Hid (Ext w (((w.alloc (.cells #[.pointer (some ⟨c,0,none⟩),.pointer (some ⟨s,0,none⟩),.int .u64 (gen:Int)] 31)).alloc (.cells #[.string key,.string v] 25)).alloc (.cells #[.string key,.string v,.int .i64 0,.int .i64 0] 141))):=oh ((((Mods.refl _ w).alloc _).alloc _).alloc _);clear hv;unfold pgV
 go_enter Tryz.func66, Tryz.ntmps66
 go_wp2_with fail;refine bodyPost_ret (results_row_tmp rfl _ _ (w.heap.size+1+1) 141 _ _ rfl HB.out Tryz.underlying141 rfl Tryz.entSz) rfl ?_;exact⟨rfl,HM.out⟩
theorem bentryL_any(hL:Env F ad w)(hP:∀k,P k→F k)(h:PgR F w P c s G l)(gen:Nat)(hgen:gen<18446744073709551616)(key v:ByteArray)(h25:25≤v.size)(h4096:v.size≤4096)(hlow:LowL l)(hlb:l.length=G.blocks)(hco:G.cost+100≤1000000) :
  Calls Tryz.prog 66 #[pgV c s gen,.agg #[.string key,.string v]] w (EntP F P ad w c s G l (entryP G l gen key v)):=by
 obtain⟨w1,hw1⟩:∃w1,w1=((w.alloc (.cells #[.pointer (some ⟨c,0,none⟩),.pointer (some ⟨s,0,none⟩),.int .u64 (gen:Int)] 31)).alloc (.cells #[.string key,.string v] 25)).alloc (.cells entZc 141):=⟨_,rfl⟩;have m0:Ext w w1:=by rw[hw1];exact (((Mods.refl _ w).alloc _).alloc _).alloc _
 have hz:w1.heap.size=w.heap.size+3:=by rw[hw1];simp
 have hN:Nxt P P F (λk=>F k∨(w.heap.size≤k∧k<w1.heap.size)) ad w w1:=Nxt.new hL hP (Q:=λk=>w.heap.size≤k∧k<w1.heap.size) m0 (λk hk=>hk.1) (λk hk=>hk.2);have HR:=oh (show VarR (λk=>F k∨(w.heap.size≤k∧k<w1.heap.size)) P w w1 (w.heap.size+1+1) entZc 141 from ⟨by rw[hw1];exact heap_at (by simp),.inr ⟨by omega,by omega⟩,λhp=>by have:=h.bd _ hp;omega,by omega⟩);have hB:Blk w1 w.heap.size #[.pointer (some ⟨c,0,none⟩),.pointer (some ⟨s,0,none⟩),.int .u64 (gen:Int)] 31:=by rw[hw1];exact ((Blk.new w _ _).alloc _).alloc _
 have hBP:Blk w1 (w.heap.size+1) #[.string key,.string v] 25:=by rw[hw1];exact Blk.alloc (heap_at (by simp)) _
 have HBP:=oh hBP;have HNP:Hid (¬ P (w.heap.size+1)):=oh (λhp=>by have:=h.bd _ hp;omega);have q0:=hBP.cell (o:=0) rfl;have q1:=hBP.cell (o:=1) rfl;have HG:=oh (h.plusNew hP (Q:=λk=>w.heap.size≤k∧k<w1.heap.size) m0 (λk hk=>hk.1));have HN:=oh hN;have HWR:=oh (chWrite_any hN.env hN.sub HG.out gen hgen v h25 h4096 hlow.ok hlb hco);have b0:=hB.cell (o:=0) rfl;have b1:=hB.cell (o:=1) rfl;have b2:=hB.cell (o:=2) rfl;have hvi:¬ (v.size:Int)≤24:=by omega
 have HEP:Hid (entryP G l gen key v=match takeA (needN v.size G.size).toNat l with
  | some (ids,l1)=>.inl (chPuts gen v.data.toList (G.size-28) ids ids.length G,l1,⟨key,e0,((ids.getD 0 0:Nat):Int),(v.size:Int)⟩)
  | none=>.inr 3):=oh (by unfold entryP;rw[if_neg (by omega)];rfl)
 have HW1:=oh hw1;clear hL hP h m0 hN hw1 hB hBP hlow hlb hco;unfold pgV at HWR ⊢
 go_enter Tryz.func66, Tryz.ntmps66
 go_wp2_with fail;rw[← HW1.out];refine HWR.out.mono ?_;rintro e w2 ⟨P2,F2,G2,l2,hG2,hN2,hr⟩;have hR2:=HR.out.nxt hN2;have hq2:=hN2.blk HBP.out HNP.out;have q0:=hq2.cell (o:=0) rfl;have q1:=hq2.cell (o:=1) rfl;have HG2:=oh hG2;have HN2:=oh (HN.out.trans hN2);have r0:=hR2.blk.cell (o:=0) rfl;have r1:=hR2.blk.cell (o:=1) rfl;have r2:=hR2.blk.cell (o:=2) rfl;have r3:=hR2.blk.cell (o:=3) rfl;have rf:=hR2.blk.frozen;have HR2:=oh hR2;clear hG2 hN2 hR2 hq2;rcases hr with ⟨ids,h1,_,_,rfl,rfl⟩|⟨a,f,h1,rfl,rfl,h4,rfl,hE⟩
 ·have HS:=oh (HEP.out.trans (by rw[h1]));clear h1;go_wp2_with fail;have mR:=Mods.set4 (F:=λk=>k=w.heap.size+1+1) (Mods.refl _ w2) (R:=w.heap.size+1+1) (.inr rfl) (.string key) (.string ⟨#[]⟩) (.int .i64 ((ids.getD 0 0:Nat):Int)) (.int .i64 (v.size:Int));have bR:=HR2.out.blk.set4 (.string key) (.string ⟨#[]⟩) (.int .i64 ((ids.getD 0 0:Nat):Int)) (.int .i64 (v.size:Int));refine bodyPost_ret (results_row_tmp rfl _ _ (w.heap.size+1+1) 141 _ _ rfl bR Tryz.underlying141 rfl Tryz.entSz) rfl ?_;exact⟨P2,F2,_,_,HG2.out.var HR2.out mR,HN2.out.var HR2.out mR,.inl ⟨_,HS.out,rfl⟩⟩
 ·have HS:=oh (HEP.out.trans (by rw[h1]));have HFR:=oh (fr_giveFree a G _ h4);have HE:=oh hE;clear h1 h4 hE;go_wp2_with fail;have mR:=Mods.set4 (F:=λk=>k=w.heap.size+1+1) (Mods.refl _ w2) (R:=w.heap.size+1+1) (.inr rfl) (.string key) (.string ⟨#[]⟩) (.int .i64 0) (.int .i64 (v.size:Int));have bR:=HR2.out.blk.set4 (.string key) (.string ⟨#[]⟩) (.int .i64 0) (.int .i64 (v.size:Int));refine bodyPost_ret (results_row_tmp rfl _ _ (w.heap.size+1+1) 141 _ _ rfl bR Tryz.underlying141 rfl Tryz.entSz) rfl ?_;exact⟨P2,F2,_,_,HG2.out.var HR2.out mR,HN2.out.var HR2.out mR,.inr ⟨3,⟨key,⟨#[]⟩,0,(v.size:Int)⟩,f,_,HS.out,HFR.out,by rw[(giveG_same a G).2.2.1];exact Nat.le_refl _,rfl,HE.out.mods (HR2.out.mF mR)⟩⟩
theorem bentry_any(hL:Env F ad w)(hP:∀k,P k→F k)(h:PgR F w P c s G l)(gen:Nat)(hgen:gen<18446744073709551616)(key v:ByteArray)(h4096:v.size≤4096)(hlow:LowL l)(hlb:l.length=G.blocks)(hco:G.cost+100≤1000000) :
  Calls Tryz.prog 66 #[pgV c s gen,.agg #[.string key,.string v]] w (EntP F P ad w c s G l (entryP G l gen key v)):=by
 by_cases h24:v.size≤24
 ·refine (bentryS_any gen key v h24).mono ?_;rintro e w' ⟨rfl,hm⟩;have hN:=Nxt.ext hL hP hm;refine⟨P,F,G,l,h.at hm,hN,.inl ⟨⟨key,v,0,0⟩,?_,rfl⟩⟩;unfold entryP;rw[if_pos h24]
 ·exact bentryL_any hL hP h gen hgen key v (by omega) h4096 hlow hlb hco
end
end
section
open Go.RowKit
theorem ents_split(gen:Nat):∀(a b:List PairS) (G:GA) (l:List Nat) {G':GA} {l':List Nat} {es:List EntryA},entsP gen G l (a++b)=.inl (G',l',es) →
  ∃G1 l1 es1 es2,entsP gen G l a=.inl (G1,l1,es1)∧entsP gen G1 l1 b=.inl (G',l',es2)∧es=es1++es2
 | [],b,G,l,G',l',es,h=>⟨G,l,[],es,rfl,h,rfl⟩
 | x :: a,b,G,l,G',l',es,h=>by
  rw[List.cons_append,entsP] at h;cases hd:entryP G l gen x.1 x.2 with
  | inr k=>rw[hd] at h;cases h
  | inl y =>
   obtain⟨G2,l2,e⟩:=y;rw[hd] at h;simp only at h;cases hr:entsP gen G2 l2 (a++b) with
   | inr k=>rw[hr] at h;cases h
   | inl y =>
    obtain⟨G3,l3,es0⟩:=y;rw[hr] at h;injection h with h;injection h with h1 h2;injection h2 with h2 h3;subst h1 h2 h3;obtain⟨G1,l1,es1,es2,e1,e2,rfl⟩:=ents_split gen a b _ _ hr;exact⟨G1,l1,e :: es1,es2,by rw[entsP,hd];simp only;rw[e1],e2,rfl⟩
theorem ents_one{gen:Nat}{G:GA}{l:List Nat}{x:PairS}{G':GA}{l':List Nat}{es:List EntryA}(h:entsP gen G l [x]=.inl (G',l',es)):∃e,entryP G l gen x.1 x.2=.inl (G',l',e)∧es=[e]:=by
 rw[entsP] at h;cases hd:entryP G l gen x.1 x.2 with
 | inr k=>rw[hd] at h;cases h
 | inl y =>
  obtain⟨G2,l2,e⟩:=y;rw[hd] at h;simp only[entsP] at h;injection h with h;injection h with h1 h2;injection h2 with h2 h3;subst h1 h2 h3;exact⟨e,rfl,rfl⟩
theorem ents_keep{gen:Nat}{G:GA}{l:List Nat}{ps:List PairS}{G':GA}{l':List Nat}{es:List EntryA}(hc:CtxG G l)(hp:∀x∈ps,PairOk x)(h:entsP gen G l ps=.inl (G',l',es)) :
  CtxG G' l'∧(∀e∈es,rightE e=true)∧G'.size=G.size∧G'.cost≤G.cost+18 * ps.length∧es.length=ps.length:=by
 rcases ents_tr gen ps G l hc hp with ⟨a1,_⟩|⟨G1,l1,es1,q,a1,a2,a3,a4,a5,a6,a7,a8,a9⟩
 ·rw[a1] at h;cases h
 ·rw[a1] at h;injection h with h;injection h with h1 h2;injection h2 with h2 h3;subst h1 h2 h3;obtain⟨b1,b2,b3⟩:=ents_cost gen ps G l hc.s256 hc.s1024 (λx hx=>(hp x hx).2) a1;exact⟨a5,a8,b2,b1,b3⟩
theorem downs_fst(gen:Nat):∀(a:List PtA) (G:GA) (l:List Nat) {G':GA} {l':List Nat} {ks:List KidA},downsP gen G l a=.inl (G',l',ks)→ks.map (·.2)=a.map (·.2)
 | [],G,l,G',l',ks,h=>by
  injection h with h;injection h with h1 h2;injection h2 with h2 h3;subst h3;rfl
 | x :: a,G,l,G',l',ks,h=>by
  obtain⟨G1,l1,ks1,ks2,e1,e2,rfl⟩:=downs_split gen [x] a G l h;obtain⟨i,_,rfl,rfl,rfl⟩:=downs_one e1;rw[List.map_append,downs_fst gen a _ _ e2];rfl
section
variable {α:Type}(mk:List α→NodeA)(z:Int)
theorem groups_few(l:List α):(groupsG mk z l).length≤l.length:=by
 have h:=fillG_len mk z l [];simp only[List.length_nil,Nat.zero_add] at h;unfold groupsG;rcases evenG_cases mk (z:=z) (fillG mk z [] l) with h1|⟨r,a,b,h1,_,⟨_,h2⟩|⟨_,k,_,h2⟩⟩
 ·rw[h1];exact h
 ·rw[h2];rw[h1] at h;simp only[List.length_append,List.length_cons,List.length_nil] at h ⊢;omega
 ·rw[h2];rw[h1] at h;simp only[List.length_append,List.length_cons,List.length_nil] at h ⊢;omega
theorem groups_mem{l:List α}:∀g∈groupsG mk z l,∀x∈g,x∈l:=λg hg x hx=>by
 have:=groups_flat mk z l;rw[← this];exact List.mem_flatten.2 ⟨g,hg,hx⟩
theorem groups_wt{M:Int}(A:α→Prop){l:List α}(hA:∀x∈l,A x)(h1:∀x,A x→weightN (mk [x])≤z)(hz:z≤M)(happ:∀a b,(∀x∈a++b,A x)→a≠[]→weightN (mk a)≤z→weightN (mk b)≤z→weightN (mk (a++b))≤M)
  (hcut:∀g k,weightN (mk (g.take k))≤weightN (mk g)∧weightN (mk (g.drop k))≤weightN (mk g)):∀g∈groupsG mk z l,weightN (mk g)≤M:=by
 have hf:=fillG_fit' mk z A h1 l [] hA (by simp);have hne:=fillG_ne mk z l [] (by simp);have hfl:=fillG_flat mk z l [];unfold groupsG;rcases evenG_cases mk (z:=z) (fillG mk z [] l) with e1|⟨r,a,b,e1,_,⟨e2,e3⟩|⟨_,k,_,e3⟩⟩
 ·rw[e1];exact λg hg=>Int.le_trans (hf g hg) hz
 ·rw[e3];intro g hg;rcases List.mem_append.1 hg with hg|hg
  ·exact Int.le_trans (hf g (by rw[e1];simp[hg])) hz
  ·rw[List.mem_singleton.1 hg];omega
 ·rw[e3];have hab:weightN (mk (a++b))≤M:=happ a b (λx hx=>hA x (by
    rw[e1] at hfl;have:x∈(r++[a,b]).flatten:=by simp only[List.flatten_append,List.flatten_cons,List.flatten_nil,List.append_nil];exact List.mem_append_right _ hx
    rw[hfl] at this;simpa using this)) (hne a (by rw[e1];simp)) (hf a (by rw[e1];simp)) (hf b (by rw[e1];simp))
  have hc:=hcut (a++b) k;intro g hg;rcases List.mem_append.1 hg with hg|hg
  ·exact Int.le_trans (hf g (by rw[e1];simp[hg])) hz
  ·simp only[List.mem_cons,List.not_mem_nil,or_false] at hg;rcases hg with rfl|rfl <;> omega
end
theorem groupsL_wt{es:List EntryA}{z:Int}(hz:232≤z)(hz2:z≤1000)(h:∀e∈es,rightE e=true):∀g∈groupsG mkL z es,weightN (mkL g)≤3000 :=
 groups_wt mkL z (λe=>rightE e=true) h (λx hx=>by have:=rightE_wt hx;rw[mkL_wt];simp only[sumE];omega) (by omega) (λa b _ _ h1 h2=>by rw[mkL_wt] at *;rw[sumE_append];omega)
  (λg k=>by have:=sumE_split g k;have:=sumE_nonneg (g.take k);have:=sumE_nonneg (g.drop k);rw[mkL_wt,mkL_wt,mkL_wt];omega)
theorem groupsI_wt{ks:List KidA}{z:Int}(hz:232≤z)(hz2:z≤1000)(h:∀k∈ks,keyB k.2=true):∀g∈groupsG mkI z ks,weightN (mkI g)≤3000 :=
 groups_wt mkI z (λk=>keyB k.2=true) h (λx hx=>by rw[mkI_wt];simp[sumK];omega) (by omega) (λa b hA ha h1 h2=>by
   rw[mkI_wt] at *;rw[tail_append ha,List.map_append,sumK_append];cases b with
   | nil=>simp only[List.map_nil,sumK] at *;omega
   | cons x b =>
    have:=(keyB_iff x.2).1 (hA x (by simp));simp only[List.map_cons,sumK,List.tail_cons] at *;omega)
  (λg k=>by
   rw[mkI_wt,mkI_wt,mkI_wt,tail_take1,List.map_take];have e:=sumK_split (g.tail.map (·.2)) (k-1);have n1:=sumK_nonneg ((g.tail.map (·.2)).take (k-1));have n2:=sumK_nonneg ((g.tail.map (·.2)).drop (k-1));have e2:=sumK_split (g.tail.map (·.2)) k;have n3:=sumK_nonneg ((g.tail.map (·.2)).take k);have:(g.drop k).tail.map (·.2)=(g.tail.map (·.2)).drop k:=by
    rw[List.tail_drop,← List.drop_one,List.map_drop,List.map_drop,List.drop_drop,Nat.add_comm]
   rw[this];omega)
end
section
open Go.RowKit
attribute [local go_sem ↓] Go.wp_at_zero Go.wp_at_succ
section
variable {P P' F F':Nat→Prop}{ad:Nat→Addr}{w w':World}{c s:Nat}{G G':GA}{l l':List Nat}
def EnS(F P:Nat→Prop)(ad:Nat→Addr)(w wr:World)(X c s gen:Nat)(pv:Value)(ps:List PairS)(G1:GA)(l1:List Nat)(ev:Value)(es:List EntryA):Prop :=
 ∃(P1 F1:Nat→Prop),PgR F1 wr P1 c s G1 l1∧Nxt P P1 F F1 ad w wr∧Sl F1 wr 2 encP pv ps∧Blk wr X #[.pointer (some ⟨c,0,none⟩),.pointer (some ⟨s,0,none⟩),.int .u64 (gen:Int)] 31 ∧ ¬ P1 X∧LocR w F1 P1 wr 141 4 encE ev es
def LvS2(F P:Nat→Prop)(ad:Nat→Addr)(w wr:World)(X c s gen:Nat)(G1:GA)(l1:List Nat)(kv:Value)(ks:List KidA):Prop :=
 ∃(P1 F1:Nat→Prop),PgR F1 wr P1 c s G1 l1∧Nxt P P1 F F1 ad w wr∧Blk wr X #[.pointer (some ⟨c,0,none⟩),.pointer (some ⟨s,0,none⟩),.int .u64 (gen:Int)] 31 ∧ ¬ P1 X∧Sl F1 wr 2 encKd kv ks
theorem cellQ{v:Value}{b o:Nat}(m:Mods P w w')(h:w.cell? ⟨b,o,none⟩=some v)(hn:¬ P b):w'.cell? ⟨b,o,none⟩=some v:=(m.cell (cell_lt h) hn).trans h
theorem ptsS_of{w1 w2:World}{v:Value}{L:List PtA}(h:PtsO w2 w1.heap.size v L)(hL:Env F ad w1)(hok:∀n∈L,okPt n)(hl:L.length≤100000):∃xs,PtsS F w2 v xs L:=by
 obtain⟨xs,hx⟩:=h;exact⟨xs,hx.sl (λk hk=>hL.lt k hk) hok hl⟩
theorem groups_neI{kk:List KidA}{z:Int}(_h2:2≤kk.length)(_hz:232≤z):∀g∈groupsG mkI z kk,g≠[]:=by
 have hkeys:=fillG_ne mkI z kk [] (by simp);intro g hg h0;subst h0;rcases evenG_cases mkI (z:=z) (fillG mkI z [] kk) with e1|⟨r,a,b,e1,_,⟨_,e3⟩|⟨_,k,ek,e3⟩⟩
 ·unfold groupsG at hg;rw[e1] at hg;exact hkeys _ hg rfl
 ·unfold groupsG at hg;rw[e3] at hg;rcases List.mem_append.1 hg with hg|hg
  ·exact hkeys [] (by rw[e1];simp[hg]) rfl
  ·have ha:=hkeys a (by rw[e1];simp);simp only[List.mem_singleton] at hg;exact ha (List.append_eq_nil_iff.1 hg.symm).1
 ·unfold groupsG at hg;rw[e3] at hg;have hp:=cutAt_in ek;have q1:cutFrom (mkI (a++b))=2:=rfl;have q2:cutMany (mkI (a++b))=((a++b).map λk=>(k.1:Int)).length-3:=rfl;rw[List.length_map] at q2;rcases List.mem_append.1 hg with hg|hg
  ·exact hkeys [] (by rw[e1];simp[hg]) rfl
  ·simp only[List.mem_cons,List.not_mem_nil,or_false] at hg;rcases hg with hg|hg
   ·have:=congrArg List.length hg;rw[List.length_take] at this;simp at this;simp at q2;omega
   ·have:=congrArg List.length hg;rw[List.length_drop] at this;simp at this;simp at q2;omega
theorem load15_any(hL:Env F ad w)(hP:∀k,P k→F k)(h:PgR F w P c s G l)(gen:Nat)(hgen:gen<18446744073709551616)(hc:CtxG G l)(ps:List PairS)(pv:Value)(hpv:Sl F w 2 encP pv ps)(hp:∀x∈ps,PairOk x)(hlen:ps.length≤1000)(hco:G.cost≤800000)(root:Nat)(hd:loadP gen G l ps=.inl (G',l',root)) :
  Calls Tryz.prog 37 #[pgV c s gen,pv] w (PgDone F P ad w c s G' l' (λ_ _ e=>e=.returned (.tuple #[.int .i64 (root:Int),.nilIface]))):=by
 obtain⟨X,hX⟩:∃X,X=w.heap.size:=⟨_,rfl⟩;obtain⟨w0,hw0⟩:∃w0,w0=w.alloc (.cells #[.pointer (some ⟨c,0,none⟩),.pointer (some ⟨s,0,none⟩),.int .u64 (gen:Int)] 31):=⟨_,rfl⟩;have m0:Ext w w0:=by rw[hw0];exact (Mods.refl _ w).alloc _
 have hN:=Nxt.ext hL hP m0;have hBX:Blk w0 X #[.pointer (some ⟨c,0,none⟩),.pointer (some ⟨s,0,none⟩),.int .u64 (gen:Int)] 31:=by rw[hw0,hX];exact Blk.new w _ _
 have HS0:Hid (EnS F P ad w w0 X c s gen pv ps G l (.slice none 0 0) []):=oh ⟨P,F,h.at m0,hN,hpv.ext m0,hBX,λhp=>by have:=h.bd _ hp;omega,LocR.nil _ _ _ _ _ _ _⟩;have HOK:=oh hp;have HXX:=oh hX;have HW0:=oh hw0;have HCT:=oh hc;have HCO:=oh hco;have HEV:=oh hL;obtain⟨Ge,le,es,hes,hlv⟩:∃Ge le es,entsP gen G l ps=.inl (Ge,le,es)∧(match downsP gen Ge le ((groupsG mkL ((G.size:Int)-24) es).map ptL) with
   | .inr k=>.inr k
   | .inl (G2,l2,ks)=>levelsP gen 64 G2 l2 ks)=(.inl (G',l',root):StA Nat):=by
  unfold loadP at hd;cases he:entsP gen G l ps with
  | inr k=>rw[he] at hd;cases hd
  | inl y =>
   obtain⟨G1,l1,es⟩:=y;rw[he] at hd;exact⟨G1,l1,es,rfl,hd⟩
 obtain⟨k1,k2,k3,k4,k5⟩:=ents_keep hc hp hes;have HKE:=oh (And.intro k1 (And.intro k2 (And.intro k3 (And.intro k4 k5))));have HES:=oh hes;obtain⟨Gd,ld,ks0,hdn,hlv2⟩:∃Gd ld ks,downsP gen Ge le ((groupsG mkL ((G.size:Int)-24) es).map ptL)=.inl (Gd,ld,ks)∧levelsP gen 64 Gd ld ks=.inl (G',l',root):=by
  cases he:downsP gen Ge le ((groupsG mkL ((G.size:Int)-24) es).map ptL) with
  | inr k=>rw[he] at hlv;cases hlv
  | inl y =>
   obtain⟨G1,l1,ks⟩:=y;rw[he] at hlv;exact⟨G1,l1,ks,rfl,hlv⟩
 have hgl:((groupsG mkL ((G.size:Int)-24) es).map ptL).length≤1000:=by rw[List.length_map];exact Nat.le_trans (groups_few mkL _ es) (by omega)
 have hgo:∀n∈(groupsG mkL ((G.size:Int)-24) es).map ptL,okPt n:=λn hn=>by
  obtain⟨g,hg,rfl⟩:=List.mem_map.1 hn;have:=hc.s256;have:=hc.s1024;exact smallE (λx hx=>k2 x (groups_mem mkL _ g hg x hx)) (groupsL_wt (by omega) (by omega) k2 g hg)
 have HGL:=oh (And.intro hgl hgo);have HDN:=oh hdn;have HLV:=oh hlv2;have hks0:(∀k∈ks0,keyB k.2=true)∧ks0.length≤1000∧Gd.size=G.size∧ld.length≤Gd.blocks∧Gd.cost≤820000:=by
  obtain⟨g1,g2,g3,g4,g5⟩:=downs_lim gen _ Ge le hdn;refine⟨λk hk=>?_,by omega,by omega,by rw[g3,g2];exact Nat.le_of_eq k1.len,by omega⟩;have hf:=downs_fst gen _ Ge le hdn;have:k.2∈((groupsG mkL ((G.size:Int)-24) es).map ptL).map (·.2):=by rw[← hf];exact List.mem_map_of_mem hk
  rw[List.map_map] at this;obtain⟨g,hg,he⟩:=List.mem_map.1 this;rw[← he];show keyB (firstG (·.key) g)=true;have hne:g≠[]:=by
   intro h0;subst h0;have hkeys:=fillG_ne mkL ((G.size:Int)-24) es [] (by simp);rcases evenG_cases mkL (z:=(G.size:Int)-24) (fillG mkL ((G.size:Int)-24) [] es) with e1|⟨r,a,b,e1,_,⟨_,e3⟩|⟨_,k,ek,e3⟩⟩
   ·unfold groupsG at hg;rw[e1] at hg;exact hkeys _ hg rfl
   ·unfold groupsG at hg;rw[e3] at hg;rcases List.mem_append.1 hg with hg|hg
    ·exact hkeys [] (by rw[e1];simp[hg]) rfl
    ·have ha:=hkeys a (by rw[e1];simp);simp only[List.mem_singleton] at hg;exact ha (List.append_eq_nil_iff.1 hg.symm).1
   ·unfold groupsG at hg;rw[e3] at hg;have hp:=cutAt_in ek;have q1:cutFrom (mkL (a++b))=1:=rfl;have q2:cutMany (mkL (a++b))=(a++b).length-1:=rfl;rcases List.mem_append.1 hg with hg|hg
    ·exact hkeys [] (by rw[e1];simp[hg]) rfl
    ·simp only[List.mem_cons,List.not_mem_nil,or_false] at hg;rcases hg with hg|hg
     ·have:=congrArg List.length hg;rw[List.length_take] at this;simp at this;simp at q2;omega
     ·have:=congrArg List.length hg;rw[List.length_drop] at this;simp at this;simp at q2;omega
  obtain⟨x,g,rfl⟩:=List.exists_cons_of_ne_nil hne;have:=k2 x (groups_mem mkL _ _ hg x List.mem_cons_self);unfold rightE at this;simp only[Bool.and_eq_true] at this;exact this.1
 have HK0:=oh hks0;have HSZ:Hid (232≤(G.size:Int)-24∧(G.size:Int)-24≤1000):=oh (by have:=hc.s256;have:=hc.s1024;omega);obtain⟨pa,pc,rfl,p1,p2,p3, -⟩:=hpv;unfold maxLen at p2;clear hL hP h m0 hN hBX hp hX hw0 hc hco hd hes hlv k1 k2 k3 k4 k5 hdn hlv2 hgl hgo hks0;unfold pgV
 go_enter Tryz.func37, Tryz.ntmps37
 go_wp2_with fail;rw[← HW0.out,← HXX.out];go_loopg [6,15] ps.length (λm v6 v15 wr=>∃(k:Nat) (G1:GA) (l1:List Nat) (es1:List EntryA) (ev:Value),k+m=ps.length∧ev=v6∧v15=.int .i64 (k:Int)∧Hid (entsP gen G l (ps.take k)=.inl (G1,l1,es1))∧Hid (EnS F P ad w wr X c s gen (.slice pa ps.length pc) ps G1 l1 ev es1))
 case atStart=>exact⟨0,G,l,[],_,by omega,rfl,rfl,oh rfl,HS0⟩
 case round =>
  obtain⟨k,G1,l1,es1,ev,hkm,rfl,rfl,HD1,HS⟩:=hrel;by_cases hlt:k<ps.length
  ·obtain⟨P1,F1,hG1,hN1,hS1,hB1,hPX,hLR⟩:=HS.out;obtain⟨x,hx⟩:∃x,x=ps[k]:=⟨_,rfl⟩;obtain⟨qb,qoff,hqa,hqF,hcc⟩:=hS1.elemF hlt;rw[← hx] at hcc;have d0:=hcc 0 (.string x.1) rfl;have d1:=hcc 1 (.string x.2) rfl;simp only[Nat.add_zero] at d0;subst hqa;obtain⟨eva,evc,rfl,ev1,ev2⟩:=hLR.1.form;obtain⟨wq,hwq⟩:∃wq,wq=wr.alloc (.cells #[.string x.1,.string x.2] 25):=⟨_,rfl⟩;have hrq:Ext wr wq:=by rw[hwq];exact (Mods.refl _ _).alloc _
   have b0':=(hB1.ext hrq).cell (o:=0) (v:=.pointer (some ⟨c,0,none⟩)) rfl;have b1':=(hB1.ext hrq).cell (o:=1) (v:=.pointer (some ⟨s,0,none⟩)) rfl;have b2':=(hB1.ext hrq).cell (o:=2) (v:=.int .u64 (gen:Int)) rfl;rw[hwq] at b0' b1' b2';have hpl:ps[k]? = some x:=by rw[List.getElem?_eq_getElem hlt,hx]
   have htk:ps.take (k+1)=ps.take k++[x]:=take_one ps k x hpl;obtain⟨G2,l2,ea,eb,t1,t2,t3⟩:=ents_split gen (ps.take (k+1)) (ps.drop (k+1)) G l (by rw[List.take_append_drop];exact HES.out);rw[htk] at t1;obtain⟨G3,l3,ec,ed,u1,u2,u3⟩:=ents_split gen (ps.take k) [x] G l t1;rw[HD1.out] at u1;injection u1 with u1;injection u1 with u1 u4;injection u4 with u4 u5;subst u1 u4 u5;obtain⟨en,i1,i4⟩:=ents_one u2;have HDN1:Hid (entsP gen G l (ps.take (k+1))=.inl (G2,l2,es1++[en])):=oh (by rw[htk,t1,u3,i4]);obtain⟨g1,g2,g3,g4,g5⟩:=ents_keep HCT.out (λy hy=>HOK.out y (List.mem_of_mem_take hy)) HD1.out;have hxo:=HOK.out x (List.mem_of_getElem? hpl);have HKL:Hid (es1.length≤1000):=oh (by rw[g5,List.length_take];omega);have HDA:=bentry_any (hN1.env.mods hrq.ext) hN1.sub (hG1.at hrq) gen hgen x.1 x.2 hxo.2 g1.low g1.len (by have:=HCO.out;rw[List.length_take] at g4;omega);rw[i1] at HDA;unfold pgV at HDA;have HDA:=oh HDA;have HNQ:=oh (hN1.trans (Nxt.ext hN1.env hN1.sub hrq));have HSQ:=oh (hS1.ext hrq);have HBQ:=oh (hB1.ext hrq);have HNB:=oh hPX;have HLQ:=oh (hLR.ext hrq);have HWQ:=oh hwq;have z1:(0:Int)≤(k:Int):=by omega
   have z2:(k:Int)<(ps.length:Int):=by omega
   clear hG1 hN1 hS1 hB1 hPX hLR hx hcc hrq hwq hpl htk t1 t2 t3 u2 u3 i1 i4 g1 g2 g3 g4 g5 hxo hqF;go_wp2_with fail;rw[← HWQ.out];refine HDA.out.mono ?_;rintro e4 w4 ⟨P4,F4,G4,l4,hG4,hN4,⟨en4,h4,rfl⟩|⟨_,_,_,_,h4,_⟩⟩
   ·injection h4 with h4;injection h4 with h4 h5;injection h5 with h5 h6;subst h4 h5 h6;obtain⟨wz,hwz⟩:∃wz,wz=(w4.alloc (.cells #[.string en.key,.string en.value,.int .i64 en.chain,.int .i64 en.size] 141)).alloc (.cells #[.string en.key,.string en.value,.int .i64 en.chain,.int .i64 en.size] 141):=⟨_,rfl⟩;have h4z:Ext w4 wz:=by rw[hwz];exact ((Mods.refl _ _).alloc _).alloc _
    have HN4:=oh ((HNQ.out.trans hN4).trans (Nxt.ext hN4.env hN4.sub h4z));have HG4:=oh (hG4.at h4z);have HS4:=oh ((hN4.sl HNQ.out.sub HSQ.out).ext h4z);have HB4:=oh ((hN4.blk HBQ.out HNB.out).ext h4z);have HP4:=oh (hN4.not HBQ.out.lt HNB.out);have HL4:=oh ((HLQ.out.nxt hN4).ext h4z);have HLB:Hid (Blk wz (w4.heap.size+1) #[.string en.key,.string en.value,.int .i64 en.chain,.int .i64 en.size] 141):=oh (by rw[hwz];exact heap_at (by simp));have HWZ:=oh hwz;clear hG4 hN4 h4z hwz;go_wp2_with (at_builtin;rw[← HWZ.out];refine wpl_app2 Tryz.elE encE_ok rfl _ _ rfl w.heap.size _ _ es1 [en] rfl rfl HL4.out.1 (Sl.one (F:=λ_=>False) (x:=en) (enc:=encE) (sz:=4) HLB.out (λf=>f)) (by have:=HKL.out;simp only[List.length_cons,List.length_nil];omega) (by have:=HN4.out.size;omega) (λf=>f) ?_;simp only[List.length_cons,List.length_nil,Nat.zero_add];intro a6 c6 w6 hO6 hm6 hat6);have happ:=HL4.out.app HN4.out (by simpa using hO6) hm6 hat6 (Nat.le_refl _);have HS6:Hid (EnS F P ad w w6 X c s gen (.slice (some ⟨qb,qoff,none⟩) ps.length pc) ps G2 l2 (.slice a6 (es1.length+1) c6) (es1++[en])):=oh ⟨P4,plusV F4 (.slice a6 (es1.length+1) c6),HG4.out.app HL4.out hm6 hat6 (Nat.le_refl _),happ.1,by
      refine HS4.out.step (hm6.mono (λk hk=>(HL4.out.2 k hk).1)) (λk hk hn hf=>?_);rcases hf with hf|hf
      ·exact hn hf
      ·rcases hat6 with e|e
       ·exact hn (HL4.out.2 k (e ▸ hf)).1
       ·rw[e] at hf;injection hf with hf;omega,HB4.out.mods hm6 (λhk=>HL4.out.1.notB HB4.out (by decide) _ hk rfl),HP4.out,happ.2⟩
    clear hO6 hm6 hat6 happ;go_wp2_with fail;go_roundg (gk-1)
    case measure=>omega
    case rel=>exact⟨k+1,G2,l2,es1++[en],_,by omega,rfl,by go_num,HDN1,HS6⟩
   ·cases h4
  ·have hk:k=ps.length:=by omega
   have hall:ps.take k=ps:=by rw[hk,List.take_length]
   have he:=HD1.out;rw[hall,HES.out] at he;injection he with he;injection he with e1 e2;injection e2 with e2 e3;subst e1 e2 e3;clear hall hk HD1;obtain⟨P1,F1,hG1,hN1,hS1,hB1,hPX,hLR⟩:=HS.out;have hsub:∀k,(F k∨P1 k)→F1 k:=λk hk=>hk.elim (hN1.grow k) (hN1.sub k)
   have hE1:Env (λk=>F k∨P1 k) ad wr:=hN1.env.anti hsub;have hG2:=hG1.anti hsub;have hSE:Sl (λk=>F k∨P1 k) wr 4 encE ev es:=Own.sl (F:=λk=>F k∨P1 k) ⟨hLR.1.1,λg hg hf=>hf.elim (λhf=>by have h1:=(hLR.1.lt g hg).1;have h2:=HEV.out.lt g hf;omega) (λhp=>(hLR.2 g hg).2 hp)⟩ encE_ok.len (by have:=HKE.out.2.2.2.2;omega);obtain⟨eva,evc,rfl,ev1,ev2⟩:=hLR.1.form;have HLV1:Hid (∀W,Ext wr W → Calls Tryz.prog 68 #[pgV c s gen,.slice eva es.length evc] W λe w'=>∃v,e=.returned v∧PtsO w' W.heap.size v ((groupsG mkL ((G.size:Int)-24) es).map ptL)∧Ext W w'):=oh (λW m=>by
    have:=bleaves_any (hE1.mods m.ext) (hG2.at m) gen (by have:=HSZ.out;have:=HKE.out.2.2.1;omega) _ es (hSE.ext m) HKE.out.2.1 (by have:=HKE.out.2.2.2.2;omega);rw[HKE.out.2.2.1] at this;exact this)
   have HDW1:Hid (∀(W W2:World) (v:Value),Ext wr W→PtsO W2 W.heap.size v ((groupsG mkL ((G.size:Int)-24) es).map ptL)→Ext W W2 → Calls Tryz.prog 67 #[pgV c s gen,v] W2 (PgDone (λk=>F k∨P1 k) P1 ad W2 c s Gd ld (λF' w' e=>∃kv,e=.returned (.tuple #[kv,.nilIface])∧Sl F' w' 2 encKd kv ks0))):=oh (λW W2 v m hv m2=>by
    obtain⟨xs,hx⟩:=ptsS_of hv (hE1.mods m.ext) HGL.out.2 (by have:=HGL.out.1;omega);exact down15_any ((hE1.mods m.ext).mods m2.ext) (λk hk=>.inr hk) ((hG2.at m).at m2) gen hgen (Nat.le_of_eq HKE.out.1.len) v xs _ hx HGL.out.2 (by have:=HGL.out.1;omega) (by have:=HGL.out.1;have:=HKE.out.2.2.2.1;have:=HCO.out;omega) ks0 HDN.out)
   have b0:=hB1.cell (o:=0) (v:=.pointer (some ⟨c,0,none⟩)) rfl;have b1:=hB1.cell (o:=1) (v:=.pointer (some ⟨s,0,none⟩)) rfl;have b2:=hB1.cell (o:=2) (v:=.int .u64 (gen:Int)) rfl;have HN1:=oh hN1.least;have HB1:=oh hB1;have HPX:=oh hPX;have xd:=(Mods.refl (λ_=>False) wr).drew;unfold pgV at HLV1 HDW1;clear hsub hE1 hG1 hG2 hSE hN1 hS1 hB1 hPX hLR;go_wp2_with fail;go_region_held3 (λw'=>w'.cell? ⟨X,0,none⟩=some (.pointer (some ⟨c,0,none⟩))∧w'.cell? ⟨X,1,none⟩=some (.pointer (some ⟨s,0,none⟩))∧w'.cell? ⟨X,2,none⟩=some (.int .u64 (gen:Int)))
    (first|(with_reducible exact⟨b0,b1,b2⟩)|(with_reducible exact⟨y0,y1,y2⟩)|(with_reducible exact⟨z0,z1,z2⟩)|go_keep)
    (first
     | (go_at_call 68;(with_reducible refine (HLV1.out _ xd).mono ?_);rintro e w5 ⟨v5,rfl,hO5,hm5⟩;have y0:=cellE (w:=wr.drew) hm5 b0;have y1:=cellE (w:=wr.drew) hm5 b1;have y2:=cellE (w:=wr.drew) hm5 b2)
     | (go_at_call 67;(with_reducible refine (HDW1.out _ _ _ xd hO5 hm5).mono ?_);rintro e w6 ⟨P6,F6,hG6,hN6,kv6,rfl,hs6⟩;have z0:=cellQ hN6.stp.mods y0 HPX.out;have z1:=cellQ hN6.stp.mods y1 HPX.out;have z2:=cellQ hN6.stp.mods y2 HPX.out)
     | fail)
   have hx5:=xd.trans hm5;have HS6:Hid (LvS2 F P ad w w6 X c s gen Gd ld kv6 ks0):=oh ⟨P6,F6,hG6,(HN1.out.trans (Nxt.ext HN1.out.env HN1.out.sub hx5)).trans hN6,hN6.blk (HB1.out.ext hx5) HPX.out,hN6.not (HB1.out.ext hx5).lt HPX.out,hs6⟩;clear b0 b1 b2 y0 y1 y2 z0 z1 z2 hO5 hm5 hG6 hN6 hs6 hx5 xd;go_wp2_with fail;obtain⟨wo,rfl⟩:∃wo:World,wo=wr:=⟨_,rfl⟩;go_loopg [11,12] 64 (λf v11 v12 wr=>∃(G1:GA) (l1:List Nat) (ks1:List KidA) (kv:Value),kv=v11∧v12=.nilIface∧Hid (f≤64∧levelsP gen f G1 l1 ks1=.inl (G',l',root)∧(∀k∈ks1,keyB k.2=true)∧ks1.length≤1000∧G1.size=G.size∧l1.length≤G1.blocks∧G1.cost+1000 * f≤900000)∧Hid (LvS2 F P ad w wr X c s gen G1 l1 kv ks1))
   case atStart=>exact⟨Gd,ld,ks0,_,rfl,rfl,oh ⟨by omega,HLV.out,HK0.out.1,HK0.out.2.1,HK0.out.2.2.1,HK0.out.2.2.2.1,by have:=HK0.out.2.2.2.2;omega⟩,HS6⟩
   case round =>
    obtain⟨G1,l1,ks1,kv,rfl,rfl,HI,HS2⟩:=hrel;obtain⟨P1,F1,hG1,hN1,hB1,hPX,hSK⟩:=HS2.out;obtain⟨ka,kc,rfl,kq1,kq2,kq3, -⟩:=id hSK;unfold maxLen at kq2;obtain⟨hf64,hlv,hkb,hkl,hgs,hgl1,hgc⟩:=HI.out;match ks1,hlv,hkb,hkl,hSK,HS2,kq1,kq2,kq3,HI with
    | [],hlv,hkb,hkl,hSK,HS2,kq1,kq2,kq3,HI =>
     have hfin:G1=G'∧l1=l'∧0=root:=by
      cases gk with
      | zero=>cases hlv
      | succ f =>
       rw[levelsP] at hlv;injection hlv with hlv;injection hlv with e1 e2;injection e2 with e2 e3;exact⟨e1,e2,e3⟩
     obtain⟨rfl,rfl,rfl⟩:=hfin;have HFIN:Hid (PgR F1 wr P1 c s G1 l1∧Nxt P P1 F F1 ad w wr):=oh ⟨hG1,hN1⟩;simp only[List.length_nil];clear hG1 hN1 hB1 hPX hSK hlv hkb hkl hgs hgl1 hgc hf64 kq1 kq2 kq3;go_wp2_with fail;refine bodyPost_ret (v:=.tuple #[.int .i64 0,.nilIface]) (by simp[results,Tryz.results37,go_sem]) rfl ?_;exact⟨P1,F1,HFIN.out.1,HFIN.out.2,rfl⟩
    | [k1],hlv,hkb,hkl,hSK,HS2,kq1,kq2,kq3,HI =>
     have hfin:G1=G'∧l1=l'∧k1.1=root:=by
      cases gk with
      | zero=>cases hlv
      | succ f =>
       rw[levelsP] at hlv;injection hlv with hlv;injection hlv with e1 e2;injection e2 with e2 e3;exact⟨e1,e2,e3⟩
     obtain⟨rfl,rfl,rfl⟩:=hfin;obtain⟨qb,qoff,hqa,hqF,hcc⟩:=hSK.elemF (k:=0) (by simp);have d0:=hcc 0 (.int .i64 (k1.1:Int)) rfl;simp only[Nat.zero_mul,Nat.add_zero] at d0;subst hqa;have HFIN:Hid (PgR F1 wr P1 c s G1 l1∧Nxt P P1 F F1 ad w wr):=oh ⟨hG1,hN1⟩;simp only[List.length_cons,List.length_nil];clear hG1 hN1 hB1 hPX hSK hlv hkb hkl hgs hgl1 hgc hf64 kq1 kq2 kq3 hcc hqF;go_wp2_with fail;refine bodyPost_ret (v:=.tuple #[.int .i64 (k1.1:Int),.nilIface]) (by simp[results,Tryz.results37,go_sem]) rfl ?_;exact⟨P1,F1,HFIN.out.1,HFIN.out.2,rfl⟩
    | k1 :: k2 :: kr,hlv,hkb,hkl,hSK,HS2,kq1,kq2,kq3,HI =>
     obtain⟨kk,hkk⟩:∃kk,kk=k1 :: k2 :: kr:=⟨_,rfl⟩;obtain⟨f,hf⟩:∃f,gk=f+1:=by
      cases gk with
      | zero=>cases hlv
      | succ f=>exact⟨f,rfl⟩
     rw[hf,levelsP,← hkk,hgs] at hlv;have hk2:2≤kk.length:=by rw[hkk];simp
     rw[← hkk] at hkb hkl hSK kq1 kq3 ⊢;obtain⟨G2,l2,ks2,hdn,hlv2⟩:∃G2 l2 ks2,downsP gen G1 l1 ((groupsG mkI ((G.size:Int)-24) kk).map ptI)=.inl (G2,l2,ks2)∧levelsP gen f G2 l2 ks2=.inl (G',l',root):=by
      cases he:downsP gen G1 l1 ((groupsG mkI ((G.size:Int)-24) kk).map ptI) with
      | inr k =>
       have:downsP gen G1 l1 ((groupsG mkI ((G.size:Int)-24) kk).map λg=>(mkI g,firstG (·.2) g))=.inr k:=he;rw[this] at hlv;cases hlv
      | inl y =>
       obtain⟨Ga,la,ksa⟩:=y;have:downsP gen G1 l1 ((groupsG mkI ((G.size:Int)-24) kk).map λg=>(mkI g,firstG (·.2) g))=.inl (Ga,la,ksa):=he;rw[this] at hlv;exact⟨Ga,la,ksa,rfl,hlv⟩
     have hgl:((groupsG mkI ((G.size:Int)-24) kk).map ptI).length≤1000:=by rw[List.length_map];exact Nat.le_trans (groups_few mkI _ kk) hkl
     have hgo:∀n∈(groupsG mkI ((G.size:Int)-24) kk).map ptI,okPt n:=λn hn=>by
      obtain⟨g,hg,rfl⟩:=List.mem_map.1 hn;exact smallI (λx hx=>hkb x (groups_mem mkI _ g hg x hx)) (groupsI_wt HSZ.out.1 HSZ.out.2 hkb g hg)
     obtain⟨g1,g2,g3,g4,g5⟩:=downs_lim gen _ G1 l1 hdn;have hkb2:∀k∈ks2,keyB k.2=true:=λk hk=>by
      have hfst:=downs_fst gen _ G1 l1 hdn;have:k.2∈((groupsG mkI ((G.size:Int)-24) kk).map ptI).map (·.2):=by rw[← hfst];exact List.mem_map_of_mem hk
      rw[List.map_map] at this;obtain⟨g,hg,he⟩:=List.mem_map.1 this;rw[← he];show keyB (firstG (·.2) g)=true;obtain⟨x,g',rfl⟩:=List.exists_cons_of_ne_nil (groups_neI hk2 HSZ.out.1 g hg);exact hkb x (groups_mem mkI _ _ hg x List.mem_cons_self)
     have HI2:Hid (f≤64∧levelsP gen f G2 l2 ks2=.inl (G',l',root)∧(∀k∈ks2,keyB k.2=true)∧ks2.length≤1000∧G2.size=G.size∧l2.length≤G2.blocks∧G2.cost+1000 * f≤900000):=oh ⟨by omega,hlv2,hkb2,by omega,by omega,by omega,by omega⟩;have HAB:Hid (∀W,Ext wr W → Calls Tryz.prog 69 #[pgV c s gen,.slice ka kk.length kc] W λe w'=>∃v,e=.returned v∧PtsO w' W.heap.size v ((groupsG mkI ((G.size:Int)-24) kk).map ptI)∧Ext W w'):=oh (λW m=>by
      have:=babove_any (hN1.env.mods m.ext) (hG1.at m) gen (by have:=HSZ.out;omega) _ kk (hSK.ext m) hkb (by omega);rw[hgs] at this;exact this)
     have HDW2:Hid (∀(W W2:World) (v:Value),Ext wr W→PtsO W2 W.heap.size v ((groupsG mkI ((G.size:Int)-24) kk).map ptI)→Ext W W2 → Calls Tryz.prog 67 #[pgV c s gen,v] W2 (PgDone F1 P1 ad W2 c s G2 l2 (λF' w' e=>∃kv,e=.returned (.tuple #[kv,.nilIface])∧Sl F' w' 2 encKd kv ks2))):=oh (λW W2 v m hv m2=>by
      obtain⟨xs,hx⟩:=ptsS_of hv (hN1.env.mods m.ext) hgo (by omega);exact down15_any ((hN1.env.mods m.ext).mods m2.ext) hN1.sub ((hG1.at m).at m2) gen hgen hgl1 v xs _ hx hgo (by omega) (by omega) ks2 hdn)
     have b0:=hB1.cell (o:=0) (v:=.pointer (some ⟨c,0,none⟩)) rfl;have b1:=hB1.cell (o:=1) (v:=.pointer (some ⟨s,0,none⟩)) rfl;have b2:=hB1.cell (o:=2) (v:=.int .u64 (gen:Int)) rfl;have HN1:=oh hN1;have HB1:=oh hB1;have HPX:=oh hPX;have xd:=(Mods.refl (λ_=>False) wr).drew;have hgt:(1:Int)<(kk.length:Int):=by omega
     unfold pgV at HAB HDW2;clear hG1 hN1 hB1 hPX hSK hlv hkb hkl hgs hgl1 hgc hf64 hkk hdn hlv2 hgl hgo g1 g2 g3 g4 g5 hkb2 hk2;go_wp2_with fail;go_region_held3 (λw'=>w'.cell? ⟨X,0,none⟩=some (.pointer (some ⟨c,0,none⟩))∧w'.cell? ⟨X,1,none⟩=some (.pointer (some ⟨s,0,none⟩))∧w'.cell? ⟨X,2,none⟩=some (.int .u64 (gen:Int)))
      (first|(with_reducible exact⟨b0,b1,b2⟩)|(with_reducible exact⟨y0,y1,y2⟩)|(with_reducible exact⟨z0,z1,z2⟩)|go_keep)
      (first
       | (go_at_call 69;(with_reducible refine (HAB.out _ xd).mono ?_);rintro e w5 ⟨v5,rfl,hO5,hm5⟩;have y0:=cellE (w:=wr.drew) hm5 b0;have y1:=cellE (w:=wr.drew) hm5 b1;have y2:=cellE (w:=wr.drew) hm5 b2)
       | (go_at_call 67;(with_reducible refine (HDW2.out _ _ _ xd hO5 hm5).mono ?_);rintro e w6 ⟨P6,F6,hG6,hN6,kv6,rfl,hs6⟩;have z0:=cellQ hN6.stp.mods y0 HPX.out;have z1:=cellQ hN6.stp.mods y1 HPX.out;have z2:=cellQ hN6.stp.mods y2 HPX.out)
       | fail)
     have hx5:=xd.trans hm5;have HS6:Hid (LvS2 F P ad w w6 X c s gen G2 l2 kv6 ks2):=oh ⟨P6,F6,hG6,(HN1.out.trans (Nxt.ext HN1.out.env HN1.out.sub hx5)).trans hN6,hN6.blk (HB1.out.ext hx5) HPX.out,hN6.not (HB1.out.ext hx5).lt HPX.out,hs6⟩;clear b0 b1 b2 y0 y1 y2 z0 z1 z2 hO5 hm5 hG6 hN6 hs6 hx5 xd;go_wp2_with fail;go_roundg (gk-1)
     case measure=>omega
     case rel=>exact⟨G2,l2,ks2,_,rfl,rfl,by rw[show gk-1=f by omega];exact HI2,HS6⟩
end
def risesB:ByteArray→List ByteArray→Bool
 | _,[]=>true
 | last,k :: l=>if keyB k=true∧ltS last k=true then risesB k l else false
theorem risesB_all:∀(l:List ByteArray) (last:ByteArray),(∀k∈l,keyB k=true)→(∀k∈l,ltS last k=true)→(l.Pairwise λa b=>ltS a b=true)→risesB last l=true
 | [],_,_,_,_=>rfl
 | k :: l,last,h1,h2,h3=>by
  have h4:=List.pairwise_cons.1 h3;rw[risesB,if_pos ⟨h1 k List.mem_cons_self,h2 k List.mem_cons_self⟩];exact risesB_all l k (λx hx=>h1 x (List.mem_cons_of_mem _ hx)) h4.1 h4.2
theorem e0_lt{k:ByteArray}(h:keyB k=true):ltS e0 k=true:=by
 have h1:=(keyB_iff k).1 h;have h2:k≠e0:=λe=>by rw[e] at h1;exact absurd h1.1 (by decide)
 rcases ltS_tri e0 k with h|h|h
 ·exact h
 ·exact absurd h.symm h2
 ·unfold ltS at h;rw[show e0.toList=[] from by simp[ByteArray.toList_eq]] at h;cases hk:k.toList <;> rw[hk] at h <;> simp[Op.bytesLess] at h
def checkL(l:List PairS):Option Err:=if risesB e0 (l.map (·.1))=false then some ([-1],1) else if l.any (λx=>decide (4096<x.2.size))=true then some ([-1],8) else none
theorem checkL_ok{l:List PairS}(h1:SortedP l)(h2:PairsOk l):checkL l=none:=by
 unfold checkL;rw[if_neg,if_neg]
 ·simp only[List.any_eq_true,decide_eq_true_eq,not_exists,not_and];intro x hx;have:=(h2 x hx).2;omega
 ·rw[risesB_all _ e0 (λk hk=>by obtain⟨x,hx,rfl⟩:=List.mem_map.1 hk;exact (h2 x hx).1) (λk hk=>by obtain⟨x,hx,rfl⟩:=List.mem_map.1 hk;exact e0_lt (h2 x hx).1) (List.pairwise_map.2 h1)];simp
section
variable {P P' F F':Nat→Prop}{ad:Nat→Addr}{w w':World}{c s:Nat}{G:GA}{l:List Nat}
theorem bready_ok(op:ByteArray)(gen:Nat) : Calls Tryz.prog 39 #[.string op,pgV c s gen] w λe w'=>e=.returned .nilIface∧Ext w w':=by
 unfold pgV;have m0:Ext w (w.alloc (.cells #[.pointer (some ⟨c,0,none⟩),.pointer (some ⟨s,0,none⟩),.int .u64 (gen:Int)] 31)):=(Mods.refl _ w).alloc _;have M0:=oh m0;clear m0
 go_enter Tryz.func39, Tryz.ntmps39
 go_wp2_with fail;go_ret;exact⟨rfl,M0.out⟩
theorem bready_nil(hL:Env F ad w)(op:ByteArray)(sp:Option Addr)(gen:Nat) : Calls Tryz.prog 39 #[.string op,.agg #[.pointer none,.pointer sp,.int .u64 (gen:Int)]] w λe w'=>∃f,e=.returned (faultV f)∧ErrC F ad w' (faultV f) [-1] 7∧Ext w w':=by
 have m0:Ext w (w.alloc (.cells #[.pointer none,.pointer sp,.int .u64 (gen:Int)] 31)):=(Mods.refl _ w).alloc _;have hL0:=hL.mods m0.ext;have g2:=hL0.c7;have HL:=oh hL0;have M0:=oh m0;clear hL hL0 m0
 go_enter Tryz.func39, Tryz.ntmps39
 go_wp2_with fail;refine (new_any HL.out _ _ [] 7 (.sent 7 (by decide) (by decide))).mono ?_;rintro e w1 ⟨f,rfl,hE,hm⟩;have HE:=oh hE;have HM:=oh hm;clear hE hm;go_wp2_with fail;go_ret;exact⟨f,rfl,HE.out,M0.out.trans HM.out⟩
theorem bcheck1_any(k v:ByteArray) : Calls Tryz.prog 65 #[.agg #[.string k,.string v]] w λe w'=>e=.returned (.string k)∧Ext w w':=by
 have m0:Ext w (w.alloc (.cells #[.string k,.string v] 25)):=(Mods.refl _ w).alloc _;have M0:=oh m0;clear m0
 go_enter Tryz.func65, Tryz.ntmps65
 go_wp2_with fail;go_ret;exact⟨rfl,M0.out⟩
theorem brisingP_any(l:List PairS)(lv:Value)(hl:Sl F w 2 encP lv l) :
  Calls Tryz.prog 64 #[lv,.func (.func 65) #[] #[]] w λe w'=>e=.returned (.bool (risesB e0 (l.map (·.1))))∧Ext w w':=by
 have HL:=oh hl;obtain⟨la,lc,rfl,h1,h2,h3, -⟩:=hl;unfold maxLen at h2
 go_enter Tryz.func64, Tryz.ntmps64
 go_wp2_with fail;go_loopg [5,10] l.length (λm v5 v10 wr=>∃(k:Nat) (last:ByteArray),k+m=l.length∧v5=.string last∧v10=.int .i64 (k:Int)∧Hid (risesB last ((l.drop k).map (·.1))=risesB e0 (l.map (·.1))∧Ext w wr))
 case atStart=>exact⟨0,e0,by omega,rfl,rfl,oh ⟨rfl,Mods.refl _ _⟩⟩
 case round =>
  obtain⟨k,last,hkm,rfl,rfl,HR⟩:=hrel;by_cases hlt:k<l.length
  ·obtain⟨qb,qoff,hqa,hc⟩:=HL.out.elem hlt HR.out.2;have c0:=hc 0 (.string l[k].1) rfl;have c1:=hc 1 (.string l[k].2) rfl;simp only[Nat.add_zero] at c0;subst hqa;have hdr:l.drop k=l[k] :: l.drop (k+1):=List.drop_eq_getElem_cons hlt;obtain⟨x,hx⟩:∃x,x=l[k]:=⟨_,rfl⟩;obtain⟨key,v⟩:=x;rw[← hx] at c0 c1 hdr;simp only at c0 c1;have HRB:Hid (risesB e0 (l.map (·.1))=if keyB key=true∧ltS last key=true then risesB key ((l.drop (k+1)).map (·.1)) else false):=oh (by rw[← HR.out.1,hdr,List.map_cons,risesB]);have i1:(0:Int)≤(k:Int):=by omega
   have i2:(k:Int)<(l.length:Int):=by omega
   have HX:Hid (∀W,Ext wr W→Ext w W):=oh (λW m=>HR.out.2.trans m);have m0:Ext wr (wr.alloc (.cells #[.string key,.string v] 25)):=(Mods.refl _ wr).alloc _;have HC:=λW=>bcheck1_any (w:=W) key v
   have HC:=oh HC;have HK:=oh (key_any key);have hB:=Blk.new wr #[.string key,.string v] 25;have HBX:=oh hB;have HM0:=oh m0;clear hc hdr hx m0 hB;go_wp2_with fail;refine (HC.out _).mono ?_;rintro e w3 ⟨rfl,hm3⟩;have hB3:=HBX.out.ext hm3;have b0:=hB3.cell (o:=0) rfl;have b1:=hB3.cell (o:=1) rfl;have HM3:=oh (HM0.out.trans hm3);have HB3:=oh hB3;clear hm3 hB3;go_wp2_with fail;refine (HK.out _).mono ?_;rintro e w4 ⟨rfl,rfl⟩;cases hk:keyB key with
   | false =>
    have HF:Hid (risesB e0 (l.map (·.1))=false):=oh (by rw[HRB.out,if_neg (by rw[hk];simp)]);clear hk;go_wp2_with fail;go_ret;exact⟨by rw[HF.out];rfl,HX.out _ HM3.out⟩
   | true =>
    have HKY:=oh hk;clear hk;go_wp2_with fail;refine (HC.out _).mono ?_;rintro e w5 ⟨rfl,hm5⟩;have hB5:=HB3.out.ext hm5;have b0:=hB5.cell (o:=0) rfl;have b1:=hB5.cell (o:=1) rfl;have HM5:=oh (HM3.out.trans hm5);clear hm5 hB5;cases ht:ltS last key with
    | false =>
     have HF:Hid (risesB e0 (l.map (·.1))=false):=oh (by rw[HRB.out,if_neg (by rw[ht];simp)]);have hle:(Op.bytesLess key.toList last.toList || key.toList == last.toList)=true:=by
      rcases ltS_tri last key with h|h|h
      ·rw[h] at ht;cases ht
      ·rw[h];simp
      ·unfold ltS at h;rw[h];rfl
     clear ht;go_wp2_with fail;go_ret;exact⟨by rw[HF.out];rfl,HX.out _ HM5.out⟩
    | true =>
     have HT:Hid (risesB key ((l.drop (k+1)).map (·.1))=risesB e0 (l.map (·.1))):=oh (by rw[HRB.out,if_pos ⟨HKY.out,ht⟩]);have hb1:Op.bytesLess key.toList last.toList=false:=by have:=ltS_asymm ht;unfold ltS at this;exact this
     have hb2:(key.toList == last.toList)=false:=beq_eq_false_iff_ne.2 (λe=>ltS_ne ht (toList_inj e).symm);clear ht;go_wp2_with fail;refine (HC.out _).mono ?_;rintro e w6 ⟨rfl,hm6⟩;have HM6:=oh (HM5.out.trans hm6);clear hm6;go_wp2_with fail;go_roundg (gk-1)
     case measure=>omega
     case rel=>exact⟨k+1,key,by omega,rfl,by go_num,oh ⟨HT.out,HX.out _ HM6.out⟩⟩
  ·have hk:k=l.length:=by omega
   have HE:Hid (risesB e0 (l.map (·.1))=true):=oh (by rw[← HR.out.1,hk,List.drop_length];rfl);go_wp2_with fail;go_ret;exact⟨by rw[HE.out];rfl,HR.out.2⟩
theorem bcheck_any(hL:Env F ad w)(gen:Nat)(l:List PairS)(lv:Value)(hl:Sl F w 2 encP lv l)(hfu:Full ad∨checkL l=none) :
  Calls Tryz.prog 36 #[pgV c s gen,lv] w λe w'=>∃ev,e=.returned ev∧ErrR F ad w' ev (checkL l)∧Ext w w':=by
 have HRD:=λW=>bready_ok (c:=c) (s:=s) (w:=W) ⟨#[98,117,108,107,46,76,111,97,100]⟩ gen
 unfold pgV at HRD ⊢;have HRD:=oh HRD;have HL:=oh hL;have HSL:=oh hl;have HFU:=oh hfu;have HRS:=oh (λW (m:Ext w W)=>brisingP_any l lv (hl.ext m));obtain⟨la,lc,rfl,h1,h2,h3, -⟩:=hl;unfold maxLen at h2;have HM0:=oh ((Mods.refl (λ_=>False) w).alloc (.cells #[.pointer (some ⟨c,0,none⟩),.pointer (some ⟨s,0,none⟩),.int .u64 (gen:Int)] 31));clear hL hfu
 go_enter Tryz.func36, Tryz.ntmps36
 go_wp2_with fail;refine (HRD.out _).mono ?_;rintro e w1 ⟨rfl,hm1⟩;have HM1:=oh (HM0.out.trans hm1);clear hm1;go_wp2_with fail;refine (HRS.out _ HM1.out).mono ?_;rintro e w2 ⟨rfl,hm2⟩;have HM2:=oh (HM1.out.trans hm2);have hL2:=HL.out.mods HM2.out.ext;have HL2:=oh hL2;cases hr:risesB e0 (l.map (·.1)) with
 | false =>
  have HC:Hid (checkL l=some ([-1],1)):=oh (by unfold checkL;rw[if_pos hr]);have g1:=hL2.c1;clear hL2 hm2 hr;go_wp2_with fail;refine (new_any HL2.out _ _ [] 1 (.sent 1 (by decide) (by decide))).mono ?_;rintro e w3 ⟨f,rfl,hE,hm⟩;have HE:=oh hE;have HM:=oh hm;clear hE hm;go_wp2_with fail;go_ret;exact⟨_,rfl,by rw[HC.out];exact⟨f,rfl,HE.out⟩,HM2.out.trans HM.out⟩
 | true =>
  have HR:=oh hr;clear hL2 hm2 hr;go_wp2_with fail;go_loopg [20] l.length (λm v20 wr=>∃(k:Nat),k+m=l.length∧v20=.int .i64 (k:Int)∧Hid ((∀x∈l.take k,x.2.size≤4096)∧Ext w wr))
  case atStart=>exact⟨0,by omega,rfl,oh ⟨by simp,HM2.out⟩⟩
  case round =>
   obtain⟨k,hkm,rfl,HS⟩:=hrel;by_cases hlt:k<l.length
   ·obtain⟨qb,qoff,hqa,hc⟩:=HSL.out.elem hlt HS.out.2;have c0:=hc 0 (.string l[k].1) rfl;have c1:=hc 1 (.string l[k].2) rfl;simp only[Nat.add_zero] at c0;subst hqa;have i1:(0:Int)≤(k:Int):=by omega
    have i2:(k:Int)<(l.length:Int):=by omega
    have HM3:=oh (HS.out.2.alloc (.cells #[.string l[k].1,.string l[k].2] 25));by_cases hv:4096<l[k].2.size
    ·have HC:Hid (checkL l=some ([-1],8)):=oh (by
      unfold checkL;rw[if_neg (by rw[HR.out];simp),if_pos];rw[List.any_eq_true];exact⟨l[k],List.getElem_mem hlt,decide_eq_true hv⟩)
     have hv2:(4096:Int)<(l[k].2.size:Int):=by omega
     have hL3:=HL.out.mods HM3.out.ext;have g8:=hL3.c8 (HFU.out.resolve_right (by rw[HC.out];simp));have HL3:=oh hL3;clear hL3 hc;go_wp2_with fail;refine (new_any HL3.out _ _ [] 8 (.sent 8 (by decide) (by decide))).mono ?_;rintro e w3 ⟨f,rfl,hE,hm⟩;have HE:=oh hE;have HM:=oh hm;clear hE hm;go_wp2_with fail;go_ret;exact⟨_,rfl,by rw[HC.out];exact⟨f,rfl,HE.out⟩,HM3.out.trans HM.out⟩
    ·have hv2:¬ (4096:Int)<(l[k].2.size:Int):=by omega
     have HV:Hid (∀x∈l.take (k+1),x.2.size≤4096):=oh (λx hx=>by
      rw[take_one l k l[k] (by simp[hlt])] at hx;rcases List.mem_append.1 hx with hx|hx
      ·exact HS.out.1 x hx
      ·rw[List.mem_singleton.1 hx];omega)
     clear hc hv;go_wp2_with fail;go_roundg (gk-1)
     case measure=>omega
     case rel=>exact⟨k+1,by omega,by go_num,oh ⟨HV.out,HM3.out⟩⟩
   ·have hk:k=l.length:=by omega
    have HC:Hid (checkL l=none):=oh (by
     unfold checkL;rw[if_neg (by rw[HR.out];simp),if_neg];rw[List.any_eq_true];rintro⟨x,hx,h⟩;rw[decide_eq_true_eq] at h;have:=HS.out.1 x (by rw[hk,List.take_length];exact hx);omega)
    go_wp2_with fail;go_ret;exact⟨_,rfl,by rw[HC.out];rfl,HS.out.2⟩
end
end
end Go.Proofs.YtchklfmggpconaaGreatDoor
