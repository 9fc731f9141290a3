import Derived.Test.YtchklfmggpconaaGreatDoorK41
import Derived.Deep.RegionHeld3
import Derived.Test.YtchklfmggpconaaGreatDoorK39
namespace Go.Proofs.YtchklfmggpconaaGreatDoor
open Lib renaming hid→oh
set_option maxHeartbeats 4000000
set_option maxRecDepth 100000
open Go.RowKit
attribute [local go_sem ↓] Go.wp_at_zero Go.wp_at_succ
def seekB(G:GA)(root:Int)(key:ByteArray):StC ⊕ Err:=if boundB key=true then seekA G root key else .inr ([-1],2)
section
variable {F P P' F' P1 F1:Nat→Prop}{ad:Nat→Addr}{w w' w0 w1:World}{base c s gen kb:Nat}{root:Int}{G G':GA}{l l':List Nat}{sv sv':Value}{st st':List FrE}{x:FrE}
theorem seekB_any(key:ByteArray)(h:CuI F P ad w base c s gen kb root G l sv st)(ht:G.total) :
  Calls Tryz.prog 84 #[.pointer (some ⟨kb,0,none⟩),.string key] w (CuF F P ad w base c s gen kb root G l sv (seekB G root key)):=by
 have HB:=oh (bound_any key w);cases hb:boundB key with
 | true =>
  have HC:=oh (seek_any key h ht);have HV:Hid (seekB G root key=seekA G root key):=oh (by unfold seekB;rw[if_pos hb]);rw[hb] at HB;clear h ht hb
  go_enter Tryz.func84, Tryz.ntmps84
  go_wp2_with fail;refine (HB.out).mono ?_;rintro e w1 ⟨rfl,rfl⟩;go_wp2_with fail;refine (HC.out).mono ?_;rintro e w1 hd;cases hr:seekA G root key with
  | inl sa =>
   rw[hr] at hd;obtain⟨P1,F1,sv1,st1,h1,n1,rfl,hsa⟩:=hd;have H1:=oh h1;have N1:=oh n1;have HS:=oh hsa;have HR:=oh hr;clear h1 n1 hsa hr;go_wp2_with fail;refine (fail_nil _ _).mono ?_;rintro e w2 ⟨rfl,rfl⟩;go_wp2_with fail;go_ret;refine⟨P1,F1,sv1,st1,H1.out,N1.out,?_⟩;rw[HV.out,HR.out];exact⟨rfl,HS.out⟩
  | inr er =>
   obtain⟨el,ek⟩:=er;rw[hr] at hd;obtain⟨P1,F1,sv1,st1,h1,n1,f,rfl,hE⟩:=hd;have HF:=oh (λop=>fail_err op h1 hE);have N1:=oh n1;have HR:=oh hr;clear h1 n1 hE hr;go_wp2_with fail;refine (HF.out _).mono ?_;rintro e w2 ⟨f2,h2,n2,rfl,hE2⟩;have H2:=oh h2;have N2:=oh (N1.out.trans n2);have HE2:=oh hE2;clear h2 n2 hE2;go_wp2_with fail;go_ret;refine⟨P1,F1,_,[],H2.out,N2.out,?_⟩;rw[HV.out,HR.out];exact⟨rfl,f2,rfl,HE2.out⟩
 | false =>
  have HV:Hid (seekB G root key=.inr ([-1],2)):=oh (by unfold seekB;rw[if_neg (by rw[hb];simp)]);have c2:=h.env.c2;have H:=oh h;rw[hb] at HB;clear h ht hb
  go_enter Tryz.func84, Tryz.ntmps84
  go_wp2_with fail;refine (HB.out).mono ?_;rintro e w1 ⟨rfl,rfl⟩;go_wp2_with fail;refine (new_any H.out.env _ _ [] 2 (.sent 2 (by decide) (by decide))).mono ?_;rintro e w1 ⟨f,rfl,hE,hm⟩;have H1:=oh (H.out.ext hm);have HF:=oh (λop=>fail_err op H1.out.1 hE);clear hE hm c2;go_wp2_with fail;refine (HF.out _).mono ?_;rintro e w2 ⟨f2,h2,n2,rfl,hE2⟩;have H2:=oh h2;have N2:=oh (H1.out.2.trans n2);have HE2:=oh hE2;clear h2 n2 hE2;go_wp2_with fail;go_ret;refine⟨P,F,_,[],H2.out,N2.out,?_⟩;rw[HV.out];exact⟨rfl,f2,rfl,HE2.out⟩
theorem on_any(h:CuI F P ad w base c s gen kb root G l sv st) :
  Calls Tryz.prog 42 #[.pointer (some ⟨kb,0,none⟩)] w λe w'=>e=.returned (.bool (!st.isEmpty))∧w=w':=by
 obtain⟨pa,pc,rfl, -, -⟩:=_root_.id h.cu.row.form;have hrl:st.reverse.length=st.length:=List.length_reverse;rw[hrl] at h;have k4:=h.cu.blk.cell (o:=4) (v:=.slice pa st.length pc) rfl;clear h hrl;cases st with
 | nil =>
  simp only[List.length_nil] at k4
  go_enter Tryz.func42, Tryz.ntmps42
  go_wp2_with fail;go_ret;exact⟨rfl,rfl⟩
 | cons x r =>
  simp only[List.length_cons] at k4
  go_enter Tryz.func42, Tryz.ntmps42
  go_wp2_with fail;go_ret;exact⟨rfl,rfl⟩
theorem key_on{r:List FrE}{a:Nat}{e:EntryA}(h:CuI F P ad w base c s gen kb root G l sv (x :: r))(ha:x.at_=(a:Int))(he:x.node.entries[a]? = some e) :
  Calls Tryz.prog 75 #[.pointer (some ⟨kb,0,none⟩)] w λen w'=>en=.returned (.string e.key)∧∃q,w'=w.drewN q:=by
 have HO:=oh (on_any h);simp only[List.isEmpty_cons,Bool.not_false] at HO;obtain⟨g,cp,rfl,b1,b2,b3, -,c1, -, -,c4⟩:=h.form;have hr:r.length≤15:=by have:=h.cu.few;simp at this;omega
 have HTQ:=oh (top_q h.cu.blk rfl (by omega));obtain⟨hal,hae⟩:=List.getElem?_eq_some_iff.1 he;obtain⟨eb,eoff,hea,hec⟩:=(h.cu.fr x List.mem_cons_self).es.elem hal (Mods.refl _ _);have d0:=hec 0 (.string e.key) (by rw[hae];rfl);simp only[Nat.add_zero] at d0;rw[hea] at c1;rw[ha] at c4;have i1:(0:Int)≤(a:Int):=by omega
 have i2:(a:Int)<(x.node.entries.length:Int):=by omega
 clear h hec hea ha hae he b3
 go_enter Tryz.func75, Tryz.ntmps75
 go_wp2_with fail;refine (HO.out).mono ?_;rintro e w1 ⟨rfl,rfl⟩;go_wp2_with fail;go_quiet ((go_at_call 115;exact HTQ.out _))
 go_wp2_with fail;go_ret;exact⟨rfl,_,rfl⟩
end
section
variable {F P P' F' P1 F1:Nat→Prop}{ad:Nat→Addr}{w w' w0 w1:World}{base c s gen kb:Nat}{root:Int}{G G':GA}{l l':List Nat}{sv sv':Value}{st st':List FrE}{x:FrE}
theorem value_on{r:List FrE}{a:Nat}{e:EntryA}{v:ByteArray}(h:CuI F P ad w base c s gen kb root G l sv (x :: r))(ha:x.at_=(a:Int))(he:x.node.entries[a]? = some e)(hv:valueA G e=.inl v)(hvo:valueOk G e)(hid : -9223372036854775808≤e.chain∧e.chain≤9223372036854775807) :
  Calls Tryz.prog 86 #[.pointer (some ⟨kb,0,none⟩)] w λen w'=>en=.returned (.tuple #[.string v,.nilIface])∧∃P' F',CuI F' P' ad w' base c s gen kb root G l sv (x :: r)∧Nxt (cuQ P kb sv) (cuQ P' kb sv) F F' ad w w':=by
 have HO:=oh (on_any h);simp only[List.isEmpty_cons,Bool.not_false] at HO;obtain⟨g,cp,rfl,b1,b2,b3, -,c1, -, -,c4⟩:=h.form;have hr:r.length≤15:=by have:=h.cu.few;simp at this;omega
 have HTQ:=oh (top_q h.cu.blk rfl (by omega));have HT1:=oh (top_q h.cu.blk rfl (by omega) 1);obtain⟨hal,hae⟩:=List.getElem?_eq_some_iff.1 he;obtain⟨eb,eoff,hea,hebF,hec⟩:=(h.cu.fr x List.mem_cons_self).es.elemF hal;have d0:=hec 0 (.string e.key) (by rw[hae];rfl);have d1:=hec 1 (.string e.value) (by rw[hae];rfl);have d2:=hec 2 (.int .i64 e.chain) (by rw[hae];rfl);have d3:=hec 3 (.int .i64 e.size) (by rw[hae];rfl);simp only[Nat.add_zero] at d0;rw[hea] at c1;rw[ha] at c4;have p0:=h.cu.blk.cell (o:=0) (v:=.pointer (some ⟨c,0,none⟩)) rfl;have p1:=h.cu.blk.cell (o:=1) (v:=.pointer (some ⟨s,0,none⟩)) rfl;have p2:=h.cu.blk.cell (o:=2) (v:=.int .u64 (gen:Int)) rfl;have i1:(0:Int)≤(a:Int):=by omega
 have i2:(a:Int)<(x.node.entries.length:Int):=by omega
 have HNP:Hid (¬ P kb∧¬ P g∧¬ P eb):=oh ⟨(h.cu.nP kb (.inl rfl)).2,(h.cu.nP g (.inr rfl)).2,λhp=>hebF (h.sub _ hp)⟩;have HVC:Hid (∀q:Nat,_):=oh (λq=>value_any (h.env.mods ((Mods.refl _ w).drewN q).ext) h.sub (h.pg.at ((Mods.refl _ w).drewN q)) gen e hid hvo);rw[hv] at HVC;unfold pgV at HVC;have HVC1:=oh (HVC.out 1);have HD:Hid (∀q,(w.drewN q).cell? ⟨kb,0,none⟩=some (.pointer (some ⟨c,0,none⟩))∧(w.drewN q).cell? ⟨kb,1,none⟩=some (.pointer (some ⟨s,0,none⟩))∧(w.drewN q).cell? ⟨kb,2,none⟩=some (.int .u64 (gen:Int))∧(w.drewN q).cell? ⟨g,r.length * 5+1,none⟩=some (.slice (some ⟨eb,eoff,none⟩) x.node.entries.length x.ec)∧(w.drewN q).cell? ⟨g,r.length * 5+4,none⟩=some (.int .i64 (a:Int)) ∧
   (w.drewN q).cell? ⟨eb,eoff+a * 4,none⟩=some (.string e.key)∧(w.drewN q).cell? ⟨eb,eoff+a * 4+1,none⟩=some (.string e.value)∧(w.drewN q).cell? ⟨eb,eoff+a * 4+2,none⟩=some (.int .i64 e.chain)∧(w.drewN q).cell? ⟨eb,eoff+a * 4+3,none⟩=some (.int .i64 e.size)) :=
  oh (λq=>⟨cellE ((Mods.refl _ w).drewN q) p0,cellE ((Mods.refl _ w).drewN q) p1,cellE ((Mods.refl _ w).drewN q) p2,cellE ((Mods.refl _ w).drewN q) c1,cellE ((Mods.refl _ w).drewN q) c4,cellE ((Mods.refl _ w).drewN q) d0,cellE ((Mods.refl _ w).drewN q) d1,cellE ((Mods.refl _ w).drewN q) d2,cellE ((Mods.refl _ w).drewN q) d3⟩)
 have H:=oh h;clear h hec hea ha hae he b3 hv hvo hid hebF
 go_enter Tryz.func86, Tryz.ntmps86
 go_wp2_with fail;refine (HO.out).mono ?_;rintro en w1 ⟨rfl,rfl⟩;go_wp2_with fail;go_region_held3 (λw'=>w'.cell? ⟨kb,0,none⟩=some (.pointer (some ⟨c,0,none⟩))∧w'.cell? ⟨kb,1,none⟩=some (.pointer (some ⟨s,0,none⟩))∧w'.cell? ⟨kb,2,none⟩=some (.int .u64 (gen:Int))∧w'.cell? ⟨g,r.length * 5+1,none⟩=some (.slice (some ⟨eb,eoff,none⟩) x.node.entries.length x.ec)∧w'.cell? ⟨g,r.length * 5+4,none⟩=some (.int .i64 (a:Int)) ∧
   w'.cell? ⟨eb,eoff+a * 4,none⟩=some (.string e.key)∧w'.cell? ⟨eb,eoff+a * 4+1,none⟩=some (.string e.value)∧w'.cell? ⟨eb,eoff+a * 4+2,none⟩=some (.int .i64 e.chain)∧w'.cell? ⟨eb,eoff+a * 4+3,none⟩=some (.int .i64 e.size))
  (first|(with_reducible exact⟨p0,p1,p2,c1,c4,d0,d1,d2,d3⟩)|(with_reducible exact⟨y0,y1,y2,y3,y4,z0,z1,z2,z3⟩)|(with_reducible exact HD.out _)|go_keep)
  (first
   | (go_at_call 115;(first|(with_reducible refine (HTQ.out _).mono ?_)|(refine (HT1.out).mono ?_));rintro en w2 ⟨rfl,k2,rfl⟩)
   | (go_at_call 121;(first|(with_reducible refine (HVC.out _).mono ?_)|(refine (HVC1.out).mono ?_));rintro en w4 ⟨P4,F4,hG4,hN4,rfl⟩;obtain⟨y0,y1,y2,y3,y4,z0,z1,z2,z3⟩:=HD.out k2;replace y0:=cellM hN4.stp.mods y0 HNP.out.1;replace y1:=cellM hN4.stp.mods y1 HNP.out.1;replace y2:=cellM hN4.stp.mods y2 HNP.out.1;replace y3:=cellM hN4.stp.mods y3 HNP.out.2.1;replace y4:=cellM hN4.stp.mods y4 HNP.out.2.1;replace z0:=cellM hN4.stp.mods z0 HNP.out.2.2;replace z1:=cellM hN4.stp.mods z1 HNP.out.2.2;replace z2:=cellM hN4.stp.mods z2 HNP.out.2.2;replace z3:=cellM hN4.stp.mods z3 HNP.out.2.2)
   | fail)
 all_goals
  have HP:=oh ((H.out.ext ((Mods.refl _ w).drewN _)).1.pag hN4 hG4);have HN:=oh ((H.out.ext ((Mods.refl _ w).drewN _)).2.trans HP.out.2);clear hN4 hG4 p0 p1 p2 c1 c4 d0 d1 d2 d3;go_wp2_with fail;refine (wrap_nil _ _).mono ?_;rintro en w5 ⟨rfl,rfl⟩;go_wp2_with fail;refine bodyPost_ret (v:=.tuple #[.string v,.nilIface]) (by simp[results,Tryz.results86,go_sem]) rfl ?_;exact⟨rfl,P4,F4,HP.out.1,HN.out⟩
theorem Nxt.shrink{Q P2:Nat→Prop}(n:Nxt P Q F F' ad w w')(h:∀k,P2 k→Q k):Nxt P P2 F F' ad w w' :=
 ⟨⟨n.stp.mods,λk hk hp=>n.stp.old k hk (h k hp),λk hp=>n.stp.bd k (h k hp)⟩,λk hp=>n.sub k (h k hp),n.grow,n.oldF,n.env⟩
theorem CuI.start(hL:Env F ad w)(hP:∀k,P k→F k)(h:PgR F w P c s G l)(gen:Nat)(root:Int) :
  CuI (λk=>F k∨k=w.heap.size) P ad (w.alloc (.cells #[.pointer (some ⟨c,0,none⟩),.pointer (some ⟨s,0,none⟩),.int .u64 (gen:Int),.int .i64 root,.slice none 0 0] 163)) w.heap.size c s gen w.heap.size root G l (.slice none 0 0) [] ∧
  Nxt P (cuQ P w.heap.size (.slice none 0 0)) F (λk=>F k∨k=w.heap.size) ad w (w.alloc (.cells #[.pointer (some ⟨c,0,none⟩),.pointer (some ⟨s,0,none⟩),.int .u64 (gen:Int),.int .i64 root,.slice none 0 0] 163)):=by
 have m:Ext w (w.alloc (.cells #[.pointer (some ⟨c,0,none⟩),.pointer (some ⟨s,0,none⟩),.int .u64 (gen:Int),.int .i64 root,.slice none 0 0] 163)):=(Mods.refl _ w).alloc _;have hb:=Blk.new w #[.pointer (some ⟨c,0,none⟩),.pointer (some ⟨s,0,none⟩),.int .u64 (gen:Int),.int .i64 root,.slice none 0 0] 163;have hnew:∀k,k<w.heap.size→¬ F k→¬ (F k∨k=w.heap.size):=λk hk hn hf=>by rcases hf with hf|hf;exact hn hf;omega
 have hE:Env (λk=>F k∨k=w.heap.size) ad (w.alloc (.cells #[.pointer (some ⟨c,0,none⟩),.pointer (some ⟨s,0,none⟩),.int .u64 (gen:Int),.int .i64 root,.slice none 0 0] 163)) :=
  hL.step m.ext hnew (λk hk=>by rcases hk with hk|hk;exact Nat.lt_of_lt_of_le (hL.lt k hk) m.size;exact hk ▸ hb.lt)
 have hB:∀k,CuB w.heap.size (.slice none 0 0) k→k=w.heap.size:=λk hk=>by
  rcases hk with hk|hk
  ·exact hk
  ·simp[Value.ownBlock] at hk
 have hI:CuI (λk=>F k∨k=w.heap.size) P ad (w.alloc (.cells #[.pointer (some ⟨c,0,none⟩),.pointer (some ⟨s,0,none⟩),.int .u64 (gen:Int),.int .i64 root,.slice none 0 0] 163)) w.heap.size c s gen w.heap.size root G l (.slice none 0 0) [] :=
  ⟨hE,λk hk=>.inl (hP k hk),h.plus m (λ_ _ f=>f) (λk f=>f.elim) hnew,⟨hb,Own.nil _ _ _ _ _ _,λx hx=>by simp at hx,λk hk=>⟨.inr (hB k hk),λhp=>by have:=hL.lt k (hP k hp);have:=hB k hk;omega⟩,⟨λx hx=>by simp at hx,by simp⟩⟩,m.size⟩
 refine⟨hI,⟨⟨m.ext,?_,hI.bd⟩,hI.subQ,λk hk=>.inl hk,λk hk hf=>by rcases hf with hf|hf;exact hf;omega,hE⟩⟩;rintro k hk (hp|hp)
 ·exact hp
 ·have:=hB k hp;omega
end
section
variable {F P P' F' P1 F1:Nat→Prop}{ad:Nat→Addr}{w w' w0 w1:World}{base c s gen kb:Nat}{root:Int}{G G':GA}{l l':List Nat}{sv sv':Value}{st st':List FrE}{x:FrE}
def NewD(F P:Nat→Prop)(ad:Nat→Addr)(w:World)(c s gen:Nat)(root:Int)(G:GA)(l:List Nat)(e:Ending)(w':World):Prop :=
 ∃kb base F',e=.returned (.tuple #[.pointer (some ⟨kb,0,none⟩),.nilIface])∧CuI F' P ad w' base c s gen kb root G l (.slice none 0 0) []∧Nxt P (cuQ P kb (.slice none 0 0)) F F' ad w w'
theorem new_cur(hL:Env F ad w)(hP:∀k,P k→F k)(h:PgR F w P c s G l)(gen:Nat)(root:Int) :
  Calls Tryz.prog 72 #[pgV c s gen,.int .i64 root] w (NewD F P ad w c s gen root G l):=by
 have m0:Ext w (w.alloc (.cells #[.pointer (some ⟨c,0,none⟩),.pointer (some ⟨s,0,none⟩),.int .u64 (gen:Int)] 31)):=(Mods.refl _ w).alloc _;have HN0:=oh (Nxt.ext hL hP m0);have HS:=oh (CuI.start HN0.out.env hP (h.at m0) gen root);clear hL hP h m0;unfold pgV
 go_enter Tryz.func72, Tryz.ntmps72
 go_wp2_with fail;refine bodyPost_ret (v:=.tuple #[.pointer (some ⟨w.heap.size+1,0,none⟩),.nilIface]) (by simp[results,Tryz.results72,go_sem]) rfl ?_;have hz:(w.alloc (.cells #[.pointer (some ⟨c,0,none⟩),.pointer (some ⟨s,0,none⟩),.int .u64 (gen:Int)] 31)).heap.size=w.heap.size+1:=by simp
 have h1:=HS.out.1;have h2:=HN0.out.trans HS.out.2;rw[hz] at h1 h2;exact⟨_,_,_,rfl,h1,h2⟩
theorem new_nil(hL:Env F ad w)(p1 p2:Option Addr)(hp:p1=none∨p2=none)(z:Int)(root:Int) :
  Calls Tryz.prog 72 #[.agg #[.pointer p1,.pointer p2,.int .u64 z],.int .i64 root] w λe w'=>∃b,e=.returned (.tuple #[.pointer none,faultV b])∧ErrC F ad w' (faultV b) [-1] 7∧Ext w w':=by
 have m0:Ext w (w.alloc (.cells #[.pointer p1,.pointer p2,.int .u64 z] 31)):=(Mods.refl _ w).alloc _;have HL:=oh (hL.mods m0.ext);have HM0:=oh m0;have c7:=HL.out.c7;clear hL m0;cases p1 with
 | none =>
  clear hp
  go_enter Tryz.func72, Tryz.ntmps72
  go_wp2_with fail;refine (new_any HL.out _ _ [] 7 (.sent 7 (by decide) (by decide))).mono ?_;rintro e w1 ⟨b,rfl,hE,hm⟩;have HE:=oh hE;have HM:=oh (HM0.out.trans hm);clear hE hm;go_wp2_with fail;refine bodyPost_ret (v:=.tuple #[.pointer none,faultV b]) (by simp[results,Tryz.results72,go_sem]) rfl ?_;exact⟨b,rfl,HE.out,HM.out⟩
 | some a =>
  obtain rfl:p2=none:=by rcases hp with h|h;cases h;exact h
  go_enter Tryz.func72, Tryz.ntmps72
  go_wp2_with fail;refine (new_any HL.out _ _ [] 7 (.sent 7 (by decide) (by decide))).mono ?_;rintro e w1 ⟨b,rfl,hE,hm⟩;have HE:=oh hE;have HM:=oh (HM0.out.trans hm);clear hE hm;go_wp2_with fail;refine bodyPost_ret (v:=.tuple #[.pointer none,faultV b]) (by simp[results,Tryz.results72,go_sem]) rfl ?_;exact⟨b,rfl,HE.out,HM.out⟩
end
section
variable {F P P' F' P1 F1:Nat→Prop}{ad:Nat→Addr}{w w' w0 w1:World}{base c s gen kb:Nat}{root:Int}{G G':GA}{l l':List Nat}{sv sv':Value}{st st':List FrE}{x:FrE}
def askB(a b:ByteArray)(most:Int):Bool:=boundB a && boundB b && decide (0≤most) && decide (most≤65535)
def OpenD(F P:Nat→Prop)(ad:Nat→Addr)(w:World)(c s gen:Nat)(root:Int)(G:GA)(l:List Nat)(ok:Bool)(e:Ending)(w':World):Prop :=
 (ok=true∧NewD F P ad w c s gen root G l e w')∨(ok=false∧∃b F',e=.returned (.tuple #[.pointer none,faultV b])∧PgR F' w' P c s G l∧Nxt P P F F' ad w w'∧ErrC F' ad w' (faultV b) [-1] 2)
theorem open_cur(hL:Env F ad w)(hP:∀k,P k→F k)(h:PgR F w P c s G l)(gen:Nat)(root:Int)(op from_ to_:ByteArray)(most:Int) :
  Calls Tryz.prog 83 #[.string op,pgV c s gen,.int .i64 root,.string from_,.string to_,.int .i64 most] w (OpenD F P ad w c s gen root G l (askB from_ to_ most)):=by
 have m0:Ext w (w.alloc (.cells #[.pointer (some ⟨c,0,none⟩),.pointer (some ⟨s,0,none⟩),.int .u64 (gen:Int)] 31)):=(Mods.refl _ w).alloc _;have HN0:=oh (Nxt.ext hL hP m0);have HNW:=oh (new_cur HN0.out.env hP (h.at m0) gen root);have HB1:=oh (bound_any from_);have HB2:=oh (bound_any to_);clear hL hP h m0;unfold pgV at HNW ⊢
 go_enter Tryz.func83, Tryz.ntmps83
 go_wp2_with fail;refine (HNW.out).mono ?_;rintro e w1 ⟨kb,base,F1,rfl,h1,n1⟩;have H1:=oh h1;have N1:=oh (HN0.out.trans n1);have c2:=h1.env.c2;clear h1 n1;obtain⟨q1,hq1⟩:∃q,boundB from_=q:=⟨_,rfl⟩;obtain⟨q2,hq2⟩:∃q,boundB to_=q:=⟨_,rfl⟩;obtain⟨q3,hq3⟩:∃q,decide (most<0)=q:=⟨_,rfl⟩;obtain⟨q4,hq4⟩:∃q,decide (most > 65535)=q:=⟨_,rfl⟩;rw[hq1] at HB1;rw[hq2] at HB2;have HA:Hid (askB from_ to_ most=(q1 && q2 && !q3 && !q4)):=oh (by
  unfold askB;rw[hq1,hq2,← hq3,← hq4];congr 1
  ·congr 1
   by_cases h:most<0
   ·rw[decide_eq_true h,decide_eq_false (by omega)];rfl
   ·rw[decide_eq_false h,decide_eq_true (by omega)];rfl
  ·by_cases h:most > 65535
   ·rw[decide_eq_true h,decide_eq_false (by omega)];rfl
   ·rw[decide_eq_false h,decide_eq_true (by omega)];rfl)
 clear hq1 hq2;cases q1 with
 | false =>
  have HV:Hid (askB from_ to_ most=false):=oh (by rw[HA.out];rfl);go_wp2_with fail;refine (HB1.out _).mono ?_;rintro e w2 ⟨rfl,rfl⟩;go_wp2_with fail;refine (new_any H1.out.env _ _ [] 2 (.sent 2 (by decide) (by decide))).mono ?_;rintro e w2 ⟨b,rfl,hE,hm⟩;have HE:=oh hE;have H2:=oh (H1.out.ext hm);clear hE hm;go_wp2_with fail;refine bodyPost_ret (v:=.tuple #[.pointer none,faultV b]) (by simp[results,Tryz.results83,go_sem]) rfl ?_;rw[HV.out];exact .inr ⟨rfl,b,F1,rfl,H2.out.1.pg,(N1.out.trans H2.out.2).shrink (λk hk=>.inl hk),HE.out⟩
 | true =>
  cases q2 with
  | false =>
   have HV:Hid (askB from_ to_ most=false):=oh (by rw[HA.out];rfl);go_wp2_with fail;refine (HB1.out _).mono ?_;rintro e w2 ⟨rfl,rfl⟩;go_wp2_with fail;refine (HB2.out _).mono ?_;rintro e w2 ⟨rfl,rfl⟩;go_wp2_with fail;refine (new_any H1.out.env _ _ [] 2 (.sent 2 (by decide) (by decide))).mono ?_;rintro e w2 ⟨b,rfl,hE,hm⟩;have HE:=oh hE;have H2:=oh (H1.out.ext hm);clear hE hm;go_wp2_with fail;refine bodyPost_ret (v:=.tuple #[.pointer none,faultV b]) (by simp[results,Tryz.results83,go_sem]) rfl ?_;rw[HV.out];exact .inr ⟨rfl,b,F1,rfl,H2.out.1.pg,(N1.out.trans H2.out.2).shrink (λk hk=>.inl hk),HE.out⟩
  | true =>
   cases q3 with
   | true =>
    have HV:Hid (askB from_ to_ most=false):=oh (by rw[HA.out];rfl);have h3:=of_decide_eq_true hq3;clear hq3 hq4;go_wp2_with fail;refine (HB1.out _).mono ?_;rintro e w2 ⟨rfl,rfl⟩;go_wp2_with fail;refine (HB2.out _).mono ?_;rintro e w2 ⟨rfl,rfl⟩;go_wp2_with fail;refine (new_any H1.out.env _ _ [] 2 (.sent 2 (by decide) (by decide))).mono ?_;rintro e w2 ⟨b,rfl,hE,hm⟩;have HE:=oh hE;have H2:=oh (H1.out.ext hm);clear hE hm;go_wp2_with fail;refine bodyPost_ret (v:=.tuple #[.pointer none,faultV b]) (by simp[results,Tryz.results83,go_sem]) rfl ?_;rw[HV.out];exact .inr ⟨rfl,b,F1,rfl,H2.out.1.pg,(N1.out.trans H2.out.2).shrink (λk hk=>.inl hk),HE.out⟩
   | false =>
    have h3:=of_decide_eq_false hq3;cases q4 with
    | true =>
     have HV:Hid (askB from_ to_ most=false):=oh (by rw[HA.out];rfl);have h4:=of_decide_eq_true hq4;clear hq3 hq4;go_wp2_with fail;refine (HB1.out _).mono ?_;rintro e w2 ⟨rfl,rfl⟩;go_wp2_with fail;refine (HB2.out _).mono ?_;rintro e w2 ⟨rfl,rfl⟩;go_wp2_with fail;refine (new_any H1.out.env _ _ [] 2 (.sent 2 (by decide) (by decide))).mono ?_;rintro e w2 ⟨b,rfl,hE,hm⟩;have HE:=oh hE;have H2:=oh (H1.out.ext hm);clear hE hm;go_wp2_with fail;refine bodyPost_ret (v:=.tuple #[.pointer none,faultV b]) (by simp[results,Tryz.results83,go_sem]) rfl ?_;rw[HV.out];exact .inr ⟨rfl,b,F1,rfl,H2.out.1.pg,(N1.out.trans H2.out.2).shrink (λk hk=>.inl hk),HE.out⟩
    | false =>
     have HV:Hid (askB from_ to_ most=true):=oh (by rw[HA.out];rfl);have h4:=of_decide_eq_false hq4;clear hq3 hq4;go_wp2_with fail;refine (HB1.out _).mono ?_;rintro e w2 ⟨rfl,rfl⟩;go_wp2_with fail;refine (HB2.out _).mono ?_;rintro e w2 ⟨rfl,rfl⟩;go_wp2_with fail;refine bodyPost_ret (v:=.tuple #[.pointer (some ⟨kb,0,none⟩),.nilIface]) (by simp[results,Tryz.results83,go_sem]) rfl ?_;rw[HV.out];exact .inl ⟨rfl,kb,base,F1,rfl,H1.out,N1.out⟩
end
section
variable {F:Nat→Prop}{w w':World}
def onI(n:Nat)(i:Int):Bool:=decide (0≤i∧i<(n:Int))
def stepI(n:Nat)(i by_:Int):Int:=if onI n i=true then i+by_ else -1
end
section
variable {ad:Nat→Addr}{w0 w w':World}{kb root D:Nat}{G:GA}{L:List PairS}{i:Int}
theorem OnPos.le{st:StC}(h:OnPos G L D st i):(onI L.length i=true∧∃k:Nat,i=(k:Int)∧AtPos G L D st k)∨(onI L.length i=false∧st=[]):=by
 rcases h with ⟨h1,h2,h3⟩|⟨h1,h2⟩
 ·exact .inl ⟨decide_eq_true ⟨h1,h2⟩,i.toNat,by omega,h3⟩
 ·exact .inr ⟨decide_eq_false (by omega),h2⟩
theorem tight_of{st:List FrE}(h:OnPos G L D (st.map FrE.pl) i):TightF st:=λx hx=>by
 have:=h.small x.pl (List.mem_map_of_mem hx);simp only[FrE.pl] at this;omega
theorem move_off(hD:D≤16){st:StC}(h:OnPos G L D st i)(b:Int)(hb:b=1∨b = -1):∃st',moveA G b st=.inl st'∧OnPos G L D st' (stepI L.length i b):=by
 unfold stepI;rcases h.le with ⟨h1,k,rfl,h2⟩|⟨h1,rfl⟩
 ·rw[if_pos h1];rcases hb with rfl|rfl
  ·exact next_pos hD h2
  ·exact prev_pos hD h2
 ·rw[if_neg (by rw[h1];simp)];exact⟨[],rfl,.inr ⟨.inl (by omega),rfl⟩⟩
end
section
variable {α:Type}{F P P' F' P1 F1 P0 F0:Nat→Prop}{ad:Nat→Addr}{w w' w0 w1 wr:World}{base c s gen kb:Nat}{root D:Nat}{G G':GA}{l l':List Nat}{L:List PairS}{sv sv' v v':Value}{st st':List FrE}{x x':List α}{i:Int}{e:TypeId}{sz:Nat}{enc:α→List Value}
theorem CuI.app{r:Int}(h:CuI F P ad w base c s gen kb r G l sv st)(hr:LocR w0 F (cuQ P kb sv) w e sz enc v x)(n:Nxt P0 (cuQ P kb sv) F0 F ad w0 w)(ho:Own (λ_=>False) w' w0.heap.size e sz enc v' x')(m:Mods (λk=>v.ownBlock=some k) w w'){K:Nat}(hat:v'.ownBlock=v.ownBlock∨v'.ownBlock=some K)(hK:w.heap.size≤K) :
  CuI (plusV F v') P ad w' base c s gen kb r G l sv st:=by
 have hnew:∀k,k<w.heap.size→¬ F k→¬ plusV F v' k:=λk hk hn hf=>by
  rcases hf with hf|hf
  ·exact hn hf
  ·rcases hat with e|e
   ·exact hn (hr.2 k (e ▸ hf)).1
   ·rw[e] at hf;injection hf with hf;omega
 exact⟨(LocR.app n hr ho m hat hK).1.env,λk hk=>.inl (h.sub k hk),h.pg.plus m (λk hk e=>(hr.2 k e).2 (.inl hk)) (λk hk=>(hr.2 k hk).1) hnew,
  ⟨h.cu.blk.mods m (λe=>(hr.2 kb e).2 (.inr (.inl rfl))),h.cu.row.mods m (λg hg e=>(hr.2 g e).2 (.inr (.inr hg))),λy hy=>(h.cu.fr y hy).step (m.mono (λk hk=>(hr.2 k hk).1)) hnew,λk hk=>⟨.inl (h.cu.nP k hk).1,(h.cu.nP k hk).2⟩,h.cu.ok⟩,Nat.le_trans h.bl m.size⟩
def BkS(F0 P0:Nat→Prop)(ad:Nat→Addr)(w0:World)(c s gen kb root:Nat)(G:GA)(l:List Nat)(L:List PairS)(D:Nat)(i:Int)(e:TypeId)(sz:Nat)(enc:α→List Value)(v:Value)(x:List α)(wr:World):Prop :=
 ∃(F P:Nat→Prop) (base:Nat) (sv:Value) (st:List FrE),CuI F P ad wr base c s gen kb (root:Int) G l sv st∧Nxt P0 (cuQ P kb sv) F0 F ad w0 wr∧OnPos G L D (st.map FrE.pl) i∧LocR w0 F (cuQ P kb sv) wr e sz enc v x
theorem BkS.ext(h:BkS F0 P0 ad w0 c s gen kb root G l L D i e sz enc v x w)(m:Ext w w'):BkS F0 P0 ad w0 c s gen kb root G l L D i e sz enc v x w':=by
 obtain⟨F,P,base,sv,st,h1,h2,h3,h4⟩:=h;have h5:=h1.ext m;exact⟨F,P,base,sv,st,h5.1,h2.trans h5.2,h3,h4.ext m⟩
theorem BkS.ext0(h:BkS F0 P0 ad w0 c s gen kb root G l L D i e sz enc v x w):w0.heap.size≤w.heap.size:=by
 obtain⟨F,P,base,sv,st,h1,h2,h3,h4⟩:=h;exact h2.stp.mods.size
theorem BkS.own(h:BkS F0 P0 ad w0 c s gen kb root G l L D i e sz enc v x w):Own (λ_=>False) w w0.heap.size e sz enc v x:=by
 obtain⟨F,P,base,sv,st,h1,h2,h3,h4⟩:=h;exact h4.1
theorem BkS.app(h:BkS F0 P0 ad w0 c s gen kb root G l L D i e sz enc v x w)(ho:Own (λ_=>False) w' w0.heap.size e sz enc v' x')(m:Mods (λk=>v.ownBlock=some k) w w'){K:Nat}(hat:v'.ownBlock=v.ownBlock∨v'.ownBlock=some K)(hK:w.heap.size≤K) :
  BkS F0 P0 ad w0 c s gen kb root G l L D i e sz enc v' x' w':=by
 obtain⟨F,P,base,sv,st,h1,h2,h3,h4⟩:=h;obtain⟨j1,j2⟩:=LocR.app h2 h4 ho m hat hK;exact⟨plusV F v',P,base,sv,st,h1.app h4 h2 ho m hat hK,j1,h3,j2⟩
theorem BkS.done(hL:Env F0 ad w0)(h:BkS F0 P0 ad w0 c s gen kb root G l L D i e sz enc v x w)(henc:∀y,(enc y).length=sz)(hl:x.length≤140737488355328) :
  ∃P',PgR (λk=>F0 k∨P' k) w P' c s G l∧Nxt P0 P' F0 (λk=>F0 k∨P' k) ad w0 w∧Sl (λk=>F0 k∨P' k) w sz enc v x:=by
 obtain⟨F,P,base,sv,st,h1,h2,h3,h4⟩:=h;have n:=(h2.shrink (P2:=P) (λk hk=>.inl hk));refine⟨P,h1.pg.anti (λk hk=>hk.elim (h2.grow k) (h1.sub k)),n.least,?_⟩;exact Own.sl (F:=λk=>F0 k∨P k) ⟨h4.1.1,λg hg hf=>hf.elim (λhf=>by have h1:=(h4.1.lt g hg).1;have h2:=hL.lt g hf;omega) (λhp=>(h4.2 g hg).2 (.inl hp))⟩ henc hl
theorem next_bk(h:BkS F0 P0 ad w0 c s gen kb root G l L D i e sz enc v x w)(ht:G.total)(hD:D≤16) : Calls Tryz.prog 85 #[.pointer (some ⟨kb,0,none⟩)] w λen w'=>en=.returned .nilIface∧BkS F0 P0 ad w0 c s gen kb root G l L D (stepI L.length i 1) e sz enc v x w':=by
 obtain⟨F,P,base,sv,st,h1,h2,h3,h4⟩:=h;obtain⟨st',e1,e2⟩:=move_off hD h3 1 (.inl rfl);refine (next_any h1 (tight_of h3) ht).mono ?_;rintro e w' ⟨P1,F1,sv1,st1,k1,k2,k3⟩;rw[e1] at k3;exact⟨k3.1,F1,P1,base,sv1,st1,k1,h2.trans k2,by rw[k3.2];exact e2,h4.nxt k2⟩
theorem seek_bk(h:BkS F0 P0 ad w0 c s gen kb root G l L D i e sz enc v x w)(ht:G.total)(hT:TreeE G root D L)(key:ByteArray)(hb:boundB key=true) : Calls Tryz.prog 84 #[.pointer (some ⟨kb,0,none⟩),.string key] w λen w'=>en=.returned .nilIface∧BkS F0 P0 ad w0 c s gen kb root G l L D (seekP key L:Int) e sz enc v x w':=by
 obtain⟨F,P,base,sv,st,h1,h2,h3,h4⟩:=h;obtain⟨st',e1,e2⟩:=seek_pos key hT;refine (seekB_any key h1 ht).mono ?_;rintro e w' ⟨P1,F1,sv1,st1,k1,k2,k3⟩;have e3:seekB G (root:Int) key=.inl st':=by unfold seekB;rw[if_pos hb,e1]
 rw[e3] at k3;exact⟨k3.1,F1,P1,base,sv1,st1,k1,h2.trans k2,by rw[k3.2];exact e2,h4.nxt k2⟩
theorem on_bk(h:BkS F0 P0 ad w0 c s gen kb root G l L D i e sz enc v x w) : Calls Tryz.prog 42 #[.pointer (some ⟨kb,0,none⟩)] w λen w'=>en=.returned (.bool (onI L.length i))∧w=w':=by
 obtain⟨F,P,base,sv,st,h1,h2,h3,h4⟩:=h;have:(!st.isEmpty)=onI L.length i:=by
  rcases h3.le with ⟨h4,k,rfl,n,a,r,pre,p,suf,lo,hi,e,_⟩|⟨h4,h5⟩
  ·rw[h4];cases st with
   | nil=>simp at e
   | cons x r=>rfl
  ·rw[h4];rw[List.map_eq_nil_iff] at h5;rw[h5];rfl
 rw[← this];exact on_any h1
theorem key_bk(h:BkS F0 P0 ad w0 c s gen kb root G l L D i e sz enc v x w){k:Nat}{y:PairS}(hi:i=(k:Int))(hx:L[k]? = some y) : Calls Tryz.prog 75 #[.pointer (some ⟨kb,0,none⟩)] w λen w'=>en=.returned (.string y.1)∧∃q,w'=w.drewN q:=by
 obtain⟨F,P,base,sv,st,h1,h2,h3,_⟩:=h;subst hi;have hk:=(List.getElem?_eq_some_iff.1 hx).1;rcases h3 with ⟨_,_,h4⟩|⟨h4,_⟩
 ·rw[Int.toNat_natCast] at h4;obtain⟨n,a,r,e,z,e1,e2,e3,e4,e5,e6,e7,e8⟩:=h4.pair;rw[hx] at e3;injection e3 with e3;subst e3;cases st with
  | nil=>simp at e1
  | cons z st =>
   rw[List.map_cons] at e1;injection e1 with e1 _;have ha:=congrArg Prod.snd e1;have hn:=congrArg Prod.fst e1;rw[← e4];exact key_on h1 ha (by rw[show z.node=n from hn];exact e2)
 ·omega
end
theorem stepI_at{n k:Nat}(h:k<n)(b:Int):stepI n (k:Int) b=(k:Int)+b:=by
 unfold stepI;exact if_pos (decide_eq_true ⟨by omega,by omega⟩)
theorem onI_off{n:Nat}{i:Int}(h:i<0∨(n:Int)≤i):onI n i=false:=decide_eq_false (by omega)
def belowB(to_ k:ByteArray):Bool:=decide (to_=⟨#[]⟩) || ltS k to_
def upP(to_:ByteArray):List PairS→Nat→List PairS
 | [],_=>[]
 | _,0=>[]
 | x :: r,m+1=>if belowB to_ x.1=true then x :: upP to_ r m else []
def RangeD(F P:Nat→Prop)(ad:Nat→Addr)(w:World)(c s:Nat)(G:GA)(l:List Nat)(o:List PairS)(e:Ending)(w':World):Prop :=
 PgDone F P ad w c s G l (λF' w' e=>∃v,e=.returned (.tuple #[v,.nilIface])∧Sl F' w' 2 encP v o) e w'
section
variable {α:Type}{F P P' F' P1 F1 P0 F0:Nat→Prop}{ad:Nat→Addr}{w w' w0 w1 wr:World}{base c s gen kb:Nat}{root D:Nat}{G G':GA}{l l':List Nat}{L:List PairS}{sv sv' v v':Value}{st st':List FrE}{x x':List α}{i:Int}{e:TypeId}{sz:Nat}{enc:α→List Value}
theorem value_bk(h:BkS F0 P0 ad w0 c s gen kb root G l L D i e sz enc v x w){k:Nat}{y:PairS}(hi:i=(k:Int))(hx:L[k]? = some y) : Calls Tryz.prog 86 #[.pointer (some ⟨kb,0,none⟩)] w λen w'=>en=.returned (.tuple #[.string y.2,.nilIface])∧BkS F0 P0 ad w0 c s gen kb root G l L D i e sz enc v x w':=by
 obtain⟨F,P,base,sv,st,h1,h2,h3,h9⟩:=h;subst hi;have hk:=(List.getElem?_eq_some_iff.1 hx).1;have h30:=h3;rcases h3 with ⟨_,_,h4⟩|⟨h4,_⟩
 ·rw[Int.toNat_natCast] at h4;obtain⟨n,a,r,e,z,e1,e2,e3,e4,e5,e6,e7,e8⟩:=h4.pair;rw[hx] at e3;injection e3 with e3;subst e3;cases st with
  | nil=>simp at e1
  | cons z st =>
   rw[List.map_cons] at e1;injection e1 with e1 _;have ha:=congrArg Prod.snd e1;have hn:=congrArg Prod.fst e1;have hRG : -9223372036854775808≤e.chain∧e.chain≤9223372036854775807:=by
    have h3:=right_entry e8 e7 e2;unfold rightE at h3;simp only[Bool.and_eq_true] at h3;have h4:=h3.2;split at h4
    ·omega
    ·simp only[Bool.and_eq_true,decide_eq_true_eq,kidB] at h4;omega
   refine (value_on h1 ha (by rw[show z.node=n from hn];exact e2) e5 e6 hRG).mono ?_;rintro en w' ⟨rfl,P',F',k1,k2⟩;exact⟨rfl,F',P',base,sv,z :: st,k1,h2.trans k2,h30,h9.nxt k2⟩
 ·omega
theorem belowB_way{to_ k:ByteArray}(h:belowB to_ k=true):(to_.toList.isEmpty=true)∨(to_.toList.isEmpty=false∧Op.bytesLess k.toList to_.toList=true):=by
 cases hfe:to_.toList.isEmpty with
 | true=>exact .inl rfl
 | false =>
  refine .inr ⟨rfl,?_⟩;unfold belowB at h;have hne:to_ ≠ ⟨#[]⟩:=λe=>by rw[e] at hfe;simp[ByteArray.toList_eq] at hfe
  rw[decide_eq_false hne,Bool.false_or] at h;exact h
theorem belowB_no{to_ k:ByteArray}(h:belowB to_ k=false):to_.toList.isEmpty=false∧Op.bytesLess k.toList to_.toList=false:=by
 unfold belowB at h;rw[Bool.or_eq_false_iff] at h;refine⟨?_,h.2⟩;cases hfe:to_.toList.isEmpty with
 | false=>rfl
 | true =>
  have he:to_=⟨#[]⟩:=toList_inj (by rw[List.isEmpty_iff.1 hfe];simp[ByteArray.toList_eq]);rw[decide_eq_true he] at h;cases h.1
end
section
variable {F P P' F' P1 F1:Nat→Prop}{ad:Nat→Addr}{w w' w0 w1:World}{c s gen:Nat}{root D:Nat}{G:GA}{l:List Nat}{L:List PairS}
theorem range_any(hL:Env F ad w)(hP:∀k,P k→F k)(h:PgR F w P c s G l)(hlen:L.length≤1000)(ht:G.total)(hD:D≤16)(hT:TreeE G root D L)(gen:Nat)(from_ to_:ByteArray)(most:Int)(hm:askB from_ to_ most=true) :
  Calls Tryz.prog 49 #[pgV c s gen,.int .i64 (root:Int),.string from_,.string to_,.int .i64 most] w (RangeD F P ad w c s G l (upP to_ (L.drop (seekP from_ L)) most.toNat)):=by
 have m0:Ext w (w.alloc (.cells #[.pointer (some ⟨c,0,none⟩),.pointer (some ⟨s,0,none⟩),.int .u64 (gen:Int)] 31)):=(Mods.refl _ w).alloc _;have HN0:=oh (Nxt.ext hL hP m0);have HL0:=oh hL;have hOP:=λop=>open_cur HN0.out.env hP (h.at m0) gen (root:Int) op from_ to_ most
 rw[hm] at hOP;have HOP:=oh hOP;have hbq:boundB from_=true:=by unfold askB at hm;simp only[Bool.and_eq_true] at hm;exact hm.1.1.1
 have hm1:0≤most∧most≤65535:=by unfold askB at hm;simp only[Bool.and_eq_true,decide_eq_true_eq] at hm;omega
 obtain⟨N,rfl⟩:∃N:Nat,most=(N:Int):=⟨most.toNat,by omega⟩;rw[Int.toNat_natCast];have HB:=oh hbq;have HG:=oh ht;have HT:=oh hT;have HD:=oh hD;obtain⟨z,hz⟩:∃z,z=seekP from_ L:=⟨_,rfl⟩;have hzl:z≤L.length:=by rw[hz];exact List.findIdx_le_length
 have HZ:=oh hz;obtain⟨R,hR⟩:∃R,R=upP to_ (L.drop z) N:=⟨_,rfl⟩;have HR:=oh hR;rw[← hz,← hR];clear hL hP h m0 hOP hm hm1 hbq ht hD hT hz hR;unfold pgV at HOP ⊢
 go_enter Tryz.func49, Tryz.ntmps49
 go_wp2_with fail;refine (HOP.out _).mono ?_;rintro e w1 hd;obtain⟨kb,base,F1,rfl,h1,n1⟩:NewD F P ad (w.alloc (.cells #[.pointer (some ⟨c,0,none⟩),.pointer (some ⟨s,0,none⟩),.int .u64 (gen:Int)] 31)) c s gen (root:Int) G l e w1:=by
  rcases hd with ⟨_,h⟩|⟨h,_⟩
  ·exact h
  ·cases h
 have hS1:BkS F P ad w c s gen kb root G l L D (-1) 25 2 encP (.slice none 0 0) [] w1:=⟨F1,P,base,_,[],h1,HN0.out.trans n1,.inr ⟨.inl (by omega),rfl⟩,LocR.nil _ _ _ _ _ _ _⟩;have hsk:=seek_bk hS1 HG.out HT.out from_ HB.out;rw[← HZ.out] at hsk;have HSK:=oh hsk;clear hd h1 n1 hS1 hsk;go_wp2_with fail;refine (HSK.out).mono ?_;rintro e w2 ⟨rfl,hS⟩;have HS2:=oh hS;clear hS;go_wp2_with fail;go_loopg [13,14] (L.length-z) (λm v13 v14 wr=>∃(k:Nat) (o:List PairS),k+m=L.length∧v13=.nilIface∧o.length≤N∧o.length≤k∧Hid (BkS F P ad w c s gen kb root G l L D (k:Int) 25 2 encP v14 o wr∧o++upP to_ (L.drop k) (N-o.length)=R))
 case atStart=>exact⟨z,[],by omega,rfl,Nat.zero_le _,Nat.zero_le _,oh ⟨HS2.out,by rw[HR.out];simp⟩⟩
 case round =>
  obtain⟨k,o,hkm,rfl,hoN,hok,HC⟩:=hrel;obtain⟨va,vc,rfl,vq1,vq2⟩:=HC.out.1.own.form;have hon:=on_bk HC.out.1;have HOK:=oh (And.intro hoN hok);by_cases hlt:k<L.length
  ·have hof:onI L.length (k:Int)=true:=decide_eq_true ⟨by omega,by omega⟩;rw[hof] at hon;have HON:=oh hon;obtain⟨y,hy⟩:∃y,L[k]? = some y:=⟨_,List.getElem?_eq_getElem hlt⟩;have HY:=oh hy;have HLT:=oh hlt;have hdr:L.drop k=y :: L.drop (k+1):=by rw[List.drop_eq_getElem_cons hlt];rw[List.getElem?_eq_getElem hlt] at hy;injection hy with hy;rw[hy]
   by_cases hoo:o.length<N
   ·have i1:(o.length:Int)<(N:Int):=by omega
    obtain⟨r,hr⟩:∃r,N-o.length=r+1:=⟨N-o.length-1,by omega⟩;have HRR:=oh hr;have hres:=HC.out.2;rw[hdr,hr,upP] at hres;cases hbl:belowB to_ y.1 with
    | true =>
     rw[if_pos hbl] at hres;have HRS:Hid (o++[y]++upP to_ (L.drop (k+1)) r=R):=oh (by rw[← hres];simp);have hway:=belowB_way hbl;clear hon hof hy hdr hr hres hbl hlt hoo vq1 vq2;have HKY:=oh (key_bk HC.out.1 rfl HY.out);have hgo:∀(q:Nat),Hid (BkS F P ad w c s gen kb root G l L D (k:Int) 25 2 encP (.slice va o.length vc) o (wr.drewN q)):=λq=>oh (HC.out.1.ext ((Mods.refl _ wr).drewN q))
     have HGO:=oh hgo;clear hgo;rcases hway with hfe|⟨hfe,hle⟩
     ·go_wp2_with fail;refine (HON.out).mono ?_;rintro e w3 ⟨rfl,rfl⟩;go_wp2_with fail;have HV:=oh (value_bk HC.out.1 rfl HY.out);refine (HV.out).mono ?_;rintro e w4 ⟨rfl,hS⟩;have HK4:=oh (key_bk hS rfl HY.out);have HS4:=oh hS;clear hS;go_wp2_with fail;refine (HK4.out).mono ?_;rintro e w5 ⟨rfl,k5,rfl⟩;have HS5:=oh ((HS4.out.ext ((Mods.refl _ w4).drewN k5)).ext ((Mods.refl _ _).alloc (.cells #[.string y.1,.string y.2] 25)));go_wp2_with (at_builtin;refine wpl_app2 Tryz.elP encP_ok rfl _ _ rfl w.heap.size _ _ o [y] rfl rfl HS5.out.own (Sl.one (F:=λ_=>False) (heap_at (by simp)) (λf=>f)) (by have:=HOK.out.2;have:=HLT.out;simp only[List.length_cons,List.length_nil];omega) HS5.out.ext0 (λf=>f) ?_;simp only[List.length_cons,List.length_nil,Nat.zero_add];intro a6 c6 w6 hO6 hm6 hat6);have HS6:=oh (HS5.out.app hO6 hm6 hat6 (Nat.le_refl _));have hnx:=next_bk HS6.out HG.out HD.out;rw[stepI_at HLT.out] at hnx;have HNX:=oh hnx;clear hO6 hm6 hat6 hnx;go_wp2_with fail;refine (HNX.out).mono ?_;rintro e w7 ⟨rfl,hS7⟩;have HS7:=oh hS7;clear hS7;go_wp2_with fail;go_roundg (gk-1)
      case measure=>have:=HLT.out;omega
      case rel=>exact⟨k+1,o++[y],by have:=HLT.out;omega,rfl,by have:=HRR.out;simp;omega,by have:=HOK.out.2;simp;omega,oh ⟨by simpa using HS7.out,by
       have hr2:N-(o++[y]).length=r:=by have:=HRR.out;simp;omega
       rw[hr2];exact HRS.out⟩⟩
     ·go_wp2_with fail;refine (HON.out).mono ?_;rintro e w3 ⟨rfl,rfl⟩;go_wp2_with fail;refine (HKY.out).mono ?_;rintro e w3 ⟨rfl,k3,rfl⟩;have HV:=oh (value_bk (HGO.out k3).out rfl HY.out);go_wp2_with fail;refine (HV.out).mono ?_;rintro e w4 ⟨rfl,hS⟩;have HK4:=oh (key_bk hS rfl HY.out);have HS4:=oh hS;clear hS;go_wp2_with fail;refine (HK4.out).mono ?_;rintro e w5 ⟨rfl,k5,rfl⟩;have HS5:=oh ((HS4.out.ext ((Mods.refl _ w4).drewN k5)).ext ((Mods.refl _ _).alloc (.cells #[.string y.1,.string y.2] 25)));go_wp2_with (at_builtin;refine wpl_app2 Tryz.elP encP_ok rfl _ _ rfl w.heap.size _ _ o [y] rfl rfl HS5.out.own (Sl.one (F:=λ_=>False) (heap_at (by simp)) (λf=>f)) (by have:=HOK.out.2;have:=HLT.out;simp only[List.length_cons,List.length_nil];omega) HS5.out.ext0 (λf=>f) ?_;simp only[List.length_cons,List.length_nil,Nat.zero_add];intro a6 c6 w6 hO6 hm6 hat6);have HS6:=oh (HS5.out.app hO6 hm6 hat6 (Nat.le_refl _));have hnx:=next_bk HS6.out HG.out HD.out;rw[stepI_at HLT.out] at hnx;have HNX:=oh hnx;clear hO6 hm6 hat6 hnx;go_wp2_with fail;refine (HNX.out).mono ?_;rintro e w7 ⟨rfl,hS7⟩;have HS7:=oh hS7;clear hS7;go_wp2_with fail;go_roundg (gk-1)
      case measure=>have:=HLT.out;omega
      case rel=>exact⟨k+1,o++[y],by have:=HLT.out;omega,rfl,by have:=HRR.out;simp;omega,by have:=HOK.out.2;simp;omega,oh ⟨by simpa using HS7.out,by
       have hr2:N-(o++[y]).length=r:=by have:=HRR.out;simp;omega
       rw[hr2];exact HRS.out⟩⟩
    | false =>
     rw[if_neg (by rw[hbl];simp)] at hres;have HCN:Hid (o=R):=oh (by simpa using hres);have HKY:=oh (key_bk HC.out.1 rfl HY.out);obtain⟨hfe,hle⟩:=belowB_no hbl;clear hon hof hy hdr hr hres hbl hlt hoo vq1 vq2;go_wp2_with fail;refine (HON.out).mono ?_;rintro e w3 ⟨rfl,rfl⟩;go_wp2_with fail;refine (HKY.out).mono ?_;rintro e w3 ⟨rfl,k3,rfl⟩;go_wp2_with fail;refine bodyPost_ret (v:=.tuple #[.slice va o.length vc,.nilIface]) (by simp[results,Tryz.results49,go_sem]) rfl ?_;obtain⟨P9,g1,g2,g3⟩:=(HC.out.1.ext ((Mods.refl _ wr).drewN k3)).done HL0.out encP_ok.len (by have:=HOK.out.2;have:=HLT.out;omega);exact⟨P9,_,g1,g2,_,rfl,by rw[← HCN.out];exact g3⟩
   ·have i1:¬ (o.length:Int)<(N:Int):=by omega
    have HCN:Hid (o=R):=oh (by
     have:=HC.out.2;rw[show N-o.length=0 by omega] at this;rw[← this,hdr];simp[upP])
    clear hon hof hy hdr hlt hoo vq1 vq2;go_wp2_with fail;refine (HON.out).mono ?_;rintro e w3 ⟨rfl,rfl⟩;go_wp2_with fail;refine bodyPost_ret (v:=.tuple #[.slice va o.length vc,.nilIface]) (by simp[results,Tryz.results49,go_sem]) rfl ?_;obtain⟨P9,g1,g2,g3⟩:=HC.out.1.done HL0.out encP_ok.len (by have:=HOK.out.2;have:=HLT.out;omega);exact⟨P9,_,g1,g2,_,rfl,by rw[← HCN.out];exact g3⟩
  ·have hof:onI L.length (k:Int)=false:=onI_off (.inr (by omega));rw[hof] at hon;have HON:=oh hon;have HLN:Hid (k≤L.length∧L.length≤1000):=oh ⟨by omega,hlen⟩;have HCN:Hid (o=R):=oh (by have:=HC.out.2;rw[List.drop_eq_nil_of_le (by omega)] at this;simpa[upP] using this);clear hon hof hlt vq1 vq2;go_wp2_with fail;refine (HON.out).mono ?_;rintro e w3 ⟨rfl,rfl⟩;go_wp2_with fail;refine bodyPost_ret (v:=.tuple #[.slice va o.length vc,.nilIface]) (by simp[results,Tryz.results49,go_sem]) rfl ?_;obtain⟨P9,g1,g2,g3⟩:=HC.out.1.done HL0.out encP_ok.len (by have:=HOK.out.2;have:=HLN.out;omega);exact⟨P9,_,g1,g2,_,rfl,by rw[← HCN.out];exact g3⟩
end
end Go.Proofs.YtchklfmggpconaaGreatDoor
