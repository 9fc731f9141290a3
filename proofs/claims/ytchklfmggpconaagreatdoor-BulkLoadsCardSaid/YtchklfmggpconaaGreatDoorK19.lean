import Derived.Test.YtchklfmggpconaaGreatDoorK18
import Derived.Laws.IdiomStrings
import Derived.IntWalk
namespace Go.Proofs.YtchklfmggpconaaGreatDoor
open Lib renaming hid→oh
set_option maxHeartbeats 2000000
set_option maxRecDepth 100000
section
open Go.RowKit
theorem pw_rising:∀{l:List ByteArray},(l.Pairwise λa b=>ltS a b=true)→risingS l=true
 | [],_=>rfl
 | [_],_=>rfl
 | a :: b :: l,h=>by
  have h1:=List.pairwise_cons.1 h;simp only[risingS,Bool.and_eq_true];exact⟨h1.1 b List.mem_cons_self,pw_rising h1.2⟩
def PairsOk(l:List PairS):Prop:=∀x∈l,keyB x.1=true∧x.2.size≤4096
theorem bytesT_len(s:ByteArray):(bytesT s).length=1+s.size:=by
 unfold bytesT;rw[List.length_append,leB_length,Array.length_toList];rfl
theorem bytesE_len{e:EntryA}(h:rightE e=true):(bytesE e).length≤59:=by
 unfold rightE at h;simp only[Bool.and_eq_true] at h;have hk:=(keyB_iff e.key).1 h.1;have h2:=h.2;unfold bytesE;rw[List.length_append,bytesT_len];by_cases hc:e.chain=0
 ·rw[if_pos hc] at h2 ⊢;simp only[Bool.and_eq_true,decide_eq_true_eq] at h2;rw[List.length_append,leB_length,bytesT_len];omega
 ·rw[if_neg hc];simp only[List.length_append,leB_length];omega
theorem flat_len{α:Type}(g:α→List UInt8)(M:Nat):∀(l:List α),(∀x∈l,(g x).length≤M)→(l.flatMap g).length≤M * l.length
 | [],_=>by simp
 | x :: l,h=>by
  have h1:=flat_len g M l (λy hy=>h y (List.mem_cons_of_mem _ hy));have h2:=h x List.mem_cons_self;rw[List.flatMap_cons,List.length_append,List.length_cons,Nat.mul_succ];omega
theorem bytesK_len{p:ByteArray × Int}(h:keyB p.1=true):(bytesK p).length≤37:=by
 have hk:=(keyB_iff p.1).1 h;unfold bytesK;rw[List.length_append,bytesT_len,leB_length];omega
structure RdR(F:Nat→Prop)(w:World)(B:Nat)(bv:Value)(b:List UInt8)(r:RdA):Prop where
 own:Blk w B #[bv,.int .i64 r.at_,.bool r.bad] 257
 sl:Sl F w 1 encB bv b
 mem:F B
section
variable {F:Nat→Prop}{ad:Nat→Addr}{w w':World}{B:Nat}{bv:Value}{b:List UInt8}{r:RdA}
theorem takeF_small(b:List UInt8)(p:Int)(W:Nat)(hW:W=1∨W=2∨W=4):(takeF b p W).1<4294967296:=by
 unfold takeF;split
 ·simp
 ·split
  ·simp
  ·have:=ofLe_lt ((b.drop p.toNat).take W);have h2:((b.drop p.toNat).take W).length≤4:=Nat.le_trans (List.length_take_le _ _) (by omega);have h3:(256:Nat) ^ ((b.drop p.toNat).take W).length≤256 ^ 4:=Nat.pow_le_pow_right (by omega) h2;simp only;omega
theorem RdR.turn(h:RdR F w B bv b r)(r':RdA)(m:Mods (λk=>k=B) w w')(hB:Blk w' B #[bv,.int .i64 r'.at_,.bool r'.bad] 257):RdR F w' B bv b r' :=
 ⟨hB,h.sl.mods (m.mono (λk e=>by subst e;exact h.mem)),h.mem⟩
theorem rdNum_any(hL:Env F ad w)(h:RdR F w B bv b r)(W:Nat)(hW:W=1∨W=2∨W=4)(h0:0≤r.at_)(h1:r.at_≤1000000000000) :
  Calls Tryz.prog 163 #[.pointer (some ⟨B,0,none⟩),.int .i64 (W:Int)] w λe w'=>e=.returned (.int .i64 ((rdNum b r W).1:Nat))∧RdR F w' B bv b (rdNum b r W).2∧Mods (λk=>k=B) w w':=by
 obtain⟨a,bd⟩:=r;simp only at h0 h1;have hsm:=takeF_small b a W hW;obtain⟨sa,cap,rfl,hz,_,_,_⟩:=_root_.id h.sl;obtain⟨n,hn⟩:∃n,n=(takeF b a W).1:=⟨_,rfl⟩;rw[← hn] at hsm;have HN:=oh hn;have HH:=oh h;have HLd:=oh (hL.mods (Mods.refl _ w).drew);have HSd:=oh (h.sl.mods (Mods.refl _ w).drew);have HW:=oh hW;have hW4:W≤4:=by omega
 have c0:=h.own.cell (o:=0) (v:=.slice sa b.length cap) rfl;have c1:=h.own.cell (o:=1) (v:=.int .i64 a) rfl;have c2:=h.own.cell (o:=2) (v:=.bool bd) rfl;clear h hL hW hn
 go_enter Tryz.func163, Tryz.ntmps163
 go_wp2_with fail;go_region_held3 (λw'=>w'.cell? ⟨B,0,none⟩=some (.slice sa b.length cap)∧w'.cell? ⟨B,1,none⟩=some (.int .i64 a))
  (first|(with_reducible exact⟨x0,x1⟩)|go_keep)
  (first
   | (go_at_call 185;refine (Take_any HLd.out _ b HSd.out a W (by have:=HW.out;omega)).mono ?_;rintro e w1 ⟨ev,rfl,hE,hm⟩;rw[← HN.out];have x0:=cellE hm c0;have x1:=cellE hm c1))
 have x2:=cellE hm c2;have HB:=oh ((HH.out.own.drew).ext hm);have f1:=HB.out.frozen 1;have f2:=HB.out.frozen 2;have HM:=oh (hm.ofDrew);have HM2:Hid (∀x:Bool,Mods (λk=>k=B) w ((w1.setCell ⟨B,2,none⟩ (.bool x)).setCell ⟨B,1,none⟩ (.int .i64 (a+W)))) :=
  oh λx=>HM.out.ext.trans ((Mods.at (λk=>k=B) w1 B 2 _ rfl).trans (Mods.at (λk=>k=B) _ B 1 _ rfl))
 clear c0 c1 c2 hm;cases hT:(takeF b a W).2 with
 | none =>
  rw[hT] at hE;cases hE
  have HR:Hid (rdNum b ⟨a,bd⟩ W=(n,⟨a+W,bd⟩)):=oh (by unfold rdNum;simp only[hT,← HN.out];simp);clear hT;cases bd
  all_goals
   go_wp2_with fail;go_ret;exact⟨by rw[HR.out];rfl,by rw[HR.out];exact HH.out.turn _ (HM2.out _) ((HB.out.set 2 _).set 1 _),HM2.out _⟩
 | some er =>
  rw[hT] at hE;obtain⟨el,ek⟩:=er;obtain⟨f,rfl,hE⟩:=hE;have HR:Hid (rdNum b ⟨a,bd⟩ W=(n,⟨a+W,true⟩)):=oh (by unfold rdNum;simp only[hT,← HN.out];simp);clear hT hE;cases bd
  all_goals
   go_wp2_with fail;go_ret;exact⟨by rw[HR.out];rfl,by rw[HR.out];exact HH.out.turn _ (HM2.out _) ((HB.out.set 2 _).set 1 _),HM2.out _⟩
end
theorem vw_ok{C:CaA}(hI:CaInv C){id:Nat}(hid:id<C.disk.blocks){p:PageA}(h:C.vw id=.inl p):p.id=(id:Int)∧pgOk p C.disk.size:=by
 unfold CaA.vw at h;split at h
 ·rename_i s hs;injection h with h;subst h;have hm:=List.mem_of_find?_eq_some hs;have hh:=List.find?_some hs;obtain⟨i,hi,e⟩:=List.getElem_of_mem hm;have hi2:C.slots[i]? = some s:=by rw[← e];exact List.getElem?_eq_getElem hi
  have hf:s.full=true∧s.page.id=(id:Int):=by
   cases hfl:s.full with
   | false=>rw[not_has (.inl hfl)] at hh;cases hh
   | true =>
    by_cases e:s.page.id=(id:Int)
    ·exact⟨rfl,e⟩
    ·rw[not_has (.inr e)] at hh;cases hh
  exact⟨hf.2,(hI.page i s hi2 hf.1).2.2⟩
 ·have hl:=hI.len id hid;unfold openAtP at h;split at h
  ·cases h
  ·rename_i h1;split at h
   ·cases h
   ·rename_i h2;injection h with h;subst h;simp only[ne_eq,Decidable.not_not] at h2;unfold openB at h1;simp only[Bool.not_eq_false,Bool.and_eq_true,decide_eq_true_eq] at h1;refine⟨h2,?_,readP_gen _⟩;rw[← hl];exact h1.1
section
variable {P F:Nat→Prop}{ad:Nat→Addr}{w:World}{c s:Nat}{G:GA}{l:List Nat}
theorem PgR.page(h:PgR F w P c s G l){id:Nat}(hid:id<G.blocks){p:PageA}(hv:G.view id=some (.inl p)):p.id=(id:Int)∧pgOk p G.size:=by
 obtain⟨d,sb,bvs,Pd,b2,C,h1,h2,h3,h4,h5,h6,h7⟩:=h;have:=vw_ok h2 (by rw[h3.blocks];exact hid) (h3.view id _ hv);rw[h3.size] at this;exact this
theorem PgR.got(h:PgR F w P c s G l){id:Int}{p:PageA}(hv:G.get id=.inl p):p.id=id∧pgOk p G.size∧p.body.length≤1000:=by
 unfold GA.get at hv;split at hv
 ·cases hv
 ·rename_i hc;unfold GA.check at hc;split at hc
  ·cases hc
  ·rename_i hr;split at hv
   ·rename_i q hq;injection hv with hv;subst hv;obtain⟨k1,k2⟩:=h.page (id:=id.toNat) (by omega) hq;have:=(pgCheck_none k2.1).2.2.2.2.2;have:=h.lim;exact⟨by omega,k2,by omega⟩
   ·cases hv
   ·cases hv
end
abbrev e0:ByteArray:=⟨#[]⟩
def addP(acc:List PairS)(x:PairS):List PairS:=if keyB x.1=true∧x.2.size≤4096 then withP x.1 x.2 false acc else acc
def pairsP(l:List PairS):List PairS:=l.foldl addP []
theorem pairsP_snoc(l:List PairS)(x:PairS):pairsP (l++[x])=addP (pairsP l) x:=by
 unfold pairsP;rw[List.foldl_append];rfl
theorem withP_len(key value:ByteArray)(over:Bool):∀l:List PairS,(withP key value over l).length≤l.length+1
 | []=>by simp[withP]
 | x :: l=>by
  have:=withP_len key value over l;unfold withP;split
  ·simp only[List.length_cons];omega
  ·split
   ·split <;> simp
   ·simp
theorem addP_ok{acc:List PairS}{x:PairS}(h1:SortedP acc)(h2:PairsOk acc):SortedP (addP acc x)∧PairsOk (addP acc x)∧(addP acc x).length≤acc.length+1:=by
 unfold addP;split
 ·rename_i hc;refine⟨sorted_withP h1,λy hy=>?_,withP_len _ _ _ _⟩;rcases mem_withP hy with rfl|hy
  ·exact hc
  ·exact h2 y hy
 ·exact⟨h1,h2,by omega⟩
theorem foldP_ok:∀(l acc:List PairS),SortedP acc→PairsOk acc→SortedP (l.foldl addP acc)∧PairsOk (l.foldl addP acc)∧(l.foldl addP acc).length≤acc.length+l.length
 | [],acc,h1,h2=>⟨h1,h2,by simp⟩
 | x :: l,acc,h1,h2=>by
  obtain⟨k1,k2,k3⟩:=addP_ok (x:=x) h1 h2;obtain⟨j1,j2,j3⟩:=foldP_ok l (addP acc x) k1 k2;exact⟨j1,j2,by simp only[List.length_cons] at j3 ⊢;rw[List.foldl_cons];omega⟩
theorem pairsP_ok(l:List PairS):SortedP (pairsP l)∧PairsOk (pairsP l)∧(pairsP l).length≤l.length:=by
 obtain⟨h1,h2,h3⟩:=foldP_ok l [] List.Pairwise.nil (λx h=>by simp at h);exact⟨h1,h2,by simpa[pairsP] using h3⟩
def cutS(n:Nat)(v:ByteArray):ByteArray:=v.extract 0 (min v.size n)
theorem cutS_size(n:Nat)(v:ByteArray):(cutS n v).size=min v.size n:=by unfold cutS;rw[ByteArray.size_extract];omega
def cutP(n:Nat)(l:List PairS):List PairS:=l.map λx=>(x.1,cutS n x.2)
theorem cutP_ok{n:Nat}{l:List PairS}(h1:SortedP l)(h2:PairsOk l):SortedP (cutP n l)∧PairsOk (cutP n l)∧(cutP n l).length=l.length∧∀x∈cutP n l,x.2.size≤n:=by
 refine⟨?_,λx hx=>?_,by simp[cutP],λx hx=>?_⟩
 ·unfold SortedP cutP;rw[List.pairwise_map];exact h1
 ·obtain⟨y,hy,rfl⟩:=List.mem_map.1 hx;have:=h2 y hy;exact⟨this.1,by simp only;rw[cutS_size];omega⟩
 ·obtain⟨y,hy,rfl⟩:=List.mem_map.1 hx;simp only;rw[cutS_size];omega
def tameP(n:Nat)(l:List PairS):List PairS:=cutP n (pairsP (l.take 24))
structure Tame(n:Nat)(l:List PairS):Prop where
 sorted:SortedP l
 ok:PairsOk l
 len:l.length≤24
 small:∀x∈l,x.2.size≤n
theorem tameP_ok(n:Nat)(l:List PairS):Tame n (tameP n l):=by
 obtain⟨h1,h2,h3⟩:=pairsP_ok (l.take 24);obtain⟨k1,k2,k3,k4⟩:=cutP_ok (n:=n) h1 h2;exact⟨k1,k2,by unfold tameP;rw[k3];rw[List.length_take] at h3;omega,k4⟩
end
section
open Go.RowKit
attribute [local go_sem ↓] Go.wp_at_zero Go.wp_at_succ
def spIn(x:Nat):Bool:=x == 1 || x == 2
def usedTo(l:List Nat)(k:Nat):List Int:=((List.range k).filter (λi=>spIn (l.getD i 0))).map (λ(i:Nat)=>(i:Int))
theorem usedTo_succ(l:List Nat)(k:Nat):usedTo l (k+1)=usedTo l k++if spIn (l.getD k 0)=true then [(k:Int)] else []:=by
 unfold usedTo;rw[List.range_succ,List.filter_append,List.map_append];congr 1
 by_cases h:spIn (l.getD k 0)=true
 ·rw[if_pos h,List.filter_cons_of_pos (p:=λi=>spIn (l.getD i 0)) h];rfl
 ·rw[if_neg h,List.filter_cons_of_neg (p:=λi=>spIn (l.getD i 0)) h];rfl
theorem usedTo_len(l:List Nat)(k:Nat):(usedTo l k).length≤k:=by
 unfold usedTo;rw[List.length_map];exact Nat.le_trans (List.length_filter_le _ _) (by simp)
theorem Used_any(w:World)(b b2:Nat)(l:List Nat)(h:SpR w b b2 l) :
  Calls Tryz.prog 24 #[.pointer (some ⟨b,0,none⟩)] w λe w'=>∃uv,e=.returned uv∧Own (λ_=>False) w' w.heap.size 3 1 encI uv (usedTo l l.length)∧Ext w w':=by
 have c0:=h.own.cell (o:=0) (v:=.slice (some ⟨b2,0,none⟩) l.length l.length) rfl;have hl:=h.len;have hl2:=h.len2;have HS:=oh h;clear h
 go_enter Tryz.func24, Tryz.ntmps24
 go_wp2_with fail;go_loopg [3,13] l.length (λm v3 v13 wr=>∃(k:Nat) (uv:Value),k+m=l.length∧uv=v3∧v13=.int .i64 (k:Int)∧Hid (Own (λ_=>False) wr w.heap.size 3 1 encI uv (usedTo l k)∧Ext w wr))
 case atStart=>exact⟨0,_,by omega,rfl,rfl,oh ⟨Own.nil _ _ _ _ _ _,Mods.refl _ _⟩⟩
 case round =>
  obtain⟨k,v3,hk,rfl,rfl,HR⟩:=hrel;by_cases hlt:k<l.length
  ·obtain⟨x,hx⟩:∃x,x=l[k]:=⟨_,rfl⟩;have hx2:l[k]? = some x:=by rw[hx];simp[hlt]
   have hc:=(HS.out.row.ext HR.out.2).cell (spCells_at l k x hx2);have hgd:l.getD k 0=x:=by simp[List.getD,hx2]
   obtain⟨n,hn⟩:∃n,n=(usedTo l k).length:=⟨_,rfl⟩;have hn2:n≤k:=by rw[hn];exact usedTo_len l k
   obtain⟨pa,pc,hv, -, -⟩:=_root_.id HR.out.1.form;rw[← hn] at hv;have HU:=oh (usedTo_succ l k);rw[hgd] at HU;by_cases hi:spIn x=true
   ·rw[if_pos hi] at HU;have HLN:=oh hn.symm;have HOW:=oh (HR.out.1.ext ((Mods.refl _ wr).alloc (.cells #[.int .i64 (k:Int)] 3)));have HSZ:=oh HR.out.2.size;have hx12:x=1∨x=2:=by unfold spIn at hi;simpa using hi
    subst hv;clear hx hx2 hi hn hgd;rcases hx12 with rfl|rfl
    all_goals
     go_wp2_with (first
      | (at_builtin;refine wpl_app2 Tryz.elI encI_ok rfl _ _ rfl w.heap.size (.slice pa n pc) (.slice (some ⟨wr.heap.size,0,none⟩) 1 1) (usedTo l k) [(k:Int)] rfl rfl HOW.out (Sl.one (F:=λ_=>False) (x:=(k:Int)) (t := 3) (fz:=(0,0)) (heap_at rfl) (λf=>f)) (by rw[HLN.out];simp only[List.length_cons,List.length_nil];omega) (Nat.le_trans HSZ.out (by simp)) (λf=>f) ?_;intro a' c' w4 hown4 hmod4 hat4;rw[HLN.out] at hown4 ⊢;simp only[List.length_cons,List.length_nil,Nat.zero_add] at hown4 ⊢;have HO4:=oh hown4;have HM4:=oh hmod4;have HA4:=oh HR.out.1.lt;clear hown4 hmod4 hat4)
      | fail)
     go_roundg (gk-1)
     case measure=>omega
     case rel =>
      refine⟨k+1,_,by omega,rfl,by go_num,oh ⟨by rw[HU.out];exact HO4.out,(HR.out.2.alloc (.cells #[.int .i64 (k:Int)] 3)).trans' HM4.out (λi hi hg=>?_)⟩⟩;have:=(HA4.out i hg).1;omega
   ·rw[if_neg hi] at HU;have h1:((x:Int) == 1)=false:=by rw[beq_eq_false_iff_ne];intro e;exact hi (by unfold spIn;simp;omega)
    have h2:((x:Int) == 2)=false:=by rw[beq_eq_false_iff_ne];intro e;exact hi (by unfold spIn;simp;omega)
    have HRR:Hid (Own (λ_=>False) wr w.heap.size 3 1 encI v3 (usedTo l (k+1))∧Ext w wr):=oh (by rw[HU.out,List.append_nil];exact HR.out);clear hx hx2 hi hn hgd hv;go_wp2_with fail;go_roundg (gk-1)
    case measure=>omega
    case rel=>exact⟨k+1,_,by omega,rfl,by go_num,HRR⟩
  ·have hkq:k=l.length:=by omega
   have HF:Hid (Own (λ_=>False) wr w.heap.size 3 1 encI v3 (usedTo l l.length)):=oh (by have:=HR.out.1;rw[hkq] at this;exact this);have HM:=oh HR.out.2;clear hkq;go_wp2_with fail;go_ret;exact⟨_,rfl,HF.out,HM.out⟩
section
variable {P F:Nat→Prop}{w:World}{c s:Nat}{G:GA}{l:List Nat}
theorem pgUsed(h:PgR F w P c s G l) : Calls Tryz.prog 24 #[.pointer (some ⟨s,0,none⟩)] w λe w'=>∃uv,e=.returned uv∧Own (λ_=>False) w' w.heap.size 3 1 encI uv (usedTo l l.length)∧Ext w w':=by
 obtain⟨d,sb,bvs,Pd,b2,C,_,_,_,_,hs,_,_⟩:=h;exact Used_any w s b2 l hs
end
def usedP(pgs:List Int)(n:Nat):List Int:=((List.range n).filter (λ(i:Nat)=>decide (i<2) || pgs.contains (i:Int))).map (λ(i:Nat)=>(i:Int))
theorem usedP_succ(pgs:List Int)(k:Nat):usedP pgs (k+1)=usedP pgs k++if (decide (k<2) || pgs.contains (k:Int))=true then [(k:Int)] else []:=by
 unfold usedP;rw[List.range_succ,List.filter_append,List.map_append];congr 1
 by_cases h:(decide (k<2) || pgs.contains (k:Int))=true
 ·rw[if_pos h,List.filter_cons_of_pos (p:=λi:Nat=>decide (i<2) || pgs.contains (i:Int)) h];rfl
 ·rw[if_neg h,List.filter_cons_of_neg (p:=λi:Nat=>decide (i<2) || pgs.contains (i:Int)) h];rfl
theorem usedP_len(pgs:List Int)(k:Nat):(usedP pgs k).length≤k:=by
 unfold usedP;rw[List.length_map];exact Nat.le_trans (List.length_filter_le _ _) (by simp)
theorem contains_take(pgs:List Int)(k:Nat)(z:Int)(x:Int)(h:pgs[k]? = some x):(pgs.take (k+1)).contains z=((pgs.take k).contains z || (x == z)):=by
 rw[take_one pgs k x h,Bool.eq_iff_iff];simp only[List.contains_iff_mem,Bool.or_eq_true,List.mem_append,List.mem_singleton,beq_iff_eq];exact or_congr Iff.rfl eq_comm
theorem Used13_any{F:Nat→Prop}{w:World}(pgs:List Int)(pv:Value)(hp:Sl F w 1 encI pv pgs)(n:Nat)(hn:n≤256) :
  Calls Tryz.prog 25 #[pv,.int .i64 (n:Int)] w λe w'=>∃uv,e=.returned uv∧Own (λ_=>False) w' w.heap.size 3 1 encI uv (usedP pgs n)∧Ext w w':=by
 have HP:=oh hp;obtain⟨qa,qc,rfl,b1,b2,b3, -⟩:=hp;unfold maxLen at b2;have HO0:Hid (Own (λ_=>False) (w.alloc (.cells #[] 3)) w.heap.size 3 1 encI (.slice (some ⟨w.heap.size,0,none⟩) 0 0) (usedP pgs 0)):=oh (Own.empty (λk f=>f.elim) _ _ _ encI_ok.len);have HM0:Hid (Ext w (w.alloc (.cells #[] 3))):=oh ((Mods.refl _ w).alloc _)
 go_enter Tryz.func25, Tryz.ntmps25
 go_wp2_with fail;go_loopg [5,6] n (λm v5 v6 wr=>∃(k:Nat) (uv:Value),k+m=n∧uv=v5∧v6=.int .i64 (k:Int)∧Hid (Own (λ_=>False) wr w.heap.size 3 1 encI uv (usedP pgs k)∧Ext w wr))
 case atStart=>exact⟨0,_,by omega,rfl,rfl,oh ⟨HO0.out,HM0.out⟩⟩
 case round =>
  obtain⟨k,v3,hk,rfl,rfl,HR⟩:=hrel;obtain⟨wo,rfl⟩:∃wo:World,wo=wr:=⟨_,rfl⟩;obtain⟨go,rfl⟩:∃go:Nat,go=gk:=⟨_,rfl⟩;by_cases hlt:k<n
  ·go_wp2_with fail;go_loopg [7,8] pgs.length (λm v7 v8 wr=>∃(j:Nat) (bz:Bool),wr=wo∧j+m=pgs.length∧v7=.bool bz∧v8=.int .i64 (j:Int)∧Hid (bz=(decide (k<2) || (pgs.take j).contains (k:Int))))
   case atStart=>exact⟨0,_,rfl,by omega,rfl,rfl,oh (by simp;omega)⟩
   case round =>
    obtain⟨j,bz,rfl,hj,rfl,rfl,HB⟩:=hrel;by_cases hlj:j<pgs.length
    ·obtain⟨x,hx⟩:∃x,x=pgs[j]:=⟨_,rfl⟩;have hx2:pgs[j]? = some x:=by rw[hx];simp[hlj]
     obtain⟨qb,qoff,hqa,hc⟩:=HP.out.elem hlj HR.out.2;have d0:=hc 0 (.int .i64 x) (by rw[hx];rfl);simp only[Nat.add_zero,Nat.mul_one] at d0;subst hqa;have HT:=oh (contains_take pgs j (k:Int) x hx2);have i1:(0:Int)≤(j:Int):=by omega
     have i2:(j:Int)<(pgs.length:Int):=by omega
     clear hc hx hx2;cases bz with
     | true =>
      go_wp2_with fail;go_roundg (gk-1)
      case measure=>omega
      case rel=>exact⟨j+1,true,rfl,by omega,rfl,by go_num,oh (by rw[HT.out,← Bool.or_assoc,← HB.out];rfl)⟩
     | false =>
      go_wp2_with fail;go_roundg (gk-1)
      case measure=>omega
      case rel=>exact⟨j+1,(x == (k:Int)),rfl,by omega,rfl,by go_num,oh (by rw[HT.out,← Bool.or_assoc,← HB.out];simp)⟩
    ·have hjq:j=pgs.length:=by omega
     have HBB:Hid (bz=(decide (k<2) || pgs.contains (k:Int))):=oh (by have:=HB.out;rw[hjq,List.take_length] at this;exact this);have HU:=oh (usedP_succ pgs k);obtain⟨q,hq⟩:∃q,q=(usedP pgs k).length:=⟨_,rfl⟩;have hq2:q≤k:=by rw[hq];exact usedP_len pgs k
     obtain⟨pa,pc,hv, -, -⟩:=_root_.id HR.out.1.form;rw[← hq] at hv;clear hjq;cases bz with
     | true =>
      have HU2:Hid (usedP pgs (k+1)=usedP pgs k++[(k:Int)]):=oh (by rw[HU.out,if_pos HBB.out.symm]);have HLN:=oh hq.symm;have HOW:=oh (HR.out.1.ext ((Mods.refl _ wr).alloc (.cells #[.int .i64 (k:Int)] 3)));have HSZ:=oh HR.out.2.size;subst hv;clear hq;go_wp2_with (first
       | (at_builtin;refine wpl_app2 Tryz.elI encI_ok rfl _ _ rfl w.heap.size (.slice pa q pc) (.slice (some ⟨wr.heap.size,0,none⟩) 1 1) (usedP pgs k) [(k:Int)] rfl rfl HOW.out (Sl.one (F:=λ_=>False) (x:=(k:Int)) (t := 3) (fz:=(0,0)) (heap_at rfl) (λf=>f)) (by rw[HLN.out];simp only[List.length_cons,List.length_nil];omega) (Nat.le_trans HSZ.out (by simp)) (λf=>f) ?_;intro a' c' w4 hown4 hmod4 hat4;rw[HLN.out] at hown4 ⊢;simp only[List.length_cons,List.length_nil,Nat.zero_add] at hown4 ⊢;have HO4:=oh hown4;have HM4:=oh hmod4;have HA4:=oh HR.out.1.lt;clear hown4 hmod4 hat4)
       | fail)
      go_roundg (go-1)
      case measure=>omega
      case rel =>
       refine⟨k+1,_,by omega,rfl,by go_num,oh ⟨by rw[HU2.out];exact HO4.out,(HR.out.2.alloc (.cells #[.int .i64 (k:Int)] 3)).trans' HM4.out (λi hi hg=>?_)⟩⟩;have:=(HA4.out i hg).1;omega
     | false =>
      have HRR:Hid (Own (λ_=>False) wr w.heap.size 3 1 encI v3 (usedP pgs (k+1))∧Ext w wr):=oh (by rw[HU.out,if_neg (by rw[← HBB.out];simp),List.append_nil];exact HR.out);clear hq hv;go_wp2_with fail;go_roundg (go-1)
      case measure=>omega
      case rel=>exact⟨k+1,_,by omega,rfl,by go_num,HRR⟩
  ·have hkq:k=n:=by omega
   have HF:Hid (Own (λ_=>False) wo w.heap.size 3 1 encI v3 (usedP pgs n)):=oh (by have:=HR.out.1;rw[hkq] at this;exact this);have HM:=oh HR.out.2;clear hkq;go_wp2_with fail;go_ret;exact⟨_,rfl,HF.out,HM.out⟩
end
section
open Go.RowKit
def PagerG(ad:Nat→Addr)(w:World)(n g:Nat)(e:Ending)(w':World):Prop :=
 ∃(c s:Nat) (P F:Nat→Prop),e=.returned (.tuple #[pgV c s g,.bool true])∧PgR F w' P c s (G0 n) (spNew n)∧Nxt NoB P NoB F ad w w'
theorem pager15_any{ad:Nat→Addr}{w:World}(hL:Env NoB ad w) : Calls Tryz.prog 10 #[] w (PagerG ad w 250 5):=by
 have m0:Ext w (w.alloc (.cells #[.pointer none,.pointer none,.int .u64 0] 31)):=(Mods.refl _ w).alloc _;have HL:=oh (hL.withR m0 (by simp));have HB0:=oh (Blk.new w #[.pointer none,.pointer none,.int .u64 0] 31);have HL0:=oh hL;have HM0:=oh m0;clear hL m0
 go_enter Tryz.func10, Tryz.ntmps10
 go_wp2_with fail;refine (dkNew_ok 250 256 (by omega) (by omega) (by omega) (by omega)).mono ?_;rintro e w1 ⟨d,Pd,rfl,hD,hn,hm⟩;have HN1:=oh (Nxt.of (P:=NoB) (P':=Pd) HL.out (λ_ h=>h.elim) ⟨hm,λk hk h=>by have:=hn k h;omega,hD.bd⟩);have HD:=oh hD;have HB1:=oh (HB0.out.ext hm);have hrl:=HB1.out.lt;clear hD hn hm;go_wp2_with fail;refine (caNew_ok HN1.out.env (λ_ h=>.inr h) HD.out 5 (by omega) (by omega)).mono ?_;rintro e w2 ⟨c,sb,bvs,F2,rfl,hC,hN2⟩;have HC:=oh hC;have HN2:=oh (HN1.out.trans hN2);have hrl2:=Nat.lt_of_lt_of_le hrl hN2.size;clear hC hN2;go_wp2_with fail;refine (spNew_any 250 (by omega) (by omega)).mono ?_;rintro e w3 ⟨s,b2,rfl,hS,h1,h2,hm3⟩;obtain⟨P,F,hG,hN⟩:=PgR.made (s:=s) (b2:=b2) (n:=250) (by omega) (by omega) (q:=5) (by omega) (by omega) HC.out HN2.out hS hm3 h1 h2;have rb:=hN.blk HB0.out (λf=>f);have r0:=rb.cell (o:=0) rfl;have r1:=rb.cell (o:=1) rfl;have r2:=rb.cell (o:=2) rfl;have rf:=rb.frozen;have hR:∀k,P k→k≠w.heap.size:=λk hk e=>by
  subst e;exact hN.stp.old _ (by simp) hk
 have mR:Mods (λk=>k=w.heap.size) w3 (((w3.setCell ⟨w.heap.size,0,none⟩ (.pointer (some ⟨c,0,none⟩))).setCell ⟨w.heap.size,1,none⟩ (.pointer (some ⟨s,0,none⟩))).setCell ⟨w.heap.size,2,none⟩ (.int .u64 5)):=Mods.set3 (F:=λk=>k=w.heap.size) (Mods.refl _ w3) (.inr rfl) _ _ _;have hG4:=hG.plus (F':=F) mR hR (λk hk=>hN.grow k (.inr hk)) (λ_ _ h=>h);have HG:=oh hG4;have HN:Hid (Nxt NoB P NoB F ad w _):=oh ⟨⟨(Mods.set3 (HM0.out.trans hN.stp.mods) (.inl (Nat.le_refl w.heap.size)) (.pointer (some ⟨c,0,none⟩)) (.pointer (some ⟨s,0,none⟩)) (.int .u64 5)),λk hk hp=>hN.stp.old k (Nat.lt_of_lt_of_le hk HM0.out.size) hp,λk hk=>Nat.lt_of_lt_of_le (hN.stp.bd k hk) mR.size⟩,
  hN.sub,λ_ h=>h.elim,λk hk hf=>(hN.oldF k (Nat.lt_of_lt_of_le hk HM0.out.size) hf).elim id (λe=>by omega),hN.env.mods (mR.mono (λk hk=>hN.grow k (.inr hk)))⟩
 have HBR:=oh (Blk.set3 rb (.pointer (some ⟨c,0,none⟩)) (.pointer (some ⟨s,0,none⟩)) (.int .u64 5));clear hS h1 h2 hm3 hG hN hG4 mR hR rb;go_wp2_with fail;refine bodyPost_ret (results_row_tmp rfl _ _ w.heap.size 31 #[.pointer (some ⟨c,0,none⟩),.pointer (some ⟨s,0,none⟩),.int .u64 5] _ rfl HBR.out Tryz.underlying31 rfl Tryz.pagerSize) rfl ?_;exact⟨c,s,P,F,rfl,HG.out,HN.out⟩
def cutK(n k:Nat)(l:List PairS):List PairS:=cutP n (l.take k)++l.drop k
theorem cutK_zero(n:Nat)(l:List PairS):cutK n 0 l=l:=by simp[cutK,cutP]
theorem cutK_all(n:Nat)(l:List PairS):cutK n l.length l=cutP n l:=by simp[cutK]
theorem cutK_len(n k:Nat)(l:List PairS):(cutK n k l).length=l.length:=by
 unfold cutK cutP;rw[List.length_append,List.length_map,List.length_take,List.length_drop];omega
theorem cutK_at{n k:Nat}{l:List PairS}{x:PairS}(hx:l[k]? = some x):(cutK n k l)[k]? = some x:=by
 have hk:=(List.getElem?_eq_some_iff.1 hx).1;unfold cutK cutP;rw[List.getElem?_append_right (by rw[List.length_map,List.length_take];omega),List.length_map,List.length_take,List.getElem?_drop];rw[show k+(k-min k l.length)=k by omega];exact hx
theorem cutK_set{n k:Nat}{l:List PairS}{x:PairS}(hx:l[k]? = some x):(cutK n k l).set k (x.1,cutS n x.2)=cutK n (k+1) l:=by
 have hk:=(List.getElem?_eq_some_iff.1 hx).1;unfold cutK;have hl:(cutP n (l.take k)).length=k:=by unfold cutP;rw[List.length_map,List.length_take];omega
 rw[List.set_append_right _ _ (by rw[hl];exact Nat.le_refl _),hl,Nat.sub_self,drop_of hx,List.set_cons_zero,take_one l k x hx];unfold cutP;rw[List.map_append];simp
end
end Go.Proofs.YtchklfmggpconaaGreatDoor
