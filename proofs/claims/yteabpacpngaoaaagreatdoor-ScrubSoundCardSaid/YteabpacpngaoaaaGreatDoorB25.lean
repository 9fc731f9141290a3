import Derived.Test.YteabpacpngaoaaaGreatDoorB10
import Derived.Test.YteabpacpngaoaaaGreatDoorB24
import Derived.Laws.IdiomStrings
import Derived.IntWalk
namespace Go.Proofs.YteabpacpngaoaaaGreatDoor
open Lib renaming hid→oh
set_option maxRecDepth 100000
section
open Go.RowKit
theorem pw_rising:∀{l:List ByteArray},(l.Pairwise λa b=>ltS a b=true)→risingS l=true
 | [],_=>rfl
 | [_],_=>rfl
 | a :: b :: l,h=>by
  have h1:=List.pairwise_cons.1 h;simp only[risingS,Bool.and_eq_true];exact⟨h1.1 b List.mem_cons_self,pw_rising h1.2⟩
def PairsOk(l:List PairS):Prop:=∀x∈l,keyB x.1=true∧x.2.size≤4096
theorem bytesT_len(s:ByteArray):(bytesT s).length=1+s.size:=by
 unfold bytesT;rw[List.length_append,leB_length,Array.length_toList];rfl
theorem bytesE_len{e:EntryA}(h:rightE e=true):(bytesE e).length≤59:=by
 unfold rightE at h;simp only[Bool.and_eq_true] at h;have hk:=(keyB_iff e.key).1 h.1;have h2:=h.2;unfold bytesE;rw[List.length_append,bytesT_len];by_cases hc:e.chain=0
 ·rw[if_pos hc] at h2 ⊢;simp only[Bool.and_eq_true,decide_eq_true_eq] at h2;rw[List.length_append,leB_length,bytesT_len];omega
 ·rw[if_neg hc];simp only[List.length_append,leB_length];omega
theorem flat_len{α:Type}(g:α→List UInt8)(M:Nat):∀(l:List α),(∀x∈l,(g x).length≤M)→(l.flatMap g).length≤M * l.length
 | [],_=>by simp
 | x :: l,h=>by
  have h1:=flat_len g M l (λy hy=>h y (List.mem_cons_of_mem _ hy));have h2:=h x List.mem_cons_self;rw[List.flatMap_cons,List.length_append,List.length_cons,Nat.mul_succ];omega
theorem bytesK_len{p:ByteArray × Int}(h:keyB p.1=true):(bytesK p).length≤37:=by
 have hk:=(keyB_iff p.1).1 h;unfold bytesK;rw[List.length_append,bytesT_len,leB_length];omega
structure RdR(F:Nat→Prop)(w:World)(B:Nat)(bv:Value)(b:List UInt8)(r:RdA):Prop where
 own:Blk w B #[bv,.int .i64 r.at_,.bool r.bad] 358
 sl:Sl F w 1 encB bv b
 mem:F B
section
variable {F:Nat→Prop}{ad:Nat→Addr}{w w':World}{B:Nat}{bv:Value}{b:List UInt8}{r:RdA}
theorem takeF_small(b:List UInt8)(p:Int)(W:Nat)(hW:W=1∨W=2∨W=4):(takeF b p W).1<4294967296:=by
 unfold takeF;split
 ·simp
 ·split
  ·simp
  ·have:=ofLe_lt ((b.drop p.toNat).take W);have h2:((b.drop p.toNat).take W).length≤4:=Nat.le_trans (List.length_take_le _ _) (by omega);have h3:(256:Nat) ^ ((b.drop p.toNat).take W).length≤256 ^ 4:=Nat.pow_le_pow_right (by omega) h2;simp only;omega
theorem RdR.turn(h:RdR F w B bv b r)(r':RdA)(m:Mods (λk=>k=B) w w')(hB:Blk w' B #[bv,.int .i64 r'.at_,.bool r'.bad] 358):RdR F w' B bv b r' :=
 ⟨hB,h.sl.mods (m.mono (λk e=>by subst e;exact h.mem)),h.mem⟩
theorem rdNum_any(hL:Env F ad w)(h:RdR F w B bv b r)(W:Nat)(hW:W=1∨W=2∨W=4)(h0:0≤r.at_)(h1:r.at_≤1000000000000) :
  Calls Tryz.prog 245 #[.pointer (some ⟨B,0,none⟩),.int .i64 (W:Int)] w λe w'=>e=.returned (.int .i64 ((rdNum b r W).1:Nat))∧RdR F w' B bv b (rdNum b r W).2∧Mods (λk=>k=B) w w':=by
 obtain⟨a,bd⟩:=r;simp only at h0 h1;have hsm:=takeF_small b a W hW;obtain⟨sa,cap,rfl,hz,_,_,_⟩:=_root_.id h.sl;obtain⟨n,hn⟩:∃n,n=(takeF b a W).1:=⟨_,rfl⟩;rw[← hn] at hsm;have HN:=oh hn;have HH:=oh h;have HLd:=oh (hL.mods (Mods.refl _ w).drew);have HSd:=oh (h.sl.mods (Mods.refl _ w).drew);have HW:=oh hW;have hW4:W≤4:=by omega
 have c0:=h.own.cell (o:=0) (v:=.slice sa b.length cap) rfl;have c1:=h.own.cell (o:=1) (v:=.int .i64 a) rfl;have c2:=h.own.cell (o:=2) (v:=.bool bd) rfl;clear h hL hW hn
 go_enter Tryz.func245, Tryz.ntmps245
 go_wp2_with fail;go_region_held3 (λw'=>w'.cell? ⟨B,0,none⟩=some (.slice sa b.length cap)∧w'.cell? ⟨B,1,none⟩=some (.int .i64 a))
  (first|(with_reducible exact⟨x0,x1⟩)|go_keep)
  (first
   | (go_at_call 247;refine (Take_any HLd.out _ b HSd.out a W (by have:=HW.out;omega)).mono ?_;rintro e w1 ⟨ev,rfl,hE,hm⟩;rw[← HN.out];have x0:=cellE hm c0;have x1:=cellE hm c1))
 have x2:=cellE hm c2;have HB:=oh ((HH.out.own.drew).ext hm);have f1:=HB.out.frozen 1;have f2:=HB.out.frozen 2;have HM:=oh (hm.ofDrew);have HM2:Hid (∀x:Bool,Mods (λk=>k=B) w ((w1.setCell ⟨B,2,none⟩ (.bool x)).setCell ⟨B,1,none⟩ (.int .i64 (a+W)))) :=
  oh λx=>HM.out.ext.trans ((Mods.at (λk=>k=B) w1 B 2 _ rfl).trans (Mods.at (λk=>k=B) _ B 1 _ rfl))
 clear c0 c1 c2 hm;cases hT:(takeF b a W).2 with
 | none =>
  rw[hT] at hE;cases hE
  have HR:Hid (rdNum b ⟨a,bd⟩ W=(n,⟨a+W,bd⟩)):=oh (by unfold rdNum;simp only[hT,← HN.out];simp);clear hT;cases bd
  all_goals
   go_wp2_with fail;go_ret;exact⟨by rw[HR.out];rfl,by rw[HR.out];exact HH.out.turn _ (HM2.out _) ((HB.out.set 2 _).set 1 _),HM2.out _⟩
 | some er =>
  rw[hT] at hE;obtain⟨el,ek⟩:=er;obtain⟨f,rfl,hE⟩:=hE;have HR:Hid (rdNum b ⟨a,bd⟩ W=(n,⟨a+W,true⟩)):=oh (by unfold rdNum;simp only[hT,← HN.out];simp);clear hT hE;cases bd
  all_goals
   go_wp2_with fail;go_ret;exact⟨by rw[HR.out];rfl,by rw[HR.out];exact HH.out.turn _ (HM2.out _) ((HB.out.set 2 _).set 1 _),HM2.out _⟩
end
section
variable {P P' F F':Nat→Prop}{ad:Nat→Addr}{w w':World}{c s:Nat}
theorem ready_ok(op:ByteArray)(gen:Nat) : Calls Tryz.prog 193 #[.string op,pgV c s gen] w λe w'=>e=.returned .nilIface∧Ext w w':=by
 unfold pgV;have m0:Ext w (w.alloc (.cells #[.pointer (some ⟨c,0,none⟩),.pointer (some ⟨s,0,none⟩),.int .u64 (gen:Int)] 120)):=(Mods.refl _ w).alloc _;have M0:=oh m0;clear m0
 go_enter Tryz.func193, Tryz.ntmps193
 go_wp2_with fail;go_ret;exact⟨rfl,M0.out⟩
end
theorem vw_ok[GhoI]{C:CaA}(hI:CaInv C){id:Nat}(hid:id<C.disk.blocks){p:PageA}(h:C.vw id=.inl p):p.id=(id:Int)∧pgOk p C.disk.size:=by
 unfold CaA.vw at h;split at h
 ·rename_i s hs;injection h with h;subst h;have hm:=List.mem_of_find?_eq_some hs;have hh:=List.find?_some hs;obtain⟨i,hi,e⟩:=List.getElem_of_mem hm;have hi2:C.slots[i]? = some s:=by rw[← e];exact List.getElem?_eq_getElem hi
  have hf:s.full=true∧s.page.id=(id:Int):=by
   cases hfl:s.full with
   | false=>rw[not_has (.inl hfl)] at hh;cases hh
   | true =>
    by_cases e:s.page.id=(id:Int)
    ·exact⟨rfl,e⟩
    ·rw[not_has (.inr e)] at hh;cases hh
  exact⟨hf.2,(hI.page i s hi2 hf.1).2.2⟩
 ·have hl:=hI.len id hid;unfold openAtP at h;split at h
  ·cases h
  ·rename_i h1;split at h
   ·cases h
   ·rename_i h2;injection h with h;subst h;simp only[ne_eq,Decidable.not_not] at h2;unfold openB at h1;simp only[Bool.not_eq_false,Bool.and_eq_true,decide_eq_true_eq] at h1;refine⟨h2,?_,readP_gen _⟩;rw[← hl];exact h1.1
section
variable {P F:Nat→Prop}{ad:Nat→Addr}{w:World}{c s:Nat}{G:GA}{l:List Nat}
theorem PgR.page[GhoI](h:PgR F w P c s G l){id:Nat}(hid:id<G.blocks){p:PageA}(hv:G.view id=some (.inl p)):p.id=(id:Int)∧pgOk p G.size:=by
 obtain⟨d,sb,bvs,Pd,b2,C,h1,h2,h3,h4,h5,h6,h7,h8⟩:=h;have:=vw_ok h2 (by rw[h3.blocks];exact hid) (h3.view id _ hv);rw[h3.size] at this;exact this
theorem PgR.got[GhoI](h:PgR F w P c s G l){id:Int}{p:PageA}(hv:G.get id=.inl p):p.id=id∧pgOk p G.size∧p.body.length≤1000:=by
 unfold GA.get at hv;split at hv
 ·cases hv
 ·rename_i hc;unfold GA.check at hc;split at hc
  ·cases hc
  ·rename_i hr;split at hv
   ·rename_i q hq;injection hv with hv;subst hv;obtain⟨k1,k2⟩:=h.page (id:=id.toNat) (by omega) hq;have:=(pgCheck_none k2.1).2.2.2.2.2;have:=h.lim;exact⟨by omega,k2,by omega⟩
   ·cases hv
   ·cases hv
end
def spFresh(l:List Nat)(id:Int):Bool:=decide (0≤id) && decide (l[id.toNat]? = some 2)
theorem Fresh_any(w:World)(b b2:Nat)(l:List Nat)(h:SpR w b b2 l)(id:Int) :
  Calls Tryz.prog 221 #[.pointer (some ⟨b,0,none⟩),.int .i64 id] w λe w'=>e=.returned (.bool (spFresh l id))∧w=w':=by
 have c0:=h.own.cell (o:=0) (v:=.slice (some ⟨b2,0,none⟩) l.length l.length) rfl;have hl:=h.len;have hl2:=h.len2;by_cases h0:0≤id
 ·obtain⟨i,rfl⟩:∃i:Nat,id=i:=⟨id.toNat,by omega⟩;by_cases h1:i<l.length
  ·obtain⟨x,hx⟩:∃x,l[i]? = some x:=⟨_,List.getElem?_eq_getElem h1⟩;have c1:=h.row.cell (spCells_at l i x hx);have HR:Hid (spFresh l (i:Int)=decide (x=2)):=oh (by
    unfold spFresh;rw[decide_eq_true (by omega),Int.toNat_natCast,hx];simp)
   have h2:(i:Int)<(l.length:Int):=by omega
   clear h hx h0 h1;by_cases hx2:x=2
   ·subst hx2
    go_enter Tryz.func221, Tryz.ntmps221
    go_wp2
    go_ret;exact⟨by rw[HR.out];rfl,rfl⟩
   ·rw[decide_eq_false hx2] at HR;have hx3:¬ (x:Int)=2:=by omega
    clear hx2
    go_enter Tryz.func221, Tryz.ntmps221
    go_wp2
    go_ret;exact⟨by rw[HR.out];simp[hx3],rfl⟩
  ·have HR:Hid (spFresh l (i:Int)=false):=oh (by
    unfold spFresh;rw[Int.toNat_natCast,List.getElem?_eq_none_iff.2 (by omega)];simp)
   have h2:¬ (i:Int)<(l.length:Int):=by omega
   clear h h0 h1
   go_enter Tryz.func221, Tryz.ntmps221
   go_wp2
   go_ret;exact⟨by rw[HR.out];rfl,rfl⟩
 ·have HR:Hid (spFresh l id=false):=oh (by unfold spFresh;rw[decide_eq_false h0];rfl);clear h
  go_enter Tryz.func221, Tryz.ntmps221
  go_wp2
  go_ret;exact⟨by rw[HR.out];rfl,rfl⟩
section
variable {P F:Nat→Prop}{w:World}{c s:Nat}{G:GA}{l:List Nat}
theorem pgFresh[GhoI](h:PgR F w P c s G l)(id:Int) : Calls Tryz.prog 221 #[.pointer (some ⟨s,0,none⟩),.int .i64 id] w λe w'=>e=.returned (.bool (spFresh l id))∧w=w':=by
 obtain⟨d,sb,bvs,Pd,b2,C,h1,h2,h3,h4,h5,h6,h7,h8⟩:=h;exact Fresh_any w s b2 l h5 id
end
abbrev e0:ByteArray:=⟨#[]⟩
def addP(acc:List PairS)(x:PairS):List PairS:=if keyB x.1=true∧x.2.size≤4096 then withP x.1 x.2 false acc else acc
def pairsP(l:List PairS):List PairS:=l.foldl addP []
theorem pairsP_snoc(l:List PairS)(x:PairS):pairsP (l++[x])=addP (pairsP l) x:=by
 unfold pairsP;rw[List.foldl_append];rfl
theorem withP_len(key value:ByteArray)(over:Bool):∀l:List PairS,(withP key value over l).length≤l.length+1
 | []=>by simp[withP]
 | x :: l=>by
  have:=withP_len key value over l;unfold withP;split
  ·simp only[List.length_cons];omega
  ·split
   ·split <;> simp
   ·simp
theorem addP_ok{acc:List PairS}{x:PairS}(h1:SortedP acc)(h2:PairsOk acc):SortedP (addP acc x)∧PairsOk (addP acc x)∧(addP acc x).length≤acc.length+1:=by
 unfold addP;split
 ·rename_i hc;refine⟨sorted_withP h1,λy hy=>?_,withP_len _ _ _ _⟩;rcases mem_withP hy with rfl|hy
  ·exact hc
  ·exact h2 y hy
 ·exact⟨h1,h2,by omega⟩
theorem foldP_ok:∀(l acc:List PairS),SortedP acc→PairsOk acc→SortedP (l.foldl addP acc)∧PairsOk (l.foldl addP acc)∧(l.foldl addP acc).length≤acc.length+l.length
 | [],acc,h1,h2=>⟨h1,h2,by simp⟩
 | x :: l,acc,h1,h2=>by
  obtain⟨k1,k2,k3⟩:=addP_ok (x:=x) h1 h2;obtain⟨j1,j2,j3⟩:=foldP_ok l (addP acc x) k1 k2;exact⟨j1,j2,by simp only[List.length_cons] at j3 ⊢;rw[List.foldl_cons];omega⟩
theorem pairsP_ok(l:List PairS):SortedP (pairsP l)∧PairsOk (pairsP l)∧(pairsP l).length≤l.length:=by
 obtain⟨h1,h2,h3⟩:=foldP_ok l [] List.Pairwise.nil (λx h=>by simp at h);exact⟨h1,h2,by simpa[pairsP] using h3⟩
def turnL(a b:Nat)(l:List Nat):List Nat:=l.map λx=>if x=a then b else x
def spCommit(l:List Nat):List Nat:=turnL 3 0 (turnL 2 1 l)
theorem turn_one{a b:Nat}{l:List Nat}{k x:Nat}(hx:l[k]? = some x):(turnL a b (l.take k)++l.drop k).set k (if x=a then b else x)=turnL a b (l.take (k+1))++l.drop (k+1):=by
 obtain⟨hlt,hxe⟩:=List.getElem?_eq_some_iff.1 hx;rw[take_one l k x hx];unfold turnL;rw[List.map_append,List.set_append_right _ _ (by simp;omega)];have e:l.drop k=x :: l.drop (k+1):=by rw[List.drop_eq_getElem_cons hlt,hxe]
 rw[e];simp only[List.length_map,List.length_take];rw[show k-min k l.length=0 by omega];simp
theorem turn_at{a b:Nat}{l:List Nat}{k x:Nat}(hx:l[k]? = some x):(turnL a b (l.take k)++l.drop k)[k]? = some x:=by
 have hlt:=(List.getElem?_eq_some_iff.1 hx).1;rw[List.getElem?_append_right (by simp[turnL];omega)];simp only[turnL,List.length_map,List.length_take,List.getElem?_drop];rw[show k+(k-min k l.length)=k by omega];exact hx
theorem turn_skip{a b:Nat}{l:List Nat}{k x:Nat}(hx:l[k]? = some x)(hn:x≠a):turnL a b (l.take (k+1))++l.drop (k+1)=turnL a b (l.take k)++l.drop k:=by
 obtain⟨hlt,hxe⟩:=List.getElem?_eq_some_iff.1 hx;rw[take_one l k x hx];have e:l.drop k=x :: l.drop (k+1):=by rw[List.drop_eq_getElem_cons hlt,hxe]
 rw[e];unfold turnL;simp[hn]
theorem turn_len(a b:Nat)(l:List Nat)(k:Nat):(turnL a b (l.take k)++l.drop k).length=l.length:=by simp[turnL];omega
theorem turn_any(w:World)(b b2:Nat)(l:List Nat)(h:SpR w b b2 l)(x y:Nat)(hx4:x<4)(_hy4:y<4) :
  Calls Tryz.prog 98 #[.pointer (some ⟨b,0,none⟩),.int .i64 (x:Int),.int .i64 (y:Int)] w λe w'=>e=.returned (.tuple #[])∧SpR w' b b2 (turnL x y l)∧Mods (spF b b2) w w':=by
 have hl:=h.len;have hl2:=h.len2;have c0:=h.own.cell (o:=0) (v:=.slice (some ⟨b2,0,none⟩) l.length l.length) rfl;have HS:=oh h;clear h
 go_enter Tryz.func98, Tryz.ntmps98
 go_wp2
 go_loopg [15] l.length (λm i wr=>∃k:Nat,k+m=l.length∧i=.int .i64 k∧Hid (SpR wr b b2 (turnL x y (l.take k)++l.drop k)∧Mods (spF b b2) w wr))
 case atStart=>exact⟨0,by omega,rfl,oh ⟨by simpa[turnL] using HS.out,Mods.refl _ _⟩⟩
 case round =>
  obtain⟨k,hk,rfl,HQ⟩:=hrel;by_cases hlt:k<l.length
  ·obtain⟨v,hv⟩:∃v,l[k]? = some v:=⟨_,List.getElem?_eq_getElem hlt⟩;have c0:=HQ.out.1.own.cell (o:=0) rfl;rw[turn_len] at c0;have c1:=HQ.out.1.row.cell (spCells_at _ k v (turn_at hv));have f1:=HQ.out.1.row.frozen k;have HV:=oh hv;clear hv;by_cases hvx:v=x
   ·subst hvx;have HN:Hid (SpR (wr.setCell ⟨b2,k,none⟩ (.int .i64 (y:Int))) b b2 (turnL v y (l.take (k+1))++l.drop (k+1))∧Mods (spF b b2) w (wr.setCell ⟨b2,k,none⟩ (.int .i64 (y:Int)))):=oh ⟨by
     have:=HQ.out.1.set k y;have e:=turn_one (a:=v) (b:=y) HV.out;rw[if_pos rfl] at e;rw[e] at this;exact this,HQ.out.2.trans (Mods.at _ _ b2 k _ (.inr rfl))⟩
    go_wp2
    go_roundg (gk-1)
    case measure=>omega
    case rel=>exact⟨k+1,by omega,by go_num,HN⟩
   ·have hvi:¬ (v:Int)=(x:Int):=by omega
    go_wp2
    go_roundg (gk-1)
    case measure=>omega
    case rel=>exact⟨k+1,by omega,by go_num,oh (by rw[turn_skip HV.out hvx];exact HQ.out)⟩
  ·go_wp2
   go_end0
   have:=HQ.out;rw[List.take_of_length_le (by omega),List.drop_of_length_le (by omega),List.append_nil] at this;exact⟨rfl,this.1,this.2⟩
theorem Commit_any(w:World)(b b2:Nat)(l:List Nat)(h:SpR w b b2 l) :
  Calls Tryz.prog 60 #[.pointer (some ⟨b,0,none⟩)] w λe w'=>e=.returned (.tuple #[])∧SpR w' b b2 (spCommit l)∧Mods (spF b b2) w w':=by
 have H1:=turn_any w b b2 l h 2 1 (by omega) (by omega);change Calls Tryz.prog 98 #[.pointer (some ⟨b,0,none⟩),.int .i64 2,.int .i64 1] _ _ at H1
 have H1:=oh H1;clear h
 go_enter Tryz.func60, Tryz.ntmps60
 go_wp2_with fail;refine H1.out.mono ?_;rintro e w1 ⟨rfl,hS1,hm1⟩;have H2:=turn_any w1 b b2 _ hS1 3 0 (by omega) (by omega);change Calls Tryz.prog 98 #[.pointer (some ⟨b,0,none⟩),.int .i64 3,.int .i64 0] _ _ at H2
 have H2:=oh H2;have HM1:=oh hm1;clear hS1 hm1;go_wp2_with fail;refine H2.out.mono ?_;rintro e w2 ⟨rfl,hS2,hm2⟩;have HS2:=oh hS2;have HM2:=oh (HM1.out.trans hm2);clear hS2 hm2;go_wp2_with fail;go_end0
 exact⟨rfl,HS2.out,HM2.out⟩
end
section
open Go.RowKit
attribute [local go_sem ↓] Go.wp_at_zero Go.wp_at_succ
def spIn(x:Nat):Bool:=x == 1 || x == 2
def usedTo(l:List Nat)(k:Nat):List Int:=((List.range k).filter (λi=>spIn (l.getD i 0))).map (λ(i:Nat)=>(i:Int))
theorem usedTo_succ(l:List Nat)(k:Nat):usedTo l (k+1)=usedTo l k++if spIn (l.getD k 0)=true then [(k:Int)] else []:=by
 unfold usedTo;rw[List.range_succ,List.filter_append,List.map_append];congr 1
 by_cases h:spIn (l.getD k 0)=true
 ·rw[if_pos h,List.filter_cons_of_pos (p:=λi=>spIn (l.getD i 0)) h];rfl
 ·rw[if_neg h,List.filter_cons_of_neg (p:=λi=>spIn (l.getD i 0)) h];rfl
theorem usedTo_len(l:List Nat)(k:Nat):(usedTo l k).length≤k:=by
 unfold usedTo;rw[List.length_map];exact Nat.le_trans (List.length_filter_le _ _) (by simp)
set_option maxHeartbeats 1000000 in
theorem Used_any(w:World)(b b2:Nat)(l:List Nat)(h:SpR w b b2 l) :
  Calls Tryz.prog 95 #[.pointer (some ⟨b,0,none⟩)] w λe w'=>∃uv,e=.returned uv∧Own (λ_=>False) w' w.heap.size 3 1 encI uv (usedTo l l.length)∧Ext w w':=by
 have c0:=h.own.cell (o:=0) (v:=.slice (some ⟨b2,0,none⟩) l.length l.length) rfl;have hl:=h.len;have hl2:=h.len2;have HS:=oh h;clear h
 go_enter Tryz.func95, Tryz.ntmps95
 go_wp2_with fail;go_loopg [3,13] l.length (λm v3 v13 wr=>∃(k:Nat) (uv:Value),k+m=l.length∧uv=v3∧v13=.int .i64 (k:Int)∧Hid (Own (λ_=>False) wr w.heap.size 3 1 encI uv (usedTo l k)∧Ext w wr))
 case atStart=>exact⟨0,_,by omega,rfl,rfl,oh ⟨Own.nil _ _ _ _ _ _,Mods.refl _ _⟩⟩
 case round =>
  obtain⟨k,v3,hk,rfl,rfl,HR⟩:=hrel;by_cases hlt:k<l.length
  ·obtain⟨x,hx⟩:∃x,x=l[k]:=⟨_,rfl⟩;have hx2:l[k]? = some x:=by rw[hx];simp[hlt]
   have hc:=(HS.out.row.ext HR.out.2).cell (spCells_at l k x hx2);have hgd:l.getD k 0=x:=by simp[List.getD,hx2]
   obtain⟨n,hn⟩:∃n,n=(usedTo l k).length:=⟨_,rfl⟩;have hn2:n≤k:=by rw[hn];exact usedTo_len l k
   obtain⟨pa,pc,hv, -, -⟩:=_root_.id HR.out.1.form;rw[← hn] at hv;have HU:=oh (usedTo_succ l k);rw[hgd] at HU;by_cases hi:spIn x=true
   ·rw[if_pos hi] at HU;have HLN:=oh hn.symm;have HOW:=oh (HR.out.1.ext ((Mods.refl _ wr).alloc (.cells #[.int .i64 (k:Int)] 3)));have HSZ:=oh HR.out.2.size;have hx12:x=1∨x=2:=by unfold spIn at hi;simpa using hi
    subst hv;clear hx hx2 hi hn hgd;rcases hx12 with rfl|rfl
    all_goals
     go_wp2_with (first
      | (at_builtin;refine wpl_app2 Tryz.elI encI_ok rfl _ _ rfl w.heap.size (.slice pa n pc) (.slice (some ⟨wr.heap.size,0,none⟩) 1 1) (usedTo l k) [(k:Int)] rfl rfl HOW.out (Sl.one (F:=λ_=>False) (x:=(k:Int)) (t := 3) (fz:=(0,0)) (heap_at rfl) (λf=>f)) (by rw[HLN.out];simp only[List.length_cons,List.length_nil];omega) (Nat.le_trans HSZ.out (by simp)) (λf=>f) ?_;intro a' c' w4 hown4 hmod4 hat4;rw[HLN.out] at hown4 ⊢;simp only[List.length_cons,List.length_nil,Nat.zero_add] at hown4 ⊢;have HO4:=oh hown4;have HM4:=oh hmod4;have HA4:=oh HR.out.1.lt;clear hown4 hmod4 hat4)
      | fail)
     go_roundg (gk-1)
     case measure=>omega
     case rel =>
      refine⟨k+1,_,by omega,rfl,by go_num,oh ⟨by rw[HU.out];exact HO4.out,(HR.out.2.alloc (.cells #[.int .i64 (k:Int)] 3)).trans' HM4.out (λi hi hg=>?_)⟩⟩;have:=(HA4.out i hg).1;omega
   ·rw[if_neg hi] at HU;have h1:((x:Int) == 1)=false:=by rw[beq_eq_false_iff_ne];intro e;exact hi (by unfold spIn;simp;omega)
    have h2:((x:Int) == 2)=false:=by rw[beq_eq_false_iff_ne];intro e;exact hi (by unfold spIn;simp;omega)
    have HRR:Hid (Own (λ_=>False) wr w.heap.size 3 1 encI v3 (usedTo l (k+1))∧Ext w wr):=oh (by rw[HU.out,List.append_nil];exact HR.out);clear hx hx2 hi hn hgd hv;go_wp2_with fail;go_roundg (gk-1)
    case measure=>omega
    case rel=>exact⟨k+1,_,by omega,rfl,by go_num,HRR⟩
  ·have hkq:k=l.length:=by omega
   have HF:Hid (Own (λ_=>False) wr w.heap.size 3 1 encI v3 (usedTo l l.length)):=oh (by have:=HR.out.1;rw[hkq] at this;exact this);have HM:=oh HR.out.2;clear hkq;go_wp2_with fail;go_ret;exact⟨_,rfl,HF.out,HM.out⟩
end
section
open Go.RowKit
end
end Go.Proofs.YteabpacpngaoaaaGreatDoor
