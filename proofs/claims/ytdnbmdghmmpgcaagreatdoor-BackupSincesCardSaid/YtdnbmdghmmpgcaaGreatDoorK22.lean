import Derived.Test.YtdnbmdghmmpgcaaGreatDoorK21
import Derived.Laws.IdiomStrings
import Derived.IntWalk
import Derived.OwnWalk
namespace Go.Proofs.YtdnbmdghmmpgcaaGreatDoor
open Lib renaming hid→oh
set_option maxHeartbeats 2000000
set_option maxRecDepth 100000
section
open Go.RowKit
theorem bytesT_len(s:ByteArray):(bytesT s).length=1+s.size:=by
 unfold bytesT;rw[List.length_append,leB_length,Array.length_toList];rfl
theorem bytesE_len{e:EntryA}(h:rightE e=true):(bytesE e).length≤59:=by
 unfold rightE at h;simp only[Bool.and_eq_true] at h;have hk:=(keyB_iff e.key).1 h.1;have h2:=h.2;unfold bytesE;rw[List.length_append,bytesT_len];by_cases hc:e.chain=0
 ·rw[if_pos hc] at h2 ⊢;simp only[Bool.and_eq_true,decide_eq_true_eq] at h2;rw[List.length_append,leB_length,bytesT_len];omega
 ·rw[if_neg hc];simp only[List.length_append,leB_length];omega
theorem flat_len{α:Type}(g:α→List UInt8)(M:Nat):∀(l:List α),(∀x∈l,(g x).length≤M)→(l.flatMap g).length≤M * l.length
 | [],_=>by simp
 | x :: l,h=>by
  have h1:=flat_len g M l (λy hy=>h y (List.mem_cons_of_mem _ hy));have h2:=h x List.mem_cons_self;rw[List.flatMap_cons,List.length_append,List.length_cons,Nat.mul_succ];omega
theorem bytesK_len{p:ByteArray × Int}(h:keyB p.1=true):(bytesK p).length≤37:=by
 have hk:=(keyB_iff p.1).1 h;unfold bytesK;rw[List.length_append,bytesT_len,leB_length];omega
structure RdR(F:Nat→Prop)(w:World)(B:Nat)(bv:Value)(b:List UInt8)(r:RdA):Prop where
 own:Blk w B #[bv,.int .i64 r.at_,.bool r.bad] 410
 sl:Sl F w 1 encB bv b
 mem:F B
section
variable {F:Nat→Prop}{ad:Nat→Addr}{w w':World}{B:Nat}{bv:Value}{b:List UInt8}{r:RdA}
theorem takeF_small(b:List UInt8)(p:Int)(W:Nat)(hW:W=1∨W=2∨W=4):(takeF b p W).1<4294967296:=by
 unfold takeF;split
 ·simp
 ·split
  ·simp
  ·have:=ofLe_lt ((b.drop p.toNat).take W);have h2:((b.drop p.toNat).take W).length≤4:=Nat.le_trans (List.length_take_le _ _) (by omega);have h3:(256:Nat) ^ ((b.drop p.toNat).take W).length≤256 ^ 4:=Nat.pow_le_pow_right (by omega) h2;simp only;omega
theorem RdR.turn(h:RdR F w B bv b r)(r':RdA)(m:Mods (λk=>k=B) w w')(hB:Blk w' B #[bv,.int .i64 r'.at_,.bool r'.bad] 410):RdR F w' B bv b r' :=
 ⟨hB,h.sl.mods (m.mono (λk e=>by subst e;exact h.mem)),h.mem⟩
theorem rdNum_any(hL:Env F ad w)(h:RdR F w B bv b r)(W:Nat)(hW:W=1∨W=2∨W=4)(h0:0≤r.at_)(h1:r.at_≤1000000000000) :
  Calls Tryz.prog 273 #[.pointer (some ⟨B,0,none⟩),.int .i64 (W:Int)] w λe w'=>e=.returned (.int .i64 ((rdNum b r W).1:Nat))∧RdR F w' B bv b (rdNum b r W).2∧Mods (λk=>k=B) w w':=by
 obtain⟨a,bd⟩:=r;simp only at h0 h1;have hsm:=takeF_small b a W hW;obtain⟨sa,cap,rfl,hz,_,_,_⟩:=_root_.id h.sl;obtain⟨n,hn⟩:∃n,n=(takeF b a W).1:=⟨_,rfl⟩;rw[← hn] at hsm;have HN:=oh hn;have HH:=oh h;have HLd:=oh (hL.mods (Mods.refl _ w).drew);have HSd:=oh (h.sl.mods (Mods.refl _ w).drew);have HW:=oh hW;have hW4:W≤4:=by omega
 have c0:=h.own.cell (o:=0) (v:=.slice sa b.length cap) rfl;have c1:=h.own.cell (o:=1) (v:=.int .i64 a) rfl;have c2:=h.own.cell (o:=2) (v:=.bool bd) rfl;clear h hL hW hn
 go_enter Tryz.func273, Tryz.ntmps273
 go_wp2_with fail;go_region_held3 (λw'=>w'.cell? ⟨B,0,none⟩=some (.slice sa b.length cap)∧w'.cell? ⟨B,1,none⟩=some (.int .i64 a))
  (first|(with_reducible exact⟨x0,x1⟩)|go_keep)
  (first
   | (go_at_call 118;refine (Take_any HLd.out _ b HSd.out a W (by have:=HW.out;omega)).mono ?_;rintro e w1 ⟨ev,rfl,hE,hm⟩;rw[← HN.out];have x0:=cellE hm c0;have x1:=cellE hm c1))
 have x2:=cellE hm c2;have HB:=oh ((HH.out.own.drew).ext hm);have f1:=HB.out.frozen 1;have f2:=HB.out.frozen 2;have HM:=oh (hm.ofDrew);have HM2:Hid (∀x:Bool,Mods (λk=>k=B) w ((w1.setCell ⟨B,2,none⟩ (.bool x)).setCell ⟨B,1,none⟩ (.int .i64 (a+W)))) :=
  oh λx=>HM.out.ext.trans ((Mods.at (λk=>k=B) w1 B 2 _ rfl).trans (Mods.at (λk=>k=B) _ B 1 _ rfl))
 clear c0 c1 c2 hm;cases hT:(takeF b a W).2 with
 | none =>
  rw[hT] at hE;cases hE
  have HR:Hid (rdNum b ⟨a,bd⟩ W=(n,⟨a+W,bd⟩)):=oh (by unfold rdNum;simp only[hT,← HN.out];simp);clear hT;cases bd
  all_goals
   go_wp2_with fail;go_ret;exact⟨by rw[HR.out];rfl,by rw[HR.out];exact HH.out.turn _ (HM2.out _) ((HB.out.set 2 _).set 1 _),HM2.out _⟩
 | some er =>
  rw[hT] at hE;obtain⟨el,ek⟩:=er;obtain⟨f,rfl,hE⟩:=hE;have HR:Hid (rdNum b ⟨a,bd⟩ W=(n,⟨a+W,true⟩)):=oh (by unfold rdNum;simp only[hT,← HN.out];simp);clear hT hE;cases bd
  all_goals
   go_wp2_with fail;go_ret;exact⟨by rw[HR.out];rfl,by rw[HR.out];exact HH.out.turn _ (HM2.out _) ((HB.out.set 2 _).set 1 _),HM2.out _⟩
end
theorem Right03_any(W:Nat)(hw:W=1∨W=2∨W=4∨W=8)(w:World) : Calls Tryz.prog 166 #[.int .i64 (W:Int)] w λe w'=>e=.returned (.bool true)∧w=w':=by
 rcases hw with rfl|rfl|rfl|rfl
 all_goals
  go_enter Tryz.func166, Tryz.ntmps166
  go_wp2_with fail;go_ret;exact⟨rfl,rfl⟩
theorem Fits03_any(n W:Nat)(hw:W≤8)(hn:n<256 ^ W)(h64:n<18446744073709551616)(w:World) : Calls Tryz.prog 167 #[.int .u64 (n:Int),.int .i64 (W:Int)] w λe w'=>e=.returned (.bool true)∧Ext w w':=by
 have HN:=oh hn;clear hn
 go_enter Tryz.func167, Tryz.ntmps167
 go_wp2_with fail;go_loopg [0,5] W (λq v0 v5 wr=>∃(k m:Nat),k+q=W∧v0=.int .u64 m∧v5=.int .i64 k∧m<18446744073709551616∧Hid (m=n / 256 ^ k)∧Hid (Ext w wr))
 case atStart=>exact⟨0,n,by omega,rfl,rfl,h64,oh (by simp),oh (Mods.refl _ w)⟩
 case round =>
  obtain⟨k,m,hk,rfl,rfl,hm,HQ,HM⟩:=hrel;by_cases hltn:k<W
  ·have hk8:k<8:=by omega
   go_wp2_with fail;go_roundg (gk-1)
   case measure=>omega
   case rel=>exact⟨k+1,m / 256,by omega,by go_num,by go_num,by omega,oh (by rw[HQ.out,Nat.div_div_eq_div_mul,Nat.pow_succ]),HM⟩
  ·obtain rfl:k=W:=by omega
   have hz:m=0:=by rw[HQ.out];exact Nat.div_eq_of_lt HN.out
   subst hz;go_wp2_with fail;go_ret;exact⟨rfl,HM.out⟩
theorem leB_snoc:∀(k n:Nat),leB (k+1) n=leB k n++[UInt8.ofNat (n / 256 ^ k)]
 | 0,n=>by simp[leB]
 | k+1,n=>by
  rw[leB,leB_snoc k (n / 256),leB,List.cons_append,Nat.div_div_eq_div_mul,Nat.pow_succ,Nat.mul_comm 256]
theorem leB_len03:∀(k n:Nat),(leB k n).length=k
 | 0,_=>rfl
 | k+1,n=>by rw[leB,List.length_cons,leB_len03 k]
theorem Put03_any{F:Nat→Prop}{w:World}(bv:Value)(l:List UInt8)(hb:Sl F w 1 encB bv l)(n W:Nat)(hw:W=1∨W=2∨W=4∨W=8)(hn:n<256 ^ W)(h64:n<18446744073709551616)(hlen:l.length≤1000000000) :
  Calls Tryz.prog 113 #[bv,.int .u64 (n:Int),.int .i64 (W:Int)] w λe w'=>∃a c,e=.returned (.tuple #[.slice a (l.length+W) c,.int .i64 0]) ∧
   Own (λ_=>False) w' w.heap.size 5 1 encB (.slice a (l.length+W) c) (l++leB W n)∧Ext w w':=by
 have hw8:W≤8:=by omega
 have HB:=oh hb;have HN:=oh hn;have HW:=oh hw;obtain⟨ba,bc,rfl,i1,i2,i3,i4⟩:=hb;clear i4 hn hw
 go_enter Tryz.func113, Tryz.ntmps113
 go_wp2_with fail;refine (Right03_any W HW.out _).mono ?_;rintro e w1 ⟨rfl,rfl⟩;go_wp2_with fail;refine (Fits03_any n W hw8 HN.out h64 _).mono ?_;rintro e w2 ⟨rfl,hm2⟩;have HM2:=oh hm2;have HSZ:=oh hm2.size;clear hm2;go_wp2_with (at_builtin;refine wpl_app2 Tryz.elB encB_ok rfl _ _ rfl w.heap.size (.slice (some ⟨w2.heap.size,0,none⟩) 0 0) _ ([]:List UInt8) l rfl rfl (Own.made (cur:=#[]) (b:=w2.heap.size) (cap:=0) (l:=([]:List UInt8)) (sz:=1) (enc:=encB) (F:=λ_=>False) (Blk.new w2 #[] 5) HSZ.out (λf=>f) (by simp) (by simp[maxLen]) rfl rfl encB_ok.len) (HB.out.ext (HM2.out.alloc _)) (by simp;omega) (Nat.le_trans HSZ.out (by simp)) (λf=>f) ?_;intro a' c' w4 hown hmod hat);have HM4:Hid (Ext w w4):=oh ((HM2.out.alloc (.cells #[] 5)).trans' hmod (λi hi h=>by have:=HSZ.out;simp[Value.ownBlock] at h;omega));have HO4:=oh hown;clear hown hmod hat;go_loopg [1,8,9] W (λq v1 v8 v9 wr=>∃(k m:Nat),k+q=W∧v1=.int .u64 m∧v9=.int .i64 k∧m<18446744073709551616∧Hid (m=n / 256 ^ k)∧Hid (Own (λ_=>False) wr w.heap.size 5 1 encB v8 (l++leB k n))∧Hid (Ext w wr))
 case atStart=>exact⟨0,n,by omega,rfl,rfl,h64,oh (by simp),oh (by simpa[leB] using HO4.out),HM4⟩
 case round =>
  obtain⟨k,m,hk,rfl,rfl,hm,HQ,HO,HM⟩:=hrel;by_cases hltn:k<W
  ·obtain⟨R,hR⟩:∃R,R=l++leB k n:=⟨_,rfl⟩;have hfl:R.length=l.length+k:=by rw[hR,List.length_append,leB_len03]
   have HS:Hid (l++leB (k+1) n=R++[UInt8.ofNat m]):=oh (by rw[leB_snoc,HQ.out,hR,List.append_assoc]);rw[← hR] at HO;clear hR;obtain⟨a0,c0,rfl,_⟩:=HO.out.form;have HSZ2:=oh HM.out.size;have he:((UInt8.ofNat m).toNat:Int)=(m:Int) % 256:=by rw[UInt8.toNat_ofNat'];omega
   obtain⟨x,hx⟩:∃x,x=UInt8.ofNat m:=⟨_,rfl⟩;rw[← hx] at HS he;clear hx;go_wp2_with (at_builtin;refine wpl_app2 Tryz.elB encB_ok rfl _ _ rfl w.heap.size (.slice a0 R.length c0) (.slice (some ⟨wr.heap.size,0,none⟩) 1 1) R [x] rfl rfl (HO.out.ext ((Mods.refl _ _).alloc _)) (Sl.one (F:=λ_=>False) (x:=x) (t := 5) (fz:=(0,0)) (by rw[show (encB x).toArray=#[.int .u8 ((m:Int) % 256)] by simp[encB,he]];exact heap_at rfl) (λf=>f)) (by simp[hfl];omega) (Nat.le_trans HSZ2.out (by simp)) (λf=>f) ?_;intro a5 c5 w5 hown hmod hat);go_roundg (gk-1)
   case measure=>omega
   case rel=>exact⟨k+1,m / 256,by omega,by go_num,by go_num,by omega,oh (by rw[HQ.out,Nat.div_div_eq_div_mul,Nat.pow_succ]),oh (by rw[HS.out];simpa[hfl] using hown),oh ((HM.out.alloc _).trans' hmod (λi hi h=>by have:=(HO.out.lt i h).1;omega))⟩
  ·obtain rfl:k=W:=by omega
   have hfl:(l++leB k n).length=l.length+k:=by rw[List.length_append,leB_len03]
   obtain⟨a0,c0,rfl,_⟩:=HO.out.form;go_wp2_with fail;go_ret2
   exact⟨a0,c0,by rw[← hfl];rfl,hfl ▸ HO.out,HM.out⟩
section
variable {P P' F F':Nat→Prop}{ad:Nat→Addr}{w w':World}{c s:Nat}
theorem ready_ok(op:ByteArray)(gen:Nat) : Calls Tryz.prog 193 #[.string op,pgV c s gen] w λe w'=>e=.returned .nilIface∧Ext w w':=by
 unfold pgV;have m0:Ext w (w.alloc (.cells #[.pointer (some ⟨c,0,none⟩),.pointer (some ⟨s,0,none⟩),.int .u64 (gen:Int)] 142)):=(Mods.refl _ w).alloc _;have M0:=oh m0;clear m0
 go_enter Tryz.func193, Tryz.ntmps193
 go_wp2_with fail;go_ret;exact⟨rfl,M0.out⟩
end
theorem vw_ok{C:CaA}(hI:CaInv C){id:Nat}(hid:id<C.disk.blocks){p:PageA}(h:C.vw id=.inl p):p.id=(id:Int)∧pgOk p C.disk.size:=by
 unfold CaA.vw at h;split at h
 ·rename_i s hs;injection h with h;subst h;have hm:=List.mem_of_find?_eq_some hs;have hh:=List.find?_some hs;obtain⟨i,hi,e⟩:=List.getElem_of_mem hm;have hi2:C.slots[i]? = some s:=by rw[← e];exact List.getElem?_eq_getElem hi
  have hf:s.full=true∧s.page.id=(id:Int):=by
   cases hfl:s.full with
   | false=>rw[not_has (.inl hfl)] at hh;cases hh
   | true =>
    by_cases e:s.page.id=(id:Int)
    ·exact⟨rfl,e⟩
    ·rw[not_has (.inr e)] at hh;cases hh
  exact⟨hf.2,(hI.page i s hi2 hf.1).2.2⟩
 ·have hl:=hI.len id hid;unfold openAtP at h;split at h
  ·cases h
  ·rename_i h1;split at h
   ·cases h
   ·rename_i h2;injection h with h;subst h;simp only[ne_eq,Decidable.not_not] at h2;unfold openB at h1;simp only[Bool.not_eq_false,Bool.and_eq_true,decide_eq_true_eq] at h1;refine⟨h2,?_,readP_gen _⟩;rw[← hl];exact h1.1
section
variable {P F:Nat→Prop}{ad:Nat→Addr}{w:World}{c s:Nat}{G:GA}{l:List Nat}
theorem PgR.page(h:PgR F w P c s G l){id:Nat}(hid:id<G.blocks){p:PageA}(hv:G.view id=some (.inl p)):p.id=(id:Int)∧pgOk p G.size:=by
 obtain⟨d,sb,bvs,Pd,b2,C,h1,h2,h3,h4,h5,h6,h7⟩:=h;have:=vw_ok h2 (by rw[h3.blocks];exact hid) (h3.view id _ hv);rw[h3.size] at this;exact this
theorem PgR.got(h:PgR F w P c s G l){id:Int}{p:PageA}(hv:G.get id=.inl p):p.id=id∧pgOk p G.size∧p.body.length≤1000:=by
 unfold GA.get at hv;split at hv
 ·cases hv
 ·rename_i hc;unfold GA.check at hc;split at hc
  ·cases hc
  ·rename_i hr;split at hv
   ·rename_i q hq;injection hv with hv;subst hv;obtain⟨k1,k2⟩:=h.page (id:=id.toNat) (by omega) hq;have:=(pgCheck_none k2.1).2.2.2.2.2;have:=h.lim;exact⟨by omega,k2,by omega⟩
   ·cases hv
   ·cases hv
end
def spFresh(l:List Nat)(id:Int):Bool:=decide (0≤id) && decide (l[id.toNat]? = some 2)
theorem Fresh_any(w:World)(b b2:Nat)(l:List Nat)(h:SpR w b b2 l)(id:Int) :
  Calls Tryz.prog 284 #[.pointer (some ⟨b,0,none⟩),.int .i64 id] w λe w'=>e=.returned (.bool (spFresh l id))∧w=w':=by
 have c0:=h.own.cell (o:=0) (v:=.slice (some ⟨b2,0,none⟩) l.length l.length) rfl;have hl:=h.len;have hl2:=h.len2;by_cases h0:0≤id
 ·obtain⟨i,rfl⟩:∃i:Nat,id=i:=⟨id.toNat,by omega⟩;by_cases h1:i<l.length
  ·obtain⟨x,hx⟩:∃x,l[i]? = some x:=⟨_,List.getElem?_eq_getElem h1⟩;have c1:=h.row.cell (spCells_at l i x hx);have HR:Hid (spFresh l (i:Int)=decide (x=2)):=oh (by
    unfold spFresh;rw[decide_eq_true (by omega),Int.toNat_natCast,hx];simp)
   have h2:(i:Int)<(l.length:Int):=by omega
   clear h hx h0 h1;by_cases hx2:x=2
   ·subst hx2
    go_enter Tryz.func284, Tryz.ntmps284
    go_wp2
    go_ret;exact⟨by rw[HR.out];rfl,rfl⟩
   ·rw[decide_eq_false hx2] at HR;have hx3:¬ (x:Int)=2:=by omega
    clear hx2
    go_enter Tryz.func284, Tryz.ntmps284
    go_wp2
    go_ret;exact⟨by rw[HR.out];simp[hx3],rfl⟩
  ·have HR:Hid (spFresh l (i:Int)=false):=oh (by
    unfold spFresh;rw[Int.toNat_natCast,List.getElem?_eq_none_iff.2 (by omega)];simp)
   have h2:¬ (i:Int)<(l.length:Int):=by omega
   clear h h0 h1
   go_enter Tryz.func284, Tryz.ntmps284
   go_wp2
   go_ret;exact⟨by rw[HR.out];rfl,rfl⟩
 ·have HR:Hid (spFresh l id=false):=oh (by unfold spFresh;rw[decide_eq_false h0];rfl);clear h
  go_enter Tryz.func284, Tryz.ntmps284
  go_wp2
  go_ret;exact⟨by rw[HR.out];rfl,rfl⟩
section
variable {P F:Nat→Prop}{w:World}{c s:Nat}{G:GA}{l:List Nat}
theorem pgFresh(h:PgR F w P c s G l)(id:Int) : Calls Tryz.prog 284 #[.pointer (some ⟨s,0,none⟩),.int .i64 id] w λe w'=>e=.returned (.bool (spFresh l id))∧w=w':=by
 obtain⟨d,sb,bvs,Pd,b2,C,h1,h2,h3,h4,h5,h6,h7⟩:=h;exact Fresh_any w s b2 l h5 id
end
abbrev e0:ByteArray:=⟨#[]⟩
def addP(acc:List PairS)(x:PairS):List PairS:=if keyB x.1=true∧x.2.size≤4096 then withP x.1 x.2 false acc else acc
def pairsP(l:List PairS):List PairS:=l.foldl addP []
theorem pairsP_snoc(l:List PairS)(x:PairS):pairsP (l++[x])=addP (pairsP l) x:=by
 unfold pairsP;rw[List.foldl_append];rfl
theorem withP_len(key value:ByteArray)(over:Bool):∀l:List PairS,(withP key value over l).length≤l.length+1
 | []=>by simp[withP]
 | x :: l=>by
  have:=withP_len key value over l;unfold withP;split
  ·simp only[List.length_cons];omega
  ·split
   ·split <;> simp
   ·simp
theorem addP_ok{acc:List PairS}{x:PairS}(h1:SortedP acc)(h2:PairsOk acc):SortedP (addP acc x)∧PairsOk (addP acc x)∧(addP acc x).length≤acc.length+1:=by
 unfold addP;split
 ·rename_i hc;refine⟨sorted_withP h1,λy hy=>?_,withP_len _ _ _ _⟩;rcases mem_withP hy with rfl|hy
  ·exact hc
  ·exact h2 y hy
 ·exact⟨h1,h2,by omega⟩
theorem foldP_ok:∀(l acc:List PairS),SortedP acc→PairsOk acc→SortedP (l.foldl addP acc)∧PairsOk (l.foldl addP acc)∧(l.foldl addP acc).length≤acc.length+l.length
 | [],acc,h1,h2=>⟨h1,h2,by simp⟩
 | x :: l,acc,h1,h2=>by
  obtain⟨k1,k2,k3⟩:=addP_ok (x:=x) h1 h2;obtain⟨j1,j2,j3⟩:=foldP_ok l (addP acc x) k1 k2;exact⟨j1,j2,by simp only[List.length_cons] at j3 ⊢;rw[List.foldl_cons];omega⟩
theorem pairsP_ok(l:List PairS):SortedP (pairsP l)∧PairsOk (pairsP l)∧(pairsP l).length≤l.length:=by
 obtain⟨h1,h2,h3⟩:=foldP_ok l [] List.Pairwise.nil (λx h=>by simp at h);exact⟨h1,h2,by simpa[pairsP] using h3⟩
def txtB(s:ByteArray):List UInt8:=leB 2 s.size++s.data.toList
structure HeadA where
 kind:Nat
 gen:Nat
 base:Nat
 records:Nat
 deriving DecidableEq
def signB:List UInt8:=[83,67,82,49]
def headB(h:HeadA):List UInt8:=signB++leB 1 h.kind++leB 8 h.gen++leB 8 h.base++leB 4 h.records
def endB(b:List UInt8):List UInt8:=b++leB 4 (crcSum b)
def pairB(x:PairS):List UInt8:=txtB x.1++txtB x.2
def wholeB(gen:Nat)(l:List PairS):List UInt8:=endB (headB ⟨1,gen,0,l.length⟩ ++ l.flatMap pairB)
def recB(c:ChV):List UInt8 :=
 if c.was=false then leB 1 1++txtB c.key++txtB c.new
 else if c.is=false then leB 1 3++txtB c.key++leB 4 (crcSum c.old.data.toList)
 else leB 1 2++txtB c.key++txtB c.new++leB 4 (crcSum c.old.data.toList)
def sinceB(gen:Nat)(was is:List PairS)(base:Nat):List UInt8:=endB (headB ⟨2,gen,base,(diffP was is).length⟩ ++ (diffP was is).flatMap recB)
def wordP(l:List UInt8)(p:Nat):Option (ByteArray × Nat) :=
 if p+2≤l.length∧p+2+numAt l p 2≤l.length then some (⟨((l.drop (p+2)).take (numAt l p 2)).toArray⟩,p+2+numAt l p 2) else none
def readRecs(l:List UInt8):Nat→Nat→List PairS→Option (List PairS × Nat)
 | 0,p,acc=>some (acc,p)
 | n+1,p,acc=>match wordP l p with
  | none=>none
  | some (k,p1)=>match wordP l p1 with
   | none=>none
   | some (v,p2)=>readRecs l n p2 (acc++[(k,v)])
def headP(b:List UInt8):HeadA:=⟨numAt b 4 1,numAt b 5 8,numAt b 13 8,numAt b 21 4⟩
def peekB(b:List UInt8):HeadA ⊕ Nat :=
 if b.length<29∨b.take 4≠signB then .inr 1
 else if ¬ ((headP b).kind=1∧(headP b).base=0∨(headP b).kind=2) then .inr 1
 else if numAt b (b.length-4) 4≠crcSum (b.take (b.length-4)) then .inr 5 else .inl (headP b)
def rightL:ByteArray→List PairS→Bool
 | _,[]=>true
 | last,x :: l=>keyB x.1 && ltS last x.1 && decide (x.2.size≤4096) && rightL x.1 l
def readB(b:List UInt8):(HeadA × List PairS) ⊕ Nat:=match peekB b with
 | .inr c=>.inr c
 | .inl h=>if h.kind≠1 then .inr 1 else match readRecs (b.take (b.length-4)) h.records 25 [] with
  | none=>.inr 1
  | some (l,p)=>if p=b.length-4∧rightL ⟨#[]⟩ l=true then .inl (h,l) else .inr 1
theorem headB_length(h:HeadA):(headB h).length=25:=by simp[headB,signB,leB_length]
theorem txtB_length(s:ByteArray):(txtB s).length=2+s.size:=by simp[txtB,leB_length]
theorem wordP_txt{A B:List UInt8}{s:ByteArray}(hs:s.size<65536):wordP (A++(txtB s++B)) A.length=some (s,A.length+2+s.size):=by
 have hn:numAt (A++(txtB s++B)) A.length 2=s.size:=by
  have e:A++(txtB s++B)=A++(leB 2 s.size++(s.data.toList++B)):=by simp only[txtB,List.append_assoc]
  rw[e];exact numAt_mid A _ 2 s.size A.length rfl hs
 have hl:(A++(txtB s++B)).length=A.length+(2+s.size+B.length):=by rw[List.length_append,List.length_append,txtB_length]
 unfold wordP;rw[hn,if_pos ⟨by omega,by omega⟩];have hd:((A++(txtB s++B)).drop (A.length+2)).take s.size=s.data.toList:=by
  have e:A++(txtB s++B)=(A++leB 2 s.size)++(s.data.toList++B):=by simp only[txtB,List.append_assoc]
  rw[e,List.drop_left' (by rw[List.length_append,leB_length])];exact List.take_left' (by rw[Array.length_toList];rfl)
 rw[hd]
theorem readRecs_pairs:∀(l:List PairS) (A B:List UInt8) (acc:List PairS),(∀x∈l,x.1.size<65536∧x.2.size<65536)→readRecs (A++(l.flatMap pairB++B)) l.length A.length acc=some (acc++l,A.length+(l.flatMap pairB).length)
 | [],A,B,acc,_=>by simp[readRecs]
 | x :: l,A,B,acc,h=>by
  obtain⟨h1,h2⟩:=h x List.mem_cons_self;have e1:A++((x :: l).flatMap pairB++B)=A++(txtB x.1++(txtB x.2++(l.flatMap pairB++B))):=by simp only[List.flatMap_cons,pairB,List.append_assoc]
  have e2:A++(txtB x.1++(txtB x.2++(l.flatMap pairB++B)))=(A++txtB x.1)++(txtB x.2++(l.flatMap pairB++B)):=by simp only[List.append_assoc]
  have e3:(A++txtB x.1)++(txtB x.2++(l.flatMap pairB++B))=(A++txtB x.1++txtB x.2)++(l.flatMap pairB++B):=by simp only[List.append_assoc]
  have l1:A.length+2+x.1.size=(A++txtB x.1).length:=by rw[List.length_append,txtB_length];omega
  have l2:(A++txtB x.1).length+2+x.2.size=(A++txtB x.1++txtB x.2).length:=by rw[List.length_append (bs:=txtB x.2),txtB_length];omega
  rw[e1,List.length_cons,readRecs,wordP_txt h1];simp only;rw[l1,e2,wordP_txt h2];simp only;rw[l2,e3,readRecs_pairs l _ B _ (λy hy=>h y (List.mem_cons_of_mem _ hy))];simp only[List.flatMap_cons,pairB,List.length_append,List.append_assoc,List.singleton_append];rw[Nat.add_assoc A.length,Nat.add_assoc (txtB x.1).length]
theorem head_num(h:HeadA)(R:List UInt8)(h1:h.kind<256)(h2:h.gen<18446744073709551616)(h3:h.base<18446744073709551616)(h4:h.records<4294967296):headP (headB h++R)=h:=by
 have n0:numAt (headB h++R) 4 1=h.kind:=by
  have e:headB h++R=signB++(leB 1 h.kind++(leB 8 h.gen++leB 8 h.base++leB 4 h.records++R)):=by simp only[headB,List.append_assoc]
  rw[e];exact numAt_mid _ _ 1 h.kind 4 rfl h1
 have n1:numAt (headB h++R) 5 8=h.gen:=by
  have e:headB h++R=(signB++leB 1 h.kind)++(leB 8 h.gen++(leB 8 h.base++leB 4 h.records++R)):=by simp only[headB,List.append_assoc]
  rw[e];exact numAt_mid _ _ 8 h.gen 5 (by rw[List.length_append,leB_length];rfl) h2
 have n2:numAt (headB h++R) 13 8=h.base:=by
  have e:headB h++R=(signB++leB 1 h.kind++leB 8 h.gen)++(leB 8 h.base++(leB 4 h.records++R)):=by simp only[headB,List.append_assoc]
  rw[e];exact numAt_mid _ _ 8 h.base 13 (by rw[List.length_append,List.length_append,leB_length,leB_length];rfl) h3
 have n3:numAt (headB h++R) 21 4=h.records:=by
  have e:headB h++R=(signB++leB 1 h.kind++leB 8 h.gen++leB 8 h.base)++(leB 4 h.records++R):=by simp only[headB,List.append_assoc]
  rw[e];exact numAt_mid _ _ 4 h.records 21 (by rw[List.length_append,List.length_append,List.length_append,leB_length,leB_length,leB_length];rfl) h4
 unfold headP;rw[n0,n1,n2,n3]
theorem endB_length(b:List UInt8):(endB b).length=b.length+4:=by simp[endB,leB_length]
theorem endB_take(b:List UInt8):(endB b).take ((endB b).length-4)=b:=by
 rw[endB_length,Nat.add_sub_cancel];exact List.take_left' rfl
theorem endB_sum(b:List UInt8):numAt (endB b) ((endB b).length-4) 4=crcSum b:=by
 rw[endB_length,Nat.add_sub_cancel];have e:endB b=b++(leB 4 (crcSum b)++[]):=by rw[List.append_nil];rfl
 rw[e];exact numAt_mid b [] 4 (crcSum b) b.length rfl (crcSum_lt b)
theorem peek_end(h:HeadA)(R:List UInt8)(h1:h.kind=1∧h.base=0∨h.kind=2)(h2:h.gen<18446744073709551616)(h3:h.base<18446744073709551616)(h4:h.records<4294967296):peekB (endB (headB h++R))=.inl h:=by
 have hk:h.kind<256:=by rcases h1 with h|h <;> omega
 have hp:headP (endB (headB h++R))=h:=by
  unfold endB;rw[List.append_assoc];exact head_num h _ hk h2 h3 h4
 have hl:=headB_length h;have ht:(endB (headB h++R)).take 4=signB:=by
  have e:endB (headB h++R)=signB++(leB 1 h.kind++leB 8 h.gen++leB 8 h.base++leB 4 h.records++R++leB 4 (crcSum (headB h++R))):=by simp only[endB,headB,List.append_assoc]
  rw[e];exact List.take_left' rfl
 unfold peekB;rw[if_neg (by rw[endB_length,List.length_append,ht];intro hc;rcases hc with hc|hc;omega;exact hc rfl),hp,if_neg (λhc=>hc h1),if_neg (by rw[endB_sum,endB_take];exact λhc=>hc rfl)]
theorem read_whole{gen:Nat}{l:List PairS}(hg:gen<18446744073709551616)(hl:l.length<4294967296)(hr:rightL ⟨#[]⟩ l=true)(hk:∀x∈l,x.1.size<65536∧x.2.size<65536):readB (wholeB gen l)=.inl (⟨1,gen,0,l.length⟩,l):=by
 unfold readB wholeB;rw[peek_end _ _ (.inl ⟨rfl,rfl⟩) hg (by show 0<18446744073709551616;omega) hl];simp only;rw[if_neg (λh=>h rfl),endB_take];have hrd:=readRecs_pairs l (headB ⟨1,gen,0,l.length⟩) [] [] hk;rw[List.append_nil,headB_length,List.nil_append] at hrd;rw[hrd];simp only;rw[if_pos ⟨by rw[endB_length,List.length_append,headB_length];omega,hr⟩]
end
section
open Go.RowKit
attribute [local go_sem ↓] Go.wp_at_zero Go.wp_at_succ
section
variable {F:Nat→Prop}{ad:Nat→Addr}{w w':World}{B:Nat}{l:List UInt8}
theorem PutText_ok(hL:Env F ad w)(bv:Value)(l:List UInt8)(hb:Sl F w 1 encB bv l)(s:ByteArray)(hs:s.size≤65535)(hlen:l.length≤900000000) :
  Calls Tryz.prog 116 #[bv,.string s] w λe w'=>∃a c,e=.returned (.tuple #[.slice a (l.length+2+s.size) c,.nilIface])∧Sl F w' 1 encB (.slice a (l.length+2+s.size) c) (l++txtB s)∧Ext w w':=by
 have HPU:=oh (Put_any hL bv l hb s.size 2 (by decide) (by show s.size<65536;omega) (by omega));have HLF:=oh (λk (h:F k)=>hL.lt k h);obtain⟨a,c,rfl, -⟩:=hb;obtain⟨n,hn⟩:∃n,n=s.size:=⟨_,rfl⟩;have HN:=oh hn;obtain⟨L,hl⟩:∃n,n=l.length:=⟨_,rfl⟩;have HLN:=oh hl;have e1:¬ (65535:Int)<(s.size:Int):=by omega
 clear hL hn hl
 go_enter Tryz.func116, Tryz.ntmps116
 go_wp2_with fail;refine HPU.out.mono ?_;rintro e w1 ⟨a1,c1,rfl,hO1,m1⟩;have HO1:=oh (hO1.blocks (G:=λ_=>False) (λ_ _ f=>f));have HM1:=oh m1;have HZ1:=oh m1.size;have hql:(l++leB 2 s.size).length=l.length+2:=by rw[List.length_append,leB_length]
 have HQL:=oh hql;clear hO1 m1 hql;go_wp2_with (at_builtin;refine wpl_app_str Tryz.elB Tryz.underlying9 rfl _ _ rfl w.heap.size (.slice a1 (l.length+2) c1) (l++leB 2 s.size) s rfl rfl HO1.out (by rw[HQL.out];omega) HZ1.out ?_;intro a2 c2 w2 hO2 hg2;rw[HQL.out] at hO2 ⊢;have HO2:=oh hO2;have HM2:Hid (Ext w w2):=oh (Mods.grown HM1.out hg2 (λk hk=>.inl (HO1.out.lt k hk).1));clear hO2 hg2);go_ret2
 refine⟨a2,c2,rfl,?_,HM2.out⟩;have e:l++txtB s=l++leB 2 s.size++s.data.toList:=by unfold txtB;rw[List.append_assoc]
 rw[e];exact (HO2.out.blocks (G:=F) (λg hg f=>by have:=(HO2.out.lt g hg).1;have:=HLF.out g f;omega)).sl (λ_=>rfl) (by rw[List.length_append,HQL.out,size_toList];omega)
def BwR(F:Nat→Prop)(w:World)(B:Nat)(l:List UInt8):Prop:=∃v,Blk w B #[v,.nilIface] 199 ∧ Sl F w 1 encB v l
theorem BwR.ext(h:BwR F w B l)(m:Ext w w'):BwR F w' B l:=by
 obtain⟨v,h1,h2⟩:=h;exact⟨v,h1.ext m,h2.ext m⟩
theorem bw_set{v v':Value}(hF:F B)(h1:Blk w B #[v,.nilIface] 199)(h2:Sl F w 1 encB v' l):BwR F ((w.setCell ⟨B,0,none⟩ v').setCell ⟨B,1,none⟩ .nilIface) B l∧Mods (λj=>j=B) w ((w.setCell ⟨B,0,none⟩ v').setCell ⟨B,1,none⟩ .nilIface):=by
 have m:Mods (λj=>j=B) w ((w.setCell ⟨B,0,none⟩ v').setCell ⟨B,1,none⟩ .nilIface):=Mods.setCell (F:=λj=>j=B) (Mods.setCell (F:=λj=>j=B) (Mods.refl _ w) (p:=⟨B,0,none⟩) (.inr rfl) _) (p:=⟨B,1,none⟩) (.inr rfl) _;exact⟨⟨v',by simpa using (h1.set 0 v').set 1 .nilIface,h2.mods (m.mono (λj h=>by have h':j=B:=h;rw[h'];exact hF))⟩,m⟩
theorem bwNum(hL:Env F ad w)(hF:F B)(h:BwR F w B l)(n W:Nat)(hW:W=1∨W=2∨W=4∨W=8)(hn:n<256 ^ W)(hlen:l.length≤900000000) :
  Calls Tryz.prog 108 #[.pointer (some ⟨B,0,none⟩),.int .u64 (n:Int),.int .i64 (W:Int)] w λe w'=>e=.returned (.tuple #[])∧BwR F w' B (l++leB W n)∧Mods (λj=>j=B) w w':=by
 obtain⟨v,hB,hS⟩:=h;have HPU:=oh (Put_any hL v l hS n W hW hn (by omega));have b0:=hB.cell (o:=0) (v:=v) rfl;have b1:=hB.cell (o:=1) (v:=.nilIface) rfl;have HB:=oh hB;have HF:=oh hF;have hbl:=hB.lt;have HLW:=oh (show l.length+W≤140737488355328 by rcases hW with rfl|rfl|rfl|rfl <;> omega);clear hL hF hB hn hW;obtain⟨a,c,rfl, -⟩:=hS
 go_enter Tryz.func108, Tryz.ntmps108
 go_wp2_with fail;refine HPU.out.mono ?_;rintro e w1 ⟨a1,c1,rfl,hO1,m1⟩;have hB1:=HB.out.ext m1;have b0:=hB1.cell (o:=0) (v:=.slice a l.length c) rfl;have b1:=hB1.cell (o:=1) (v:=.nilIface) rfl;have bf:=hB1.frozen;have HS1:=oh (hO1.sl (λ_=>rfl) (by rw[List.length_append,leB_length];exact HLW.out));have HB1:=oh hB1;have HM1:=oh m1;clear hO1 m1 hB1;go_wp2_with fail;go_end0
 obtain⟨r1,r2⟩:=bw_set HF.out HB1.out HS1.out;exact⟨rfl,r1,HM1.out.ext.trans r2⟩
theorem bwText(hL:Env F ad w)(hF:F B)(h:BwR F w B l)(s:ByteArray)(hs:s.size≤65535)(hlen:l.length≤900000000) :
  Calls Tryz.prog 66 #[.pointer (some ⟨B,0,none⟩),.string s] w λe w'=>e=.returned (.tuple #[])∧BwR F w' B (l++txtB s)∧Mods (λj=>j=B) w w':=by
 obtain⟨v,hB,hS⟩:=h;have HPU:=oh (PutText_ok hL v l hS s hs hlen);have b0:=hB.cell (o:=0) (v:=v) rfl;have b1:=hB.cell (o:=1) (v:=.nilIface) rfl;have HB:=oh hB;have HF:=oh hF;have hbl:=hB.lt;clear hL hF hB hs;obtain⟨a,c,rfl, -⟩:=hS
 go_enter Tryz.func66, Tryz.ntmps66
 go_wp2_with fail;refine HPU.out.mono ?_;rintro e w1 ⟨a1,c1,rfl,hS1,m1⟩;have hB1:=HB.out.ext m1;have b0:=hB1.cell (o:=0) (v:=.slice a l.length c) rfl;have b1:=hB1.cell (o:=1) (v:=.nilIface) rfl;have bf:=hB1.frozen;have HS1:=oh hS1;have HB1:=oh hB1;have HM1:=oh m1;clear hS1 m1 hB1;go_wp2_with fail;go_end0
 obtain⟨r1,r2⟩:=bw_set HF.out HB1.out HS1.out;exact⟨rfl,r1,HM1.out.ext.trans r2⟩
end
section
variable {F:Nat→Prop}{ad:Nat→Addr}{w w':World}
def TkT(l:List UInt8)(p:Nat)(e:Ending):Prop:=match wordP l p with
 | some (s,q)=>e=.returned (.tuple #[.string s,.int .i64 (q:Int),.nilIface])
 | none=>∃f,e=.returned (.tuple #[.string e0,.int .i64 0,faultV f])
theorem TakeText_any(hL:Env F ad w)(bv:Value)(l:List UInt8)(hb:Sl F w 1 encB bv l)(p:Nat)(hp:p≤2000000000)(hlen:l.length≤2000000000) :
  Calls Tryz.prog 120 #[bv,.int .i64 (p:Int)] w λe w'=>TkT l p e∧Ext w w':=by
 have HT:=oh (Take_any hL bv l hb (p:Int) 2 (by decide));have HL:=oh hL;have HB:=oh hb;have g1:=hL.c1;obtain⟨a,cap,rfl,hz1,hz2,hz3,hz4⟩:=id hb;unfold maxLen at hz2;clear hL hb;by_cases h1:p+2≤l.length
 ·have htk:takeF l (p:Int) 2=(numAt l p 2,none):=by
   unfold takeF;rw[if_neg (by omega),if_neg (by omega)];rfl
  rw[htk] at HT;have hlt:=numAt_lt l p 2;obtain⟨n,hn⟩:∃n,n=numAt l p 2:=⟨_,rfl⟩;rw[← hn] at HT hlt;have hn2:n<65536:=hlt;have hq:IntKind.i64.wrap (n:Int)=(n:Int):=IntWalk.i64_in _ (by omega);by_cases h2:p+2+n≤l.length
  ·have HW:Hid (wordP l p=some (⟨((l.drop (p+2)).take n).toArray⟩,p+2+n)):=oh (by unfold wordP;rw[← hn,if_pos ⟨h1,h2⟩]);obtain⟨bb,off,rfl⟩:∃bb off,a=some ⟨bb,off,none⟩:=by
    rcases hz4 with h|⟨bb,off,h,_⟩
    ·rw[h] at h1;simp at h1
    ·exact⟨bb,off,h⟩
   have hcv:∀W,Ext w W→(convert 26 9 (.slice (if cap=p+2 then some ⟨bb,off,none⟩ else some ⟨bb,off+(p+2),none⟩) n (cap-(p+2)))).run Tryz.prog W=.ok (.string ⟨((l.drop (p+2)).take n).toArray⟩) W:=λW m=>by
    have hsl:Sl F W 1 encB (.slice (if cap=p+2 then some ⟨bb,off,none⟩ else some ⟨bb,off+(p+2),none⟩) n (cap-(p+2))) ((l.drop (p+2)).take n):=by
     have hln:((l.drop (p+2)).take n).length=n:=by simp;omega
     split
     ·have hn0:n=0:=by omega
      subst hn0;exact⟨some ⟨bb,off,none⟩,cap-(p+2),by simp,by simp,by unfold maxLen;omega,by simp,.inl (by simp)⟩
     ·have:=Sl.sub (HB.out.ext m) (p+2) (p+2+n) (by omega) h2;rw[Nat.mul_one,show p+2+n-(p+2)=n by omega] at this;exact this
    exact run_conv_sl (P:=Tryz.prog) Tryz.underlying26 Tryz.underlying5 Tryz.underlying9 hsl
   have HCV:=oh hcv;clear hn hlt hcv hz4
   go_enter Tryz.func120, Tryz.ntmps120
   go_wp2_with fail;refine HT.out.mono ?_;rintro e w1 ⟨ev,rfl,hE,hm⟩;have hev:ev=.nilIface:=hE;subst hev;have hcv:=HCV.out w1 hm;have HM:=oh hm;clear hE hm;go_wp2_with fail;all_goals
    go_ret3
    refine⟨?_,HM.out⟩;unfold TkT;rw[HW.out];rfl
  ·have HW:Hid (wordP l p=none):=oh (by unfold wordP;rw[← hn,if_neg (λh=>h2 h.2)]);have h3:(l.length:Int)-(p:Int)-2<(n:Int):=by omega
   clear hn hlt hz4 hq
   go_enter Tryz.func120, Tryz.ntmps120
   go_wp2_with fail;refine HT.out.mono ?_;rintro e w1 ⟨ev,rfl,hE,hm⟩;have hev:ev=.nilIface:=hE;subst hev;have hL1:=HL.out.mods hm.ext;have g1:=hL1.c1;have HL1:=oh hL1;have HM:=oh hm;clear hE hm hL1;go_wp2_with fail;refine (new_any HL1.out _ _ [] 1 (.sent 1 (by decide) (by decide))).mono ?_;rintro e w2 ⟨f,rfl, -,hm2⟩;have HM2:=oh (HM.out.trans hm2);clear hm2;go_wp2_with fail;go_ret3
   refine⟨?_,HM2.out⟩;unfold TkT;rw[HW.out];exact⟨f,rfl⟩
 ·have HW:Hid (wordP l p=none):=oh (by unfold wordP;rw[if_neg (λh=>h1 h.1)]);obtain⟨el,ek,htk⟩:∃el ek,takeF l (p:Int) 2=(0,some (el,ek)):=by
   unfold takeF;by_cases h3:(p:Int)<0∨(l.length:Int)<(p:Int)
   ·rw[if_pos h3];exact⟨_,_,rfl⟩
   ·rw[if_neg h3,if_pos (by omega)];exact⟨_,_,rfl⟩
  rw[htk] at HT;clear htk h1 hz4
  go_enter Tryz.func120, Tryz.ntmps120
  go_wp2_with fail;refine HT.out.mono ?_;rintro e w1 ⟨ev,rfl,⟨f,rfl,hE⟩,hm⟩;have HL1:=oh (HL.out.mods hm.ext);have HE:=oh hE;have HM:=oh hm;clear hE hm;unfold faultV;go_wp2_with fail;refine (wrap_any HL1.out _ _ _ _ HE.out).mono ?_;rintro e w2 ⟨f2,rfl, -,hm2⟩;have HM2:=oh (HM.out.trans hm2);clear hm2;go_wp2_with fail;go_ret3
  refine⟨?_,HM2.out⟩;unfold TkT;rw[HW.out];exact⟨f2,rfl⟩
end
section
variable {F:Nat→Prop}{ad:Nat→Addr}{w w':World}{B:Nat}{v:Value}{l:List UInt8}{p:Nat}{ok:Bool}
def okV(ok:Bool)(v:Value):Prop:=if ok=true then v=.nilIface else ∃f,v=faultV f
def BrR(F:Nat→Prop)(w:World)(B:Nat)(v:Value)(l:List UInt8)(p:Nat)(ok:Bool):Prop:=∃ev,Blk w B #[v,.int .i64 (p:Int),ev] 128 ∧ Sl F w 1 encB v l∧okV ok ev
theorem BrR.ext(h:BrR F w B v l p ok)(m:Ext w w'):BrR F w' B v l p ok:=by
 obtain⟨ev,h1,h2,h3⟩:=h;exact⟨ev,h1.ext m,h2.ext m,h3⟩
theorem br_set{v' ev':Value}{q:Nat}{c:Bool}(hF:F B)(hs:Sl F w 1 encB v l)(h1:Blk w' B #[v',.int .i64 (q:Int),ev'] 128)(m:Mods (λj=>j=B) w w')(hv:v'=v)(hc:okV c ev'):BrR F w' B v l q c:=by
 subst hv;exact⟨ev',h1,hs.mods (m.mono (λj (h:j=B)=>by rw[h];exact hF)),hc⟩
theorem brNum(hL:Env F ad w)(hF:F B)(h:BrR F w B v l p ok)(W:Nat)(hW:W=1∨W=2∨W=4∨W=8)(hp:p≤2000000000) :
  Calls Tryz.prog 117 #[.pointer (some ⟨B,0,none⟩),.int .i64 (W:Int)] w λe w'=>e=.returned (.int .u64 ((if p+W≤l.length then numAt l p W else 0:Nat):Int))∧BrR F w' B v l (p+W) (ok && decide (p+W≤l.length))∧Mods (λj=>j=B) w w':=by
 obtain⟨ev0,hB,hS,hO⟩:=h;have HT:=oh (λW' (m:Ext w W')=>Take_any (hL.mods m.ext) v l (hS.ext m) (p:Int) W hW);obtain⟨tv,htv⟩:∃tv,tv=(takeF l (p:Int) W).1:=⟨_,rfl⟩;obtain⟨te,hte⟩:∃te,te=(takeF l (p:Int) W).2:=⟨_,rfl⟩;rw[← htv,← hte] at HT;have HTV:Hid ((if p+W≤l.length then numAt l p W else 0)=tv∧(te.isNone=decide (p+W≤l.length))):=oh (by
  rw[htv,hte];unfold takeF;by_cases h0:(p:Int)<0∨(l.length:Int)<(p:Int)
  ·rw[if_pos h0,if_neg (by omega)];exact⟨rfl,by simp;omega⟩
  rw[if_neg h0];by_cases h:p+W≤l.length
  ·rw[if_pos h,if_neg (by omega)];exact⟨rfl,by simp[h]⟩
  ·rw[if_neg h,if_pos (by omega)];exact⟨rfl,by simp[h]⟩)
 obtain⟨c,hc⟩:∃c,c=decide (p+W≤l.length):=⟨_,rfl⟩;rw[HTV.out.1,← hc];have HTC:Hid (te.isNone=c):=oh (by rw[hc];exact HTV.out.2);clear HTV hc;have hW8:W≤8:=by rcases hW with rfl|rfl|rfl|rfl <;> omega
 have b0:∀W',Ext w W'→W'.cell? ⟨B,0,none⟩=some v:=λW' m=>(hB.ext m).cell rfl
 have b1:∀W',Ext w W'→W'.cell? ⟨B,1,none⟩=some (.int .i64 (p:Int)):=λW' m=>(hB.ext m).cell rfl
 have HB:=oh hB;have HS:=oh hS;have HF:=oh hF;have HO:=oh hO;have hbl:=hB.lt;clear hL hF hB hte htv hW hO;obtain⟨a,cp,rfl, -⟩:=hS;have d0:=b0 _ (Mods.refl _ w).drew;have d1:=b1 _ (Mods.refl _ w).drew;have B0:=oh b0;have B1:=oh b1;clear b0 b1
 go_enter Tryz.func117, Tryz.ntmps117
 go_wp2_with fail;go_region_held3 (λw'=>w'.cell? ⟨B,0,none⟩=some (.slice a l.length cp)∧w'.cell? ⟨B,1,none⟩=some (.int .i64 (p:Int)))
  (first|(with_reducible exact⟨d0,d1⟩)|(with_reducible exact⟨z0,z1⟩)|fail)
  (first
   | (go_at_call 118;(with_reducible refine (HT.out _ (Mods.refl _ w).drew).mono ?_);rintro e w5 ⟨ev,rfl,hE,hm⟩;have m5:=(Mods.refl _ w).drew.trans hm;have z0:=B0.out _ m5;have z1:=B1.out _ m5)
   | fail)
 have hB5:=HB.out.ext m5;have HS5:=oh (HS.out.ext m5);have HB5:=oh hB5;have HM5:=oh m5;have y1:=hB5.cell (o:=1) (v:=.int .i64 (p:Int)) rfl;have y2:=hB5.cell (o:=2) (v:=ev0) rfl;have yf:=hB5.frozen;have hbl5:=hB5.lt;have hOE:okV te.isNone ev:=by
  cases te with
  | none=>exact hE
  | some x=>obtain⟨f,hf,_⟩:=hE;exact⟨f,hf⟩
 rw[HTC.out] at hOE;clear hm z0 z1 d0 d1 m5 hB5 hE;have HMX:Hid (∀v1 v2,Mods (λj=>j=B) w ((w5.setCell ⟨B,2,none⟩ v1).setCell ⟨B,1,none⟩ v2)):=oh λv1 v2=>Mods.setCell (F:=λj=>j=B) (Mods.setCell (F:=λj=>j=B) HM5.out.ext (p:=⟨B,2,none⟩) (.inr rfl) v1) (p:=⟨B,1,none⟩) (.inr rfl) v2
 have HMY:Hid (∀v2,Mods (λj=>j=B) w (w5.setCell ⟨B,1,none⟩ v2)):=oh λv2=>Mods.setCell (F:=λj=>j=B) HM5.out.ext (p:=⟨B,1,none⟩) (.inr rfl) v2
 cases ok with
 | true =>
  have h0:ev0=.nilIface:=HO.out;subst h0;cases c with
  | true =>
   have h1:ev=.nilIface:=hOE;subst h1;go_wp2_with fail;go_ret;exact⟨rfl,br_set HF.out HS.out ((HB5.out.set 2 .nilIface).set 1 (.int .i64 ((p:Int)+(W:Int)))) (HMX.out _ _) rfl rfl,HMX.out _ _⟩
  | false =>
   obtain⟨f,rfl⟩:=hOE;unfold faultV;go_wp2_with fail;go_ret;exact⟨rfl,br_set HF.out HS.out ((HB5.out.set 2 (faultV f)).set 1 (.int .i64 ((p:Int)+(W:Int)))) (HMX.out _ _) rfl ⟨f,rfl⟩,HMX.out _ _⟩
 | false =>
  obtain⟨f,rfl⟩:=HO.out;unfold faultV at y2;go_wp2_with fail;go_ret;exact⟨rfl,br_set HF.out HS.out (HB5.out.set 1 (.int .i64 ((p:Int)+(W:Int)))) (HMY.out _) rfl ⟨f,rfl⟩,HMY.out _⟩
theorem brText(hL:Env F ad w)(hF:F B)(h:BrR F w B v l p ok)(hp:p≤2000000000)(hlen:l.length≤2000000000) :
  Calls Tryz.prog 70 #[.pointer (some ⟨B,0,none⟩)] w λe w'=>e=.returned (.string ((wordP l p).elim e0 (·.1)))∧BrR F w' B v l ((wordP l p).elim p (·.2)) (ok && (wordP l p).isSome)∧Mods (λj=>j=B) w w':=by
 obtain⟨ev0,hB,hS,hO⟩:=h;have HT:=oh (λW' (m:Ext w W')=>TakeText_any (hL.mods m.ext) v l (hS.ext m) p hp hlen);have b0:∀W',Ext w W'→W'.cell? ⟨B,0,none⟩=some v:=λW' m=>(hB.ext m).cell rfl
 have b1:∀W',Ext w W'→W'.cell? ⟨B,1,none⟩=some (.int .i64 (p:Int)):=λW' m=>(hB.ext m).cell rfl
 have HB:=oh hB;have HS:=oh hS;have HF:=oh hF;have HO:=oh hO;have hbl:=hB.lt;clear hL hF hB hO;obtain⟨a,cp,rfl, -⟩:=hS;have d0:=b0 _ (Mods.refl _ w).drew;have d1:=b1 _ (Mods.refl _ w).drew;have B0:=oh b0;have B1:=oh b1;clear b0 b1;unfold TkT at HT;cases hx:wordP l p with
 | some x =>
  obtain⟨s,q⟩:=x;rw[hx] at HT;simp only at HT;show Calls Tryz.prog 70 #[.pointer (some ⟨B,0,none⟩)] w λe w'=>e=.returned (.string s)∧BrR F w' B (.slice a l.length cp) l q (ok && true)∧Mods (λj=>j=B) w w'
  clear hx
  go_enter Tryz.func70, Tryz.ntmps70
  go_wp2_with fail;go_region_held3 (λw'=>w'.cell? ⟨B,0,none⟩=some (.slice a l.length cp)∧w'.cell? ⟨B,1,none⟩=some (.int .i64 (p:Int)))
   (first|(with_reducible exact⟨d0,d1⟩)|(with_reducible exact⟨z0,z1⟩)|fail)
   (first
    | (go_at_call 120;(with_reducible refine (HT.out _ (Mods.refl _ w).drew).mono ?_);rintro e w5 ⟨rfl,hm⟩;have m5:=(Mods.refl _ w).drew.trans hm;have z0:=B0.out _ m5;have z1:=B1.out _ m5)
    | fail)
  have hB5:=HB.out.ext m5;have HB5:=oh hB5;have HM5:=oh m5;have y2:=hB5.cell (o:=2) (v:=ev0) rfl;have yf:=hB5.frozen;have hbl5:=hB5.lt;clear hm z0 z1 d0 d1 m5 hB5;have HMX:Hid (∀v1 v2,Mods (λj=>j=B) w ((w5.setCell ⟨B,2,none⟩ v1).setCell ⟨B,1,none⟩ v2)):=oh λv1 v2=>Mods.setCell (F:=λj=>j=B) (Mods.setCell (F:=λj=>j=B) HM5.out.ext (p:=⟨B,2,none⟩) (.inr rfl) v1) (p:=⟨B,1,none⟩) (.inr rfl) v2
  have HMY:Hid (∀v2,Mods (λj=>j=B) w (w5.setCell ⟨B,1,none⟩ v2)):=oh λv2=>Mods.setCell (F:=λj=>j=B) HM5.out.ext (p:=⟨B,1,none⟩) (.inr rfl) v2
  cases ok with
  | true =>
   have h0:ev0=.nilIface:=HO.out;subst h0;go_wp2_with fail;go_ret;exact⟨rfl,br_set HF.out HS.out ((HB5.out.set 2 .nilIface).set 1 (.int .i64 (q:Int))) (HMX.out _ _) rfl rfl,HMX.out _ _⟩
  | false =>
   obtain⟨f,rfl⟩:=HO.out;unfold faultV at y2;go_wp2_with fail;go_ret;exact⟨rfl,br_set HF.out HS.out (HB5.out.set 1 (.int .i64 (q:Int))) (HMY.out _) rfl ⟨f,rfl⟩,HMY.out _⟩
 | none =>
  rw[hx] at HT;simp only at HT;show Calls Tryz.prog 70 #[.pointer (some ⟨B,0,none⟩)] w λe w'=>e=.returned (.string e0)∧BrR F w' B (.slice a l.length cp) l p (ok && false)∧Mods (λj=>j=B) w w'
  clear hx
  go_enter Tryz.func70, Tryz.ntmps70
  go_wp2_with fail;go_region_held3 (λw'=>w'.cell? ⟨B,0,none⟩=some (.slice a l.length cp)∧w'.cell? ⟨B,1,none⟩=some (.int .i64 (p:Int)))
   (first|(with_reducible exact⟨d0,d1⟩)|(with_reducible exact⟨z0,z1⟩)|fail)
   (first
    | (go_at_call 120;(with_reducible refine (HT.out _ (Mods.refl _ w).drew).mono ?_);rintro e w5 ⟨⟨f,rfl⟩,hm⟩;have m5:=(Mods.refl _ w).drew.trans hm;have z0:=B0.out _ m5;have z1:=B1.out _ m5)
    | fail)
  have hB5:=HB.out.ext m5;have HB5:=oh hB5;have HM5:=oh m5;have y2:=hB5.cell (o:=2) (v:=ev0) rfl;have yf:=hB5.frozen;have hbl5:=hB5.lt;clear hm z0 z1 d0 d1 m5 hB5;have HMX:Hid (∀v1,Mods (λj=>j=B) w (w5.setCell ⟨B,2,none⟩ v1)):=oh λv1=>Mods.setCell (F:=λj=>j=B) HM5.out.ext (p:=⟨B,2,none⟩) (.inr rfl) v1
  unfold faultV;cases ok with
  | true =>
   have h0:ev0=.nilIface:=HO.out;subst h0;go_wp2_with fail;go_ret;exact⟨rfl,br_set HF.out HS.out (HB5.out.set 2 (faultV f)) (HMX.out _) rfl ⟨f,rfl⟩,HMX.out _⟩
  | false =>
   obtain⟨f0,rfl⟩:=HO.out;unfold faultV at y2;go_wp2_with fail;go_ret;exact⟨rfl,br_set HF.out HS.out HB5.out HM5.out.ext rfl ⟨f0,rfl⟩,HM5.out.ext⟩
end
end
end Go.Proofs.YtdnbmdghmmpgcaaGreatDoor
