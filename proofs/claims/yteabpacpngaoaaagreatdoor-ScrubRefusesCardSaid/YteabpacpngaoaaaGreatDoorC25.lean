import Derived.Test.YteabpacpngaoaaaGreatDoorC10
import Derived.Test.YteabpacpngaoaaaGreatDoorC24
namespace Go.Proofs.YteabpacpngaoaaaGreatDoor
open Lib renaming hid->oh
set_option maxRecDepth 100000
section
open Go.RowKit
theorem zGC:∀{l:List ByteArray},(l.Pairwise λa b=>ltS a b=true)->jY l=true
 | [],_=>rfl
 | [_],_=>rfl
 | a :: b :: l,h=>by
  have h1:=List.pairwise_cons.1 h;simp only[jY,Bool.and_eq_true];exact⟨h1.1 b List.mem_cons_self,zGC h1.2⟩
theorem zB9(s:ByteArray):(vK s).length=1+s.size:=by
 unfold vK;rw[List.length_append,zD,Array.length_toList];rfl
theorem zMR{e:zV}(h:vC e=true):(zAP e).length<=59:=by
 unfold vC at h;simp only[Bool.and_eq_true] at h;have hk:=(zAo e.key).1 h.1;have h2:=h.2;unfold zAP;rw[List.length_append,zB9];by_cases hc:e.chain=0
 .rw[if_pos hc] at h2 ⊢;simp only[Bool.and_eq_true,decide_eq_true_eq] at h2;rw[List.length_append,zD,zB9];omega
 .rw[if_neg hc];simp only[List.length_append,zD];omega
theorem zHl{α:Type}(g:α->List UInt8)(M:Nat):∀(l:List α),(∀x∈l,(g x).length<=M)->(l.flatMap g).length<=M * l.length
 | [],_=>by simp
 | x :: l,h=>by
  have h1:=zHl g M l (λy hy=>h y (List.mem_cons_of_mem _ hy));have h2:=h x List.mem_cons_self;rw[List.flatMap_cons,List.length_append,List.length_cons,Nat.mul_succ];omega
theorem zMS{p:ByteArray × Int}(h:zAE p.1=true):(zAi p).length<=37:=by
 have hk:=(zAo p.1).1 h;unfold zAi;rw[List.length_append,zB9,zD];omega
structure RdR(F:Nat->Prop)(w:World)(B:Nat)(bv:Value)(b:List UInt8)(r:RdA):Prop where
 own:zH w B #[bv,.int .i64 r.at_,.bool r.bad] 358
 sl:Sl F w 1 zZ bv b
 mem:F B
section
variable {F:Nat->Prop}{ad:Nat->Addr}{w w':World}{B:Nat}{bv:Value}{b:List UInt8}{r:RdA}
theorem zGe(b:List UInt8)(p:Int)(W:Nat)(hW:W=1\/W=2\/W=4):(vI b p W).1<4294967296:=by
 unfold vI;split
 .simp
 .split
  .simp
  .have:=zEj ((b.drop p.toNat).take W);have h2:((b.drop p.toNat).take W).length<=4:=Nat.le_trans (List.length_take_le _ _) (by omega);have h3:(256:Nat) ^ ((b.drop p.toNat).take W).length<=256 ^ 4:=Nat.pow_le_pow_right (by omega) h2;simp only;omega
theorem RdR.turn(h:RdR F w B bv b r)(r':RdA)(m:zA (λk=>k=B) w w')(hB:zH w' B #[bv,.int .i64 r'.at_,.bool r'.bad] 358):RdR F w' B bv b r' :=
 ⟨hB,h.sl.mods (m.mono (λk e=>by subst e;exact h.mem)),h.mem⟩
theorem zOL(hL:yG F ad w)(h:RdR F w B bv b r)(W:Nat)(hW:W=1\/W=2\/W=4)(h0:0<=r.at_)(h1:r.at_<=1000000000000) :
  Calls Tryz.prog 245 #[.pointer (some ⟨B,0,none⟩),.int .i64 (W:Int)] w λe w'=>e=.returned (.int .i64 ((vD b r W).1:Nat))/\RdR F w' B bv b (vD b r W).2/\zA (λk=>k=B) w w':=by
 obtain⟨a,bd⟩:=r;simp only at h0 h1;have hsm:=zGe b a W hW;obtain⟨sa,cap,rfl,hz,_,_,_⟩:=_root_.id h.sl;obtain⟨n,hn⟩:∃n,n=(vI b a W).1:=⟨_,rfl⟩;rw[<- hn] at hsm;have HN:=oh hn;have HH:=oh h;have HLd:=oh (hL.mods (zA.refl _ w).drew);have HSd:=oh (h.sl.mods (zA.refl _ w).drew);have HW:=oh hW;have hW4:W<=4:=by omega
 have c0:=h.own.cell (o:=0) (v:=.slice sa b.length cap) rfl;have c1:=h.own.cell (o:=1) (v:=.int .i64 a) rfl;have c2:=h.own.cell (o:=2) (v:=.bool bd) rfl;clear h hL hW hn
 go_enter Tryz.func245, Tryz.ntmps245
 go_wp2_with fail;go_region_held3 (λw'=>w'.cell? ⟨B,0,none⟩=some (.slice sa b.length cap)/\w'.cell? ⟨B,1,none⟩=some (.int .i64 a))
  (first|(with_reducible exact⟨x0,x1⟩)|go_keep)
  (first
   | (go_at_call 247;refine (zFb HLd.out _ b HSd.out a W (by have:=HW.out;omega)).mono ?_;rintro e w1 ⟨ev,rfl,hE,hm⟩;rw[<- HN.out];have x0:=zE hm c0;have x1:=zE hm c1))
 have x2:=zE hm c2;have HB:=oh ((HH.out.own.drew).ext hm);have f1:=HB.out.frozen 1;have f2:=HB.out.frozen 2;have HM:=oh (hm.ofDrew);have HM2:Hid (∀x:Bool,zA (λk=>k=B) w ((w1.setCell ⟨B,2,none⟩ (.bool x)).setCell ⟨B,1,none⟩ (.int .i64 (a+W)))) :=
  oh λx=>HM.out.ext.trans ((zA.at (λk=>k=B) w1 B 2 _ rfl).trans (zA.at (λk=>k=B) _ B 1 _ rfl))
 clear c0 c1 c2 hm;cases hT:(vI b a W).2 with
 | none =>
  rw[hT] at hE;cases hE
  have HR:Hid (vD b ⟨a,bd⟩ W=(n,⟨a+W,bd⟩)):=oh (by unfold vD;simp only[hT,<- HN.out];simp);clear hT;cases bd
  all_goals
   go_wp2_with fail;go_ret;exact⟨by rw[HR.out];rfl,by rw[HR.out];exact HH.out.turn _ (HM2.out _) ((HB.out.set 2 _).set 1 _),HM2.out _⟩
 | some er =>
  rw[hT] at hE;obtain⟨el,ek⟩:=er;obtain⟨f,rfl,hE⟩:=hE;have HR:Hid (vD b ⟨a,bd⟩ W=(n,⟨a+W,true⟩)):=oh (by unfold vD;simp only[hT,<- HN.out];simp);clear hT hE;cases bd
  all_goals
   go_wp2_with fail;go_ret;exact⟨by rw[HR.out];rfl,by rw[HR.out];exact HH.out.turn _ (HM2.out _) ((HB.out.set 2 _).set 1 _),HM2.out _⟩
end
section
variable {P P' F F':Nat->Prop}{ad:Nat->Addr}{w w':World}{c s:Nat}
theorem zK6(op:ByteArray)(gen:Nat) : Calls Tryz.prog 193 #[.string op,pgV c s gen] w λe w'=>e=.returned .nilIface/\zF w w':=by
 unfold pgV;have m0:zF w (w.alloc (.cells #[.pointer (some ⟨c,0,none⟩),.pointer (some ⟨s,0,none⟩),.int .u64 (gen:Int)] 120)):=(zA.refl _ w).alloc _;have M0:=oh m0;clear m0
 go_enter Tryz.func193, Tryz.ntmps193
 go_wp2_with fail;go_ret;exact⟨rfl,M0.out⟩
end
theorem zR1[zW]{C:qJ}(hI:yI C){id:Nat}(hid:id<C.disk.blocks){p:zX}(h:C.vw id=.inl p):p.id=(id:Int)/\zJj p C.disk.size:=by
 unfold qJ.vw at h;split at h
 .rename_i s hs;injection h with h;subst h;have hm:=List.mem_of_find?_eq_some hs;have hh:=List.find?_some hs;obtain⟨i,hi,e⟩:=List.getElem_of_mem hm;have hi2:C.slots[i]? = some s:=by rw[<- e];exact List.getElem?_eq_getElem hi
  have hf:s.full=true/\s.page.id=(id:Int):=by
   cases hfl:s.full with
   | false=>rw[zHC (.inl hfl)] at hh;cases hh
   | true =>
    by_cases e:s.page.id=(id:Int)
    .exact⟨rfl,e⟩
    .rw[zHC (.inr e)] at hh;cases hh
  exact⟨hf.2,(hI.page i s hi2 hf.1).2.2⟩
 .have hl:=hI.len id hid;unfold zQ at h;split at h
  .cases h
  .rename_i h1;split at h
   .cases h
   .rename_i h2;injection h with h;subst h;simp only[ne_eq,Decidable.not_not] at h2;unfold zBO at h1;simp only[Bool.not_eq_false,Bool.and_eq_true,decide_eq_true_eq] at h1;refine⟨h2,?_,zEk _⟩;rw[<- hl];exact h1.1
section
variable {P F:Nat->Prop}{ad:Nat->Addr}{w:World}{c s:Nat}{G:GA}{l:List Nat}
theorem jU.page[zW](h:jU F w P c s G l){id:Nat}(hid:id<G.blocks){p:zX}(hv:G.view id=some (.inl p)):p.id=(id:Int)/\zJj p G.size:=by
 obtain⟨d,sb,bvs,Pd,b2,C,h1,h2,h3,h4,h5,h6,h7,h8⟩:=h;have:=zR1 h2 (by rw[h3.blocks];exact hid) (h3.view id _ hv);rw[h3.size] at this;exact this
theorem jU.got[zW](h:jU F w P c s G l){id:Int}{p:zX}(hv:G.get id=.inl p):p.id=id/\zJj p G.size/\p.body.length<=1000:=by
 unfold GA.get at hv;split at hv
 .cases hv
 .rename_i hc;unfold GA.check at hc;split at hc
  .cases hc
  .rename_i hr;split at hv
   .rename_i q hq;injection hv with hv;subst hv;obtain⟨k1,k2⟩:=h.page (id:=id.toNat) (by omega) hq;have:=(yZ k2.1).2.2.2.2.2;have:=h.lim;exact⟨by omega,k2,by omega⟩
   .cases hv
   .cases hv
end
def vM(l:List Nat)(id:Int):Bool:=decide (0<=id) && decide (l[id.toNat]? = some 2)
theorem zOM(w:World)(b b2:Nat)(l:List Nat)(h:SpR w b b2 l)(id:Int) :
  Calls Tryz.prog 221 #[.pointer (some ⟨b,0,none⟩),.int .i64 id] w λe w'=>e=.returned (.bool (vM l id))/\w=w':=by
 have c0:=h.own.cell (o:=0) (v:=.slice (some ⟨b2,0,none⟩) l.length l.length) rfl;have hl:=h.len;have hl2:=h.len2;by_cases h0:0<=id
 .obtain⟨i,rfl⟩:∃i:Nat,id=i:=⟨id.toNat,by omega⟩;by_cases h1:i<l.length
  .obtain⟨x,hx⟩:∃x,l[i]? = some x:=⟨_,List.getElem?_eq_getElem h1⟩;have c1:=h.row.cell (zB3 l i x hx);have HR:Hid (vM l (i:Int)=decide (x=2)):=oh (by
    unfold vM;rw[decide_eq_true (by omega),Int.toNat_natCast,hx];simp)
   have h2:(i:Int)<(l.length:Int):=by omega
   clear h hx h0 h1;by_cases hx2:x=2
   .subst hx2
    go_enter Tryz.func221, Tryz.ntmps221
    go_wp2
    go_ret;exact⟨by rw[HR.out];rfl,rfl⟩
   .rw[decide_eq_false hx2] at HR;have hx3:¬ (x:Int)=2:=by omega
    clear hx2
    go_enter Tryz.func221, Tryz.ntmps221
    go_wp2
    go_ret;exact⟨by rw[HR.out];simp[hx3],rfl⟩
  .have HR:Hid (vM l (i:Int)=false):=oh (by
    unfold vM;rw[Int.toNat_natCast,List.getElem?_eq_none_iff.2 (by omega)];simp)
   have h2:¬ (i:Int)<(l.length:Int):=by omega
   clear h h0 h1
   go_enter Tryz.func221, Tryz.ntmps221
   go_wp2
   go_ret;exact⟨by rw[HR.out];rfl,rfl⟩
 .have HR:Hid (vM l id=false):=oh (by unfold vM;rw[decide_eq_false h0];rfl);clear h
  go_enter Tryz.func221, Tryz.ntmps221
  go_wp2
  go_ret;exact⟨by rw[HR.out];rfl,rfl⟩
section
variable {P F:Nat->Prop}{w:World}{c s:Nat}{G:GA}{l:List Nat}
theorem zQn[zW](h:jU F w P c s G l)(id:Int) : Calls Tryz.prog 221 #[.pointer (some ⟨s,0,none⟩),.int .i64 id] w λe w'=>e=.returned (.bool (vM l id))/\w=w':=by
 obtain⟨d,sb,bvs,Pd,b2,C,h1,h2,h3,h4,h5,h6,h7,h8⟩:=h;exact zOM w s b2 l h5 id
end
abbrev e0:ByteArray:=⟨#[]⟩
theorem zGD(key value:ByteArray)(over:Bool):∀l:List zT,(yS key value over l).length<=l.length+1
 | []=>by simp[yS]
 | x :: l=>by
  have:=zGD key value over l;unfold yS;split
  .simp only[List.length_cons];omega
  .split
   .split <;> simp
   .simp
def zBb(a b:Nat)(l:List Nat):List Nat:=l.map λx=>if x=a then b else x
def zAS(l:List Nat):List Nat:=zBb 3 0 (zBb 2 1 l)
theorem zPl{a b:Nat}{l:List Nat}{k x:Nat}(hx:l[k]? = some x):(zBb a b (l.take k)++l.drop k).set k (if x=a then b else x)=zBb a b (l.take (k+1))++l.drop (k+1):=by
 obtain⟨hlt,hxe⟩:=List.getElem?_eq_some_iff.1 hx;rw[jA l k x hx];unfold zBb;rw[List.map_append,List.set_append_right _ _ (by simp;omega)];have e:l.drop k=x :: l.drop (k+1):=by rw[List.drop_eq_getElem_cons hlt,hxe]
 rw[e];simp only[List.length_map,List.length_take];rw[show k-min k l.length=0 by omega];simp
theorem zQo{a b:Nat}{l:List Nat}{k x:Nat}(hx:l[k]? = some x):(zBb a b (l.take k)++l.drop k)[k]? = some x:=by
 have hlt:=(List.getElem?_eq_some_iff.1 hx).1;rw[List.getElem?_append_right (by simp[zBb];omega)];simp only[zBb,List.length_map,List.length_take,List.getElem?_drop];rw[show k+(k-min k l.length)=k by omega];exact hx
theorem zON{a b:Nat}{l:List Nat}{k x:Nat}(hx:l[k]? = some x)(hn:x≠a):zBb a b (l.take (k+1))++l.drop (k+1)=zBb a b (l.take k)++l.drop k:=by
 obtain⟨hlt,hxe⟩:=List.getElem?_eq_some_iff.1 hx;rw[jA l k x hx];have e:l.drop k=x :: l.drop (k+1):=by rw[List.drop_eq_getElem_cons hlt,hxe]
 rw[e];unfold zBb;simp[hn]
theorem zPm(a b:Nat)(l:List Nat)(k:Nat):(zBb a b (l.take k)++l.drop k).length=l.length:=by simp[zBb];omega
theorem zK7(w:World)(b b2:Nat)(l:List Nat)(h:SpR w b b2 l)(x y:Nat)(hx4:x<4)(_hy4:y<4) :
  Calls Tryz.prog 98 #[.pointer (some ⟨b,0,none⟩),.int .i64 (x:Int),.int .i64 (y:Int)] w λe w'=>e=.returned (.tuple #[])/\SpR w' b b2 (zBb x y l)/\zA (spF b b2) w w':=by
 have hl:=h.len;have hl2:=h.len2;have c0:=h.own.cell (o:=0) (v:=.slice (some ⟨b2,0,none⟩) l.length l.length) rfl;have HS:=oh h;clear h
 go_enter Tryz.func98, Tryz.ntmps98
 go_wp2
 go_loopg [15] l.length (λm i wr=>∃k:Nat,k+m=l.length/\i=.int .i64 k/\Hid (SpR wr b b2 (zBb x y (l.take k)++l.drop k)/\zA (spF b b2) w wr))
 case atStart=>exact⟨0,by omega,rfl,oh ⟨by simpa[zBb] using HS.out,zA.refl _ _⟩⟩
 case round =>
  obtain⟨k,hk,rfl,HQ⟩:=hrel;by_cases hlt:k<l.length
  .obtain⟨v,hv⟩:∃v,l[k]? = some v:=⟨_,List.getElem?_eq_getElem hlt⟩;have c0:=HQ.out.1.own.cell (o:=0) rfl;rw[zPm] at c0;have c1:=HQ.out.1.row.cell (zB3 _ k v (zQo hv));have f1:=HQ.out.1.row.frozen k;have HV:=oh hv;clear hv;by_cases hvx:v=x
   .subst hvx;have HN:Hid (SpR (wr.setCell ⟨b2,k,none⟩ (.int .i64 (y:Int))) b b2 (zBb v y (l.take (k+1))++l.drop (k+1))/\zA (spF b b2) w (wr.setCell ⟨b2,k,none⟩ (.int .i64 (y:Int)))):=oh ⟨by
     have:=HQ.out.1.set k y;have e:=zPl (a:=v) (b:=y) HV.out;rw[if_pos rfl] at e;rw[e] at this;exact this,HQ.out.2.trans (zA.at _ _ b2 k _ (.inr rfl))⟩
    go_wp2
    go_roundg (gk-1)
    case measure=>omega
    case rel=>exact⟨k+1,by omega,by go_num,HN⟩
   .have hvi:¬ (v:Int)=(x:Int):=by omega
    go_wp2
    go_roundg (gk-1)
    case measure=>omega
    case rel=>exact⟨k+1,by omega,by go_num,oh (by rw[zON HV.out hvx];exact HQ.out)⟩
  .go_wp2
   go_end0
   have:=HQ.out;rw[List.take_of_length_le (by omega),List.drop_of_length_le (by omega),List.append_nil] at this;exact⟨rfl,this.1,this.2⟩
theorem zMT(w:World)(b b2:Nat)(l:List Nat)(h:SpR w b b2 l) :
  Calls Tryz.prog 60 #[.pointer (some ⟨b,0,none⟩)] w λe w'=>e=.returned (.tuple #[])/\SpR w' b b2 (zAS l)/\zA (spF b b2) w w':=by
 have H1:=zK7 w b b2 l h 2 1 (by omega) (by omega);change Calls Tryz.prog 98 #[.pointer (some ⟨b,0,none⟩),.int .i64 2,.int .i64 1] _ _ at H1
 have H1:=oh H1;clear h
 go_enter Tryz.func60, Tryz.ntmps60
 go_wp2_with fail;refine H1.out.mono ?_;rintro e w1 ⟨rfl,hS1,hm1⟩;have H2:=zK7 w1 b b2 _ hS1 3 0 (by omega) (by omega);change Calls Tryz.prog 98 #[.pointer (some ⟨b,0,none⟩),.int .i64 3,.int .i64 0] _ _ at H2
 have H2:=oh H2;have HM1:=oh hm1;clear hS1 hm1;go_wp2_with fail;refine H2.out.mono ?_;rintro e w2 ⟨rfl,hS2,hm2⟩;have HS2:=oh hS2;have HM2:=oh (HM1.out.trans hm2);clear hS2 hm2;go_wp2_with fail;go_end0
 exact⟨rfl,HS2.out,HM2.out⟩
end
section
open Go.RowKit
attribute [local go_sem ↓] Go.wp_at_zero Go.wp_at_succ
def zGE(x:Nat):Bool:=x == 1 || x == 2
def zBj(l:List Nat)(k:Nat):List Int:=((List.range k).filter (λi=>zGE (l.getD i 0))).map (λ(i:Nat)=>(i:Int))
theorem zK8(l:List Nat)(k:Nat):zBj l (k+1)=zBj l k++if zGE (l.getD k 0)=true then [(k:Int)] else []:=by
 unfold zBj;rw[List.range_succ,List.filter_append,List.map_append];congr 1
 by_cases h:zGE (l.getD k 0)=true
 .rw[if_pos h,List.filter_cons_of_pos (p:=λi=>zGE (l.getD i 0)) h];rfl
 .rw[if_neg h,List.filter_cons_of_neg (p:=λi=>zGE (l.getD i 0)) h];rfl
theorem zMU(l:List Nat)(k:Nat):(zBj l k).length<=k:=by
 unfold zBj;rw[List.length_map];exact Nat.le_trans (List.length_filter_le _ _) (by simp)
set_option maxHeartbeats 1000000 in
theorem zPn(w:World)(b b2:Nat)(l:List Nat)(h:SpR w b b2 l) :
  Calls Tryz.prog 95 #[.pointer (some ⟨b,0,none⟩)] w λe w'=>∃uv,e=.returned uv/\yC (λ_=>False) w' w.heap.size 3 1 yK uv (zBj l l.length)/\zF w w':=by
 have c0:=h.own.cell (o:=0) (v:=.slice (some ⟨b2,0,none⟩) l.length l.length) rfl;have hl:=h.len;have hl2:=h.len2;have HS:=oh h;clear h
 go_enter Tryz.func95, Tryz.ntmps95
 go_wp2_with fail;go_loopg [3,13] l.length (λm v3 v13 wr=>∃(k:Nat) (uv:Value),k+m=l.length/\uv=v3/\v13=.int .i64 (k:Int)/\Hid (yC (λ_=>False) wr w.heap.size 3 1 yK uv (zBj l k)/\zF w wr))
 case atStart=>exact⟨0,_,by omega,rfl,rfl,oh ⟨yC.nil _ _ _ _ _ _,zA.refl _ _⟩⟩
 case round =>
  obtain⟨k,v3,hk,rfl,rfl,HR⟩:=hrel;by_cases hlt:k<l.length
  .obtain⟨x,hx⟩:∃x,x=l[k]:=⟨_,rfl⟩;have hx2:l[k]? = some x:=by rw[hx];simp[hlt]
   have hc:=(HS.out.row.ext HR.out.2).cell (zB3 l k x hx2);have hgd:l.getD k 0=x:=by simp[List.getD,hx2]
   obtain⟨n,hn⟩:∃n,n=(zBj l k).length:=⟨_,rfl⟩;have hn2:n<=k:=by rw[hn];exact zMU l k
   obtain⟨pa,pc,hv, -, -⟩:=_root_.id HR.out.1.form;rw[<- hn] at hv;have HU:=oh (zK8 l k);rw[hgd] at HU;by_cases hi:zGE x=true
   .rw[if_pos hi] at HU;have HLN:=oh hn.symm;have HOW:=oh (HR.out.1.ext ((zA.refl _ wr).alloc (.cells #[.int .i64 (k:Int)] 3)));have HSZ:=oh HR.out.2.size;have hx12:x=1\/x=2:=by unfold zGE at hi;simpa using hi
    subst hv;clear hx hx2 hi hn hgd;rcases hx12 with rfl|rfl
    all_goals
     go_wp2_with (first
      | (at_builtin;refine yU Tryz.elI vW rfl _ _ rfl w.heap.size (.slice pa n pc) (.slice (some ⟨wr.heap.size,0,none⟩) 1 1) (zBj l k) [(k:Int)] rfl rfl HOW.out (Sl.one (F:=λ_=>False) (x:=(k:Int)) (t := 3) (fz:=(0,0)) (zR rfl) (λf=>f)) (by rw[HLN.out];simp only[List.length_cons,List.length_nil];omega) (Nat.le_trans HSZ.out (by simp)) (λf=>f) ?_;intro a' c' w4 hown4 hmod4 hat4;rw[HLN.out] at hown4 ⊢;simp only[List.length_cons,List.length_nil,Nat.zero_add] at hown4 ⊢;have HO4:=oh hown4;have HM4:=oh hmod4;have HA4:=oh HR.out.1.lt;clear hown4 hmod4 hat4)
      | fail)
     go_roundg (gk-1)
     case measure=>omega
     case rel =>
      refine⟨k+1,_,by omega,rfl,by go_num,oh ⟨by rw[HU.out];exact HO4.out,(HR.out.2.alloc (.cells #[.int .i64 (k:Int)] 3)).trans' HM4.out (λi hi hg=>?_)⟩⟩;have:=(HA4.out i hg).1;omega
   .rw[if_neg hi] at HU;have h1:((x:Int) == 1)=false:=by rw[beq_eq_false_iff_ne];intro e;exact hi (by unfold zGE;simp;omega)
    have h2:((x:Int) == 2)=false:=by rw[beq_eq_false_iff_ne];intro e;exact hi (by unfold zGE;simp;omega)
    have HRR:Hid (yC (λ_=>False) wr w.heap.size 3 1 yK v3 (zBj l (k+1))/\zF w wr):=oh (by rw[HU.out,List.append_nil];exact HR.out);clear hx hx2 hi hn hgd hv;go_wp2_with fail;go_roundg (gk-1)
    case measure=>omega
    case rel=>exact⟨k+1,_,by omega,rfl,by go_num,HRR⟩
  .have hkq:k=l.length:=by omega
   have HF:Hid (yC (λ_=>False) wr w.heap.size 3 1 yK v3 (zBj l l.length)):=oh (by have:=HR.out.1;rw[hkq] at this;exact this);have HM:=oh HR.out.2;clear hkq;go_wp2_with fail;go_ret;exact⟨_,rfl,HF.out,HM.out⟩
end
end Go.Proofs.YteabpacpngaoaaaGreatDoor
