import Derived.Test.YtalpfcaakpgkmaaGreatDoorR22
import Derived.Laws.IdiomStrings
import Derived.IntWalk
namespace Go.Proofs.YtalpfcaakpgkmaaGreatDoor
open Lib renaming hid->oh
set_option maxRecDepth 100000
section
open Go.RowKit
structure RdR(F:NP)(w:World)(B:Nat)(bv:Value)(b:List UInt8)(r:RdA):Prop where
 own:zG w B #[bv,.int .i64 r.at_,.bool r.bad] 369
 sl:Sl F w 1 zZ bv b
 mem:F B
section
variable {F:NP}{ad:Nat->Addr}{w w':World}{B:Nat}{bv:Value}{b:List UInt8}{r:RdA}
theorem zHB(b:List UInt8)(p:Int)(W:Nat)(hW:W=1\/W=2\/W=4):(vC b p W).1<4294967296:=by
 unfold vC;split
 .simp
 .split
  .simp
  .have:=zE5 ((b.drop p.toNat).take W);have h2:((b.drop p.toNat).take W).length<=4:=uP (List.length_take_le _ _) (by omega);have h3:(256:Nat) ^ ((b.drop p.toNat).take W).length<=256 ^ 4:=wX (by omega) h2;simp only;omega
theorem RdR.turn(h:RdR F w B bv b r)(r':RdA)(m:zA (λk=>k=B) w w')(hB:zG w' B #[bv,.int .i64 r'.at_,.bool r'.bad] 369):RdR F w' B bv b r' :=
 ⟨hB,h.sl.mods (m.mono (λk e=>by subst e;exact h.mem)),h.mem⟩
theorem zO4(hL:yH F ad w)(h:RdR F w B bv b r)(W:Nat)(hW:W=1\/W=2\/W=4)(h0:0<=r.at_)(h1:r.at_<=1000000000000) :
  Calls Tryz.prog 241 #[.pointer (some ⟨B,0,none⟩),.int .i64 (W:Int)] w λe w'=>e=.returned (.int .i64 ((vM b r W).1:Nat))/\RdR F w' B bv b (vM b r W).2/\zA (λk=>k=B) w w':=by
 obtain⟨a,bd⟩:=r;simp only at h0 h1;have Ai:=zHB b a W hW;obtain⟨sa,cap,rfl,hz,_,_,_⟩:=_root_.id h.sl;obtain⟨n,hn⟩:∃n,n=(vC b a W).1:=⟨_,rfl⟩;rw[<- hn] at Ai;have HN:=oh hn;have HH:=oh h;have HLd:=oh (hL.mods (zss w).drew);have HSd:=oh (h.sl.mods (zss w).drew);have HW:=oh hW;have Av:W<=4:=by omega
 have c0:=h.own.d 0 (.slice sa b.length cap) rfl;have c1:=h.own.d 1 (.int .i64 a) rfl;have c2:=h.own.d 2 (.bool bd) rfl;clear h hL hW hn
 go_enter Tryz.func241, Tryz.ntmps241
 go_wp2_with fail;go_region_held3 (λw'=>w'.cell? ⟨B,0,none⟩=some (.slice sa b.length cap)/\w'.cell? ⟨B,1,none⟩=some (.int .i64 a))
  (first|(with_reducible exact⟨x0,x1⟩)|go_keep)
  (first
   | (go_at_call 222;refine (zF4 HLd.out _ b HSd.out a W (by have:=HW.out;omega)).mono ?_;rintro e w1 ⟨ev,rfl,hE,hm⟩;rw[<- HN.out];have x0:=zE hm c0;have x1:=zE hm c1))
 have x2:=zE hm c2;have HB:=oh ((HH.out.own.drew).ext hm);have f1:=HB.out.frozen 1;have f2:=HB.out.frozen 2;have HM:=oh (hm.ofDrew);have A4:Hid (∀x:Bool,zA (λk=>k=B) w ((w1.setCell ⟨B,2,none⟩ (.bool x)).setCell ⟨B,1,none⟩ (.int .i64 (a+W)))) :=
  oh λx=>HM.out.ext.trans ((zA.at (λk=>k=B) w1 B 2 _ rfl).trans (zA.at (λk=>k=B) _ B 1 _ rfl))
 clear c0 c1 c2 hm;cases hT:(vC b a W).2 with
 | none =>
  rw[hT] at hE;cases hE
  have HR:Hid (vM b ⟨a,bd⟩ W=(n,⟨a+W,bd⟩)):=oh (by unfold vM;simp only[hT,<- HN.out];simp);clear hT;cases bd
  all_goals
   go_wp2_with fail;go_ret;exact⟨by rw[HR.out];rfl,by rw[HR.out];exact HH.out.turn _ (A4.out _) ((HB.out.set 2 _).set 1 _),A4.out _⟩
 | some er =>
  rw[hT] at hE;obtain⟨el,ek⟩:=er;obtain⟨f,rfl,hE⟩:=hE;have HR:Hid (vM b ⟨a,bd⟩ W=(n,⟨a+W,true⟩)):=oh (by unfold vM;simp only[hT,<- HN.out];simp);clear hT hE;cases bd
  all_goals
   go_wp2_with fail;go_ret;exact⟨by rw[HR.out];rfl,by rw[HR.out];exact HH.out.turn _ (A4.out _) ((HB.out.set 2 _).set 1 _),A4.out _⟩
end
theorem zSu[zQ]{C:qL}(hI:yJ C){id:Nat}(hid:id<C.disk.blocks){p:zY}(h:C.vw id=.inl p):p.id=(id:Int)/\zKJ p C.disk.size:=by
 unfold qL.vw at h;split at h
 .rename_i s hs;injection h with h;subst h;have hm:=List.mem_of_find?_eq_some hs;have hh:=List.find?_some hs;obtain⟨i,hi,e⟩:=wF hm;have Aj:C.slots[i]? = some s:=by rw[<- e];exact uB hi
  have hf:s.full=true/\s.page.id=(id:Int):=by
   cases Ak:s.full with
   | false=>rw[zHf (.inl Ak)] at hh;cases hh
   | true =>
    by_cases e:s.page.id=(id:Int)
    .exact⟨rfl,e⟩
    .rw[zHf (.inr e)] at hh;cases hh
  exact⟨hf.2,(hI.page i s Aj hf.1).2.2⟩
 .have hl:=hI.len id hid;unfold zV at h;split at h
  .cases h
  .rename_i h1;split at h
   .cases h
   .rename_i h2;injection h with h;subst h;simp only[ne_eq,Decidable.not_not] at h2;unfold zBq at h1;simp only[pR,uI,uO] at h1;refine⟨h2,?_,zE6 _⟩;rw[<- hl];exact h1.1
section
variable {P F:NP}{ad:Nat->Addr}{w:World}{c s:Nat}{G:GA}{l:List Nat}
theorem jK.page[zQ](h:jK F w P c s G l){id:Nat}(hid:id<G.blocks){p:zY}(hv:G.view id=some (.inl p)):p.id=(id:Int)/\zKJ p G.size:=by
 obtain⟨d,sb,bvs,Pd,b2,C,h1,h2,h3,h4,h5,h6,h7,h8⟩:=h;have:=zSu h2 (by rw[h3.blocks];exact hid) (h3.view id _ hv);rw[h3.size] at this;exact this
theorem jK.got[zQ](h:jK F w P c s G l){id:Int}{p:zY}(hv:G.get id=.inl p):p.id=id/\zKJ p G.size/\p.body.length<=1000:=by
 unfold GA.get at hv;split at hv
 .cases hv
 .rename_i hc;unfold GA.check at hc;split at hc
  .cases hc
  .rename_i hr;split at hv
   .rename_i q hq;injection hv with hv;subst hv;obtain⟨k1,k2⟩:=h.page (id:=id.toNat) (by omega) hq;have:=(qO k2.1).2.2.2.2.2;have:=h.lim;exact⟨by omega,k2,by omega⟩
   .cases hv
   .cases hv
end
def vS(l:List Nat)(id:Int):Bool:=decide (0<=id) && decide (l[id.toNat]? = some 2)
theorem zO5(w:World)(b b2:Nat)(l:List Nat)(h:SpR w b b2 l)(id:Int) :
  Calls Tryz.prog 295 #[.pointer (some ⟨b,0,none⟩),.int .i64 id] w λe w'=>e=.returned (.bool (vS l id))/\w=w':=by
 have c0:=h.own.d 0 (.slice (some ⟨b2,0,none⟩) l.length l.length) rfl;have hl:=h.len;have A9:=h.len2;by_cases h0:0<=id
 .obtain⟨i,rfl⟩:∃i:Nat,id=i:=⟨id.toNat,by omega⟩;by_cases h1:i<l.length
  .obtain⟨x,hx⟩:∃x,l[i]? = some x:=⟨_,uB h1⟩;have c1:=h.row.cell (zCF l i x hx);have HR:Hid (vS l (i:Int)=decide (x=2)):=oh (by
    unfold vS;rw[wL (by omega),uH,hx];simp)
   have h2:(i:Int)<(l.length:Int):=by omega
   clear h hx h0 h1;by_cases A1:x=2
   .subst A1
    go_enter Tryz.func295, Tryz.ntmps295
    go_wp2
    go_ret;exact⟨by rw[HR.out];rfl,rfl⟩
   .rw[wM A1] at HR;have Al:¬ (x:Int)=2:=by omega
    clear A1
    go_enter Tryz.func295, Tryz.ntmps295
    go_wp2
    go_ret;exact⟨by rw[HR.out];simp[Al],rfl⟩
  .have HR:Hid (vS l (i:Int)=false):=oh (by
    unfold vS;rw[uH,List.getElem?_eq_none_iff.2 (by omega)];simp)
   have h2:¬ (i:Int)<(l.length:Int):=by omega
   clear h h0 h1
   go_enter Tryz.func295, Tryz.ntmps295
   go_wp2
   go_ret;exact⟨by rw[HR.out];rfl,rfl⟩
 .have HR:Hid (vS l id=false):=oh (by unfold vS;rw[wM h0];rfl);clear h
  go_enter Tryz.func295, Tryz.ntmps295
  go_wp2
  go_ret;exact⟨by rw[HR.out];rfl,rfl⟩
section
variable {P F:NP}{w:World}{c s:Nat}{G:GA}{l:List Nat}
theorem zRc[zQ](h:jK F w P c s G l)(id:Int) : Calls Tryz.prog 295 #[.pointer (some ⟨s,0,none⟩),.int .i64 id] w λe w'=>e=.returned (.bool (vS l id))/\w=w':=by
 obtain⟨d,sb,bvs,Pd,b2,C,h1,h2,h3,h4,h5,h6,h7,h8⟩:=h;exact zO5 w s b2 l h5 id
end
def zBs(a b:Nat)(l:List Nat):List Nat:=l.map λx=>if x=a then b else x
def zAg(l:List Nat):List Nat:=zBs 3 0 (zBs 2 1 l)
theorem zQX{a b:Nat}{l:List Nat}{k x:Nat}(hx:l[k]? = some x):(zBs a b (l.take k)++l.drop k).set k (if x=a then b else x)=zBs a b (l.take (k+1))++l.drop (k+1):=by
 obtain⟨A2,A5⟩:=uA.1 hx;rw[vO l k x hx];unfold zBs;rw[rH,List.set_append_right _ _ (by simp;omega)];have e:l.drop k=x :: l.drop (k+1):=by rw[wD A2,A5]
 rw[e];simp only[wS,wB];rw[show k-min k l.length=0 by omega];simp
theorem zRd{a b:Nat}{l:List Nat}{k x:Nat}(hx:l[k]? = some x):(zBs a b (l.take k)++l.drop k)[k]? = some x:=by
 have A2:=(uA.1 hx).1;rw[wV (by simp[zBs];omega)];simp only[zBs,wS,wB,rD];rw[show k+(k-min k l.length)=k by omega];exact hx
theorem zO6{a b:Nat}{l:List Nat}{k x:Nat}(hx:l[k]? = some x)(hn:x≠a):zBs a b (l.take (k+1))++l.drop (k+1)=zBs a b (l.take k)++l.drop k:=by
 obtain⟨A2,A5⟩:=uA.1 hx;rw[vO l k x hx];have e:l.drop k=x :: l.drop (k+1):=by rw[wD A2,A5]
 rw[e];unfold zBs;simp[hn]
theorem zQY(a b:Nat)(l:List Nat)(k:Nat):(zBs a b (l.take k)++l.drop k).length=l.length:=by simp[zBs];omega
theorem zLk(w:World)(b b2:Nat)(l:List Nat)(h:SpR w b b2 l)(x y:Nat)(Aw:x<4)(_hy4:y<4) :
  Calls Tryz.prog 152 #[.pointer (some ⟨b,0,none⟩),.int .i64 (x:Int),.int .i64 (y:Int)] w λe w'=>e=.returned (.tuple #[])/\SpR w' b b2 (zBs x y l)/\zA (spF b b2) w w':=by
 have hl:=h.len;have A9:=h.len2;have c0:=h.own.d 0 (.slice (some ⟨b2,0,none⟩) l.length l.length) rfl;have HS:=oh h;clear h
 go_enter Tryz.func152, Tryz.ntmps152
 go_wp2
 go_loopg [15] l.length (λm i wr=>∃k:Nat,k+m=l.length/\i=.int .i64 k/\Hid (SpR wr b b2 (zBs x y (l.take k)++l.drop k)/\zA (spF b b2) w wr))
 case atStart=>exact⟨0,by omega,rfl,oh ⟨by simpa[zBs] using HS.out,zA.refl _ _⟩⟩
 case round =>
  obtain⟨k,hk,rfl,HQ⟩:=hrel;by_cases A2:k<l.length
  .obtain⟨v,hv⟩:∃v,l[k]? = some v:=⟨_,uB A2⟩;have c0:=HQ.out.1.own.k 0 rfl;rw[zQY] at c0;have c1:=HQ.out.1.row.cell (zCF _ k v (zRd hv));have f1:=HQ.out.1.row.frozen k;have HV:=oh hv;clear hv;by_cases Aa:v=x
   .subst Aa;have HN:Hid (SpR (wr.setCell ⟨b2,k,none⟩ (.int .i64 (y:Int))) b b2 (zBs v y (l.take (k+1))++l.drop (k+1))/\zA (spF b b2) w (wr.setCell ⟨b2,k,none⟩ (.int .i64 (y:Int)))):=oh ⟨by
     have:=HQ.out.1.set k y;have e:=zQX (a:=v) (b:=y) HV.out;rw[if_pos rfl] at e;rw[e] at this;exact this,HQ.out.2.trans (zA.at _ _ b2 k _ (.inr rfl))⟩
    go_wp2
    go_roundg (gk-1)
    case measure=>omega
    case rel=>exact⟨k+1,by omega,by go_num,HN⟩
   .have Ax:¬ (v:Int)=(x:Int):=by omega
    go_wp2
    go_roundg (gk-1)
    case measure=>omega
    case rel=>exact⟨k+1,by omega,by go_num,oh (by rw[zO6 HV.out Aa];exact HQ.out)⟩
  .go_wp2
   go_end0
   have:=HQ.out;rw[uY (by omega),tY (by omega),wJ] at this;exact⟨rfl,this.1,this.2⟩
theorem zM4(w:World)(b b2:Nat)(l:List Nat)(h:SpR w b b2 l) :
  Calls Tryz.prog 90 #[.pointer (some ⟨b,0,none⟩)] w λe w'=>e=.returned (.tuple #[])/\SpR w' b b2 (zAg l)/\zA (spF b b2) w w':=by
 have H1:=zLk w b b2 l h 2 1 (by omega) (by omega);change Calls Tryz.prog 152 #[.pointer (some ⟨b,0,none⟩),.int .i64 2,.int .i64 1] _ _ at H1
 have H1:=oh H1;clear h
 go_enter Tryz.func90, Tryz.ntmps90
 go_wp2_with fail;refine H1.out.mono ?_;rintro e w1 ⟨rfl,Ab,Ac⟩;have H2:=zLk w1 b b2 _ Ab 3 0 (by omega) (by omega);change Calls Tryz.prog 152 #[.pointer (some ⟨b,0,none⟩),.int .i64 3,.int .i64 0] _ _ at H2
 have H2:=oh H2;have Am:=oh Ac;clear Ab Ac;go_wp2_with fail;refine H2.out.mono ?_;rintro e w2 ⟨rfl,Ad,Ae⟩;have An:=oh Ad;have A4:=oh (Am.out.trans Ae);clear Ad Ae;go_wp2_with fail;go_end0
 exact⟨rfl,An.out,A4.out⟩
end
section
open Go.RowKit
attribute [local go_sem ↓] Go.wp_at_zero Go.wp_at_succ
def zGd(x:Nat):Bool:=x == 1 || x == 2
def zB4(l:List Nat)(k:Nat):List Int:=((List.range k).filter (λi=>zGd (l.getD i 0))).map (λ(i:Nat)=>(i:Int))
theorem zLl(l:List Nat)(k:Nat):zB4 l (k+1)=zB4 l k++if zGd (l.getD k 0)=true then [(k:Int)] else []:=by
 unfold zB4;rw[List.range_succ,rZ,rH];congr 1
 by_cases h:zGd (l.getD k 0)=true
 .rw[if_pos h,List.filter_cons_of_pos (p:=λi=>zGd (l.getD i 0)) h];rfl
 .rw[if_neg h,List.filter_cons_of_neg (p:=λi=>zGd (l.getD i 0)) h];rfl
theorem zM5(l:List Nat)(k:Nat):(zB4 l k).length<=k:=by
 unfold zB4;rw[wS];exact uP (rN _ _) (by simp)
set_option maxHeartbeats 1000000 in
theorem zQZ(w:World)(b b2:Nat)(l:List Nat)(h:SpR w b b2 l) :
  Calls Tryz.prog 149 #[.pointer (some ⟨b,0,none⟩)] w λe w'=>∃uv,e=.returned uv/\yC (λ_=>False) w' w.heap.size 3 1 yI uv (zB4 l l.length)/\zF w w':=by
 have c0:=h.own.d 0 (.slice (some ⟨b2,0,none⟩) l.length l.length) rfl;have hl:=h.len;have A9:=h.len2;have HS:=oh h;clear h
 go_enter Tryz.func149, Tryz.ntmps149
 go_wp2_with fail;go_loopg [3,13] l.length (λm v3 v13 wr=>∃(k:Nat) (uv:Value),k+m=l.length/\uv=v3/\v13=.int .i64 (k:Int)/\Hid (yC (λ_=>False) wr w.heap.size 3 1 yI uv (zB4 l k)/\zF w wr))
 case atStart=>exact⟨0,_,by omega,rfl,rfl,oh ⟨yC.nil _ _ _ _ _ _,zA.refl _ _⟩⟩
 case round =>
  obtain⟨k,v3,hk,rfl,rfl,HR⟩:=hrel;by_cases A2:k<l.length
  .obtain⟨x,hx⟩:∃x,x=l[k]:=⟨_,rfl⟩;have A1:l[k]? = some x:=by rw[hx];simp[A2]
   have hc:=(HS.out.row.ext HR.out.2).cell (zCF l k x A1);have A6:l.getD k 0=x:=by simp[List.getD,A1]
   obtain⟨n,hn⟩:∃n,n=(zB4 l k).length:=⟨_,rfl⟩;have Ay:n<=k:=by rw[hn];exact zM5 l k
   obtain⟨pa,pc,hv, -, -⟩:=_root_.id HR.out.1.form;rw[<- hn] at hv;have HU:=oh (zLl l k);rw[A6] at HU;by_cases hi:zGd x=true
   .rw[if_pos hi] at HU;have Af:=oh hn.symm;have Ao:=oh (HR.out.1.ext ((zss wr).alloc (.cells #[.int .i64 (k:Int)] 3)));have Ap:=oh HR.out.2.size;have A7:x=1\/x=2:=by unfold zGd at hi;simpa using hi
    subst hv;clear hx A1 hi hn A6;rcases A7 with rfl|rfl
    all_goals
     go_wp2_with (first
      | (at_builtin;refine yX Tryz.elI vH rfl _ _ rfl w.heap.size (.slice pa n pc) (.slice (some ⟨wr.heap.size,0,none⟩) 1 1) (zB4 l k) [(k:Int)] rfl rfl Ao.out (Sl.one (F:=λ_=>False) (x:=(k:Int)) (t := 3) (fz:=(0,0)) (zS rfl) (λf=>f)) (by rw[Af.out];simp only[uG,uL];omega) (uP Ap.out (by simp)) (λf=>f) ?_;intro a' c' w4 A0 A3 A8;rw[Af.out] at A0 ⊢;simp only[uG,uL,wG] at A0 ⊢;have Aq:=oh A0;have Ar:=oh A3;have As:=oh HR.out.1.lt;clear A0 A3 A8)
      | fail)
     go_roundg (gk-1)
     case measure=>omega
     case rel =>
      refine⟨k+1,_,by omega,rfl,by go_num,oh ⟨by rw[HU.out];exact Aq.out,(HR.out.2.alloc (.cells #[.int .i64 (k:Int)] 3)).trans' Ar.out (λi hi hg=>?_)⟩⟩;have:=(As.out i hg).1;omega
   .rw[if_neg hi] at HU;have h1:((x:Int) == 1)=false:=by rw[uR];intro e;exact hi (by unfold zGd;simp;omega)
    have h2:((x:Int) == 2)=false:=by rw[uR];intro e;exact hi (by unfold zGd;simp;omega)
    have At:Hid (yC (λ_=>False) wr w.heap.size 3 1 yI v3 (zB4 l (k+1))/\zF w wr):=oh (by rw[HU.out,wJ];exact HR.out);clear hx A1 hi hn A6 hv;go_wp2_with fail;go_roundg (gk-1)
    case measure=>omega
    case rel=>exact⟨k+1,_,by omega,rfl,by go_num,At⟩
  .have Ag:k=l.length:=by omega
   have HF:Hid (yC (λ_=>False) wr w.heap.size 3 1 yI v3 (zB4 l l.length)):=oh (by have:=HR.out.1;rw[Ag] at this;exact this);have HM:=oh HR.out.2;clear Ag;go_wp2_with fail;go_ret;exact⟨_,rfl,HF.out,HM.out⟩
section
variable {F:NP}{ad:Nat->Addr}{w w':World}
theorem zLm(hL:yH F ad w)(Ah:zEZ ad)(ev:Value)(o:Option Err)(he:zAb F ad w ev o)(k:Nat)(hk:k<100) : Calls Tryz.prog 12 #[ev,.int .i64 (k:Int)] w λe w'=>e=.returned (.bool (decide (zN7 o=k)))/\w=w':=by
 have HL:=oh hL;have Au:=oh Ah;clear hL Ah;cases o with
 | none =>
  obtain rfl:ev=.nilIface:=he;by_cases h0:k=0
  .subst h0
   go_enter Tryz.func12, Tryz.ntmps12
   go_wp2_with fail;refine (zP5 _).mono ?_;rintro e w1 ⟨rfl,rfl⟩;go_wp2_with fail;go_ret;exact⟨rfl,rfl⟩
  .have hd:((k:Int) == 0)=false:=by rw[uR];omega
   go_enter Tryz.func12, Tryz.ntmps12
   go_wp2_with fail;go_ret;refine⟨?_,rfl⟩;have:decide (zN7 none=k)=false:=by rw[decide_eq_false_iff_not];exact λe=>h0 e.symm
   rw[this];rfl
 | some er =>
  obtain⟨el,ek⟩:=er;obtain⟨b,rfl,he⟩:=he;have Az:=he.code;have HE:=oh he;clear he;by_cases h0:k=0
  .subst h0
   go_enter Tryz.func12, Tryz.ntmps12
   go_wp2_with fail;go_ret;refine⟨?_,rfl⟩;have:decide (zN7 (some (el,ek))=0)=false:=by rw[decide_eq_false_iff_not];show ¬ ek=0;omega
   rw[this];rfl
  .have hd:((k:Int) == 0)=false:=by rw[uR];omega
   go_enter Tryz.func12, Tryz.ntmps12
   go_wp2_with fail;refine (zP4 HL.out Au.out _ el ek HE.out).mono ?_;rintro e w1 ⟨rfl,rfl⟩;go_wp2_with fail;go_ret;refine⟨?_,rfl⟩;have:decide (zN7 (some (el,ek))=k)=((ek:Int) == (k:Int)):=by
    show decide (ek=k)=_;rw[Bool.eq_iff_iff,decide_eq_true_iff,rE];omega
   rw[this];rfl
end
end
end Go.Proofs.YtalpfcaakpgkmaaGreatDoor
