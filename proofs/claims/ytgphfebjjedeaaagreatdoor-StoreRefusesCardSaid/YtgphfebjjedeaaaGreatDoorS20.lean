import Derived.Test.YtgphfebjjedeaaaGreatDoorS19
import Derived.Laws.IdiomStrings
import Derived.IntWalk
namespace Go.Proofs.YtgphfebjjedeaaaGreatDoor
open Lib renaming hid->oh
set_option maxRecDepth 100000
section
open Go.RowKit
structure RdR(F:NP)(w:World)(B:Nat)(bv:Value)(b:List UInt8)(r:RdA):Prop where
 own:zJ w B #[bv,.int .i64 r.at_,.bool r.bad] 458
 sl:Sl F w 1 zM bv b
 mem:F B
section
variable {F:NP}{ad:Nat->Addr}{w w':World}{B:Nat}{bv:Value}{b:List UInt8}{r:RdA}
theorem zDn(b:List UInt8)(p:Int)(W:Nat)(hW:W=1\/W=2\/W=4):(qQ b p W).1<4294967296:=by
 unfold qQ;split
 .simp
 .split
  .simp
  .have:=zCM ((b.drop p.toNat).take W);have h2:((b.drop p.toNat).take W).length<=4:=uQ (List.length_take_le _ _) (by omega);have h3:(256:Nat) ^ ((b.drop p.toNat).take W).length<=256 ^ 4:=wW (by omega) h2;simp only;omega
theorem RdR.turn(h:RdR F w B bv b r)(r':RdA)(m:zA (λk=>k=B) w w')(hB:zJ w' B #[bv,.int .i64 r'.at_,.bool r'.bad] 458):RdR F w' B bv b r' :=
 ⟨hB,h.sl.mods (m.mono (λk e=>by subst e;exact h.mem)),h.mem⟩
theorem zIm(hL:zZ F ad w)(h:RdR F w B bv b r)(W:Nat)(hW:W=1\/W=2\/W=4)(h0:0<=r.at_)(h1:r.at_<=1000000000000) :
  Calls Tryz.prog 317 #[.pointer (some ⟨B,0,none⟩),.int .i64 (W:Int)] w λe w'=>e=.returned (.int .i64 ((yQ b r W).1:Nat))/\RdR F w' B bv b (yQ b r W).2/\zA (λk=>k=B) w w':=by
 obtain⟨a,bd⟩:=r;simp only at h0 h1;have hsm:=zDn b a W hW;obtain⟨sa,cap,rfl,hz,_,_,_⟩:=_root_.id h.sl;obtain⟨n,hn⟩:∃n,n=(qQ b a W).1:=⟨_,rfl⟩;rw[<- hn] at hsm;have HN:=oh hn;have HH:=oh h;have HLd:=oh (hL.mods (zss w).drew);have HSd:=oh (h.sl.mods (zss w).drew);have HW:=oh hW;have hW4:W<=4:=by omega
 have c0:=h.own.d 0 (.slice sa b.length cap) rfl;have c1:=h.own.d 1 (.int .i64 a) rfl;have c2:=h.own.d 2 (.bool bd) rfl;clear h hL hW hn
 go_enter Tryz.func317, Tryz.ntmps317
 go_wp2_with fail;go_region_held3 (λw'=>w'.cell? ⟨B,0,none⟩=some (.slice sa b.length cap)/\w'.cell? ⟨B,1,none⟩=some (.int .i64 a))
  (first|(with_reducible exact⟨x0,x1⟩)|go_keep)
  (first
   | (go_at_call 209;refine (zEH HLd.out _ b HSd.out a W (by have:=HW.out;omega)).mono ?_;rintro e w1 ⟨ev,rfl,hE,hm⟩;rw[<- HN.out];have x0:=zI hm c0;have x1:=zI hm c1))
 have x2:=zI hm c2;have HB:=oh ((HH.out.own.drew).ext hm);have f1:=HB.out.frozen 1;have f2:=HB.out.frozen 2;have HM:=oh (hm.ofDrew);have HM2:Hid (∀x:Bool,zA (λk=>k=B) w ((w1.setCell ⟨B,2,none⟩ (.bool x)).setCell ⟨B,1,none⟩ (.int .i64 (a+W)))) :=
  oh λx=>HM.out.ext.trans ((zA.at (λk=>k=B) w1 B 2 _ rfl).trans (zA.at (λk=>k=B) _ B 1 _ rfl))
 clear c0 c1 c2 hm;cases hT:(qQ b a W).2 with
 | none =>
  rw[hT] at hE;cases hE
  have HR:Hid (yQ b ⟨a,bd⟩ W=(n,⟨a+W,bd⟩)):=oh (by unfold yQ;simp only[hT,<- HN.out];simp);clear hT;cases bd
  all_goals
   go_wp2_with fail;go_ret;exact⟨by rw[HR.out];rfl,by rw[HR.out];exact HH.out.turn _ (HM2.out _) ((HB.out.set 2 _).set 1 _),HM2.out _⟩
 | some er =>
  rw[hT] at hE;obtain⟨el,ek⟩:=er;obtain⟨f,rfl,hE⟩:=hE;have HR:Hid (yQ b ⟨a,bd⟩ W=(n,⟨a+W,true⟩)):=oh (by unfold yQ;simp only[hT,<- HN.out];simp);clear hT hE;cases bd
  all_goals
   go_wp2_with fail;go_ret;exact⟨by rw[HR.out];rfl,by rw[HR.out];exact HH.out.turn _ (HM2.out _) ((HB.out.set 2 _).set 1 _),HM2.out _⟩
end
section
variable {P P' F F':NP}{ad:Nat->Addr}{w w':World}{c s:Nat}
theorem zEW(op:ByteArray)(gen:Nat) : Calls Tryz.prog 220 #[.string op,pgV c s gen] w λe w'=>e=.returned .nilIface/\zF w w':=by
 unfold pgV;have m0:zF w (w.alloc (gP c s gen)):=(zss w).alloc _;have M0:=oh m0;clear m0
 go_enter Tryz.func220, Tryz.ntmps220
 go_wp2_with fail;go_ret;exact⟨rfl,M0.out⟩
def zAc(key:ByteArray):Option Err:=if zAK key=true then none else some ([-1],2)
theorem zGe(hL:zZ F ad w)(op:ByteArray)(gen:Nat)(key:ByteArray) : Calls Tryz.prog 179 #[.string op,pgV c s gen,.string key] w λe w'=>∃ev,e=.returned ev/\zAB F ad w' ev (zAc key)/\zF w w':=by
 have HL:=oh hL;have hsz:=hL.size;have HZ:=oh hsz;clear hL hsz;unfold pgV;have HR:=λw'=>zEW (c:=c) (s:=s) (w:=w') op gen
 unfold pgV at HR;cases hk:zAK key with
 | true =>
  have HK:Hid (zAc key=none):=oh (by unfold zAc;rw[if_pos hk])
  go_enter Tryz.func179, Tryz.ntmps179
  go_wp2_with fail;refine (HR _).mono ?_;rintro e w1 ⟨rfl,hm1⟩;have HM1:=oh hm1;clear hm1;go_wp2_with fail;refine (jT key _).mono ?_;rintro e w2 ⟨rfl,rfl⟩;rw[hk];go_wp2_with fail;go_ret;exact⟨_,rfl,by rw[HK.out];rfl,by first|exact HM1.out|exact ((zss w).alloc _).trans HM1.out⟩
 | false =>
  have HK:Hid (zAc key=some ([-1],2)):=oh (by unfold zAc;rw[hk];rfl)
  go_enter Tryz.func179, Tryz.ntmps179
  go_wp2_with fail;refine (HR _).mono ?_;rintro e w1 ⟨rfl,hm1⟩;have hE1:zF w w1:=by first|exact hm1|exact ((zss w).alloc _).trans hm1
  have hL1:=HL.out.mods hE1.ext;have g2:=hL1.c2;have hz1:=hL1.size;have HM1:=oh hE1;have HL1:=oh hL1;clear hm1 hE1 hL1;go_wp2_with fail;refine (jT key _).mono ?_;rintro e w2 ⟨rfl,rfl⟩;rw[hk];go_wp2_with fail;refine (yD HL1.out _ _ [] 2 (.sent 2 (by decide) (by decide))).mono ?_;rintro e w3 ⟨f,rfl,hE,hm⟩;have HE:=oh hE;have HM:=oh hm;clear hE hm;go_wp2_with fail;go_ret;exact⟨_,rfl,by rw[HK.out];exact⟨f,rfl,HE.out⟩,HM1.out.trans HM.out⟩
end
theorem zLn{C:qK}(hI:yS C){id:Nat}(hid:id<C.disk.blocks){p:zX}(h:C.vw id=.inl p):p.id=(id:Int)/\zFc p C.disk.size:=by
 unfold qK.vw at h;split at h
 .rename_i s hs;injection h with h;subst h;have hm:=List.mem_of_find?_eq_some hs;have hh:=List.find?_some hs;obtain⟨i,hi,e⟩:=uR hm;have hi2:C.slots[i]? = some s:=by rw[<- e];exact uA hi
  have hf:s.full=true/\s.page.id=(id:Int):=by
   cases hfl:s.full with
   | false=>rw[zD2 (.inl hfl)] at hh;cases hh
   | true =>
    by_cases e:s.page.id=(id:Int)
    .exact⟨rfl,e⟩
    .rw[zD2 (.inr e)] at hh;cases hh
  exact⟨hf.2,(hI.page i s hi2 hf.1).2.2⟩
 .have hl:=hI.len id hid;unfold zW at h;split at h
  .cases h
  .rename_i h1;split at h
   .cases h
   .rename_i h2;injection h with h;subst h;simp only[ne_eq,Decidable.not_not] at h2;unfold zBC at h1;simp only[rC,uF,uM] at h1;refine⟨h2,?_,zCO _⟩;rw[<- hl];exact h1.1
section
variable {P F:NP}{ad:Nat->Addr}{w:World}{c s:Nat}{G:GA}{l:List Nat}
theorem jC.page(h:jC F w P c s G l){id:Nat}(hid:id<G.blocks){p:zX}(hv:G.view id=some (.inl p)):p.id=(id:Int)/\zFc p G.size:=by
 obtain⟨d,sb,bvs,Pd,b2,C,h1,h2,h3,h4,h5,h6,h7⟩:=h;have:=zLn h2 (by rw[h3.blocks];exact hid) (h3.view id _ hv);rw[h3.size] at this;exact this
theorem jC.got(h:jC F w P c s G l){id:Int}{p:zX}(hv:G.get id=.inl p):p.id=id/\zFc p G.size/\p.body.length<=1000:=by
 unfold GA.get at hv;split at hv
 .cases hv
 .rename_i hc;unfold GA.check at hc;split at hc
  .cases hc
  .rename_i hr;split at hv
   .rename_i q hq;injection hv with hv;subst hv;obtain⟨k1,k2⟩:=h.page (id:=id.toNat) (by omega) hq;have:=(qF k2.1).2.2.2.2.2;have:=h.lim;exact⟨by omega,k2,by omega⟩
   .cases hv
   .cases hv
end
def qX(l:List Nat)(id:Int):Bool:=decide (0<=id) && decide (l[id.toNat]? = some 2)
theorem zIn(w:World)(b b2:Nat)(l:List Nat)(h:SpR w b b2 l)(id:Int) :
  Calls Tryz.prog 342 #[.pointer (some ⟨b,0,none⟩),.int .i64 id] w λe w'=>e=.returned (.bool (qX l id))/\w=w':=by
 have c0:=h.own.d 0 (.slice (some ⟨b2,0,none⟩) l.length l.length) rfl;have hl:=h.len;have hl2:=h.len2;by_cases h0:0<=id
 .obtain⟨i,rfl⟩:∃i:Nat,id=i:=⟨id.toNat,by omega⟩;by_cases h1:i<l.length
  .obtain⟨x,hx⟩:∃x,l[i]? = some x:=⟨_,uA h1⟩;have c1:=h.row.cell (zAQ l i x hx);have HR:Hid (qX l (i:Int)=decide (x=2)):=oh (by
    unfold qX;rw[uU (by omega),uL,hx];simp)
   have h2:(i:Int)<(l.length:Int):=by omega
   clear h hx h0 h1;by_cases hx2:x=2
   .subst hx2
    go_enter Tryz.func342, Tryz.ntmps342
    go_wp2
    go_ret;exact⟨by rw[HR.out];rfl,rfl⟩
   .rw[uX hx2] at HR;have hx3:¬ (x:Int)=2:=by omega
    clear hx2
    go_enter Tryz.func342, Tryz.ntmps342
    go_wp2
    go_ret;exact⟨by rw[HR.out];simp[hx3],rfl⟩
  .have HR:Hid (qX l (i:Int)=false):=oh (by
    unfold qX;rw[uL,List.getElem?_eq_none_iff.2 (by omega)];simp)
   have h2:¬ (i:Int)<(l.length:Int):=by omega
   clear h h0 h1
   go_enter Tryz.func342, Tryz.ntmps342
   go_wp2
   go_ret;exact⟨by rw[HR.out];rfl,rfl⟩
 .have HR:Hid (qX l id=false):=oh (by unfold qX;rw[uX h0];rfl);clear h
  go_enter Tryz.func342, Tryz.ntmps342
  go_wp2
  go_ret;exact⟨by rw[HR.out];rfl,rfl⟩
section
variable {P F:NP}{w:World}{c s:Nat}{G:GA}{l:List Nat}
theorem zKq(h:jC F w P c s G l)(id:Int) : Calls Tryz.prog 342 #[.pointer (some ⟨s,0,none⟩),.int .i64 id] w λe w'=>e=.returned (.bool (qX l id))/\w=w':=by
 obtain⟨d,sb,bvs,Pd,b2,C,h1,h2,h3,h4,h5,h6,h7⟩:=h;exact zIn w s b2 l h5 id
end
abbrev e0:ByteArray:=⟨#[]⟩
def zAh(a b:Nat)(l:List Nat):List Nat:=l.map λx=>if x=a then b else x
def zDS(l:List Nat):List Nat:=zAh 3 1 (zAh 2 0 l)
theorem zJ0{a b:Nat}{l:List Nat}{k x:Nat}(hx:l[k]? = some x):(zAh a b (l.take k)++l.drop k).set k (if x=a then b else x)=zAh a b (l.take (k+1))++l.drop (k+1):=by
 obtain⟨hlt,hxe⟩:=uB.1 hx;rw[vB l k x hx];unfold zAh;rw[List.map_append,List.set_append_right _ _ (by simp;omega)];have e:l.drop k=x :: l.drop (k+1):=by rw[wP hlt,hxe]
 rw[e];simp only[wD,wJ];rw[show k-min k l.length=0 by omega];simp
theorem zKr{a b:Nat}{l:List Nat}{k x:Nat}(hx:l[k]? = some x):(zAh a b (l.take k)++l.drop k)[k]? = some x:=by
 have hlt:=(uB.1 hx).1;rw[wC (by simp[zAh];omega)];simp only[zAh,wD,wJ,rA];rw[show k+(k-min k l.length)=k by omega];exact hx
theorem zIo{a b:Nat}{l:List Nat}{k x:Nat}(hx:l[k]? = some x)(hn:x≠a):zAh a b (l.take (k+1))++l.drop (k+1)=zAh a b (l.take k)++l.drop k:=by
 obtain⟨hlt,hxe⟩:=uB.1 hx;rw[vB l k x hx];have e:l.drop k=x :: l.drop (k+1):=by rw[wP hlt,hxe]
 rw[e];unfold zAh;simp[hn]
theorem zJ1(a b:Nat)(l:List Nat)(k:Nat):(zAh a b (l.take k)++l.drop k).length=l.length:=by simp[zAh];omega
theorem zGf(w:World)(b b2:Nat)(l:List Nat)(h:SpR w b b2 l)(x y:Nat)(hx4:x<4)(_hy4:y<4) :
  Calls Tryz.prog 164 #[.pointer (some ⟨b,0,none⟩),.int .i64 (x:Int),.int .i64 (y:Int)] w λe w'=>e=.returned (.tuple #[])/\SpR w' b b2 (zAh x y l)/\zA (spF b b2) w w':=by
 have hl:=h.len;have hl2:=h.len2;have c0:=h.own.d 0 (.slice (some ⟨b2,0,none⟩) l.length l.length) rfl;have HS:=oh h;clear h
 go_enter Tryz.func164, Tryz.ntmps164
 go_wp2
 go_loopg [15] l.length (λm i wr=>∃k:Nat,k+m=l.length/\i=.int .i64 k/\Hid (SpR wr b b2 (zAh x y (l.take k)++l.drop k)/\zA (spF b b2) w wr))
 case atStart=>exact⟨0,by omega,rfl,oh ⟨by simpa[zAh] using HS.out,zA.refl _ _⟩⟩
 case round =>
  obtain⟨k,hk,rfl,HQ⟩:=hrel;by_cases hlt:k<l.length
  .obtain⟨v,hv⟩:∃v,l[k]? = some v:=⟨_,uA hlt⟩;have c0:=HQ.out.1.own.k 0 rfl;rw[zJ1] at c0;have c1:=HQ.out.1.row.cell (zAQ _ k v (zKr hv));have f1:=HQ.out.1.row.frozen k;have HV:=oh hv;clear hv;by_cases hvx:v=x
   .subst hvx;have HN:Hid (SpR (wr.setCell ⟨b2,k,none⟩ (.int .i64 (y:Int))) b b2 (zAh v y (l.take (k+1))++l.drop (k+1))/\zA (spF b b2) w (wr.setCell ⟨b2,k,none⟩ (.int .i64 (y:Int)))):=oh ⟨by
     have:=HQ.out.1.set k y;have e:=zJ0 (a:=v) (b:=y) HV.out;rw[if_pos rfl] at e;rw[e] at this;exact this,HQ.out.2.trans (zA.at _ _ b2 k _ (.inr rfl))⟩
    go_wp2
    go_roundg (gk-1)
    case measure=>omega
    case rel=>exact⟨k+1,by omega,by go_num,HN⟩
   .have hvi:¬ (v:Int)=(x:Int):=by omega
    go_wp2
    go_roundg (gk-1)
    case measure=>omega
    case rel=>exact⟨k+1,by omega,by go_num,oh (by rw[zIo HV.out hvx];exact HQ.out)⟩
  .go_wp2
   go_end0
   have:=HQ.out;rw[uV (by omega),tA (by omega),wB] at this;exact⟨rfl,this.1,this.2⟩
theorem zFr(w:World)(b b2:Nat)(l:List Nat)(h:SpR w b b2 l) :
  Calls Tryz.prog 159 #[.pointer (some ⟨b,0,none⟩)] w λe w'=>e=.returned (.tuple #[])/\SpR w' b b2 (zDS l)/\zA (spF b b2) w w':=by
 have H1:=zGf w b b2 l h 2 0 (by omega) (by omega);change Calls Tryz.prog 164 #[.pointer (some ⟨b,0,none⟩),.int .i64 2,.int .i64 0] _ _ at H1
 have H1:=oh H1;clear h
 go_enter Tryz.func159, Tryz.ntmps159
 go_wp2_with fail;refine H1.out.mono ?_;rintro e w1 ⟨rfl,hS1,hm1⟩;have H2:=zGf w1 b b2 _ hS1 3 1 (by omega) (by omega);change Calls Tryz.prog 164 #[.pointer (some ⟨b,0,none⟩),.int .i64 3,.int .i64 1] _ _ at H2
 have H2:=oh H2;have HM1:=oh hm1;clear hS1 hm1;go_wp2_with fail;refine H2.out.mono ?_;rintro e w2 ⟨rfl,hS2,hm2⟩;have HS2:=oh hS2;have HM2:=oh (HM1.out.trans hm2);clear hS2 hm2;go_wp2_with fail;go_end0
 exact⟨rfl,HS2.out,HM2.out⟩
end
section
open Go.RowKit
attribute [local go_sem ↓] Go.wp_at_zero Go.wp_at_succ
def zFs(x:Nat):Bool:=x == 1 || x == 2
def jX(l:List Nat)(k:Nat):List Int:=((List.range k).filter (λi=>zFs (l.getD i 0))).map (λ(i:Nat)=>(i:Int))
theorem zGg(l:List Nat)(k:Nat):jX l (k+1)=jX l k++if zFs (l.getD k 0)=true then [(k:Int)] else []:=by
 unfold jX;rw[List.range_succ,List.filter_append,List.map_append];congr 1
 by_cases h:zFs (l.getD k 0)=true
 .rw[if_pos h,List.filter_cons_of_pos (p:=λi=>zFs (l.getD i 0)) h];rfl
 .rw[if_neg h,List.filter_cons_of_neg (p:=λi=>zFs (l.getD i 0)) h];rfl
theorem zHS(l:List Nat)(k:Nat):(jX l k).length<=k:=by
 unfold jX;rw[wD];exact uQ (List.length_filter_le _ _) (by simp)
set_option maxHeartbeats 1000000 in
theorem zJ2(w:World)(b b2:Nat)(l:List Nat)(h:SpR w b b2 l) :
  Calls Tryz.prog 161 #[.pointer (some ⟨b,0,none⟩)] w λe w'=>∃uv,e=.returned uv/\yA (λ_=>False) w' w.heap.size 3 1 yX uv (jX l l.length)/\zF w w':=by
 have c0:=h.own.d 0 (.slice (some ⟨b2,0,none⟩) l.length l.length) rfl;have hl:=h.len;have hl2:=h.len2;have HS:=oh h;clear h
 go_enter Tryz.func161, Tryz.ntmps161
 go_wp2_with fail;go_loopg [3,13] l.length (λm v3 v13 wr=>∃(k:Nat) (uv:Value),k+m=l.length/\uv=v3/\v13=.int .i64 (k:Int)/\Hid (yA (λ_=>False) wr w.heap.size 3 1 yX uv (jX l k)/\zF w wr))
 case atStart=>exact⟨0,_,by omega,rfl,rfl,oh ⟨yA.nil _ _ _ _ _ _,zA.refl _ _⟩⟩
 case round =>
  obtain⟨k,v3,hk,rfl,rfl,HR⟩:=hrel;by_cases hlt:k<l.length
  .obtain⟨x,hx⟩:∃x,x=l[k]:=⟨_,rfl⟩;have hx2:l[k]? = some x:=by rw[hx];simp[hlt]
   have hc:=(HS.out.row.ext HR.out.2).cell (zAQ l k x hx2);have hgd:l.getD k 0=x:=by simp[List.getD,hx2]
   obtain⟨n,hn⟩:∃n,n=(jX l k).length:=⟨_,rfl⟩;have hn2:n<=k:=by rw[hn];exact zHS l k
   obtain⟨pa,pc,hv, -, -⟩:=_root_.id HR.out.1.form;rw[<- hn] at hv;have HU:=oh (zGg l k);rw[hgd] at HU;by_cases hi:zFs x=true
   .rw[if_pos hi] at HU;have HLN:=oh hn.symm;have HOW:=oh (HR.out.1.ext ((zss wr).alloc (.cells #[.int .i64 (k:Int)] 3)));have HSZ:=oh HR.out.2.size;have hx12:x=1\/x=2:=by unfold zFs at hi;simpa using hi
    subst hv;clear hx hx2 hi hn hgd;rcases hx12 with rfl|rfl
    all_goals
     go_wp2_with (first
      | (at_builtin;refine vY Tryz.elI zAY rfl _ _ rfl w.heap.size (.slice pa n pc) (.slice (some ⟨wr.heap.size,0,none⟩) 1 1) (jX l k) [(k:Int)] rfl rfl HOW.out (Sl.one (F:=λ_=>False) (x:=(k:Int)) (t := 3) (fz:=(0,0)) (zU rfl) (λf=>f)) (by rw[HLN.out];simp only[uG,uK];omega) (uQ HSZ.out (by simp)) (λf=>f) ?_;intro a' c' w4 hown4 hmod4 hat4;rw[HLN.out] at hown4 ⊢;simp only[uG,uK,uZ] at hown4 ⊢;have HO4:=oh hown4;have HM4:=oh hmod4;have HA4:=oh HR.out.1.lt;clear hown4 hmod4 hat4)
      | fail)
     go_roundg (gk-1)
     case measure=>omega
     case rel =>
      refine⟨k+1,_,by omega,rfl,by go_num,oh ⟨by rw[HU.out];exact HO4.out,(HR.out.2.alloc (.cells #[.int .i64 (k:Int)] 3)).trans' HM4.out (λi hi hg=>?_)⟩⟩;have:=(HA4.out i hg).1;omega
   .rw[if_neg hi] at HU;have h1:((x:Int) == 1)=false:=by rw[uO];intro e;exact hi (by unfold zFs;simp;omega)
    have h2:((x:Int) == 2)=false:=by rw[uO];intro e;exact hi (by unfold zFs;simp;omega)
    have HRR:Hid (yA (λ_=>False) wr w.heap.size 3 1 yX v3 (jX l (k+1))/\zF w wr):=oh (by rw[HU.out,wB];exact HR.out);clear hx hx2 hi hn hgd hv;go_wp2_with fail;go_roundg (gk-1)
    case measure=>omega
    case rel=>exact⟨k+1,_,by omega,rfl,by go_num,HRR⟩
  .have hkq:k=l.length:=by omega
   have HF:Hid (yA (λ_=>False) wr w.heap.size 3 1 yX v3 (jX l l.length)):=oh (by have:=HR.out.1;rw[hkq] at this;exact this);have HM:=oh HR.out.2;clear hkq;go_wp2_with fail;go_ret;exact⟨_,rfl,HF.out,HM.out⟩
end
section
open Go.RowKit
attribute [local go_sem ↓] Go.wp_at_zero Go.wp_at_succ
section
variable {F:NP}{ad:Nat->Addr}{w w':World}
theorem zCE(hL:zZ F ad w)(hfu:zBZ ad)(ev:Value)(o:Option Err)(he:zAB F ad w ev o)(k:Nat)(hk:k<100) : Calls Tryz.prog 31 #[ev,.int .i64 (k:Int)] w λe w'=>e=.returned (.bool (decide (zFJ o=k)))/\w=w':=by
 have HL:=oh hL;have HFU:=oh hfu;clear hL hfu;cases o with
 | none =>
  obtain rfl:ev=.nilIface:=he;by_cases h0:k=0
  .subst h0
   go_enter Tryz.func31, Tryz.ntmps31
   go_wp2_with fail;refine (zJb _).mono ?_;rintro e w1 ⟨rfl,rfl⟩;go_wp2_with fail;go_ret;exact⟨rfl,rfl⟩
  .have hd:((k:Int) == 0)=false:=by rw[uO];omega
   go_enter Tryz.func31, Tryz.ntmps31
   go_wp2_with fail;go_ret;refine⟨?_,rfl⟩;have:decide (zFJ none=k)=false:=by rw[decide_eq_false_iff_not];exact λe=>h0 e.symm
   rw[this];rfl
 | some er =>
  obtain⟨el,ek⟩:=er;obtain⟨b,rfl,he⟩:=he;have hek:=he.code;have HE:=oh he;clear he;by_cases h0:k=0
  .subst h0
   go_enter Tryz.func31, Tryz.ntmps31
   go_wp2_with fail;go_ret;refine⟨?_,rfl⟩;have:decide (zFJ (some (el,ek))=0)=false:=by rw[decide_eq_false_iff_not];show ¬ ek=0;omega
   rw[this];rfl
  .have hd:((k:Int) == 0)=false:=by rw[uO];omega
   go_enter Tryz.func31, Tryz.ntmps31
   go_wp2_with fail;refine (zJa HL.out HFU.out _ el ek HE.out).mono ?_;rintro e w1 ⟨rfl,rfl⟩;go_wp2_with fail;go_ret;refine⟨?_,rfl⟩;have:decide (zFJ (some (el,ek))=k)=((ek:Int) == (k:Int)):=by
    show decide (ek=k)=_;rw[Bool.eq_iff_iff,decide_eq_true_iff,tL];omega
   rw[this];rfl
end
theorem zCF{F:NP}{ad:Nat->Addr}{w:World}{el:List Int}{k:Nat}(hL:zZ F ad w)(hfu:zBZ ad){f:Nat}(he:yG F ad w (zD f) el k)(q:Nat)(hq:q<100)(hk:k=q) : Calls Tryz.prog 31 #[zD f,.int .i64 (q:Int)] w λe w'=>e=.returned (.bool true)/\w=w':=by
 refine (zCE hL hfu (zD f) (some (el,k)) ⟨f,rfl,he⟩ q hq).mono ?_;rintro e w' ⟨rfl,h⟩;refine⟨?_,h⟩;have:decide (zFJ (some (el,k))=q)=true:=uU hk;rw[this]
end
end Go.Proofs.YtgphfebjjedeaaaGreatDoor
