import Derived.Test.YtdnbmdghmmpgcaaGreatDoorQ39
import Derived.Test.YtdnbmdghmmpgcaaGreatDoorQ42
namespace Go.Proofs.YtdnbmdghmmpgcaaGreatDoor
open Lib renaming hid->oh
set_option maxHeartbeats 4000000
set_option maxRecDepth 100000
section
open Go.RowKit
attribute [local go_sem ↓] Go.wp_at_zero Go.wp_at_succ
section
variable {P P' F F':Nat->Prop}{ad:Nat->Addr}{w w':World}{S d c sp:Nat}{s:jM}{home keys:Int}{G G':GA}{l l':List Nat}{root:Nat}
def zSi(F P:Nat->Prop)(ad:Nat->Addr)(w:World)(S d c sp:Nat)(s:jM)(home root keys:Int)(G:GA)(l:List Nat)(o:List zD)(e:Ending)(w':World):Prop :=
 ∃P' F' v,e=.returned (.tuple #[v,.nilIface])/\Sl F' w' 1 zT v (zAj s.gen o)/\StR F' w' P' S d c sp s home root keys G l/\zV P P' F F' ad w w'
theorem zNm(o:List zD)(k:Nat)(hk:k<o.length):(o.take (k+1)).flatMap zAp=(o.take k).flatMap zAp++qE o[k].1++qE o[k].2:=by
 rw[tE hk,wT,List.flatMap_singleton,zAp,uJ]
theorem zMc(o:List zD)(k:Nat):((o.take k).flatMap zAp).length<=(o.flatMap zAp).length:=by
 have h:o.flatMap zAp=(o.take k).flatMap zAp++(o.drop k).flatMap zAp:=by rw[<- wT,uV]
 rw[h,uA];omega
theorem zOR(hL:yG F ad w)(hP:∀k,P k->F k)(h:StR F w P S d c sp s home (root:Int) keys G l)(hg:s.gen+1<18446744073709551616)(o:List zD)(hn:o.length<=65535)(ht:∀x∈o,x.1.size<=65535/\x.2.size<=65535)(hz:(o.flatMap zAp).length<=800000000)
  (hR:∀W,yG F ad W->vH F W P c sp G l -> Calls Tryz.prog 77 #[pgV c sp (s.gen+1),.int .i64 (root:Int),.string e0,.string e0,.int .i64 65535] W (zGs F P ad W c sp G l o)) :
  Calls Tryz.prog 18 #[.pointer (some ⟨S,0,none⟩)] w (zSi F P ad w S d c sp s home (root:Int) keys G l o):=by
 have HRA:=oh (zRy hL hP h hg e0 e0 65535 o hR);have HT:=oh ht;have HZ:=oh hz;have HNN:=oh hn;have HGG:=oh hg;clear hL hP h hg hR ht hz hn
 go_enter Tryz.func18, Tryz.ntmps18
 go_wp2_with fail;refine HRA.out.mono ?_;rintro e w1 ⟨P1,F1,v1,rfl,hs1,h1,n1⟩;have HS1:=oh hs1;have HH1:=oh h1;have HN1:=oh n1;obtain⟨a,cc,rfl, -⟩:=hs1;have HGE:=oh (zS4 h1);have HBG:=oh (zMb n1.env ⟨1,s.gen,0,o.length⟩ (by show (1:Nat)<256;omega) (by have:=HGG.out;show s.gen<18446744073709551616;omega) (by show (0:Nat)<18446744073709551616;omega) (by have:=HNN.out;show o.length<4294967296;omega));obtain⟨gg,hgg⟩:∃gg,gg=s.gen:=⟨_,rfl⟩;unfold zCS at HBG;simp only at HBG;rw[<- hgg] at HGE HBG;have HGQ:=oh hgg;clear h1 n1 hgg;go_wp2_with fail;refine HGE.out.mono ?_;rintro e w2 ⟨rfl,rfl⟩;go_wp2_with fail;refine HBG.out.mono ?_;rintro e w3 ⟨B,rfl,hB3,hL3,hq3,m3⟩;have HB3:=oh hB3;have HL3:=oh hL3;have HQ3:=oh hq3;have HM3:=oh m3;clear hB3 hL3 hq3 m3;go_wp2_with fail;go_loopg [26] o.length (λm v26 wr=>∃(k:Nat),k+m=o.length/\v26=.int .i64 (k:Int)/\Hid (BwR (yB F1 B) wr B (qW ⟨1,gg,0,o.length⟩ ++ (o.take k).flatMap zAp)/\yG (yB F1 B) ad wr/\zG w1 wr))
 case atStart=>exact⟨0,by omega,rfl,oh ⟨by simpa using HB3.out,HL3.out,HM3.out⟩⟩
 case round =>
  obtain⟨k,hkm,rfl,HR⟩:=hrel;by_cases hlt:k<o.length
  .obtain⟨qb,qoff,hqa,hc⟩:=HS1.out.elem hlt HR.out.2.2;have c0:=hc 0 (.string o[k].1) rfl;have c1:=hc 1 (.string o[k].2) rfl;simp only[uP] at c0;subst hqa;have HX:=oh (HT.out _ (wJ hlt));have HFT:=oh (zNm o k hlt);obtain⟨x,hx⟩:∃x,x=o[k]:=⟨_,rfl⟩;rw[<- hx] at c0 c1 HX HFT;obtain⟨key,v⟩:=x;simp only at c0 c1 HX HFT;have i1:(0:Int)<=(k:Int):=by omega
   have i2:(k:Int)<(o.length:Int):=by omega
   have i3:(o.length:Int)<=65535:=by have:=HNN.out;omega
   have m0:zG wr (wr.alloc (.cells #[.string key,.string v] 111)):=(zA.refl _ wr).alloc _;have hBl:∀k,(qW ⟨1,gg,0,o.length⟩ ++ (o.take k).flatMap zAp).length<=800000025:=λk=>by
    have:=zMc o k;have:=HZ.out;rw[uA,vN];omega
   have HT1:=oh (zFm (HR.out.2.1.mods m0.ext) (.inr rfl:yB F1 B B) (HR.out.1.ext m0) key HX.out.1 (by have:=hBl k;omega));have HBL:=oh hBl;have HB0:=oh (zK.new wr #[.string key,.string v] 111);have HRZ:=oh (show B≠wr.heap.size from λe=>by have:=HR.out.2.1.lt B (.inr rfl);omega);have HM0:=oh m0;clear hc hx m0 hBl;go_wp2_with fail;refine HT1.out.mono ?_;rintro e w5 ⟨rfl,hB5,m5⟩;have hP5:=HB0.out.mods m5 (λh=>HRZ.out h.symm);have b1:=hP5.cell (o:=1) (v:=.string v) rfl;have mF:zA (yB F1 B) (wr.alloc (.cells #[.string key,.string v] 111)) w5:=m5.mono (λj (h:j=B)=>.inr h);have hL5:=(HR.out.2.1.mods HM0.out.ext).mods mF;have HT2:=oh (zFm hL5 (.inr rfl:yB F1 B B) hB5 v HX.out.2 (by have:=HBL.out k;rw[uA,yL];have:=HX.out.1;omega));have HM5:=oh ((HR.out.2.2.trans HM0.out).trans' m5 (λi hi (h:i=B)=>by have:=HQ3.out;omega));have HL5:=oh hL5;clear hB5 m5 hP5 mF hL5;go_wp2_with fail;refine HT2.out.mono ?_;rintro e w6 ⟨rfl,hB6,m6⟩;have HF6:Hid (BwR (yB F1 B) w6 B (qW ⟨1,gg,0,o.length⟩ ++ (o.take (k+1)).flatMap zAp)/\yG (yB F1 B) ad w6/\zG w1 w6):=oh ⟨by rw[HFT.out];simpa using hB6,HL5.out.mods (m6.mono (λj (h:j=B)=>.inr h)),HM5.out.trans' m6 (λi hi (h:i=B)=>by have:=HQ3.out;omega)⟩;clear hB6 m6;go_wp2_with fail;go_roundg (gk-1)
   case measure=>omega
   case rel=>exact⟨k+1,by omega,by go_num,HF6⟩
  .have hke:k=o.length:=by omega
   subst hke;go_wp2_with fail;refine (zSA HR.out.2.1 (.inr rfl:yB F1 B B) HR.out.1 _ (by have:=zMc o o.length;have:=HZ.out;rw[uA,vN];omega)).mono ?_;rintro e w5 ⟨v5,rfl,hs5,m5⟩;have HM5:=oh (HR.out.2.2.trans' m5 (λi hi (h:i=B)=>by have:=HQ3.out;omega));have HS5:=oh hs5;clear hs5 m5;go_wp2_with fail;go_ret2
   refine⟨P1,F1,v5,rfl,?_,HH1.out.at HM5.out,HN1.out.trans (zV.ext HN1.out.env HN1.out.sub HM5.out)⟩;have h:=HS5.out;rw[wX,HGQ.out] at h;exact h.anti (λk _ hk=>.inl hk)
end
end
section
open Go.RowKit
theorem zIn:∀(l:List zD),(∀x∈l,x.1.size<=32/\x.2.size<=300)->(l.flatMap zAp).length<=336 * l.length
 | [],_=>by simp
 | x :: l,h=>by
  have h1:=zIn l (λy hy=>h y (uH _ hy));have h2:=h x uG;rw[List.flatMap_cons,uA,uD,zAp,uA,yL,yL];omega
theorem zAZ.sz{o:List zD}(h:zAZ o):∀x∈o,x.1.size<=32/\x.2.size<=300:=λx hx=>⟨((vW _).1 (h.ok x hx).1).2,h.small x hx⟩
section
variable {P P' F F':Nat->Prop}{ad:Nat->Addr}{w w':World}{S d c sp:Nat}{G:GA}{l:List Nat}{root dd g:Nat}{pgs:List Nat}{o:List zD}
theorem zMd(hP:∀k,P k->F k)(h:zDH g G l root dd o pgs)(hlen:o.length<=1000)(gen:Nat):∀W,yG F ad W->vH F W P c sp G l -> Calls Tryz.prog 77 #[pgV c sp gen,.int .i64 (root:Int),.string e0,.string e0,.int .i64 65535] W (zGs F P ad W c sp G l o) :=
 λW hL hG=>zNh hL hP hG gen h.td (by rw[h.size];exact uK _) (by rw[h.blk];omega) hlen
def zR0(F P:Nat->Prop)(ad:Nat->Addr)(w:World)(S d c sp:Nat)(o:List zD)(e:Ending)(w':World):Prop :=
 ∃P' F' v,e=.returned (.tuple #[v,.nilIface])/\Sl F' w' 1 zT v (zAj 1 o)/\zJ7 F' w' P' S d c sp o/\zV P P' F F' ad w w'
theorem zMe(hL:yG F ad w)(hP:∀k,P k->F k)(h:zJ7 F w P S d c sp o)(ho:zAZ o) :
  Calls Tryz.prog 18 #[.pointer (some ⟨S,0,none⟩)] w (zR0 F P ad w S d c sp o):=by
 obtain⟨root,dd,pgs,G,l,hS,hW,hC⟩:=h;have hl:=ho.len;refine (zOR hL hP hS (by show 1+1<_;omega) o (by omega) (λx hx=>by have:=ho.sz x hx;omega) (by have:=zIn o ho.sz;omega) (zMd hP hW (by omega) _)).mono ?_;rintro e w' ⟨P',F',v,rfl,hv,h',n'⟩;exact⟨P',F',v,rfl,hv,⟨root,dd,pgs,G,l,h',hW,hC⟩,n'⟩
theorem zEB(ho:zAZ o)(g:Nat):29<=(zAj g o).length/\(zAj g o).length<=10200:=by
 have:=zIn o ho.sz;have:=ho.len;unfold zAj;rw[zAq,uA,vN];omega
end
end
section
open Go.RowKit
attribute [local go_sem ↓] Go.wp_at_zero Go.wp_at_succ
def zJA:List zD:=[(⟨#[97]⟩,⟨#[120]⟩)]
theorem zPh:zBY (zAj 1 zJA)=.inl (⟨1,1,0,1⟩,zJA):=zIA (by omega) (by decide) (by decide +kernel) (by intro x hx;simp only[zJA,uO,nI,or_false] at hx;subst hx;decide)
theorem zRL:(zAj 1 zJA).length=35:=by
 unfold zAj;rw[zAq,uA,vN];rfl
theorem zHS{ad:Nat->Addr}{w:World}(hL:yG NoB ad w) : Calls Tryz.prog 13 #[] w λe w'=>e=.returned (.bool true)/\zG w w':=by
 have HL:=oh hL;clear hL
 go_enter Tryz.func13, Tryz.ntmps13
 go_wp2_with fail;have m0:zG w (w.alloc (.cells #[.string ⟨#[97]⟩,.string ⟨#[120]⟩] 111)):=(zA.refl _ w).alloc _;have hrow:Sl NoB (w.alloc (.cells #[.string ⟨#[97]⟩,.string ⟨#[120]⟩] 111)) 2 yS (.slice (some ⟨w.heap.size,0,none⟩) 1 1) [((⟨#[97]⟩,⟨#[120]⟩):zD)]:=Sl.one (F:=NoB) (x:=((⟨#[97]⟩,⟨#[120]⟩):zD)) (zK.new w _ _) (λf=>f);refine (zNg (HL.out.mods m0.ext) ⟨#[97]⟩ ⟨#[120]⟩ (by decide) (by decide) _ hrow).mono ?_;rintro e w1 ⟨S,d,c,sp,P1,F1,rfl,h1,n1⟩;have hn1:=n1.shrink (P2:=P1) (λk h=>.inl h);have HW:=oh (zOR n1.env hn1.sub h1 (by show 1+1<_;omega) zJA (by decide) (by intro x hx;simp only[zJA,uO,nI,or_false] at hx;subst hx;decide) (by decide) (zPf hn1.sub zIg (by decide) (by decide) _ _));have HN1:=oh hn1;have HM0:=oh m0;clear h1 n1 hn1 hrow m0;go_wp2_with fail;refine HW.out.mono ?_;rintro e w2 ⟨P2,F2,v,rfl,hv, -,n2⟩;have HN2:=oh (HN1.out.trans n2);have HX2:=oh (HM0.out.trans HN2.out.stp.mods);have HRD:=oh (zNj HN2.out.env v _ hv (by show (zAj 1 zJA).length<=_;rw[zRL];omega));have hrd:zBY (zAj (zAF zDh).gen zJA)=.inl (⟨1,1,0,1⟩,zJA):=zPh;unfold zIj at HRD;rw[hrd] at HRD;simp only at HRD;clear n2 hrd;obtain⟨a,cp,rfl, -⟩:=hv;go_wp2_with fail;refine HRD.out.mono ?_;rintro e w3 ⟨⟨v3,rfl,hv3⟩,hm3⟩;obtain⟨a3,c3,rfl, -⟩:=id hv3;obtain⟨qb,qoff,hqa,hqF,hcc⟩:=hv3.elemF (k:=0) (by decide);have d1:=hcc 1 (.string ⟨#[120]⟩) rfl;simp only[rL,uP] at d1;subst hqa;have HX3:=oh (HX2.out.trans hm3);rw[show zCS ⟨1,1,0,1⟩=.agg #[.int .i64 1,.int .u64 1,.int .u64 0,.int .i64 1] from rfl,show zJA.length=1 from rfl];clear hm3 hv3 hcc hqF;have d2:=zM d1 (.cells #[.int .i64 1,.int .u64 1,.int .u64 0,.int .i64 1] 46);have HX4:=oh (HX3.out.alloc (.cells #[.int .i64 1,.int .u64 1,.int .u64 0,.int .i64 1] 46));clear d1;go_wp2_with fail;go_ret;exact⟨rfl,HX4.out⟩
section
variable {F:Nat->Prop}{ad:Nat->Addr}{w w':World}
theorem zMf(hL:yG F ad w)(hfu:zEM ad)(f:Nat)(el:List Int)(he:yY F ad w (zJ f) el 1) : Calls Tryz.prog 12 #[zJ f,.int .i64 1] w λe w'=>e=.returned (.bool true)/\w=w':=by
 have HC:=oh (zP5 hL hfu _ el 1 he);rw[show ((1:Nat):Int)=1 from rfl] at HC;unfold zJ at HC ⊢;clear hL hfu he
 go_enter Tryz.func12, Tryz.ntmps12
 go_wp2_with fail;refine HC.out.mono ?_;rintro e w1 ⟨rfl,rfl⟩;go_wp2_with fail;go_ret;exact⟨rfl,rfl⟩
end
theorem zJ8:∀(l:List zD) (last:ByteArray),yK l->(∀x∈l,okP x)->(∀x∈l,yX last x.1=true)->vS last l=true
 | [],_,_,_,_=>rfl
 | x :: l,last,hs,hk,hl=>by
  have h2:=hs.cons;rw[vS,(hk x uG).1,hl x uG,uT (hk x uG).2,zJ8 l x.1 h2.2 (λy hy=>hk y (uH _ hy)) h2.1];rfl
theorem zAZ.okp{o:List zD}(h:zAZ o):∀x∈o,okP x:=λx hx=>h.ok x hx
theorem zAZ.right{o:List zD}(h:zAZ o):vS e0 o=true:=zJ8 o e0 h.sorted h.okp (λx hx=>zRJ (h.ok x hx).1)
theorem zEz{a b:List zD}(ha:zAZ a)(hb:zAZ b)(g base:Nat):(zBu g a b base).length<=1000000/\(yF a b).length<=60:=by
 have h1:=zHq a b;have h2:=zIm (yF a b) (zC2 a b (λx hx=>⟨by have:=ha.sz x hx;omega,by have:=ha.sz x hx;omega⟩) (λx hx=>⟨by have:=hb.sz x hx;omega,by have:=hb.sz x hx;omega⟩));have:=ha.len;have:=hb.len;unfold zBu;rw[zAq,uA,vN];omega
theorem Sl.form3{α:Type}{F:Nat->Prop}{w:World}{sz:Nat}{enc:α->List Value}{v:Value}{l:List α}(h:Sl F w sz enc v l):∃a n c,v=.slice a n c:=by
 obtain⟨a,c,h,_⟩:=h;exact⟨a,_,c,h⟩
theorem zFu{o:List zD}(h:zAZ o):zBY (zAj 1 o)=.inl (⟨1,1,0,o.length⟩,o):=zIA (by omega) (by have:=h.len;omega) h.right (λx hx=>by have:=h.sz x hx;omega)
def vs2(a b:Value):Nat->Value:=λi=>if i=0 then a else b
def vs3(a b c:Value):Nat->Value:=λi=>if i=0 then a else if i=1 then b else c
def stA(a b c:List zD):Nat->Option (List zD × Nat):=λi=>if i=0 then some (a,1) else if i=1 then some (b,7) else some (c,9)
def stB(a:List zD):Nat->Option (List zD × Nat):=λi=>if i=0 then some (a,1) else none
section
variable {F:Nat->Prop}{ad:Nat->Addr}{w w':World}
theorem zPi(hL:yG NoB ad w){a b c:List zD}(ha:zAZ a)(hb:zAZ b)(v1 v2:Value)(h1:Sl NoB w 1 zT v1 (zAj 1 a))(h2:Sl NoB w 1 zT v2 (zBu 7 a b 1))(t:TypeId) :
  Calls Tryz.prog 21 #[.slice (some ⟨w.heap.size,0,none⟩) 2 2] (w.alloc (.cells #[v1,v2] t)) λe w'=>zGu NoB ad (some (b,7)) e w'/\zG (w.alloc (.cells #[v1,v2] t)) w':=by
 have m0:zG w (w.alloc (.cells #[v1,v2] t)):=(zA.refl _ w).alloc _;have hB:=zK.new w #[v1,v2] t;refine zEy (hL.mods m0.ext) w.heap.size 2 (by omega) (vs2 v1 v2) (λi hi=>?_) (zAj 1 a) (h1.ext m0) (by have:=zEB ha 1;omega) (stA a b c) _ a (zFu ha) rfl (λi hi l g hs W m v hv=>?_) (λi hi hs=>?_)
 .match i,hi with
  | 0,_=>exact hB.cell (o:=0) rfl
  | 1,_=>exact hB.cell (o:=1) rfl
 .obtain rfl:i=0:=by omega
  injection hs with hs;injection hs with e1 e2;subst e1 e2;exact zEx ((hL.mods m0.ext).mods m.ext) a b v hv 7 1 (by omega) (by omega) v2 ((h2.ext m0).ext m) ha.sorted hb.sorted ha.okp hb.okp (by have:=ha.len;omega) (by have:=hb.len;omega) (by have:=zEz ha hb 7 1;omega)
 .obtain rfl:i=0:=by omega
  cases hs
theorem zPj(hL:yG NoB ad w){a b c:List zD}(ha:zAZ a)(hb:zAZ b)(hc:zAZ c)(v1 v2 v3:Value)(h1:Sl NoB w 1 zT v1 (zAj 1 a))(h2:Sl NoB w 1 zT v2 (zBu 7 a b 1))(h3:Sl NoB w 1 zT v3 (zBu 9 b c 7))(t:TypeId) :
  Calls Tryz.prog 21 #[.slice (some ⟨w.heap.size,0,none⟩) 3 3] (w.alloc (.cells #[v1,v2,v3] t)) λe w'=>zGu NoB ad (some (c,9)) e w'/\zG (w.alloc (.cells #[v1,v2,v3] t)) w':=by
 have m0:zG w (w.alloc (.cells #[v1,v2,v3] t)):=(zA.refl _ w).alloc _;have hB:=zK.new w #[v1,v2,v3] t;refine zEy (hL.mods m0.ext) w.heap.size 3 (by omega) (vs3 v1 v2 v3) (λi hi=>?_) (zAj 1 a) (h1.ext m0) (by have:=zEB ha 1;omega) (stA a b c) _ a (zFu ha) rfl (λi hi l g hs W m v hv=>?_) (λi hi hs=>?_)
 .match i,hi with
  | 0,_=>exact hB.cell (o:=0) rfl
  | 1,_=>exact hB.cell (o:=1) rfl
  | 2,_=>exact hB.cell (o:=2) rfl
 .rcases (show i=0\/i=1 by omega) with rfl|rfl
  .injection hs with hs;injection hs with e1 e2;subst e1 e2;exact zEx ((hL.mods m0.ext).mods m.ext) a b v hv 7 1 (by omega) (by omega) v2 ((h2.ext m0).ext m) ha.sorted hb.sorted ha.okp hb.okp (by have:=ha.len;omega) (by have:=hb.len;omega) (by have:=zEz ha hb 7 1;omega)
  .injection hs with hs;injection hs with e1 e2;subst e1 e2;exact zEx ((hL.mods m0.ext).mods m.ext) b c v hv 9 7 (by omega) (by omega) v3 ((h3.ext m0).ext m) hb.sorted hc.sorted hb.okp hc.okp (by have:=hb.len;omega) (by have:=hc.len;omega) (by have:=zEz hb hc 9 7;omega)
 .rcases (show i=0\/i=1 by omega) with rfl|rfl <;> cases hs
theorem zPk(hL:yG NoB ad w){a b c:List zD}(ha:zAZ a)(hb:zAZ b)(hc:zAZ c)(v1 v3:Value)(h1:Sl NoB w 1 zT v1 (zAj 1 a))(h3:Sl NoB w 1 zT v3 (zBu 9 b c 7))(t:TypeId) :
  Calls Tryz.prog 21 #[.slice (some ⟨w.heap.size,0,none⟩) 2 2] (w.alloc (.cells #[v1,v3] t)) λe w'=>zGu NoB ad none e w'/\zG (w.alloc (.cells #[v1,v3] t)) w':=by
 have m0:zG w (w.alloc (.cells #[v1,v3] t)):=(zA.refl _ w).alloc _;have hB:=zK.new w #[v1,v3] t;refine zEy (hL.mods m0.ext) w.heap.size 2 (by omega) (vs2 v1 v3) (λi hi=>?_) (zAj 1 a) (h1.ext m0) (by have:=zEB ha 1;omega) (stB a) _ a (zFu ha) rfl (λi hi l g hs W m v hv=>?_) (λi hi hs=>?_)
 .match i,hi with
  | 0,_=>exact hB.cell (o:=0) rfl
  | 1,_=>exact hB.cell (o:=1) rfl
 .obtain rfl:i=0:=by omega
  injection hs with hs;injection hs with e1 e2;subst e1 e2;exact zKu ((hL.mods m0.ext).mods m.ext) v b c 9 7 1 (by omega) (by omega) (by omega) v3 ((h3.ext m0).ext m) (by have:=zEz hb hc 9 7;omega) (by have:=zEz hb hc 9 7;omega)
 .obtain rfl:i=0:=by omega
  cases hs
theorem zGv(hE:yG NoB ad w)(hF:zEM ad)(lx ly lz:List zD)(vx vy vz:Value)(sx:Sl NoB w 2 yS vx lx)(sy:Sl NoB w 2 yS vy ly)(sz:Sl NoB w 2 yS vz lz) :
  Calls Tryz.prog 5 #[vx,vy,vz] w λe w'=>e=.returned (.bool true)/\zG w w':=by
 have HE:=oh hE;have HFU:=oh hF;have HTX:=oh (zEA lx vx sx);have HTY:=oh (λW (m:zG w W)=>zEA ly vy (sy.ext m));have HTZ:=oh (λW (m:zG w W)=>zEA lz vz (sz.ext m));have ta:=zFE lx;have tb:=zFE ly;have tc:=zFE lz;obtain⟨a,ha⟩:∃a,a=zDG lx:=⟨_,rfl⟩;obtain⟨b,hb⟩:∃b,b=zDG ly:=⟨_,rfl⟩;obtain⟨c,hc⟩:∃c,c=zDG lz:=⟨_,rfl⟩;rw[<- ha] at HTX ta;rw[<- hb] at HTY tb;rw[<- hc] at HTZ tc;have HA:=oh ta;have HB:=oh tb;have HC:=oh tc;clear hE hF sx sy sz ha hb hc ta tb tc
 go_enter Tryz.func5, Tryz.ntmps5
 go_wp2_with fail;refine HTX.out.mono ?_;rintro e w1 ⟨va,rfl,hO1,hm1⟩;have HSA1:=oh (hO1.sl yR.len (by have:=HA.out.len;omega));have HM1:=oh hm1;clear hO1 hm1;go_wp2_with fail;refine (HTY.out _ HM1.out).mono ?_;rintro e w2 ⟨vb,rfl,hO2,hm2⟩;have HSB2:=oh (hO2.sl yR.len (by have:=HB.out.len;omega));have HSA2:=oh (HSA1.out.ext hm2);have HM2:=oh (HM1.out.trans hm2);clear hO2 hm2;go_wp2_with fail;refine (HTZ.out _ HM2.out).mono ?_;rintro e w3 ⟨vc,rfl,hO3,hm3⟩;have HSC3:=oh ((hO3.sl yR.len (by have:=HC.out.len;omega)).anti (G:=NoB) (λ_ _ h=>h));have HSB3:=oh ((HSB2.out.ext hm3).anti (G:=NoB) (λ_ _ h=>h));have HSA3:=oh ((HSA2.out.ext hm3).anti (G:=NoB) (λ_ _ h=>h));have HM3:=oh (HM2.out.trans hm3);have HE3:=oh (HE.out.mods (HM2.out.trans hm3).ext);clear hO3 hm3;go_wp2_with fail;refine (zIh HE3.out a HA.out va HSA3.out).mono ?_;rintro e w4 ⟨S,d,cc,sp,P4,F4,rfl,hS4,n4⟩;have hn4:=n4.shrink (P2:=P4) (λk h=>.inl h);have HWH:=oh (zMe hn4.env hn4.sub hS4 HA.out);have HN4:=oh hn4;clear hS4 n4 hn4;go_wp2_with fail;refine HWH.out.mono ?_;rintro e w5 ⟨P5,F5,v5,rfl,hv5, -,n5⟩;obtain⟨a5,q5,c5,rfl⟩:=hv5.form3;have HX5:=oh ((HN4.out.trans n5).stp.mods:zG w3 w5);have HV5:=oh (hv5.anti (G:=NoB) (λ_ _ h=>h.elim));have HSI:=zOQ (HE3.out.mods HX5.out.ext) 7 1 (by omega) (by omega) a b va vb (HSA3.out.ext HX5.out) (HSB3.out.ext HX5.out) (by have:=HA.out.len;omega) (by have:=HB.out.len;omega);unfold zKt at HSI;rw[HA.out.right,HB.out.right] at HSI;simp only[Bool.and_self,tS] at HSI;rw[show ((7:Nat):Int)=7 from rfl,show ((1:Nat):Int)=1 from rfl] at HSI;have HSI:=oh HSI;clear hv5 n5;go_wp2_with fail;refine HSI.out.mono ?_;rintro e w6 ⟨⟨v6,rfl,hv6⟩,hm6⟩;obtain⟨a6,q6,c6,rfl⟩:=hv6.form3;have HX6:=oh (HX5.out.trans hm6);have HV6:=oh hv6;have HV56:=oh (HV5.out.ext hm6);have HSI:=zOQ (HE3.out.mods HX6.out.ext) 9 7 (by omega) (by omega) b c vb vc (HSB3.out.ext HX6.out) (HSC3.out.ext HX6.out) (by have:=HB.out.len;omega) (by have:=HC.out.len;omega);unfold zKt at HSI;rw[HB.out.right,HC.out.right] at HSI;simp only[Bool.and_self,tS] at HSI;rw[show ((7:Nat):Int)=7 from rfl,show ((9:Nat):Int)=9 from rfl] at HSI;have HSI:=oh HSI;clear hv6 hm6;go_wp2_with fail;refine HSI.out.mono ?_;rintro e w7 ⟨⟨v7,rfl,hv7⟩,hm7⟩;obtain⟨a7,q7,c7,rfl⟩:=hv7.form3;have HX7:=oh (HX6.out.trans hm7);have HV7:=oh hv7;have HV67:=oh (HV6.out.ext hm7);have HV57:=oh (HV56.out.ext hm7);have HM:=oh (zPi (c:=c) (HE3.out.mods HX7.out.ext) HA.out HB.out _ _ HV57.out HV67.out 26);clear hv7 hm7;go_wp2_with fail;refine HM.out.mono ?_;rintro e w8 ⟨⟨v8,rfl,hv8⟩,hm8⟩;have x8:zG w7 w8:=((zA.refl _ w7).alloc _).trans hm8;have HX8:=oh (HX7.out.trans x8);have HV8:=oh hv8;have HM:=oh (zPj (HE3.out.mods HX8.out.ext) HA.out HB.out HC.out _ _ _ (HV57.out.ext x8) (HV67.out.ext x8) (HV7.out.ext x8) 26);have HMB:=oh (λW (x:zG w8 W)=>zPk (HE3.out.mods (HX8.out.trans x).ext) HA.out HB.out HC.out _ _ ((HV57.out.ext x8).ext x) ((HV7.out.ext x8).ext x) 26);clear hv8 hm8 x8;go_wp2_with fail;refine HM.out.mono ?_;rintro e w9 ⟨⟨v9,rfl,hv9⟩,hm9⟩;have x9:zG w8 w9:=((zA.refl _ w8).alloc _).trans hm9;have HX9:=oh x9;have HV9:=oh hv9;clear hv9 hm9 x9;go_wp2_with fail;refine (HMB.out _ HX9.out).mono ?_;rintro e w10 ⟨⟨f,el,rfl,hE10⟩,hm10⟩;have x10:zG w9 w10:=((zA.refl _ w9).alloc _).trans hm10;have HX10:=oh (HX8.out.trans (HX9.out.trans x10));have HER:=oh hE10;have HV8x:=oh (HV8.out.ext (HX9.out.trans x10));have HV9x:=oh (HV9.out.ext x10);have HQ1:=oh (zHR b v8 vb HV8x.out (HSB3.out.ext HX10.out) (by have:=HB.out.len;omega));have HQ2:=oh (λW (x:zG w10 W)=>zHR c v9 vc (HV9x.out.ext x) ((HSC3.out.ext HX10.out).ext x) (by have:=HC.out.len;omega));clear hE10 hm10 x10;unfold zJ;go_wp2_with fail;refine HQ1.out.mono ?_;rintro e w11 ⟨rfl,hm11⟩;have HM11:=oh hm11;clear hm11;go_wp2_with fail;refine (HQ2.out _ HM11.out).mono ?_;rintro e w12 ⟨rfl,hm12⟩;have HM12:=oh (HM11.out.trans hm12);have HTL:=zMf (HE3.out.mods (HX10.out.trans HM12.out).ext) HFU.out f el (HER.out.mods HM12.out.ext);unfold zJ at HTL;have HTL:=oh HTL;clear hm12;go_wp2_with fail;refine HTL.out.mono ?_;rintro e w13 ⟨rfl,rfl⟩;go_wp2_with fail;refine (zHS (HE3.out.mods (HX10.out.trans HM12.out).ext)).mono ?_;rintro e w13 ⟨rfl,hm13⟩;have HF:=oh (HM3.out.trans ((HX10.out.trans HM12.out).trans hm13));clear hm13;go_wp2_with fail;go_ret;exact⟨rfl,HF.out⟩
end
end
end Go.Proofs.YtdnbmdghmmpgcaaGreatDoor
