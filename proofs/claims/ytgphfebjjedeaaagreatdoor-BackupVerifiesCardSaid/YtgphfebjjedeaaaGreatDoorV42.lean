import Derived.Test.YtgphfebjjedeaaaGreatDoorV39
import Derived.Test.YtgphfebjjedeaaaGreatDoorV41
namespace Go.Proofs.YtgphfebjjedeaaaGreatDoor
open Lib renaming hid->oh
set_option maxHeartbeats 4000000
set_option maxRecDepth 100000
section
open Go.RowKit
attribute [local go_sem ↓] Go.wp_at_zero Go.wp_at_succ
section
variable {P P' F F':NP}{ad:Nat->Addr}{w w':World}{S d c sp:Nat}{s:jM}{home keys:Int}{G G':GA}{l l':List Nat}{root:Nat}
def zS2(F P:NP)(ad:Nat->Addr)(w:World)(S d c sp:Nat)(s:jM)(home root keys:Int)(G:GA)(l:List Nat)(o:List zE)(e:Ending)(w':World):Prop :=
 ∃P' F' v,e=.returned (.tuple #[v,.nilIface])/\Sl F' w' 1 zO v (zBh s.gen o)/\StR F' w' P' S d c sp s home root keys G l/\zU P P' F F' ad w w'
theorem zIf(o:List zE)(k:Nat)(hk:k<o.length):(o.take (k+1)).flatMap zAB=(o.take k).flatMap zAB++zAl o[k].1++zAl o[k].2:=by
 rw[tL hk,tB,List.flatMap_singleton,zAB,uM]
theorem zIg(o:List zE)(k:Nat):((o.take k).flatMap zAB).length<=(o.flatMap zAB).length:=by
 have h:o.flatMap zAB=(o.take k).flatMap zAB++(o.drop k).flatMap zAB:=by rw[<- tB,wC]
 rw[h,uC];omega
theorem zSL(hL:yE F ad w)(hP:∀k,P k->F k)(h:StR F w P S d c sp s home (root:Int) keys G l)(hg:s.gen+1<18446744073709551616)(o:List zE)(hn:o.length<=65535)(ht:∀x∈o,x.1.size<=65535/\x.2.size<=65535)(hz:(o.flatMap zAB).length<=800000000)
  (hR:∀W,yE F ad W->vJ F W P c sp G l -> Calls Tryz.prog 77 #[pgV c sp (s.gen+1),.int .i64 (root:Int),.string e0,.string e0,.int .i64 65535] W (zGm F P ad W c sp G l o)) :
  Calls Tryz.prog 14 #[.pointer (some ⟨S,0,none⟩)] w (zS2 F P ad w S d c sp s home (root:Int) keys G l o):=by
 have C9:=oh (zOa hL hP h hg e0 e0 65535 o hR);have HT:=oh ht;have HZ:=oh hz;have Dc:=oh hn;have Et:=oh hg;clear hL hP h hg hR ht hz hn
 go_enter Tryz.func14, Tryz.ntmps14
 go_wp2_with fail;refine C9.out.mono ?_;rintro e w1 ⟨P1,F1,v1,rfl,Dd,h1,n1⟩;have Ar:=oh Dd;have Eu:=oh h1;have A5:=oh n1;obtain⟨a,cc,rfl, -⟩:=Dd;have De:=oh (zTL h1);have Am:=oh (zRa n1.env ⟨1,s.gen,0,o.length⟩ (by show (1:Nat)<256;omega) (by have:=Et.out;show s.gen<18446744073709551616;omega) (by show (0:Nat)<18446744073709551616;omega) (by have:=Dc.out;show o.length<4294967296;omega));obtain⟨gg,Ca⟩:∃gg,gg=s.gen:=⟨_,rfl⟩;unfold zBW at Am;simp only at Am;rw[<- Ca] at De Am;have Ev:=oh Ca;clear h1 n1 Ca;go_wp2_with fail;refine De.out.mono ?_;rintro e w2 ⟨rfl,rfl⟩;go_wp2_with fail;refine Am.out.mono ?_;rintro e w3 ⟨B,rfl,Df,Dg,Dh,m3⟩;have Ew:=oh Df;have Ex:=oh Dg;have Cb:=oh Dh;have Bw:=oh m3;clear Df Dg Dh m3;go_wp2_with fail;go_loopg [26] o.length (λm v26 wr=>∃(k:Nat),k+m=o.length/\v26=.int .i64 (k:Int)/\Hid (BwR (yD F1 B) wr B (jP ⟨1,gg,0,o.length⟩ ++ (o.take k).flatMap zAB)/\yE (yD F1 B) ad wr/\zG w1 wr))
 case atStart=>exact⟨0,by omega,rfl,oh ⟨by simpa using Ew.out,Ex.out,Bw.out⟩⟩
 case round =>
  obtain⟨k,B9,rfl,HR⟩:=hrel;by_cases A2:k<o.length
  .obtain⟨qb,qoff,Ae,hc⟩:=Ar.out.elem A2 HR.out.2.2;have c0:=hc 0 (.string o[k].1) rfl;have c1:=hc 1 (.string o[k].2) rfl;simp only[uO] at c0;subst Ae;have HX:=oh (HT.out _ (wL A2));have B3:=oh (zIf o k A2);obtain⟨x,hx⟩:∃x,x=o[k]:=⟨_,rfl⟩;rw[<- hx] at c0 c1 HX B3;obtain⟨key,v⟩:=x;simp only at c0 c1 HX B3;have i1:(0:Int)<=(k:Int):=by omega
   have i2:(k:Int)<(o.length:Int):=by omega
   have i3:(o.length:Int)<=65535:=by have:=Dc.out;omega
   have m0:zG wr (wr.alloc (.cells #[.string key,.string v] 105)):=(zss wr).alloc _;have Cc:∀k,(jP ⟨1,gg,0,o.length⟩ ++ (o.take k).flatMap zAB).length<=800000025:=λk=>by
    have:=zIg o k;have:=HZ.out;rw[uC,zAR];omega
   have Ey:=oh (zQo (HR.out.2.1.mods m0.ext) (.inr rfl:yD F1 B B) (HR.out.1.ext m0) key HX.out.1 (by have:=Cc k;omega));have Af:=oh Cc;have Cd:=oh (zK.new wr #[.string key,.string v] 105);have Ez:=oh (show B≠wr.heap.size from λe=>by have:=HR.out.2.1.lt B (.inr rfl);omega);have Bx:=oh m0;clear hc hx m0 Cc;go_wp2_with fail;refine Ey.out.mono ?_;rintro e w5 ⟨rfl,Di,m5⟩;have Dj:=Cd.out.mods m5 (λh=>Ez.out h.symm);have b1:=Dj.d 1 (.string v) rfl;have mF:zA (yD F1 B) (wr.alloc (.cells #[.string key,.string v] 105)) w5:=m5.mono (λj (h:j=B)=>.inr h);have Ce:=(HR.out.2.1.mods Bx.out.ext).mods mF;have G0:=oh (zQo Ce (.inr rfl:yD F1 B B) Di v HX.out.2 (by have:=Af.out k;rw[uC,zAr];have:=HX.out.1;omega));have By:=oh ((HR.out.2.2.trans Bx.out).trans' m5 (λi hi (h:i=B)=>by have:=Cb.out;omega));have G1:=oh Ce;clear Di m5 Dj mF Ce;go_wp2_with fail;refine G0.out.mono ?_;rintro e w6 ⟨rfl,Dk,m6⟩;have G2:Hid (BwR (yD F1 B) w6 B (jP ⟨1,gg,0,o.length⟩ ++ (o.take (k+1)).flatMap zAB)/\yE (yD F1 B) ad w6/\zG w1 w6):=oh ⟨by rw[B3.out];simpa using Dk,G1.out.mods (m6.mono (λj (h:j=B)=>.inr h)),By.out.trans' m6 (λi hi (h:i=B)=>by have:=Cb.out;omega)⟩;clear Dk m6;go_wp2_with fail;go_roundg (gk-1)
   case measure=>omega
   case rel=>exact⟨k+1,by omega,by go_num,G2⟩
  .have As:k=o.length:=by omega
   subst As;go_wp2_with fail;refine (zTR HR.out.2.1 (.inr rfl:yD F1 B B) HR.out.1 _ (by have:=zIg o o.length;have:=HZ.out;rw[uC,zAR];omega)).mono ?_;rintro e w5 ⟨v5,rfl,Dl,m5⟩;have By:=oh (HR.out.2.2.trans' m5 (λi hi (h:i=B)=>by have:=Cb.out;omega));have G3:=oh Dl;clear Dl m5;go_wp2_with fail;go_ret2
   refine⟨P1,F1,v5,rfl,?_,Eu.out.at By.out,A5.out.trans (zU.ext A5.out.env A5.out.sub By.out)⟩;have h:=G3.out;rw[wU,Ev.out] at h;exact h.anti (λk _ hk=>.inl hk)
end
end
section
open Go.RowKit
theorem zGL:∀(l:List zE),(∀x∈l,x.1.size<=32/\x.2.size<=300)->(l.flatMap zAB).length<=336 * l.length
 | [],_=>by simp
 | x :: l,h=>by
  have h1:=zGL l (λy hy=>h y (uI _ hy));have h2:=h x uH;rw[uZ,uC,uD,zAB,uC,zAr,zAr];omega
theorem zGi.sz{o:List zE}(h:zGi o):∀x∈o,x.1.size<=32/\x.2.size<=300:=λx hx=>⟨((jX _).1 (h.ok x hx).1).2,h.small x hx⟩
section
variable {P P' F F':NP}{ad:Nat->Addr}{w w':World}{S d c sp:Nat}{G:GA}{l:List Nat}{root dd g:Nat}{pgs:List Nat}{o:List zE}
theorem zMf(hP:∀k,P k->F k)(h:zDK g G l root dd o pgs)(A6:o.length<=1000)(gen:Nat):∀W,yE F ad W->vJ F W P c sp G l -> Calls Tryz.prog 77 #[pgV c sp gen,.int .i64 (root:Int),.string e0,.string e0,.int .i64 65535] W (zGm F P ad W c sp G l o) :=
 λW hL hG=>zNq hL hP hG gen h.td (by rw[h.size];exact uJ _) (by rw[h.blk];omega) A6
theorem zNu(ho:zGi o)(g:Nat):29<=(zBh g o).length/\(zBh g o).length<=10200:=by
 have:=zGL o ho.sz;have:=ho.len;unfold zBh;rw[zBm,uC,zAR];omega
end
end
section
open Go.RowKit
attribute [local go_sem ↓] Go.wp_at_zero Go.wp_at_succ
theorem Tryz.elStr:ElT Tryz.prog 45 9 (.string ⟨#[]⟩) 1 16:=⟨Tryz.underlying45,by kernel_rfl,rfl,by decide,by decide⟩
theorem zFh{l:List UInt8}{p:Nat}{x:ByteArray × Nat}(h:qB l p=some x):p+2<=x.2:=by
 unfold qB at h;split at h
 .cases h;simp only;omega
 .cases h
theorem zGM{l:List UInt8}:∀(n p:Nat) (acc ps:List zE) (q:Nat),qG l n p acc=some (ps,q)->ps.length=acc.length+n/\p+4 * n<=q
 | 0,p,acc,ps,q,h=>by
  rw[qG] at h;cases h
  exact⟨by omega,by omega⟩
 | n+1,p,acc,ps,q,h=>by
  rw[zDR] at h;cases hx:qB l p with
  | none=>rw[hx] at h;cases h
  | some x =>
   rw[hx,rM] at h;cases hy:qB l x.2 with
   | none=>rw[hy] at h;cases h
   | some y =>
    rw[hy,rM] at h;have h1:=zGM n y.2 _ ps q h;have h2:=zFh hx;have h3:=zFh hy;rw[uC,List.length_singleton] at h1;omega
theorem zPu{b:List UInt8}{h:zBV}{l:List zE}(hr:jV b=.inl (h,l)):l.length<=b.length:=by
 unfold jV at hr;cases hp:qY b with
 | inr c=>rw[hp] at hr;cases hr
 | inl h0 =>
  rw[hp] at hr;simp only at hr;by_cases h1:h0.kind≠1
  .rw[if_pos h1] at hr;cases hr
  .rw[if_neg h1] at hr;cases hq:qG (b.take (b.length-4)) h0.records 25 [] with
   | none=>rw[hq] at hr;cases hr
   | some x =>
    obtain⟨ps,q⟩:=x;rw[hq] at hr;simp only at hr;split at hr
    .rename_i hc;injection hr with hr;injection hr with _ hr;subst hr;have:=zGM _ _ _ _ _ hq;simp only[uF] at this;omega
    .cases hr
section
variable {P P' F F':NP}{ad:Nat->Addr}{w w':World}{S d c sp:Nat}{o:List zE}
theorem zRb(hL:yE F ad w)(hP:∀k,P k->F k)(h:zEo F w P S d c sp o)(ho:o.length<=1000) :
  Calls Tryz.prog 19 #[.pointer (some ⟨S,0,none⟩),.string e0,.string e0,.int .i64 65535] w λe w'=>∃P' F' v,e=.returned (.tuple #[v,.nilIface])/\Sl F' w' 2 vI v o/\zEo F' w' P' S d c sp o/\zU P P' F F' ad w w':=by
 obtain⟨root,dd,pgs,G,l,hS,hW,hC⟩:=h;refine (zOa hL hP hS (by show 1+1<_;omega) e0 e0 65535 o (zMf hP hW ho _)).mono ?_;rintro e w' ⟨P',F',v,rfl,hv,h',n'⟩;exact⟨P',F',v,rfl,hv,⟨root,dd,pgs,G,l,h',hW,hC⟩,n'⟩
def zTi(F P:NP)(ad:Nat->Addr)(w:World)(S d c sp:Nat)(o:List zE)(b:List UInt8)(e:Ending)(w':World):Prop :=
  ∃P' F',zEo F' w' P' S d c sp o/\zU P P' F F' ad w w' /\
    ((∃ h l v, jV b = .inl (h, l) /\ e = .returned (.tuple #[v, .nilIface]) /\ Sl F' w' 1 vQ v ((vD l o).map (·.key))) \/
     (∃k f el,jV b=.inr k/\e=.returned (.tuple #[.slice none 0 0,zI f])/\yN F' ad w' (zI f) el k))
theorem zEo.at(h:zEo F w P S d c sp o)(m:zG w w'):zEo F w' P S d c sp o:=by
 obtain⟨root,dd,pgs,G,l,hS,hW,hC⟩:=h;exact⟨root,dd,pgs,G,l,hS.at m,hW,hC⟩
theorem zMg(hL:yE F ad w)(hP:∀k,P k->F k)(h:zEo F w P S d c sp o)(ho:o.length<=1000)(bv:Value)(b:List UInt8)(hb:Sl F w 1 zO bv b)(A6:b.length<=50000) :
  Calls Tryz.prog 20 #[.pointer (some ⟨S,0,none⟩),bv] w (zTi F P ad w S d c sp o b):=by
 have C9:=oh (zRb hL hP h ho);have HB:=oh hb;have HP:=oh hP;have An:=oh (And.intro ho A6);clear hL hP h hb ho A6
 go_enter Tryz.func20, Tryz.ntmps20
 go_wp2_with fail;refine C9.out.mono ?_;rintro e w1 ⟨P1,F1,v1,rfl,Dm,Dn,n1⟩;have G4:=oh Dm;have Ar:=oh Dn;have A5:=oh n1;have Do:=n1.sl HP.out HB.out;have A1:=zNr n1.env bv b Do (by have:=An.out;omega);unfold zIe at A1;clear Dm Dn n1 Do;cases hr:jV b with
 | inr k =>
  rw[hr] at A1;simp only at A1;rw[show zBW ⟨0,0,0,0⟩=.agg #[.int .i64 0,.int .u64 0,.int .u64 0,.int .i64 0] from rfl] at A1;have A1:=oh A1;have HR:=oh hr;clear hr;go_wp2_with fail;refine A1.out.mono ?_;rintro e w2 ⟨⟨f,el,rfl,hE⟩,hm⟩;have HX:=oh (hm.alloc (.cells #[.int .i64 0,.int .u64 0,.int .u64 0,.int .i64 0] 123));have HE:=oh (hE.mods ((zss w2).alloc (.cells #[.int .i64 0,.int .u64 0,.int .u64 0,.int .i64 0] 123)));clear hE hm;unfold zI;go_wp2_with fail;refine (wrap_any (A5.out.env.mods HX.out.ext) _ _ _ _ HE.out).mono ?_;rintro e w3 ⟨f2,rfl,Dp,Ba⟩;have HF:Hid (yN F1 ad w3 (zI f2) _ k/\zG w1 w3):=oh ⟨Dp,HX.out.trans Ba⟩;clear Dp Ba;go_wp2_with fail;go_ret2
  exact⟨P1,F1,Ar.out.at HF.out.2,A5.out.trans (zU.ext A5.out.env A5.out.sub HF.out.2),.inr ⟨k,f2,_,HR.out,rfl,HF.out.1⟩⟩
 | inl x =>
  obtain⟨h,l⟩:=x;rw[hr] at A1;simp only at A1;have G5:=zPu hr;obtain⟨k0,g0,q0,r0⟩:=h;rw[show zBW ⟨k0,g0,q0,r0⟩=.agg #[.int .i64 (k0:Int),.int .u64 (g0:Int),.int .u64 (q0:Int),.int .i64 (r0:Int)] from rfl] at A1;have A1:=oh A1;have HR:=oh hr;have Ao:=oh (uT (zK2 l o) (show l.length+o.length<=60000 by have:=An.out;omega));have Dq:=oh (show l.length<=100000/\o.length<=100000 by have:=An.out;omega);have Dr:=oh (λW lv (m:zG w1 W) (hl:Sl F1 W 2 vI lv l)=>zSj l o lv v1 hl (G4.out.ext m) Dq.out.1 Dq.out.2);obtain⟨dd,B4⟩:∃dd,dd=vD l o:=⟨_,rfl⟩;rw[<- B4] at Dr Ao;have G6:=oh B4;clear hr G5 B4;go_wp2_with fail;refine A1.out.mono ?_;rintro e w2 ⟨⟨v2,rfl,Ds⟩,hm⟩;have HX:=oh (hm.alloc (.cells #[.int .i64 (k0:Int),.int .u64 (g0:Int),.int .u64 (q0:Int),.int .i64 (r0:Int)] 123));have G7:=oh (Ds.ext ((zss w2).alloc (.cells #[.int .i64 (k0:Int),.int .u64 (g0:Int),.int .u64 (q0:Int),.int .i64 (r0:Int)] 123)));have HT:=oh (Dr.out _ v2 HX.out G7.out);clear Ds hm;go_wp2_with fail;refine HT.out.mono ?_;rintro e w3 ⟨kv,rfl,B5,Aa⟩;have B6:=oh (HX.out.trans Aa);have G8:=oh (B5.sl zB2.len (by have:=Ao.out;omega));obtain⟨ka,kc,rfl,Cf,Dt⟩:=B5.form;unfold maxLen at Dt;clear B5 Aa;go_wp2_with fail;go_loopg [10,36] dd.length (λm v10 v36 wr=>∃(k:Nat) (ov:Value),k+m=dd.length/\ov=v10/\v36=.int .i64 (k:Int)/\Hid (yA (λ_=>False) wr w3.heap.size 9 1 vQ ov ((dd.take k).map (·.key))/\zG w3 wr))
  case atStart=>exact⟨0,_,by omega,rfl,rfl,oh ⟨by rw[p7];exact yA.nil _ _ _ _ _ _,zA.refl _ _⟩⟩
  case round =>
   obtain⟨k,ov,B9,rfl,rfl,HQ⟩:=hrel;by_cases A2:k<dd.length
   .obtain⟨qb,qoff,Ae,hc⟩:=G8.out.elem A2 HQ.out.2;have c0:=hc 0 (.string dd[k].key) rfl;have c1:=hc 1 (.bool dd[k].was) rfl;have c2:=hc 2 (.bool dd[k].is) rfl;have c3:=hc 3 (.string dd[k].old) rfl;have c4:=hc 4 (.string dd[k].new) rfl;simp only[uO] at c0;subst Ae;have Du:(dd.take (k+1)).map (·.key)=(dd.take k).map (·.key)++[dd[k].key]:=by rw[tL A2,pS];rfl
    have Bz:=oh Du;have Bb:Hid (((dd.take k).map (·.key)).length=k):=oh (by rw[wP,uQ];omega);obtain⟨x,hx⟩:∃x,x=dd[k]:=⟨_,rfl⟩;rw[<- hx] at c0 c1 c2 c3 c4 Bz;obtain⟨xk,xw,xi,xo,xn⟩:=x;simp only at c0 c1 c2 c3 c4 Bz;obtain⟨oa,oc,rfl, -, -⟩:=HQ.out.1.form;have i1:(0:Int)<=(k:Int):=by omega
    have i2:(k:Int)<(dd.length:Int):=by omega
    have i3:(dd.length:Int)<=60000:=by have:=Ao.out;omega
    clear hc hx Du;obtain⟨q,hq⟩:∃q,q=((dd.take k).map (·.key)).length:=⟨_,rfl⟩;obtain⟨ks,Dv⟩:∃ks,ks=(dd.take k).map (·.key):=⟨_,rfl⟩;rw[<- Dv] at HQ Bz Bb hq ⊢;have Dw:q=k:=by rw[hq];exact Bb.out
    have G9:=oh Dw;have Ga:=oh hq;rw[<- hq] at HQ ⊢;clear hq Dv Dw;go_wp2_with (at_builtin;refine yC Tryz.elStr zB0 rfl _ _ rfl w3.heap.size (.slice oa q oc) _ ks [xk] rfl rfl (HQ.out.1.ext ((zr.alloc _).alloc _)) (Sl.one (F:=λ_=>False) (zM (by simp)) (λf=>f)) (by have:=Ga.out;have:=G9.out;simp only[uD,uF];omega) (by have:=HQ.out.2.size;simp;omega) (λf=>f) ?_;simp only[uD,uF,uV];intro a6 c6 w6 Ag A3 At);have HN:Hid (yA (λ_=>False) w6 w3.heap.size 9 1 vQ (.slice a6 (ks.length+1) c6) ((dd.take (k+1)).map (·.key))/\zG w3 w6):=oh ⟨by rw[Bz.out];exact Ag,((HQ.out.2.alloc _).alloc _).trans' A3 (λi hi h=>by have:=(HQ.out.1.lt i h).1;omega)⟩;clear Ag A3 At;go_wp2_with fail;go_roundg (gk-1)
    case measure=>omega
    case rel=>exact⟨k+1,_,by omega,rfl,by go_num,HN⟩
   .have As:k=dd.length:=by omega
    have Cg:=oh As;have i2:¬ (k:Int)<(dd.length:Int):=by omega
    have Dx:=HQ;clear As B9 A2;go_wp2_with fail;go_ret2
    have Ah:=B6.out.trans Dx.out.2;have hO:=Dx.out.1;rw[Cg.out,wU] at hO;have Gb:=(hO.rebase (uJ _)).slF (F:=F1) (λk hk=>uG (A5.out.env.lt k hk) B6.out.size) (λ_=>rfl) (by rw[wP];have:=Ao.out;omega);exact⟨P1,F1,Ar.out.at Ah,A5.out.trans (zU.ext A5.out.env A5.out.sub Ah),.inl ⟨_,l,_,HR.out,rfl,by rw[<- G6.out];exact Gb⟩⟩
end
section
variable {F:NP}{w w':World}
theorem zHF(gen:Nat)(hg:gen<18446744073709551616)(o:List zE)(lv:Value)(hl:Sl F w 2 vI lv o)(Dy:∀x∈o,x.1.size<=4096/\x.2.size<=4096)(Gz:o.length<=200)(Dz:(o.flatMap zAB).length<=2000000) :
  Calls Tryz.prog 16 #[lv,.int .u64 (gen:Int)] w (Byt w (zBh gen o)):=by
 have Am:=oh (λW=>zLq (w:=W) ⟨1,gen,0,o.length⟩ (by show (1:Nat)<256;omega) hg (by show (0:Nat)<_;omega) (by show o.length<4294967296;omega));simp only at Am;rw[show ((1:Nat):Int)=1 from rfl,show ((0:Nat):Int)=0 from rfl] at Am;have Gc:=oh Dy;have Gd:=oh Dz;have Ge:=oh hl;obtain⟨oa,oc,rfl, -⟩:=id hl;clear hg hl Dy Dz
 go_enter Tryz.func16, Tryz.ntmps16
 go_wp2_with fail;refine (Am.out _).mono ?_;rintro e w2 ⟨v2,rfl,E0,Ba⟩;have Gf:=oh E0;have Au:=oh Ba;clear E0 Ba;go_wp2_with fail;go_loopg [5,6] o.length (λm v5 v6 wr=>∃(k:Nat) (bv:Value),k+m=o.length/\bv=v5/\v6=.int .i64 (k:Int)/\Hid (yA (λ_=>False) wr w.heap.size 5 1 zO bv (jP ⟨1,gen,0,o.length⟩ ++ (o.take k).flatMap zAB)/\zG w wr))
 case atStart=>exact⟨0,v2,by omega,rfl,rfl,oh ⟨by simpa using Gf.out,Au.out⟩⟩
 case round =>
  obtain⟨k,bv,B9,rfl,rfl,HR⟩:=hrel;have Ch:Hid (∀k,(jP ⟨1,gen,0,o.length⟩ ++ (o.take k).flatMap zAB).length<=2000025):=oh (λk=>by
   have h1:=zIg o k;have:=Gd.out;rw[uC,zAR];omega)
  by_cases A2:k<o.length
  .obtain⟨qb,qoff,Ae,hc⟩:=Ge.out.elem A2 (zss w);have g0:=hc 0 (.string o[k].1) rfl;have g1:=hc 1 (.string o[k].2) rfl;simp only[uO] at g0;subst Ae;have HX:=oh (Gc.out _ (wL A2));obtain⟨x,hx⟩:∃x,x=o[k]:=⟨_,rfl⟩;obtain⟨bl,Bc⟩:∃bl,bl=jP ⟨1,gen,0,o.length⟩ ++ (o.take k).flatMap zAB:=⟨_,rfl⟩;have Af:Hid (bl.length<=2000025):=oh (by rw[Bc];exact Ch.out k);have B3:Hid (jP ⟨1,gen,0,o.length⟩ ++ (o.take (k+1)).flatMap zAB=bl++zAl x.1++zAl x.2):=oh (by rw[zIf o k A2,Bc,hx];simp only[uM]);have HR:Hid (yA (λ_=>False) wr w.heap.size 5 1 zO bv bl/\zG w wr):=oh (by rw[Bc];exact HR.out);rw[<- hx] at g0 g1 HX;clear Bc;obtain⟨xk,xv⟩:=x;simp only at g0 g1 HX B3;have HC:Hid (∀W,zG w W->W.cell? ⟨qb,qoff+k * 2,none⟩=some (.string xk)/\W.cell? ⟨qb,qoff+k * 2+1,none⟩=some (.string xv)):=oh λW m=>⟨zD m g0,zD m g1⟩
   have i1:(0:Int)<=(k:Int):=by omega
   have i2:(k:Int)<(o.length:Int):=by omega
   have i3:(o.length:Int)<=200:=by omega
   have zd:=HC.out _ (HR.out.2.trans (zss wr).drew);clear hc hx g0 g1;go_wp2_with fail;go_region_held3 (λw'=>w'.cell? ⟨qb,qoff+k * 2,none⟩=some (.string xk)/\w'.cell? ⟨qb,qoff+k * 2+1,none⟩=some (.string xv))
    (first|(with_reducible exact zd)|(with_reducible exact z2)|(with_reducible exact z3)|fail)
    (first
     | (go_at_call 69;(with_reducible refine (zID _ _ (Byt.sl (HR.out.1.ext (zss wr).drew) (by have:=Af.out;omega)) xk (by have:=HX.out.1;omega) (by have:=Af.out;omega)).mono ?_);rintro e y2 ⟨v2,rfl,o2,m2⟩;have x2:=(HR.out.2.trans (zss wr).drew).trans m2;have z2:=HC.out _ x2)
     | (go_at_call 69;(with_reducible refine (zID _ _ (Byt.sl o2 (by have:=Af.out;have:=HX.out;simp[zAr];omega)) xv (by have:=HX.out.2;omega) (by have:=Af.out;have:=HX.out;simp[zAr];omega)).mono ?_);rintro e y3 ⟨v3,rfl,o3,m3⟩;have x3:=x2.trans m3;have z3:=HC.out _ x3)
     | fail)
   have HF:Hid (yA (λ_=>False) y3 w.heap.size 5 1 zO v3 (jP ⟨1,gen,0,o.length⟩ ++ (o.take (k+1)).flatMap zAB)/\zG w y3):=oh ⟨by rw[B3.out];exact o3.rebase x2.size,x3⟩;clear o2 m2 x2 o3 m3 x3 z2 z3 zd;go_wp2_with fail;go_roundg (gk-1)
   case measure=>omega
   case rel=>exact⟨k+1,v3,by omega,rfl,by go_num,HF⟩
  .have As:k=o.length:=by omega
   have Cg:=oh As;have i2:¬ (k:Int)<(o.length:Int):=by omega
   clear As;go_wp2_with fail;refine (zPQ bv _ (Byt.sl HR.out.1 (by have:=Ch.out k;omega)) (by have:=Ch.out k;omega)).mono ?_;rintro e w5 ⟨v5,rfl,E1,E2⟩;have HF:Hid (yA (λ_=>False) w5 w.heap.size 5 1 zO v5 (zBh gen o)/\zG w w5):=oh ⟨by have h:=E1.rebase HR.out.2.size;rw[Cg.out,wU] at h;exact h,HR.out.2.trans E2⟩;clear E1 E2;go_wp2_with fail;go_ret;exact⟨v5,rfl,HF.out.1,HF.out.2⟩
end
def zI5:List zE:=[(⟨#[97]⟩,⟨#[120]⟩)]
theorem zPv:jV (zBh 1 zI5)=.inl (⟨1,1,0,1⟩,zI5):=zH4 (by omega) (by decide) (by decide +kernel) (by intro x hx;simp only[zI5,uP,rV,or_false] at hx;subst hx;decide)
theorem zRc:(zBh 1 zI5).length=35:=by
 unfold zBh;rw[zBm,uC,zAR];rfl
theorem zHG{ad:Nat->Addr}{w:World}(hL:yE NoB ad w) : Calls Tryz.prog 24 #[] w λe w'=>e=.returned (.bool true)/\zG w w':=by
 have HL:=oh hL;clear hL
 go_enter Tryz.func24, Tryz.ntmps24
 go_wp2_with fail;have m0:zG w (w.alloc (.cells #[.string ⟨#[97]⟩,.string ⟨#[120]⟩] 105)):=(zss w).alloc _;have Bd:Sl NoB (w.alloc (.cells #[.string ⟨#[97]⟩,.string ⟨#[120]⟩] 105)) 2 vI (.slice (some ⟨w.heap.size,0,none⟩) 1 1) [((⟨#[97]⟩,⟨#[120]⟩):zE)]:=Sl.one (F:=NoB) (x:=((⟨#[97]⟩,⟨#[120]⟩):zE)) (zK.new w _ _) (λf=>f);refine (zNo (HL.out.mods m0.ext) ⟨#[97]⟩ ⟨#[120]⟩ (by decide) (by decide) _ Bd).mono ?_;rintro e w1 ⟨S,d,c,sp,P1,F1,rfl,h1,n1⟩;have C0:=n1.shrink (P2:=P1) (λk h=>.inl h);have HW:=oh (zSL n1.env C0.sub h1 (by show 1+1<_;omega) zI5 (by decide) (by intro x hx;simp only[zI5,uP,rV,or_false] at hx;subst hx;decide) (by decide) (zPs C0.sub zId (by decide) (by decide) _ _));have A5:=oh C0;have Bx:=oh m0;clear h1 n1 C0 Bd m0;go_wp2_with fail;refine HW.out.mono ?_;rintro e w2 ⟨P2,F2,v,rfl,hv, -,n2⟩;have A7:=oh (A5.out.trans n2);have Au:=oh (Bx.out.trans A7.out.stp.mods);have A1:=oh (zNr A7.out.env v _ hv (by show (zBh 1 zI5).length<=_;rw[zRc];omega));have E3:jV (zBh (zAH zDg).gen zI5)=.inl (⟨1,1,0,1⟩,zI5):=zPv;unfold zIe at A1;rw[E3] at A1;simp only at A1;clear n2 E3;obtain⟨a,cp,rfl, -⟩:=hv;go_wp2_with fail;refine A1.out.mono ?_;rintro e w3 ⟨⟨v3,rfl,Ci⟩,Aa⟩;obtain⟨a3,c3,rfl, -⟩:=id Ci;obtain⟨qb,qoff,Ae,Gg,E4⟩:=Ci.elemF (k:=0) (by decide);have d1:=E4 1 (.string ⟨#[120]⟩) rfl;simp only[pA,uO] at d1;subst Ae;have B6:=oh (Au.out.trans Aa);rw[show zBW ⟨1,1,0,1⟩=.agg #[.int .i64 1,.int .u64 1,.int .u64 0,.int .i64 1] from rfl,show zI5.length=1 from rfl];clear Aa Ci E4 Gg;have d2:=zP d1 (.cells #[.int .i64 1,.int .u64 1,.int .u64 0,.int .i64 1] 123);have Be:=oh (B6.out.alloc (.cells #[.int .i64 1,.int .u64 1,.int .u64 0,.int .i64 1] 123));clear d1;go_wp2_with fail;go_ret;exact⟨rfl,Be.out⟩
def zC3(l:List UInt8):Nat->Int->List zE->List zE × Int
 | 0,p,acc=>(acc,p)
 | n+1,p,acc=>if p<0 then (acc,p) else zC3 l n (jJ l (jJ l p).2).2 (acc++[((jJ l p).1,(jJ l (jJ l p).2).1)])
theorem zGn(l:List UInt8):∀(n:Nat) (p:Int) (acc:List zE),p<0->zC3 l n p acc=(acc,p)
 | 0,_,_,_=>rfl
 | n+1,p,acc,h=>by rw[zC3,if_pos h]
theorem zPw(l:List UInt8):jJ l (-1)=(e0, -1):=by unfold jJ;rw[if_pos (by omega)]
theorem zIh(l:List UInt8):∀(n p:Nat) (acc:List zE),match qG l n p acc with
  | some (ps,q)=>zC3 l n (p:Int) acc=(ps,(q:Int))
  | none=>(zC3 l n (p:Int) acc).2 = -1
 | 0,p,acc=>by rw[qG];rfl
 | n+1,p,acc=>by
  rw[zDR];have e:zC3 l (n+1) (p:Int) acc=zC3 l n (jJ l (jJ l p).2).2 (acc++[((jJ l p).1,(jJ l (jJ l p).2).1)]):=by rw[zC3,if_neg (by omega)]
  rw[e];cases hx:qB l p with
  | none =>
   have h1:jJ l (p:Int)=(e0, -1):=by unfold jJ;rw[if_neg (by omega),uK,hx]
   rw[h1,zPw,zGn _ _ _ _ (by omega)];rfl
  | some x =>
   obtain⟨s,q⟩:=x;have h1:jJ l (p:Int)=(s,(q:Int)):=by unfold jJ;rw[if_neg (by omega),uK,hx]
   rw[h1];simp only[rM];cases hy:qB l q with
   | none =>
    have h2:jJ l (q:Int)=(e0, -1):=by unfold jJ;rw[if_neg (by omega),uK,hy]
    rw[h2,zGn _ _ _ _ (by omega)];rfl
   | some y =>
    obtain⟨t,r⟩:=y;have h2:jJ l (q:Int)=(t,(r:Int)):=by unfold jJ;rw[if_neg (by omega),uK,hy]
    rw[h2];simp only[rM];exact zIh l n r (acc++[(s,t)])
theorem zJ7(l:List UInt8)(p:Int)(hl:l.length<=100000) : -1<=(jJ l p).2/\(jJ l p).2<=100000:=by
 unfold jJ;by_cases h0:p<0
 .rw[if_pos h0];exact⟨by show (-1:Int) <= -1;omega,by show (-1:Int)<=100000;omega⟩
 .rw[if_neg h0];cases hx:qB l p.toNat with
  | none=>exact⟨by show (-1:Int) <= -1;omega,by show (-1:Int)<=100000;omega⟩
  | some x =>
   have:=zGJ hx;exact⟨by show (-1:Int)<=((x.2:Nat):Int);omega,by show ((x.2:Nat):Int)<=100000;omega⟩
theorem zIi(l:List UInt8)(p:Int)(h:0<=(jJ l p).2):p+2<=(jJ l p).2/\0<=p:=by
 unfold jJ at h ⊢;by_cases h0:p<0
 .rw[if_pos h0] at h;exact absurd h (by show ¬ (0:Int) <= -1;omega)
 .rw[if_neg h0] at h ⊢;cases hx:qB l p.toNat with
  | none=>rw[hx] at h;exact absurd h (by show ¬ (0:Int) <= -1;omega)
  | some x =>
   have:=zFh hx;refine⟨?_,by omega⟩;show p+2<=((x.2:Nat):Int);omega
def zA8(b:List UInt8):Nat:=match jV b with
 | .inl _=>0
 | .inr c=>c
def zOc(w:World)(l:List UInt8)(e:Ending)(w':World):Prop:=∃(h:zBV) (lv:Value),e=.returned (.tuple #[zBW h,lv,.int .i64 (zA8 l:Int)])/\zG w w'
section
variable {F:NP}{w w':World}
theorem zNv(bv:Value)(l:List UInt8)(hb:Sl F w 1 zO bv l)(A6:l.length<=50000) :
  Calls Tryz.prog 26 #[bv] w (zOc w l):=by
 have m0:zG w (w.alloc (.cells #[.int .i64 0,.int .u64 0,.int .u64 0,.int .i64 0] 58)):=(zss w).alloc _;have Cd:=oh (zK.new w #[.int .i64 0,.int .u64 0,.int .u64 0,.int .i64 0] 58);have E5:=oh (hb.ext m0);have M0:=oh m0;have An:=oh A6;have A8:Hid (∀W,zG (w.alloc (.cells #[.int .i64 0,.int .u64 0,.int .u64 0,.int .i64 0] 58)) W->zK W w.heap.size #[.int .i64 0,.int .u64 0,.int .u64 0,.int .i64 0] 58 /\ (∀a b c d,zG w ((((W.setCell ⟨w.heap.size,0,none⟩ a).setCell ⟨w.heap.size,1,none⟩ b).setCell ⟨w.heap.size,2,none⟩ c).setCell ⟨w.heap.size,3,none⟩ d))) :=
  oh λW m=>⟨Cd.out.ext m,λa b c d=>zA.set4 (M0.out.trans m) (.inl (uJ w.heap.size)) a b c d⟩
 have A4:=zNt bv l E5.out (by omega);unfold zGK at A4;obtain⟨a,cp,rfl,Cj,Gh,H0, -⟩:=id hb;unfold maxLen at Gh;clear hb m0;cases hp:qY l with
 | inr c =>
  rw[hp] at A4;simp only at A4;rw[show zBW ⟨0,0,0,0⟩=.agg #[.int .i64 0,.int .u64 0,.int .u64 0,.int .i64 0] from rfl] at A4;have A4:=oh A4;have HC:Hid (zA8 l=c):=oh (by unfold zA8 jV;rw[hp]);have H1:¬ (c:Int)=0:=by
   have:c=1\/c=5:=by
    unfold qY at hp;split at hp
    .cases hp;exact .inl rfl
    .split at hp
     .cases hp;exact .inl rfl
     .split at hp
      .cases hp;exact .inr rfl
      .cases hp
   omega
  clear hp
  go_enter Tryz.func26, Tryz.ntmps26
  go_wp2_with fail;refine A4.out.mono ?_;rintro e w1 ⟨rfl,hm⟩;have HX:=oh (hm.alloc (.cells #[.int .i64 0,.int .u64 0,.int .u64 0,.int .i64 0] 58));have A0:=A8.out _ HX.out;have rf:=A0.1.frozen;have r0:=A0.1.d 0 (.int .i64 0) rfl;have r1:=A0.1.d 1 (.int .u64 0) rfl;have r2:=A0.1.d 2 (.int .u64 0) rfl;have r3:=A0.1.d 3 (.int .i64 0) rfl;have Ab:=oh (zK.set4 A0.1 (.int .i64 0) (.int .u64 0) (.int .u64 0) (.int .i64 0));have Ac:=oh A0.2;clear A0 hm;go_wp2_with fail;refine bodyPost_ret (yQ rfl _ _ w.heap.size 58 (zA7 ⟨0,0,0,0⟩) _ rfl Ab.out Tryz.underlying58 rfl Tryz.head20Size) rfl ?_;exact⟨⟨0,0,0,0⟩,_,by rw[HC.out];rfl,Ac.out _ _ _ _⟩
 | inl h =>
  obtain⟨k,g,b,r⟩:=h;rw[hp] at A4;simp only at A4;rw[show zBW ⟨k,g,b,r⟩=.agg #[.int .i64 (k:Int),.int .u64 (g:Int),.int .u64 (b:Int),.int .i64 (r:Int)] from rfl] at A4;have A4:=oh A4;have Ck:29<=l.length:=by
   apply nM
   intro h;unfold qY at hp;rw[if_pos (.inl (by omega))] at hp;cases hp
  have Av:=zMc hp;by_cases Cf:k=1
  .subst Cf;obtain⟨rl,Bf⟩:∃rl,rl=l.take (l.length-4):=⟨_,rfl⟩;have Bg:rl.length=l.length-4:=by rw[Bf];simp
   have Ap:∀acc (p:Int),zC3 rl r 25 []=(acc,p)->zA8 l=if p=(rl.length:Int)/\vZ e0 acc=true then 0 else 1:=λacc p hz=>by
    have Ai:=zIh rl r 25 [];unfold zA8 jV;rw[hp];simp only;rw[if_neg (by simp),<- Bf,<- Bg];cases hq:qG rl r 25 [] with
    | none =>
     rw[hq] at Ai;have:p = -1:=by have h:=Ai;rw[show ((25:Nat):Int)=25 from rfl,hz] at h;exact h
     rw[if_neg (λh=>by omega)]
    | some x =>
     obtain⟨ps,q⟩:=x;rw[hq] at Ai;have h:=Ai;simp only at h;rw[show ((25:Nat):Int)=25 from rfl,hz] at h;injection h with h1 h2;subst h1 h2;simp only;by_cases hc:q=rl.length/\vZ e0 acc=true
     .rw[if_pos hc,if_pos ⟨by omega,hc.2⟩]
     .rw[if_neg hc,if_neg (λh=>hc ⟨by omega,h.2⟩)]
   have Bh:=oh Ap;have H2:=oh Bf;have B7:=oh (And.intro Bg Ck);have H3:r<4294967296:=Av.2.2.2;have i1:((l.length:Int)-4).toNat=l.length-4:=by omega
   have i2:(4:Int)<=(l.length:Int):=by omega
   have i3:(l.length:Int)<=(cp:Int):=by omega
   have E6:Hid (∀W,zG (w.alloc (.cells #[.int .i64 0,.int .u64 0,.int .u64 0,.int .i64 0] 58)) W->Sl F W 1 zO (.slice a rl.length cp) rl):=oh λW m=>by
    have:=Sl.pre (E5.out.ext m) (l.length-4) (by omega);rw[<- Bf,<- Bg] at this;exact this
   have Gi:(l.length:Int)-4=(rl.length:Int):=by omega
   have Gj:l.length-4=rl.length:=Bg.symm;clear hp Av Ck Bf Bg Ap;rw[show ((1:Nat):Int)=1 from rfl] at A4
   go_enter Tryz.func26, Tryz.ntmps26
   go_wp2_with fail;refine A4.out.mono ?_;rintro e w1 ⟨rfl,hm⟩;have E7:=oh (hm.alloc (.cells #[.int .i64 1,.int .u64 (g:Int),.int .u64 (b:Int),.int .i64 (r:Int)] 58));have Cl:=oh (zK.new w1 #[.int .i64 1,.int .u64 (g:Int),.int .u64 (b:Int),.int .i64 (r:Int)] 58);obtain⟨W1,B8⟩:∃W1,W1=w1.alloc (.cells #[.int .i64 1,.int .u64 (g:Int),.int .u64 (b:Int),.int .i64 (r:Int)] 58):=⟨_,rfl⟩;rw[<- B8] at E7 Cl;have c0:=Cl.out.d 0 (.int .i64 1) rfl;have Gk:Hid (yA (λ_=>False) (W1.alloc (.cells #[] 105)) W1.heap.size 105 2 vI (.slice (some ⟨w1.heap.size+1,0,none⟩) 0 0) ([]:List zE)):=oh (by
    rw[show w1.heap.size+1=W1.heap.size by rw[B8];simp];exact yA.lit (base:=W1.heap.size) 2 vI qX.len (zK.new W1 #[] 105) (uJ _))
   have Gl:=oh B8;have H4:Hid (w1.heap.size<W1.heap.size):=oh (by rw[B8];simp);rw[B8] at c0;clear hm B8;go_wp2_with fail;rw[<- Gl.out];go_loopg [7,8,10] r (λm v7 v8 v10 wr=>∃(i:Nat) (acc:List zE) (p:Int) (av:Value),i+m=r/\av=v7/\v8=.int .i64 p/\v10=.int .i64 (i:Int)/\Hid (-1<=p/\p<=100000/\acc.length<=26000/\(0<=p->25+4 * (acc.length:Int)<=p)/\zC3 rl r 25 []=zC3 rl (r-i) p acc)/\Hid (yA (λ_=>False) wr W1.heap.size 105 2 vI av acc/\zG W1 wr))
   case atStart=>exact⟨0,[],25,_,by omega,rfl,rfl,rfl,oh ⟨by omega,by omega,by simp,λ_=>by simp,by rw[Nat.sub_zero]⟩,oh ⟨Gk.out,zr.alloc _⟩⟩
   case round =>
    obtain⟨i,acc,p,av,Gm,rfl,rfl,rfl,HQ,HS⟩:=hrel;have Cm:=Cl.out.ext HS.out.2;have c3:=Cm.d 3 (.int .i64 (r:Int)) rfl;have HBr:=oh Cm;have HXr:=oh (E7.out.trans HS.out.2);have j4:(r:Int)<4294967296:=by omega
    obtain⟨aa,ac,rfl, -, -⟩:=HS.out.1.form;clear Cm;by_cases C1:i<r/\0<=p
    .obtain⟨A2,Cn⟩:=C1;have j1:(i:Int)<(r:Int):=by omega
     have Co:=oh (zIF _ rl (E6.out _ HXr.out) p ⟨HQ.out.1,by have:=HQ.out.2.1;omega⟩ (by have:=B7.out;have:=An.out;omega));have C2:=zJ7 rl p (by have:=B7.out;have:=An.out;omega);have Aw:=HQ.out.2.2.2.2;rw[show r-i=(r-(i+1))+1 by omega,zC3,if_neg (by omega)] at Aw;have C3:=zIi rl p;obtain⟨z1,Cj⟩:∃z,z=jJ rl p:=⟨_,rfl⟩;rw[<- Cj] at Co C2 Aw C3;obtain⟨s1,q1⟩:=z1;simp only at Co C2 Aw C3;have Bi:=zJ7 rl q1 (by have:=B7.out;have:=An.out;omega);have C4:=zIi rl q1;have Bj:=oh (zIF _ rl (E6.out _ HXr.out) q1 ⟨C2.1,by omega⟩ (by have:=B7.out;have:=An.out;omega));obtain⟨z2,hz2'⟩:∃z,z=jJ rl q1:=⟨_,rfl⟩;rw[<- hz2'] at Bj Bi Aw C4;obtain⟨s2,q2⟩:=z2;simp only at Bj Bi Aw C4;have Gn:Hid (-1<=q2/\q2<=100000/\(acc++[(s1,s2)]).length<=26000/\(0<=q2->25+4 * ((acc++[(s1,s2)]).length:Int)<=q2)/\zC3 rl r 25 []=zC3 rl (r-(i+1)) q2 (acc++[(s1,s2)])):=oh (by
      obtain⟨a1,a2,a3,a4,a5⟩:=HQ.out;have a4:=a4 Cn;refine⟨Bi.1,Bi.2,by simp;omega,λh=>?_,Aw⟩;have b2:=C4 h;have b1:=C3 b2.2;simp only[uC,uD,uF];omega)
     have Gp:Hid (acc.length<=26000):=oh HQ.out.2.2.1;clear C2 Aw C3 Cj Bi C4 hz2';go_wp2_with fail;refine Co.out.mono ?_;rintro e w5 ⟨rfl,rfl⟩;go_wp2_with fail;refine Bj.out.mono ?_;rintro e w5 ⟨rfl,rfl⟩;go_wp2_with (at_builtin;refine yC Tryz.elP qX rfl _ _ rfl W1.heap.size (.slice aa acc.length ac) _ acc [(s1,s2)] rfl rfl (HS.out.1.ext (zr.alloc _)) (Sl.one (F:=λ_=>False) (zM (by simp)) (λf=>f)) (by have:=Gp.out;simp only[uD,uF];omega) (by have:=HS.out.2.size;simp;omega) (λf=>f) ?_;simp only[uD,uF,uV];intro a6 c6 w6 Ag A3 At);have HN:Hid (yA (λ_=>False) w6 W1.heap.size 105 2 vI (.slice a6 (acc.length+1) c6) (acc++[(s1,s2)])/\zG W1 w6):=oh ⟨Ag,(HS.out.2.alloc _).trans' A3 (λi hi h=>by have:=(HS.out.1.lt i h).1;omega)⟩;clear Ag A3 At;go_wp2_with fail;go_roundg (gk-1)
     case measure=>omega
     case rel=>exact⟨i+1,_,q2,_,by omega,rfl,rfl,by go_num,Gn,HN⟩
    .have E8:zC3 rl r 25 []=(acc,p):=by
      rw[HQ.out.2.2.2.2];by_cases Cn:p<0
      .exact zGn _ _ _ _ Cn
      .rw[show r-i=0 by omega];rfl
     have HC:=oh (Bh.out acc p E8);have Gq:=oh (HS.out.1.sl qX.len (by have:=HQ.out.2.2.1;omega));have C5:=oh (zLr _ acc wr Gq.out);rw[show zDj acc=vZ e0 acc from zLs acc e0] at C5;have H5:Hid (-1<=p):=oh HQ.out.1;have Cp:((i:Int)<(r:Int)/\¬ (0:Int)<=p/\¬ p=(rl.length:Int))\/(¬ (i:Int)<(r:Int)/\¬ p=(rl.length:Int))\/(¬ (i:Int)<(r:Int)/\p=(rl.length:Int)):=by omega
     clear E8;rcases Cp with ⟨j1,j2,j3⟩|⟨j1,j3⟩|⟨j1,j3⟩
     focus
      have HK:Hid (zA8 l=1):=oh (by rw[HC.out,if_neg (λh=>j3 h.1)]);have A0:=A8.out _ HXr.out;have rf:=A0.1.frozen;have r0:=A0.1.d 0 (.int .i64 0) rfl;have r1:=A0.1.d 1 (.int .u64 0) rfl;have r2:=A0.1.d 2 (.int .u64 0) rfl;have r3:=A0.1.d 3 (.int .i64 0) rfl;have Ab:=oh (zK.set4 A0.1 (.int .i64 0) (.int .u64 0) (.int .u64 0) (.int .i64 0));have Ac:=oh A0.2;clear A0;clear C1;go_wp2_with fail;refine bodyPost_ret (yQ rfl _ _ w.heap.size 58 (zA7 ⟨0,0,0,0⟩) _ rfl Ab.out Tryz.underlying58 rfl Tryz.head20Size) rfl ?_;exact⟨⟨0,0,0,0⟩,_,by rw[HK.out];rfl,Ac.out _ _ _ _⟩
     focus
      have HK:Hid (zA8 l=1):=oh (by rw[HC.out,if_neg (λh=>j3 h.1)]);have A0:=A8.out _ HXr.out;have rf:=A0.1.frozen;have r0:=A0.1.d 0 (.int .i64 0) rfl;have r1:=A0.1.d 1 (.int .u64 0) rfl;have r2:=A0.1.d 2 (.int .u64 0) rfl;have r3:=A0.1.d 3 (.int .i64 0) rfl;have Ab:=oh (zK.set4 A0.1 (.int .i64 0) (.int .u64 0) (.int .u64 0) (.int .i64 0));have Ac:=oh A0.2;clear A0;clear C1;go_wp2_with fail;refine bodyPost_ret (yQ rfl _ _ w.heap.size 58 (zA7 ⟨0,0,0,0⟩) _ rfl Ab.out Tryz.underlying58 rfl Tryz.head20Size) rfl ?_;exact⟨⟨0,0,0,0⟩,_,by rw[HK.out];rfl,Ac.out _ _ _ _⟩
     obtain⟨rt,E9⟩:∃rt,rt=vZ e0 acc:=⟨_,rfl⟩;rw[<- E9] at C5 HC;have HJ:=oh j3;have j3':(p != (rl.length:Int))=false:=by simp[j3]
     clear C1 E9 Gm;cases rt with
     | false =>
      have HK:Hid (zA8 l=1):=oh (by rw[HC.out,if_neg (λh=>by cases h.2)]);clear j3;go_wp2_with fail;refine C5.out.mono ?_;rintro e w6 ⟨rfl,A3⟩;have A0:=A8.out _ (HXr.out.trans A3);have rf:=A0.1.frozen;have r0:=A0.1.d 0 (.int .i64 0) rfl;have r1:=A0.1.d 1 (.int .u64 0) rfl;have r2:=A0.1.d 2 (.int .u64 0) rfl;have r3:=A0.1.d 3 (.int .i64 0) rfl;have Ab:=oh (zK.set4 A0.1 (.int .i64 0) (.int .u64 0) (.int .u64 0) (.int .i64 0));have Ac:=oh A0.2;clear A0;clear A3;go_wp2_with fail;refine bodyPost_ret (yQ rfl _ _ w.heap.size 58 (zA7 ⟨0,0,0,0⟩) _ rfl Ab.out Tryz.underlying58 rfl Tryz.head20Size) rfl ?_;exact⟨⟨0,0,0,0⟩,_,by rw[HK.out];rfl,Ac.out _ _ _ _⟩
     | true =>
      have HK:Hid (zA8 l=0):=oh (by rw[HC.out,if_pos ⟨HJ.out,rfl⟩]);clear j3;go_wp2_with fail;refine C5.out.mono ?_;rintro e w6 ⟨rfl,A3⟩;have Bk:=HBr.out.ext A3;have c0:=Bk.d 0 (.int .i64 1) rfl;have c1:=Bk.d 1 (.int .u64 (g:Int)) rfl;have c2:=Bk.d 2 (.int .u64 (b:Int)) rfl;have c3:=Bk.d 3 (.int .i64 (r:Int)) rfl;have A0:=A8.out _ (HXr.out.trans A3);have rf:=A0.1.frozen;have r0:=A0.1.d 0 (.int .i64 0) rfl;have r1:=A0.1.d 1 (.int .u64 0) rfl;have r2:=A0.1.d 2 (.int .u64 0) rfl;have r3:=A0.1.d 3 (.int .i64 0) rfl;have Ab:=oh (zK.set4 A0.1 (.int .i64 1) (.int .u64 (g:Int)) (.int .u64 (b:Int)) (.int .i64 (r:Int)));have Ac:=oh A0.2;clear A0;clear A3 Bk;go_wp2_with fail;refine bodyPost_ret (yQ rfl _ _ w.heap.size 58 (zA7 ⟨1,g,b,r⟩) _ rfl Ab.out Tryz.underlying58 rfl Tryz.head20Size) rfl ?_;exact⟨⟨1,g,b,r⟩,_,by rw[HK.out];rfl,Ac.out _ _ _ _⟩
  .have HC:Hid (zA8 l=1):=oh (by unfold zA8 jV;rw[hp];simp only;rw[if_pos Cf]);have Dt:((k:Int) != 1)=true:=by simp;omega
   clear hp Av Ck
   go_enter Tryz.func26, Tryz.ntmps26
   go_wp2_with fail;refine A4.out.mono ?_;rintro e w1 ⟨rfl,hm⟩;have HX:=oh (hm.alloc (.cells #[.int .i64 (k:Int),.int .u64 (g:Int),.int .u64 (b:Int),.int .i64 (r:Int)] 58));have A0:=A8.out _ HX.out;have rf:=A0.1.frozen;have r0:=A0.1.d 0 (.int .i64 0) rfl;have r1:=A0.1.d 1 (.int .u64 0) rfl;have r2:=A0.1.d 2 (.int .u64 0) rfl;have r3:=A0.1.d 3 (.int .i64 0) rfl;have Ab:=oh (zK.set4 A0.1 (.int .i64 0) (.int .u64 0) (.int .u64 0) (.int .i64 0));have Ac:=oh A0.2;clear A0;clear hm;go_wp2_with fail;refine bodyPost_ret (yQ rfl _ _ w.heap.size 58 (zA7 ⟨0,0,0,0⟩) _ rfl Ab.out Tryz.underlying58 rfl Tryz.head20Size) rfl ?_;exact⟨⟨0,0,0,0⟩,_,by rw[HC.out];rfl,Ac.out _ _ _ _⟩
end
theorem zIj:∀(l:List zE) (last:ByteArray),yK l->(∀x∈l,okP x)->(∀x∈l,qH last x.1=true)->vZ last l=true
 | [],_,_,_,_=>rfl
 | x :: l,last,hs,hk,hl=>by
  have h2:=hs.cons;rw[vZ,(hk x uH).1,hl x uH,uU (hk x uH).2,zIj l x.1 h2.2 (λy hy=>hk y (uI _ hy)) h2.1];rfl
theorem zNw{o:List zE}(h:zGi o)(g:Nat)(hg:g<18446744073709551616):jV (zBh g o)=.inl (⟨1,g,0,o.length⟩,o) :=
 zH4 hg (by have:=h.len;omega) (zIj o e0 h.sorted (λx hx=>h.ok x hx) (λx hx=>zTS (h.ok x hx).1)) (λx hx=>by have:=h.sz x hx;omega)
theorem zNx{b:List UInt8}{c:Nat}(hp:qY b=.inr c):c<100:=by
 unfold qY at hp;split at hp
 .cases hp;omega
 .split at hp
  .cases hp;omega
  .split at hp
   .cases hp;omega
   .cases hp
theorem zNy{b:List UInt8}{c:Nat}(h:jV b=.inr c):c<100:=by
 unfold jV at h;cases hp:qY b with
 | inr k=>rw[hp] at h;cases h;exact zNx hp
 | inl h0 =>
  rw[hp] at h;simp only at h;by_cases h1:h0.kind≠1
  .rw[if_pos h1] at h;cases h;omega
  .rw[if_neg h1] at h;cases hq:qG (b.take (b.length-4)) h0.records 25 [] with
   | none=>rw[hq] at h;cases h;omega
   | some x =>
    rw[hq] at h;simp only at h;split at h
    .cases h
    .cases h;omega
theorem zMh(b:List UInt8):zA8 b<100:=by
 unfold zA8;cases hr:jV b with
 | inr c=>exact zNy hr
 | inl x=>exact Nat.zero_lt_succ _
section
variable {F:NP}{ad:Nat->Addr}{w w':World}
theorem zFi(hE:yE NoB ad w)(hF:zDm ad)(lx ly:List zE)(vx vy:Value)(sx:Sl NoB w 2 vI vx lx)(sy:Sl NoB w 2 vI vy ly)(bv:Value)(bb:List UInt8)(sb:Sl NoB w 1 zO bv bb) :
  Calls Tryz.prog 4 #[vx,vy,bv] w λe w'=>e=.returned (.bool true)/\zG w w':=by
 have HE:=oh hE;have Bl:=oh hF;have Ea:=oh (zIY lx vx sx);have Eb:=oh (λW (m:zG w W)=>zIY ly vy (sy.ext m));have Gr:=oh sb;have ta:=zJ2 lx;have tl:=zJ2 ly;obtain⟨a,ha⟩:∃a,a=zE3 lx:=⟨_,rfl⟩;obtain⟨l,hl⟩:∃l,l=zE3 ly:=⟨_,rfl⟩;rw[<- ha] at Ea ta;rw[<- hl] at Eb tl;have HA:=oh ta;have HT:=oh tl;obtain⟨ba,bc,rfl,b1,b2,b3, -⟩:=sb;unfold maxLen at b2;clear hE hF sx sy ha hl ta tl
 go_enter Tryz.func4, Tryz.ntmps4
 go_wp2_with fail;refine Ea.out.mono ?_;rintro e w1 ⟨va,rfl,Ec,Cq⟩;have Gs:=oh (HE.out.mods Cq.ext);have Ar:=oh ((Ec.sl qX.len (by have:=HA.out.len;omega)).anti (G:=NoB) (λ_ _ h=>h));have C6:=oh Cq;clear Ec Cq;go_wp2_with fail;refine (zNp Gs.out a HA.out va Ar.out).mono ?_;rintro e w2 ⟨S,d,c,sp,P2,F2,rfl,Ed,n2⟩;have Bm:=n2.shrink (P2:=P2) (λk h=>.inl h);have Cr:=oh Ed;have A7:=oh Bm;have Cs:=oh (Bm.sl (λ_ h=>h) Ar.out);have Ct:=oh (Bm.sl (λ_ h=>h) (Gr.out.ext C6.out));have Au:=oh (C6.out.trans (Bm.stp.mods:zG w1 w2));clear Ed n2 Bm;by_cases Bc:(20000:Int)<(bb.length:Int)
 .go_wp2_with fail;refine (zHG (HE.out.mods Au.out.ext)).mono ?_;rintro e w3 ⟨rfl,Aa⟩;have B6:=oh (Au.out.trans Aa);clear Aa;go_wp2_with fail;go_ret;exact⟨rfl,B6.out⟩
 .have Af:Hid (bb.length<=20000):=oh (by omega);go_wp2_with fail;refine (Eb.out _ Au.out).mono ?_;rintro e w3 ⟨vl,rfl,B5,Aa⟩;have Bn:=oh (B5.slF (λk hk=>A7.out.env.lt k hk) qX.len (by have:=HT.out.len;omega));have Bw:=oh Aa;have Ad:=oh (zHF 3 (by omega) l vl Bn.out (λx hx=>by have:=HT.out.sz x hx;omega) (by have:=HT.out.len;omega) (by have:=zGL l HT.out.sz;have:=HT.out.len;omega));rw[show ((3:Nat):Int)=3 from rfl] at Ad;unfold Byt at Ad;have Cu:=zNu HT.out 3;have Cv:=zNw HT.out 3 (by omega);obtain⟨wb,Cw⟩:∃wb,wb=zBh 3 l:=⟨_,rfl⟩;rw[<- Cw] at Ad Cu Cv;have C7:=oh Cu;have Cx:=oh Cv;have Bj:=oh Cw;clear B5 Aa Cu Cv Cw;go_wp2_with fail;refine Ad.out.mono ?_;rintro e w4 ⟨v4,rfl,Ee,Cy⟩;have x4:=Bw.out.trans Cy;have Be:=oh x4;have Cz:=zMg (A7.out.env.mods x4.ext) A7.out.sub (Cr.out.at x4) (by have:=HA.out.len;omega) v4 wb (Ee.slF (λk hk=>uG (A7.out.env.lt k hk) Bw.out.size) yU.len (by have:=C7.out;omega)) (by have:=C7.out;omega);have Cz:=oh Cz;have D0:=oh (Bn.out.ext Cy);clear Ee Cy x4;go_wp2_with fail;refine Cz.out.mono ?_;rintro e w5 ⟨P5,F5,Ef,n5,hd⟩;obtain⟨v5,rfl,Eg⟩:∃v,e=.returned (.tuple #[v,.nilIface])/\Sl F5 w5 1 vQ v ((vD l a).map (·.key)):=by
   rcases hd with ⟨h,l2,v,h1,h2,h3⟩|⟨k,f,el,h1,_⟩
   .rw[Cx.out] at h1;injection h1 with h1;injection h1 with _ h1;subst h1;exact⟨v,h2,h3⟩
   .rw[Cx.out] at h1;cases h1
  have Aq:=oh ((A7.out.trans (zU.ext A7.out.env A7.out.sub Be.out)).trans n5);have D1:=oh Ef;have D2:=oh (n5.sl A7.out.sub (Cs.out.ext Be.out));have Bo:=oh (n5.sl A7.out.sub (Ct.out.ext Be.out));have Bp:=oh (n5.sl A7.out.sub D0.out);have C8:=oh Eg;have H6:=oh (C6.out.trans (Aq.out.stp.mods:zG w1 w5));have Bq:=zPp l a vl va Bp.out D2.out (by have:=HT.out.len;omega) (by have:=HA.out.len;omega);rw[zMp HT.out.sorted HA.out.sorted] at Bq;have Ao:=oh (uT (zK2 l a) (show l.length+a.length<=60 by have:=HT.out.len;have:=HA.out.len;omega));obtain⟨dd,B4⟩:∃dd,dd=vD l a:=⟨_,rfl⟩;rw[<- B4] at Bq Ao C8;have Bq:=oh Bq;obtain⟨ka,kc,rfl, -, -, -, -⟩:=id C8.out;rw[wP] at C8 ⊢;clear hd Eg n5 Ef B4;go_wp2_with fail;refine Bq.out.mono ?_;rintro e w6 ⟨v6,rfl,Ag,A3⟩;have Eh:=oh A3;have Gt:=oh (Ag.sl zB2.len (by have:=Ao.out;omega));obtain⟨da,dc,rfl, -, -⟩:=Ag.form;clear Ag A3;go_wp2_with fail;go_loopg [14] dd.length (λm v14 wr=>∃(k:Nat),k+m=dd.length/\v14=.int .i64 (k:Int)/\Hid (zG w6 wr))
  case atStart=>exact⟨0,by omega,rfl,oh zr⟩
  case round =>
   obtain⟨k,B9,rfl,HR⟩:=hrel;by_cases A2:k<dd.length
   .obtain⟨qb,qoff,Ae,hc⟩:=Gt.out.elem A2 HR.out;have c0:=hc 0 (.string dd[k].key) rfl;simp only[uO] at c0;have Ei:k<(dd.map (·.key)).length:=by rw[wP];exact A2
    obtain⟨rb,roff,Gu,Ej⟩:=C8.out.elem Ei (Eh.out.trans HR.out);have g0:=Ej 0 (.string dd[k].key) (by rw[List.getElem_map];rfl);simp only[uY,uO] at g0;obtain⟨xk,Ek⟩:∃xk,xk=dd[k].key:=⟨_,rfl⟩;rw[<- Ek] at c0 g0;subst Ae Gu;have i1:(0:Int)<=(k:Int):=by omega
    have i2:(k:Int)<(dd.length:Int):=by omega
    have i3:(dd.length:Int)<=60:=by have:=Ao.out;omega
    have B7:Hid (∀q,zG w6 (wr.drewN q)):=oh λq=>HR.out.trans (zr.drewN q)
    clear hc Ej Ek Ei;go_wp2_with fail;go_quiet (fail)
    go_wp2_with fail;go_roundg (gk-1)
    case measure=>omega
    case rel=>exact⟨k+1,by omega,by go_num,oh (B7.out _)⟩
   .have i2:¬ (k:Int)<(dd.length:Int):=by omega
    have Ah:=oh (Eh.out.trans HR.out);have Gv:=oh (Aq.out.env.mods Ah.out.ext);have Gw:=oh (zMg Gv.out Aq.out.sub (D1.out.at Ah.out) (by have:=HA.out.len;omega) _ bb (Bo.out.ext Ah.out) (by have:=Af.out;omega));clear A2 B9;go_wp2_with fail;refine Gw.out.mono ?_;rintro e w7 ⟨P7,F7, -,n7,hd⟩;have Aj:=oh n7.env;have D3:=oh (n7.sl Aq.out.sub (Bo.out.ext Ah.out));have D4:=oh (n7.sl Aq.out.sub (Bp.out.ext Ah.out));have El:=oh (C6.out.trans (((Aq.out.trans (zU.ext Aq.out.env Aq.out.sub Ah.out)).trans n7).stp.mods:zG w1 w7));obtain⟨kv,ev,rfl,Em⟩:∃kv ev,e=.returned (.tuple #[kv,ev])/\((zA8 bb=0/\ev=.nilIface)\/(∃f el,ev=zI f/\zA8 bb≠0/\yN F7 ad w7 (zI f) el (zA8 bb))):=by
     rcases hd with ⟨h,l2,v,h1,h2,_⟩|⟨k,f,el,h1,h2,h3⟩
     .exact⟨v,.nilIface,h2,.inl ⟨by unfold zA8;rw[h1],rfl⟩⟩
     .have hk:zA8 bb=k:=by unfold zA8;rw[h1]
      exact⟨_,_,h2,.inr ⟨f,el,rfl,by rw[hk];have:=h3.code;omega,by rw[hk];exact h3⟩⟩
    have Bb:Hid (∀W,zG w7 W -> Calls Tryz.prog 27 #[ev,.int .i64 (zA8 bb:Int)] W λe w'=>e=.returned (.bool true)/\W=w'):=oh λW m=>by
     rcases Em with ⟨h0,rfl⟩|⟨f,el,rfl,h0,hE⟩
     .refine (zG6 (Aj.out.mods m.ext) Bl.out .nilIface none rfl (zA8 bb) (zMh bb)).mono ?_;rintro e w' ⟨rfl,h⟩;exact⟨by rw[show decide (zJQ none=zA8 bb)=true from uU h0.symm],h⟩
     .exact zF2 (Aj.out.mods m.ext) Bl.out (hE.mods m.ext) (zA8 bb) (zMh bb) rfl
    have A1:=oh (zNv _ bb D3.out (by have:=Af.out;omega));obtain⟨cb,En⟩:∃cb,cb=zA8 bb:=⟨_,rfl⟩;unfold zOc at A1;rw[<- En] at Bb A1;clear hd n7 Em En;go_wp2_with fail;refine A1.out.mono ?_;rintro e w8 ⟨h8,lv8,rfl,Eo⟩;obtain⟨D5,D6,D7,D8⟩:=h8;rw[show zBW ⟨D5,D6,D7,D8⟩=.agg #[.int .i64 (D5:Int),.int .u64 (D6:Int),.int .u64 (D7:Int),.int .i64 (D8:Int)] from rfl];have Ep:=oh (Eo.alloc (.cells #[.int .i64 (D5:Int),.int .u64 (D6:Int),.int .u64 (D7:Int),.int .i64 (D8:Int)] 58));clear Eo;go_wp2_with fail;refine (zRQ (Aj.out.mods Ep.out.ext) (.inl rfl) _).mono ?_;rintro e w9 ⟨f9,el9,rfl,Eq,Er⟩;have Es:=oh (Ep.out.trans Er);have Gx:=oh Eq;clear Eq Er;unfold zI;go_wp2_with fail;refine (zSD (Aj.out.mods Es.out.ext) (.inl rfl)).mono ?_;rintro e w10 ⟨f10,el10,rfl,Br,Ax⟩;have Ay:=oh (Es.out.trans Ax);have D9:=oh Br;have Bs:=oh (Gx.out.mods Ax.ext);have Ad:=zHF 3 (by omega) l vl (D4.out.ext Ay.out) (λx hx=>by have:=HT.out.sz x hx;omega) (by have:=HT.out.len;omega) (by have:=zGL l HT.out.sz;have:=HT.out.len;omega);rw[show ((3:Nat):Int)=3 from rfl,<- Bj.out] at Ad;unfold Byt at Ad;have Ad:=oh Ad;clear Br Ax;unfold zI;go_wp2_with fail;refine Ad.out.mono ?_;rintro e w11 ⟨v11,rfl,Az,Ak⟩;have x11:=Ay.out.trans Ak;have y11:zG w11 (w11.alloc (.cells #[v11] 27)):=zr.alloc _;have Gy:=oh (zMe ((Aj.out.mods x11.ext).mods y11.ext) w11.heap.size v11 ((zK.new w11 #[v11] 27).cell rfl) wb ((Az.slF (λk hk=>uG (Aj.out.lt k hk) Ay.out.size) yU.len (by have:=C7.out;omega)).ext y11) (by have:=C7.out;omega) _ _ Cx.out 4);have Da:=oh (x11.trans y11);have Bt:=oh (Bs.out.mods (Ak.trans y11).ext);have B0:=oh (D9.out.mods (Ak.trans y11).ext);obtain⟨a11,c11,rfl, -, -⟩:=Az.form;clear Az Ak x11 y11;go_wp2_with fail;refine Gy.out.mono ?_;rintro e w12 ⟨f12,el12,rfl,Bu,Al⟩;have A9:=oh (Da.out.trans Al);have Db:=oh (zF2 (Aj.out.mods A9.out.ext) Bl.out (Bt.out.mods Al.ext) 7 (by omega) rfl);have B1:=oh (zF2 (Aj.out.mods A9.out.ext) Bl.out (B0.out.mods Al.ext) 7 (by omega) rfl);have B2:=oh (zF2 (Aj.out.mods A9.out.ext) Bl.out Bu 7 (by omega) rfl);rw[show ((7:Nat):Int)=7 from rfl] at Db B1 B2;unfold zI at Db B1 B2;clear Bu Al;unfold zI;go_wp2_with fail;refine (Bb.out _ A9.out).mono ?_;rintro e w13 ⟨rfl,rfl⟩;go_wp2_with fail;refine Db.out.mono ?_;rintro e w13 ⟨rfl,rfl⟩;go_wp2_with fail;refine B1.out.mono ?_;rintro e w13 ⟨rfl,rfl⟩;go_wp2_with fail;refine B2.out.mono ?_;rintro e w13 ⟨rfl,rfl⟩;go_wp2_with fail;refine (zHG (HE.out.mods (El.out.trans A9.out).ext)).mono ?_;rintro e w13 ⟨rfl,Bv⟩;have HF:=oh ((El.out.trans A9.out).trans Bv);clear Bv;go_wp2_with fail;go_ret;exact⟨rfl,HF.out⟩
end
end
end Go.Proofs.YtgphfebjjedeaaaGreatDoor
