import Derived.Test.YtalpfcaakpgkmaaGreatDoorR06
import Derived.Test.YtalpfcaakpgkmaaGreatDoorR07
import Derived.Laws.BitsAllLaws
import Derived.Lib.SliceRun
namespace Go.Proofs.YtalpfcaakpgkmaaGreatDoor
open Lib renaming hid->oh
set_option maxRecDepth 100000
open Go.RowKit
theorem Tryz.mkB:(Tryz.prog.info? 5).map (λi=>(i.zero,i.size,i.bytes))=some (some (.int .u8 0),1,1):=by kernel_rfl
theorem Tryz.elB:ElT Tryz.prog 69 5 (.int .u8 0) 1 1:=⟨Tryz.underlying69,Tryz.mkB,rfl,by decide,by decide⟩
def isW(n:Int):Bool:=n == 1 || n == 2 || n == 4 || n == 8
theorem zBR(n:Int)(w:World) : Calls Tryz.prog 271 #[.int .i64 n] w λe w'=>e=.returned (.bool (isW n))/\w=w':=by
 by_cases h1:n=1
 .subst h1;go_enter Tryz.func271, Tryz.ntmps271;go_wp2;go_ret;exact⟨rfl,rfl⟩
 .by_cases h2:n=2
  .subst h2;go_enter Tryz.func271, Tryz.ntmps271;go_wp2;go_ret;exact⟨rfl,rfl⟩
  .by_cases h3:n=4
   .subst h3;go_enter Tryz.func271, Tryz.ntmps271;go_wp2;go_ret;exact⟨rfl,rfl⟩
   .by_cases h4:n=8
    .subst h4;go_enter Tryz.func271, Tryz.ntmps271;go_wp2;go_ret;exact⟨rfl,rfl⟩
    .have H:Hid (isW n=false):=oh (by simp[isW,h1,h2,h3,h4])
     go_enter Tryz.func271, Tryz.ntmps271;go_wp2;go_ret;exact⟨yB H.out.symm,rfl⟩
theorem zBc{F:NP}{ad:Nat->Addr}{w:World}(hL:yH F ad w)(bv:Value)(l:List UInt8)(hb:Sl F w 1 zZ bv l)(n W:Nat)(hw:W=1\/W=2\/W=4\/W=8)(hn:n<256 ^ W)(At:l.length<=1000000000) :
  Calls Tryz.prog 198 #[bv,.int .u64 (n:Int),.int .i64 (W:Int)] w λe w'=>∃a c,e=.returned (.tuple #[.slice a (l.length+W) c,.nilIface]) /\
   yC F w' w.heap.size 5 1 zZ (.slice a (l.length+W) c) (l++yD W n)/\zF w w':=by
 have HB:=oh hb;have HF:Hid (Bd F w):=oh (λk hk=>hL.lt k hk);obtain⟨a,cap,rfl,h1,h2,h3,h4⟩:=hb;unfold maxLen at h2;clear h4 hL;rcases hw with rfl|rfl|rfl|rfl
 .have hr:isW ((1:Nat):Int)=true:=rfl;replace hn:n<256:=hn
  go_enter Tryz.func198, Tryz.ntmps198
  go_wp2_with fail;refine (zBR _ _).mono ?_;rintro e w1 ⟨rfl,rfl⟩;go_wp2_with (at_builtin;refine zCS Tryz.elB jN rfl _ _ rfl w.heap.size _ _ [] l rfl rfl (yC.empty HF.out _ _ _ (λ_=>rfl)) (HB.out.mods ((zss w).alloc _)) (by simp;omega) (by simp) (HF.out.mods ((zA.refl F w).alloc _)) ?_;simp only[uL,wG,wP];intro a1 c1 w1 hO A2);have HO:=oh hO;have HM:Hid (zF w w1):=oh (zA.past ((zss w).alloc _) A2);clear hO A2;go_wp2_with fail;go_loopg [8,1,29] 1 (λm v8 v1 v29 wr=>∃(k q:Nat) (acc:List UInt8) (a:Option Addr) (c:Nat),k+m=1/\v8=.slice a acc.length c/\v1=.int .u64 q/\v29=.int .i64 k/\acc.length=l.length+k/\q<18446744073709551616 /\
   Hid (l++yD 1 n=acc++yD m q)/\Hid (yC F wr w.heap.size 5 1 zZ (.slice a acc.length c) acc)/\Hid (zF w wr))
  case atStart=>exact⟨0,n,l,a1,c1,rfl,rfl,rfl,rfl,rfl,by omega,oh rfl,HO,HM⟩
  case round =>
   obtain⟨k,q,acc,a2,c2,hk,rfl,rfl,rfl,A0,hq,HQ,A7,A3⟩:=hrel;by_cases A4:k<1
   .obtain⟨m,rfl⟩:∃m,gk=m+1:=⟨gk-1,by omega⟩;have A8:Hid (Bd F wr):=oh (HF.out.mods A3.out);have Ak:=A3.out.size;go_wp2_with (at_builtin;refine zCS Tryz.elB jN rfl _ _ rfl w.heap.size _ _ acc [UInt8.ofNat q] rfl rfl (A7.out.ext ((zss wr).alloc _)) (zF3 A8.out q _) (by simp;omega) (by simp;omega) (A8.out.mods ((zA.refl F wr).alloc _)) ?_;simp only[uG,uL,wG];intro a3 c3 w3 A9 Aa);have A1:=oh A9;have Ab:Hid (zF w w3):=oh (zA.past (A3.out.alloc _) Aa);clear A9 Aa;go_wp2_with fail;go_roundg m
    case measure=>omega
    case rel=>exact⟨k+1,q / 256,acc++[UInt8.ofNat q],a3,c3,by omega,by simp[A0],by go_num,by go_num,by simp;omega,by omega,oh (by rw[HQ.out];simp[yD]),by simpa using A1,Ab⟩
   .obtain rfl:gk=0:=by omega
    have he:acc=l++yD 1 n:=by have:=HQ.out;simpa[yD] using this.symm
    have A1:=A7.out;rw[he] at A1;have Ac:=oh A1;have Ad:acc.length=l.length+1:=by omega
    clear A1 he;go_wp2_with fail;go_ret2
    have e:Value.slice a2 (l.length+1) c2=.slice a2 acc.length c2:=by rw[Ad]
    exact⟨a2,c2,by rw[e];rfl,by simpa[yD] using Ac.out,A3.out⟩
 .have hr:isW ((2:Nat):Int)=true:=rfl;replace hn:n<65536:=hn
  go_enter Tryz.func198, Tryz.ntmps198
  go_wp2_with fail;refine (zBR _ _).mono ?_;rintro e w1 ⟨rfl,rfl⟩;go_wp2_with (at_builtin;refine zCS Tryz.elB jN rfl _ _ rfl w.heap.size _ _ [] l rfl rfl (yC.empty HF.out _ _ _ (λ_=>rfl)) (HB.out.mods ((zss w).alloc _)) (by simp;omega) (by simp) (HF.out.mods ((zA.refl F w).alloc _)) ?_;simp only[uL,wG,wP];intro a1 c1 w1 hO A2);have HO:=oh hO;have HM:Hid (zF w w1):=oh (zA.past ((zss w).alloc _) A2);clear hO A2;go_wp2_with fail;go_loopg [8,1,29] 2 (λm v8 v1 v29 wr=>∃(k q:Nat) (acc:List UInt8) (a:Option Addr) (c:Nat),k+m=2/\v8=.slice a acc.length c/\v1=.int .u64 q/\v29=.int .i64 k/\acc.length=l.length+k/\q<18446744073709551616 /\
   Hid (l++yD 2 n=acc++yD m q)/\Hid (yC F wr w.heap.size 5 1 zZ (.slice a acc.length c) acc)/\Hid (zF w wr))
  case atStart=>exact⟨0,n,l,a1,c1,rfl,rfl,rfl,rfl,rfl,by omega,oh rfl,HO,HM⟩
  case round =>
   obtain⟨k,q,acc,a2,c2,hk,rfl,rfl,rfl,A0,hq,HQ,A7,A3⟩:=hrel;by_cases A4:k<2
   .obtain⟨m,rfl⟩:∃m,gk=m+1:=⟨gk-1,by omega⟩;have A8:Hid (Bd F wr):=oh (HF.out.mods A3.out);have Ak:=A3.out.size;go_wp2_with (at_builtin;refine zCS Tryz.elB jN rfl _ _ rfl w.heap.size _ _ acc [UInt8.ofNat q] rfl rfl (A7.out.ext ((zss wr).alloc _)) (zF3 A8.out q _) (by simp;omega) (by simp;omega) (A8.out.mods ((zA.refl F wr).alloc _)) ?_;simp only[uG,uL,wG];intro a3 c3 w3 A9 Aa);have A1:=oh A9;have Ab:Hid (zF w w3):=oh (zA.past (A3.out.alloc _) Aa);clear A9 Aa;go_wp2_with fail;go_roundg m
    case measure=>omega
    case rel=>exact⟨k+1,q / 256,acc++[UInt8.ofNat q],a3,c3,by omega,by simp[A0],by go_num,by go_num,by simp;omega,by omega,oh (by rw[HQ.out];simp[yD]),by simpa using A1,Ab⟩
   .obtain rfl:gk=0:=by omega
    have he:acc=l++yD 2 n:=by have:=HQ.out;simpa[yD] using this.symm
    have A1:=A7.out;rw[he] at A1;have Ac:=oh A1;have Ad:acc.length=l.length+2:=by omega
    clear A1 he;go_wp2_with fail;go_ret2
    have e:Value.slice a2 (l.length+2) c2=.slice a2 acc.length c2:=by rw[Ad]
    exact⟨a2,c2,by rw[e];rfl,by simpa[yD] using Ac.out,A3.out⟩
 .have hr:isW ((4:Nat):Int)=true:=rfl;replace hn:n<4294967296:=hn
  go_enter Tryz.func198, Tryz.ntmps198
  go_wp2_with fail;refine (zBR _ _).mono ?_;rintro e w1 ⟨rfl,rfl⟩;go_wp2_with (at_builtin;refine zCS Tryz.elB jN rfl _ _ rfl w.heap.size _ _ [] l rfl rfl (yC.empty HF.out _ _ _ (λ_=>rfl)) (HB.out.mods ((zss w).alloc _)) (by simp;omega) (by simp) (HF.out.mods ((zA.refl F w).alloc _)) ?_;simp only[uL,wG,wP];intro a1 c1 w1 hO A2);have HO:=oh hO;have HM:Hid (zF w w1):=oh (zA.past ((zss w).alloc _) A2);clear hO A2;go_wp2_with fail;go_loopg [8,1,29] 4 (λm v8 v1 v29 wr=>∃(k q:Nat) (acc:List UInt8) (a:Option Addr) (c:Nat),k+m=4/\v8=.slice a acc.length c/\v1=.int .u64 q/\v29=.int .i64 k/\acc.length=l.length+k/\q<18446744073709551616 /\
   Hid (l++yD 4 n=acc++yD m q)/\Hid (yC F wr w.heap.size 5 1 zZ (.slice a acc.length c) acc)/\Hid (zF w wr))
  case atStart=>exact⟨0,n,l,a1,c1,rfl,rfl,rfl,rfl,rfl,by omega,oh rfl,HO,HM⟩
  case round =>
   obtain⟨k,q,acc,a2,c2,hk,rfl,rfl,rfl,A0,hq,HQ,A7,A3⟩:=hrel;by_cases A4:k<4
   .obtain⟨m,rfl⟩:∃m,gk=m+1:=⟨gk-1,by omega⟩;have A8:Hid (Bd F wr):=oh (HF.out.mods A3.out);have Ak:=A3.out.size;go_wp2_with (at_builtin;refine zCS Tryz.elB jN rfl _ _ rfl w.heap.size _ _ acc [UInt8.ofNat q] rfl rfl (A7.out.ext ((zss wr).alloc _)) (zF3 A8.out q _) (by simp;omega) (by simp;omega) (A8.out.mods ((zA.refl F wr).alloc _)) ?_;simp only[uG,uL,wG];intro a3 c3 w3 A9 Aa);have A1:=oh A9;have Ab:Hid (zF w w3):=oh (zA.past (A3.out.alloc _) Aa);clear A9 Aa;go_wp2_with fail;go_roundg m
    case measure=>omega
    case rel=>exact⟨k+1,q / 256,acc++[UInt8.ofNat q],a3,c3,by omega,by simp[A0],by go_num,by go_num,by simp;omega,by omega,oh (by rw[HQ.out];simp[yD]),by simpa using A1,Ab⟩
   .obtain rfl:gk=0:=by omega
    have he:acc=l++yD 4 n:=by have:=HQ.out;simpa[yD] using this.symm
    have A1:=A7.out;rw[he] at A1;have Ac:=oh A1;have Ad:acc.length=l.length+4:=by omega
    clear A1 he;go_wp2_with fail;go_ret2
    have e:Value.slice a2 (l.length+4) c2=.slice a2 acc.length c2:=by rw[Ad]
    exact⟨a2,c2,by rw[e];rfl,by simpa[yD] using Ac.out,A3.out⟩
 .have hr:isW ((8:Nat):Int)=true:=rfl;replace hn:n<18446744073709551616:=hn
  go_enter Tryz.func198, Tryz.ntmps198
  go_wp2_with fail;refine (zBR _ _).mono ?_;rintro e w1 ⟨rfl,rfl⟩;go_wp2_with (at_builtin;refine zCS Tryz.elB jN rfl _ _ rfl w.heap.size _ _ [] l rfl rfl (yC.empty HF.out _ _ _ (λ_=>rfl)) (HB.out.mods ((zss w).alloc _)) (by simp;omega) (by simp) (HF.out.mods ((zA.refl F w).alloc _)) ?_;simp only[uL,wG,wP];intro a1 c1 w1 hO A2);have HO:=oh hO;have HM:Hid (zF w w1):=oh (zA.past ((zss w).alloc _) A2);clear hO A2;go_wp2_with fail;go_loopg [8,1,29] 8 (λm v8 v1 v29 wr=>∃(k q:Nat) (acc:List UInt8) (a:Option Addr) (c:Nat),k+m=8/\v8=.slice a acc.length c/\v1=.int .u64 q/\v29=.int .i64 k/\acc.length=l.length+k/\q<18446744073709551616 /\
   Hid (l++yD 8 n=acc++yD m q)/\Hid (yC F wr w.heap.size 5 1 zZ (.slice a acc.length c) acc)/\Hid (zF w wr))
  case atStart=>exact⟨0,n,l,a1,c1,rfl,rfl,rfl,rfl,rfl,by omega,oh rfl,HO,HM⟩
  case round =>
   obtain⟨k,q,acc,a2,c2,hk,rfl,rfl,rfl,A0,hq,HQ,A7,A3⟩:=hrel;by_cases A4:k<8
   .obtain⟨m,rfl⟩:∃m,gk=m+1:=⟨gk-1,by omega⟩;have A8:Hid (Bd F wr):=oh (HF.out.mods A3.out);have Ak:=A3.out.size;go_wp2_with (at_builtin;refine zCS Tryz.elB jN rfl _ _ rfl w.heap.size _ _ acc [UInt8.ofNat q] rfl rfl (A7.out.ext ((zss wr).alloc _)) (zF3 A8.out q _) (by simp;omega) (by simp;omega) (A8.out.mods ((zA.refl F wr).alloc _)) ?_;simp only[uG,uL,wG];intro a3 c3 w3 A9 Aa);have A1:=oh A9;have Ab:Hid (zF w w3):=oh (zA.past (A3.out.alloc _) Aa);clear A9 Aa;go_wp2_with fail;go_roundg m
    case measure=>omega
    case rel=>exact⟨k+1,q / 256,acc++[UInt8.ofNat q],a3,c3,by omega,by simp[A0],by go_num,by go_num,by simp;omega,by omega,oh (by rw[HQ.out];simp[yD]),by simpa using A1,Ab⟩
   .obtain rfl:gk=0:=by omega
    have he:acc=l++yD 8 n:=by have:=HQ.out;simpa[yD] using this.symm
    have A1:=A7.out;rw[he] at A1;have Ac:=oh A1;have Ad:acc.length=l.length+8:=by omega
    clear A1 he;go_wp2_with fail;go_ret2
    have e:Value.slice a2 (l.length+8) c2=.slice a2 acc.length c2:=by rw[Ad]
    exact⟨a2,c2,by rw[e];rfl,by simpa[yD] using Ac.out,A3.out⟩
def vC(l:List UInt8)(at_:Int)(W:Nat):Nat × Option Err :=
 if at_<0\/(l.length:Int)<at_ then (0,some ([-1],2)) else if (l.length:Int)-at_<W then (0,some ([-1],1)) else (zEb ((l.drop at_.toNat).take W),none)
theorem zF4{F:NP}{ad:Nat->Addr}{w:World}(hL:yH F ad w)(bv:Value)(l:List UInt8)(hb:Sl F w 1 zZ bv l)(p:Int)(W:Nat)(hw:W=1\/W=2\/W=4\/W=8) :
  Calls Tryz.prog 222 #[bv,.int .i64 p,.int .i64 (W:Int)] w λe w'=>∃ev,e=.returned (.tuple #[.int .u64 ((vC l p W).1:Nat),ev])/\zAb F ad w' ev (vC l p W).2/\zF w w':=by
 have HL:=oh hL;have g1:=hL.c1;have g2:=hL.c2;obtain⟨a,cap,rfl,h1,h2,h3,h4⟩:=hb;unfold maxLen at h2;clear hL;have hr:isW (W:Int)=true:=by rcases hw with rfl|rfl|rfl|rfl <;> rfl
 have HW:=oh hw;have hW:W<=8:=by omega
 have B2:1<=W:=by omega
 clear hw;by_cases hc:p<0\/(l.length:Int)<p
 .have HT:Hid (vC l p W=(0,some ([-1],2))):=oh (by unfold vC;rw[if_pos hc]);by_cases h0:p<0
  .clear hc
   go_enter Tryz.func222, Tryz.ntmps222
   go_wp2_with fail;refine (zBR _ _).mono ?_;rintro e w1 ⟨rfl,rfl⟩;go_wp2_with fail;refine (vI HL.out _ _ _ 2 (.sent 2 (by decide) (by decide))).mono ?_;rintro e w1 ⟨f,rfl,hE,hm⟩;have HE:=oh hE;clear hE;go_wp2
   go_ret2
   exact⟨_,by rw[HT.out];rfl,by rw[HT.out];exact⟨f,rfl,HE.out⟩,hm⟩
  .have h5:(l.length:Int)<p:=by omega
   clear hc
   go_enter Tryz.func222, Tryz.ntmps222
   go_wp2_with fail;refine (zBR _ _).mono ?_;rintro e w1 ⟨rfl,rfl⟩;go_wp2_with fail;refine (vI HL.out _ _ _ 2 (.sent 2 (by decide) (by decide))).mono ?_;rintro e w1 ⟨f,rfl,hE,hm⟩;have HE:=oh hE;clear hE;go_wp2
   go_ret2
   exact⟨_,by rw[HT.out];rfl,by rw[HT.out];exact⟨f,rfl,HE.out⟩,hm⟩
 .have hp:0<=p:=by omega
  obtain⟨q,rfl⟩:∃q:Nat,p=q:=⟨p.toNat,by omega⟩;have hq:q<=l.length:=by omega
  by_cases Af:(l.length:Int)-q<W
  .have HT:Hid (vC l q W=(0,some ([-1],1))):=oh (by unfold vC;rw[if_neg hc,if_pos Af]);clear hc
   go_enter Tryz.func222, Tryz.ntmps222
   go_wp2_with fail;refine (zBR _ _).mono ?_;rintro e w1 ⟨rfl,rfl⟩;go_wp2_with fail;refine (vI HL.out _ _ _ 1 (.sent 1 (by decide) (by decide))).mono ?_;rintro e w1 ⟨f,rfl,hE,hm⟩;have HE:=oh hE;clear hE;go_wp2
   go_ret2
   exact⟨_,by rw[HT.out];rfl,by rw[HT.out];exact⟨f,rfl,HE.out⟩,hm⟩
  .have HT:Hid (vC l q W=(zEb ((l.drop q).take W),none)):=oh (by unfold vC;rw[if_neg hc,if_neg Af,uH]);have B3:q+W<=l.length:=by omega
   clear hc Af
   go_enter Tryz.func222, Tryz.ntmps222
   go_wp2_with fail;refine (zBR _ _).mono ?_;rintro e w1 ⟨rfl,rfl⟩;go_wp2_with fail;go_loopg [8,9] W (λm n i wr=>∃x:Nat,wr=w/\m<=W/\i=.int .i64 ((m:Int)-1)/\n=.int .u64 (x:Int)/\Hid (x=zEb ((l.drop (q+m)).take (W-m))))
   case atStart=>exact⟨0,rfl,by omega,rfl,rfl,oh (by simp[zEb])⟩
   case round =>
    obtain⟨x,rfl,Au,rfl,rfl,HX⟩:=hrel;by_cases h0:0<gk
    .obtain⟨m,rfl⟩:∃m,gk=m+1:=⟨gk-1,by omega⟩;have A4:q+m<l.length:=by omega
     obtain⟨b,off,rfl,hb,hF,hc⟩:=Sl.atE h4 zr (q+m) A4;obtain⟨y,hy⟩:∃y,y=l[q+m]:=⟨_,rfl⟩;have Av:=hc 0 (.int .u8 (y.toNat:Int)) (by rw[hy];rfl);simp only[wC,uT] at Av;have Aw:y.toNat<256:=y.toNat_lt;have hS:=zHm l q m W y (by omega) (by rw[hy];simp[A4]);have Ax:x<72057594037927936:=by
      have h1:=zKF l q (m+1) W;rw[<- HX.out] at h1;exact uF h1 (wX (n:=256) (by decide) (show W-(m+1)<=7 by omega))
     rw[<- HX.out] at hS;have HS:=oh hS;have B4:bits .or .u64 ((x:Int) * 256) (y.toNat:Int)=((x * 256+y.toNat:Nat):Int):=by
      have h1:=u64_or_nat (x * 256) y.toNat (by omega) (by omega);rw[nat_join 8 (x * 256) y.toNat (by omega) (by omega)] at h1;simpa using h1
     have A2:(((m+1:Nat):Int)-1)=(m:Int):=by omega
     rw[A2];clear hc hy hS h4 A2;go_wp2_with fail;go_roundg m
     case measure=>omega
     case rel=>exact⟨x * 256+y.toNat,rfl,by omega,by go_num,rfl,oh HS.out.symm⟩
    .obtain rfl:gk=0:=by omega
     have A2:(((0:Nat):Int)-1) = -1:=by omega
     rw[A2];clear A2 h0 Au h4;have Ay:Hid (x=zEb ((l.drop q).take W)):=HX;go_wp2_with fail;go_ret2
     exact⟨_,by rw[HT.out,<- Ay.out];rfl,by rw[HT.out];rfl,zA.refl _ _⟩
theorem zOh{F:NP}{w:World}(hF:Bd F w)(bv:Value)(l:List UInt8)(hb:Sl F w 1 zZ bv l) :
  Calls Tryz.prog 322 #[bv] w λe w'=>∃a c,e=.returned (.slice a l.length c)/\yC F w' w.heap.size 5 1 zZ (.slice a l.length c) l/\zF w w':=by
 have HB:=oh hb;have HF:=oh hF;obtain⟨a,cap,rfl,h1,h2,h3,h4⟩:=hb;unfold maxLen at h2;have hq:=λ(a:Option Addr) (n:Nat) (w:World)=>Go.Lib.run_eql_slice_nil (P:=Tryz.prog) w 69 5 a n cap 0 0 Tryz.underlying69
 match a,h4 with
 | none,h4 =>
  have hl:l=[]:=by
   rcases h4 with h|⟨_,_,h,_⟩
   .exact h
   .cases h
  subst hl;clear h4 hF
  go_enter Tryz.func322, Tryz.ntmps322
  go_wp2_with fail;go_ret;exact⟨none,0,rfl,yC.nil _ _ _ _ _ _,zA.refl _ _⟩
 | some ad,h4 =>
  clear h4 hF
  go_enter Tryz.func322, Tryz.ntmps322
  go_wp2_with (at_builtin;go_loud (refine zCS Tryz.elB jN rfl _ _ rfl w.heap.size _ _ [] l rfl rfl (yC.empty HF.out _ _ _ (λ_=>rfl)) (HB.out.mods ((zss w).alloc _)) (by simp;omega) (by simp) (HF.out.mods ((zA.refl F w).alloc _)) ?_);simp only[uL,wG,wP];intro a1 c1 w1 hO A2);have HO:=oh hO;have HM:Hid (zF w w1):=oh (zA.past ((zss w).alloc _) A2);clear hO A2;go_wp2_with fail;go_ret;exact⟨a1,c1,rfl,HO.out,HM.out⟩
theorem zDJ{F G:NP}{w:World}(av bv:Value)(l m:List UInt8)(ha:Sl F w 1 zZ av l)(hb:Sl G w 1 zZ bv m) :
  Calls Tryz.prog 240 #[av,bv] w λe w'=>e=.returned (.bool (decide (l=m)))/\zF w w':=by
 obtain⟨a,cap,rfl,h1,h2,h3,h4⟩:=ha;obtain⟨b,cap2,rfl,i1,i2,i3,i4⟩:=hb;unfold maxLen at h2 i2;have H4:=oh h4;have I4:=oh i4;clear h4 i4;by_cases hl:l.length=m.length
 .obtain⟨n,hn⟩:∃n,n=l.length:=⟨_,rfl⟩;rw[<- hl,<- hn] at i1 i3 ⊢;rw[<- hn] at h1 h3;have N1:Hid (n=l.length):=oh hn;have N2:Hid (n=m.length):=oh (hn.trans hl);clear hn hl
  go_enter Tryz.func240, Tryz.ntmps240
  go_wp2_with fail;go_loopg [13] n (λq v13 wr=>∃k:Nat,k+q=n/\v13=.int .i64 k/\Hid (l.take k=m.take k)/\Hid (zF w wr))
  case atStart=>exact⟨0,by omega,rfl,oh rfl,oh zr⟩
  case round =>
   obtain⟨k,hk,rfl,HQ,HM⟩:=hrel;by_cases Az:k<n
   .have A4:k<l.length:=by have:=N1.out;omega
    have Ae:k<m.length:=by have:=N2.out;omega
    obtain⟨b1,off1,rfl,B5,B6,Aq⟩:=Sl.atE H4.out HM.out k A4;obtain⟨b2,off2,rfl,B7,B8,Af⟩:=Sl.atE I4.out HM.out k Ae;obtain⟨x,hx⟩:∃x,x=l[k]:=⟨_,rfl⟩;obtain⟨y,hy⟩:∃y,y=m[k]:=⟨_,rfl⟩;have d1:=Aq 0 (.int .u8 (x.toNat:Int)) (by rw[hx];rfl);have d2:=Af 0 (.int .u8 (y.toNat:Int)) (by rw[hy];rfl);simp only[wC,uT] at d1 d2;have B9:x.toNat<256:=x.toNat_lt;have Aw:y.toNat<256:=y.toNat_lt;have A5:l[k]? = some x:=by rw[hx];simp[A4]
    have Al:m[k]? = some y:=by rw[hy];simp[Ae]
    have HT:Hid (x=y->l.take (k+1)=m.take (k+1)):=oh (λe=>by rw[vO l k x A5,vO m k y Al,HQ.out,e]);have HN:Hid (x≠y->decide (l=m)=false):=oh (λe=>by
     rw[decide_eq_false_iff_not];intro h;rw[h,Al] at A5;injection A5 with h5;exact e h5.symm)
    clear Aq Af hx hy A5 Al A4 Ae;by_cases Aj:x=y
    .subst Aj;go_wp2_with fail;go_region
     go_wp2_with fail;go_roundg (gk-1)
     case measure=>omega
     case rel=>exact⟨k+1,by omega,by go_num,oh (HT.out (by first|rfl|trivial)),oh HM.out.drew⟩
    .have Ba:x.toNat≠y.toNat:=λe=>Aj (UInt8.toNat_inj.1 e)
     have B0:=oh (HN.out Aj);clear Aj;go_wp2_with fail;go_region
     go_wp2_with fail;go_ret;exact⟨yB B0.out.symm,HM.out.drew⟩
   .have he:Hid (decide (l=m)=true):=oh (by
     have:=HQ.out;have n1:=N1.out;have n2:=N2.out;rw[uY (by omega),uY (by omega)] at this;simp[this])
    go_wp2_with fail;go_ret;exact⟨yB he.out.symm,HM.out⟩
 .have he:Hid (decide (l=m)=false):=oh (by rw[decide_eq_false_iff_not];intro h;exact hl (by rw[h]))
  go_enter Tryz.func240, Tryz.ntmps240
  go_wp2_with fail;go_ret;exact⟨yB he.out.symm,zA.refl _ _⟩
def qB(F:NP)(R:Nat):NP:=λk=>F k\/k=R
section
variable {F:NP}{ad:Nat->Addr}{w w':World}{R:Nat}
theorem yH.withR(h:yH F ad w)(m:zF w w')(hz:w.heap.size<w'.heap.size):yH (qB F w.heap.size) ad w' :=
 h.step m.ext (λk hk hF hG=>by rcases hG with g|g;exact hF g;omega) (λk hk=>by
  rcases hk with g|g
  .exact Nat.lt_trans (h.lt k g) hz
  .omega)
theorem Sl.withR{α:Type}{sz:Nat}{enc:α->List Value}{v:Value}{l:List α}(h:Sl F w sz enc v l)(m:zF w w'):Sl (qB F w.heap.size) w' sz enc v l :=
 h.step m.ext (λk hk hF hG=>by rcases hG with g|g;exact hF g;omega)
theorem vN.unR{v:Value}{l:List Int}{k:Nat}(h:vN (qB F R) ad w v l k)(m:zA (qB F R) w w'):vN F ad w' v l k:=h.step m (λ_ _ hF hG=>hF (.inl hG))
theorem Sl.unR{α:Type}{sz:Nat}{enc:α->List Value}{v:Value}{l:List α}(h:Sl (qB F R) w sz enc v l)(m:zA (qB F R) w w'):Sl F w' sz enc v l:=h.step m (λ_ _ hF hG=>hF (.inl hG))
end
structure Stp(P P':NP)(w w':World):Prop where
 mods:zA P w w'
 old:∀k,k<w.heap.size->P' k->P k
 bd:Bd P' w'
section
variable {P P' P1 P2 Q F F' F1 F2:NP}{ad:Nat->Addr}{w w' w1 w2:World}
theorem Stp.trans(a:Stp P P1 w w1)(b:Stp P1 P2 w1 w2):Stp P P2 w w2 :=
 ⟨a.mods.trans' b.mods (λi hi h=>a.old i hi h),λk hk h=>a.old k hk (b.old k (uF hk a.mods.size) h),b.bd⟩
theorem Stp.ext(h:Bd P w)(m:zF w w'):Stp P P w w':=⟨m.ext,λ_ _ h=>h,h.mods m⟩
theorem Stp.same(h:Bd P w)(m:zA P w w'):Stp P P w w':=⟨m,λ_ _ h=>h,h.mods m⟩
theorem Stp.frame(s:Stp P P' w w')(hQ:Bd Q w):Stp (λk=>P k\/Q k) (λk=>P' k\/Q k) w w' :=
 ⟨s.mods.mono (λ_ h=>.inl h),λk hk h=>h.elim (λh=>.inl (s.old k hk h)) .inr,λk h=>h.elim (λh=>s.bd k h) (λh=>uF (hQ k h) s.mods.size)⟩
structure zX(P P' F F':NP)(ad:Nat->Addr)(w w':World):Prop where
 stp:Stp P P' w w'
 sub:∀k,P' k->F' k
 grow:∀k,F k->F' k
 oldF:∀k,k<w.heap.size->F' k->F k
 env:yH F' ad w'
theorem zX.trans(a:zX P P1 F F1 ad w w1)(b:zX P1 P2 F1 F2 ad w1 w2):zX P P2 F F2 ad w w2 :=
 ⟨a.stp.trans b.stp,b.sub,λk h=>b.grow k (a.grow k h),λk hk h=>a.oldF k hk (b.oldF k (uF hk a.stp.mods.size) h),b.env⟩
theorem zX.ext(hL:yH F ad w)(hP:∀k,P k->F k)(m:zF w w'):zX P P F F ad w w' :=
 ⟨Stp.ext (λk h=>hL.lt k (hP k h)) m,hP,λ_ h=>h,λ_ _ h=>h,hL.mods m.ext⟩
theorem zX.refl(hL:yH F ad w)(hP:∀k,P k->F k):zX P P F F ad w w:=zX.ext hL hP zr
theorem zX.same(hL:yH F ad w)(hP:∀k,P k->F k)(m:zA P w w'):zX P P F F ad w w' :=
 ⟨Stp.same (λk h=>hL.lt k (hP k h)) m,hP,λ_ h=>h,λ_ _ h=>h,hL.mods (m.mono hP)⟩
theorem zX.of(hL:yH F ad w)(hP:∀k,P k->F k)(s:Stp P P' w w'):zX P P' F (λk=>F k\/P' k) ad w w' :=
 ⟨s,λ_ h=>.inr h,λ_ h=>.inl h,λk hk h=>h.elim id (λh=>hP k (s.old k hk h)),
  hL.step (s.mods.mono hP) (λk hk hn h=>hn (h.elim id (λh=>hP k (s.old k hk h)))) (λk h=>h.elim (λh=>uF (hL.lt k h) s.mods.size) (λh=>s.bd k h))⟩
theorem zX.part(n:zX P P' F F' ad w w')(hQ:∀k,Q k->F k)(hL:yH F ad w):zX (λk=>P k\/Q k) (λk=>P' k\/Q k) F F' ad w w' :=
 ⟨n.stp.frame (λk h=>hL.lt k (hQ k h)),λk h=>h.elim (n.sub k) (λh=>n.grow k (hQ k h)),n.grow,n.oldF,n.env⟩
theorem zX.subP(n:zX P P' F F' ad w w')(Ag:∀k,P k->F k):zA F w w':=n.stp.mods.mono Ag
theorem zX.sl{α:Type}{sz:Nat}{enc:α->List Value}{v:Value}{l:List α}(n:zX P P' F F' ad w w')(Ag:∀k,P k->F k)(h:Sl F w sz enc v l):Sl F' w' sz enc v l :=
 h.step (n.subP Ag) (λk hk hn h'=>hn (n.oldF k hk h'))
theorem zX.errc{v:Value}{l:List Int}{k:Nat}(n:zX P P' F F' ad w w')(Ag:∀k,P k->F k)(h:vN F ad w v l k):vN F' ad w' v l k :=
 h.step (n.subP Ag) (λk hk hn h'=>hn (n.oldF k hk h'))
theorem zX.blk{b:Nat}{c:Array Value}{t:TypeId}(n:zX P P' F F' ad w w')(h:zG w b c t)(hb:¬ P b):zG w' b c t:=h.mods n.stp.mods hb
theorem zX.not{b:Nat}(n:zX P P' F F' ad w w')(hb:b<w.heap.size)(h:¬ P b):¬ P' b:=λh'=>h (n.stp.old b hb h')
theorem zX.size(n:zX P P' F F' ad w w'):w.heap.size<=w'.heap.size:=n.stp.mods.size
theorem Sl.anti'{α:Type}{sz:Nat}{enc:α->List Value}{v:Value}{l:List α}(h:Sl F w sz enc v l)(hG:∀k,Q k->F k):Sl Q w sz enc v l:=h.anti (λk _=>hG k)
theorem yH.anti(h:yH F ad w)(hG:∀k,Q k->F k):yH Q ad w:=h.step zr (λk _ hn hq=>hn (hG k hq)) (λk hk=>h.lt k (hG k hk))
end
def zDY(l:List Nat):Array Value:=(l.map λn=>.int .i64 (n:Int)).toArray
structure SpR(w:World)(b b2:Nat)(l:List Nat):Prop where
 own:zG w b #[.slice (some ⟨b2,0,none⟩) l.length l.length] 177
 row:zG w b2 (zDY l) 3
 ne:b≠b2
 len:8<=l.length
 len2:l.length<=256
abbrev spF(b b2:Nat):NP:=λk=>k=b\/k=b2
theorem zCF(l:List Nat)(i:Nat)(x:Nat)(h:l[i]? = some x):(zDY l)[i]? = some (.int .i64 (x:Int)):=by
 simp[zDY,h]
theorem zLE(l:List Nat)(i x:Nat):(zDY l).setIfInBounds i (.int .i64 (x:Int))=zDY (l.set i x):=by
 simp[zDY,List.map_set]
section
variable {F:NP}{w w':World}{b b2:Nat}{l:List Nat}
theorem SpR.mods(h:SpR w b b2 l)(m:zA F w w')(h1:¬ F b)(h2:¬ F b2):SpR w' b b2 l:=⟨h.own.mods m h1,h.row.mods m h2,h.ne,h.len,h.len2⟩
theorem SpR.drew(h:SpR w b b2 l):SpR w.drew b b2 l:=⟨h.own.drew,h.row.drew,h.ne,h.len,h.len2⟩
theorem SpR.set(h:SpR w b b2 l)(i x:Nat):SpR (w.setCell ⟨b2,i,none⟩ (.int .i64 (x:Int))) b b2 (l.set i x) :=
 ⟨by rw[tN];exact h.own.set_other h.ne _,by rw[<- zLE];exact h.row.set i _,h.ne,by rw[tN];exact h.len,by rw[tN];exact h.len2⟩
end
def vP(l:List Nat):Option Nat:=l.findIdx? (· == 0)
theorem zLF{l:List Nat}{k:Nat}(h:∀j,j<k->l[j]? ≠ some 0)(hk:l[k]? = some 0):vP l=some k:=by
 unfold vP;rw[List.findIdx?_eq_some_iff_getElem];obtain⟨A4,he⟩:=uA.1 hk;refine⟨A4,by simp[he],λj hj=>?_⟩;have:=h j hj;rw[uB (by omega)] at this;simpa using this
theorem zLG{l:List Nat}(h:∀j,j<l.length->l[j]? ≠ some 0):vP l=none:=by
 unfold vP;rw[List.findIdx?_eq_none_iff];intro x hx;obtain⟨j,hj,rfl⟩:=wF hx;have:=h j hj;rw[uB (by omega)] at this;simpa using this
theorem zMk{F:NP}{ad:Nat->Addr}{w:World}(hL:yH F ad w)(b b2:Nat)(l:List Nat)(h:SpR w b b2 l) :
  Calls Tryz.prog 296 #[.pointer (some ⟨b,0,none⟩)] w λe w' =>
   (∃i,vP l=some i/\i<l.length/\e=.returned (.tuple #[.int .i64 (i:Int),.nilIface])/\SpR w' b b2 (l.set i 2)/\zA (spF b b2) w w') \/
   (vP l=none/\∃f,e=.returned (.tuple #[.int .i64 0,zP f])/\vN F ad w' (zP f) [-1] 3/\zF w w'):=by
 have c0:=h.own.d 0 (.slice (some ⟨b2,0,none⟩) l.length l.length) rfl;have hl:=h.len;have Am:=h.len2;have An:=h.row.frozen;have HS:=oh h;have g3:=hL.c3;have HL:=oh hL;clear h hL
 go_enter Tryz.func296, Tryz.ntmps296
 go_wp2
 go_loopg [15] l.length (λm i wr=>∃k:Nat,wr=w/\k+m=l.length/\i=.int .i64 k/\Hid (∀j,j<k->l[j]? ≠ some 0))
 case atStart=>exact⟨0,rfl,by omega,rfl,oh (by omega)⟩
 case round =>
  obtain⟨k,rfl,hk,rfl,HQ⟩:=hrel;by_cases A4:k<l.length
  .obtain⟨x,hx⟩:∃x,x=l[k]:=⟨_,rfl⟩;have A5:l[k]? = some x:=by rw[hx];simp[A4]
   have hc:=HS.out.row.cell (zCF l k x A5);have hf:=An k;have HX:=oh A5;clear hx A5;by_cases Ar:x=0
   .subst Ar;go_wp2
    go_ret2
    exact .inl ⟨k,zLF HQ.out HX.out,A4,rfl,HS.out.set k 2,zA.at _ _ b2 k _ (.inr rfl)⟩
   .go_wp2
    go_roundg (gk-1)
    case measure=>omega
    case rel=>exact⟨k+1,rfl,by omega,by go_num,oh (λj hj=>by
     by_cases e:j=k
     .subst e;rw[HX.out];simpa using Ar
     .exact HQ.out j (by omega))⟩
  .go_wp2_with fail;refine (vI HL.out _ _ _ 3 (.sent 3 (by decide) (by decide))).mono ?_;rintro e w1 ⟨f,rfl,hE,hm⟩;have HE:=oh hE;clear hE;go_wp2
   go_ret2
   exact .inr ⟨zLG (by have:=HQ.out;rwa [show k=l.length by omega] at this),f,rfl,HE.out,hm⟩
def qF(l:List Nat)(id:Int):Option Err:=if id<2\/(l.length:Int)<=id then some ([zBz id],2) else none
theorem zDZ{F:NP}{ad:Nat->Addr}{w:World}(hL:yH F ad w)(b b2:Nat)(l:List Nat)(h:SpR w b b2 l)(op:ByteArray)(id:Int) :
  Calls Tryz.prog 100 #[.pointer (some ⟨b,0,none⟩),.string op,.int .i64 id] w λe w'=>∃ev,e=.returned ev/\zAb F ad w' ev (qF l id)/\zF w w':=by
 have c0:=h.own.d 0 (.slice (some ⟨b2,0,none⟩) l.length l.length) rfl;have hl:=h.len;have Am:=h.len2;have g2:=hL.c2;have HL:=oh hL;clear h hL;by_cases h1:id<2\/(l.length:Int)<=id
 .have HR:Hid (qF l id=some ([zBz id],2)):=oh (by unfold qF;rw[if_pos h1]);by_cases h2:id<2
  .clear h1
   go_enter Tryz.func100, Tryz.ntmps100
   go_wp2_with fail;refine (zAF HL.out _ _ _ _ 2 (.sent 2 (by decide) (by decide))).mono ?_;rintro e w1 ⟨f,rfl,hE,hm⟩;have HE:=oh hE;clear hE;go_wp2
   go_ret;exact⟨_,rfl,by rw[HR.out];exact⟨f,rfl,HE.out⟩,hm⟩
  .have h3:(l.length:Int)<=id:=by omega
   clear h1
   go_enter Tryz.func100, Tryz.ntmps100
   go_wp2_with fail;refine (zAF HL.out _ _ _ _ 2 (.sent 2 (by decide) (by decide))).mono ?_;rintro e w1 ⟨f,rfl,hE,hm⟩;have HE:=oh hE;clear hE;go_wp2
   go_ret;exact⟨_,rfl,by rw[HR.out];exact⟨f,rfl,HE.out⟩,hm⟩
 .have HR:Hid (qF l id=none):=oh (by unfold qF;rw[if_neg h1]);have h2:2<=id:=by omega
  have h3:id<(l.length:Int):=by omega
  clear h1
  go_enter Tryz.func100, Tryz.ntmps100
  go_wp2
  go_ret;exact⟨_,rfl,by rw[HR.out];rfl,zA.refl _ _⟩
def yT(l:List Nat)(id:Int):List Nat × Option Err :=
 match qF l id with
 | some e=>(l,some e)
 | none=>if l[id.toNat]? = some 2 then (l.set id.toNat 0,none) else if l[id.toNat]? = some 1 then (l.set id.toNat 3,none) else (l,some ([zBz id],1))
theorem zQA{F:NP}{ad:Nat->Addr}{w:World}(hL:yH F ad w)(b b2:Nat)(l:List Nat)(h:SpR w b b2 l)(id:Int) :
  Calls Tryz.prog 298 #[.pointer (some ⟨b,0,none⟩),.int .i64 id] w λe w' =>
   ∃ev,e=.returned ev/\zAb F ad w' ev (yT l id).2/\SpR w' b b2 (yT l id).1/\zA (spF b b2) w w':=by
 have HS:=oh h;have HL:=oh hL;have hl:=h.len;have Am:=h.len2;clear h hL;cases hc:qF l id with
 | some er =>
  have HR:Hid (yT l id=(l,some er)):=oh (by unfold yT;rw[hc])
  go_enter Tryz.func298, Tryz.ntmps298
  go_wp2_with fail;refine (zDZ HL.out b b2 l HS.out _ id).mono ?_;rintro e w1 ⟨ev,rfl,hE,hm⟩;rw[hc] at hE;obtain⟨el,ek⟩:=er;obtain⟨f,rfl,hE⟩:=hE;have HE:=oh hE;clear hE hc;go_wp2
  go_ret;exact⟨_,rfl,by rw[HR.out];exact⟨f,rfl,HE.out⟩,by rw[HR.out];exact HS.out.mods hm (λf=>f) (λf=>f),hm.ext⟩
 | none =>
  have hid:2<=id/\id<(l.length:Int):=by
   unfold qF at hc;split at hc
   .cases hc
   .omega
  obtain⟨i,rfl⟩:∃i:Nat,id=i:=⟨id.toNat,by omega⟩;have A4:i<l.length:=by omega
  obtain⟨x,hx⟩:∃x,l[i]? = some x:=⟨_,uB A4⟩;have HG:Hid (yT l i=if x=2 then (l.set i 0,none) else if x=1 then (l.set i 3,none) else (l,some ([zBz i],1))):=oh (by
   unfold yT;rw[hc];simp only[uH,hx,Option.some.injEq])
  go_enter Tryz.func298, Tryz.ntmps298
  go_wp2_with fail;refine (zDZ HL.out b b2 l HS.out _ i).mono ?_;rintro e w1 ⟨ev,rfl,hE,hm⟩;rw[hc] at hE;cases hE
  have A6:=oh (HS.out.mods hm (λf=>f) (λf=>f));have Ah:=oh (HL.out.mods hm.ext);have c0:=A6.out.own.d 0 (.slice (some ⟨b2,0,none⟩) l.length l.length) rfl;have c1:=A6.out.row.cell (zCF l i x hx);have An:=A6.out.row.frozen i;have g1:=Ah.out.c1;clear hx hc;by_cases A5:x=2
  .subst A5;rw[if_pos rfl] at HG;go_wp2
   go_ret;exact⟨_,rfl,by rw[HG.out];rfl,by rw[HG.out];exact A6.out.set i 0,hm.ext.trans (zA.at _ _ b2 i _ (.inr rfl))⟩
  .by_cases As:x=1
   .subst As;rw[if_neg A5,if_pos rfl] at HG;clear A5;go_wp2
    go_ret;exact⟨_,rfl,by rw[HG.out];rfl,by rw[HG.out];exact A6.out.set i 3,hm.ext.trans (zA.at _ _ b2 i _ (.inr rfl))⟩
   .rw[if_neg A5,if_neg As] at HG;go_wp2_with fail;refine (zAF Ah.out _ _ _ _ 1 (.sent 1 (by decide) (by decide))).mono ?_;rintro e w2 ⟨f,rfl,hE,Ai⟩;have HE:=oh hE;clear hE;go_wp2
    go_ret;exact⟨_,rfl,by rw[HG.out];exact⟨f,rfl,HE.out⟩,by rw[HG.out];exact A6.out.mods Ai (λf=>f) (λf=>f),(hm.trans Ai).ext⟩
def zHc(l:List Nat):Nat:=l.countP (· == 0)
theorem Tryz.mkI:(Tryz.prog.info? 3).map (λi=>(i.zero,i.size,i.bytes))=some (some (.int .i64 0),1,8):=by kernel_rfl
def zQB(n:Nat):List Nat:=((List.replicate n 0).set 0 1).set 1 1
theorem zOi{w:World}(n:Nat)(h1:8<=n)(h2:n<=256) :
  Calls Tryz.prog 46 #[.int .i64 (n:Int)] w λe w'=>∃b b2,e=.returned (.tuple #[.pointer (some ⟨b,0,none⟩),.nilIface])/\SpR w' b b2 (zQB n)/\w.heap.size<=b/\w.heap.size<=b2/\zF w w':=by
 have B1:=zHy (P:=Tryz.prog) 34 3 (.int .i64 0) 8 Tryz.underlying34 Tryz.mkI rfl n (by omega) (by omega);have h3:7<n:=by omega
 have h4:n<257:=by omega
 clear h1 h2
 go_enter Tryz.func46, Tryz.ntmps46
 go_wp2
 have k1:zG ((w.alloc (.cells (Array.replicate n (.int .i64 0)) 3)).alloc (.cells #[.slice (some ⟨w.heap.size,0,none⟩) n n] 177)) (w.heap.size+1) #[.slice (some ⟨w.heap.size,0,none⟩) n n] 177:=zS (by simp);have k2:zG ((w.alloc (.cells (Array.replicate n (.int .i64 0)) 3)).alloc (.cells #[.slice (some ⟨w.heap.size,0,none⟩) n n] 177)) w.heap.size (Array.replicate n (.int .i64 0)) 3:=(zG.new w _ _).alloc _;have km:zF w ((w.alloc (.cells (Array.replicate n (.int .i64 0)) 3)).alloc (.cells #[.slice (some ⟨w.heap.size,0,none⟩) n n] 177)):=((zss w).alloc _).alloc _;generalize ((w.alloc (.cells (Array.replicate n (.int .i64 0)) 3)).alloc (.cells #[.slice (some ⟨w.heap.size,0,none⟩) n n] 177))=w2 at *
 have c1:=k1.d 0 (.slice (some ⟨w.heap.size,0,none⟩) n n) rfl;have c2:=k2.d 0 (.int .i64 0) (by rw[Array.getElem?_replicate,if_pos (by omega)]);have c3:=k2.d 1 (.int .i64 0) (by rw[Array.getElem?_replicate,if_pos (by omega)]);have f2:=k2.frozen;have K1:=oh k1;have K2:=oh k2;have KM:=oh km;clear k1 k2 km B1;go_region
 go_wp2
 go_ret2
 have hS:SpR w2 (w.heap.size+1) w.heap.size (List.replicate n 0) :=
  ⟨by rw[pC];exact K1.out,by rw[show zDY (List.replicate n 0)=Array.replicate n (.int .i64 0) by simp[zDY]];exact K2.out,by omega,by simp;omega,by simp;omega⟩
 exact⟨_,_,rfl,((hS.set 0 1).set 1 1).drew,by omega,uD _,(((KM.out.setCell (.inl (uD _)) _).setCell (.inl (uD _)) _)).drew⟩
section
variable {P:Program}{fn:Func}{p q u v:Tmp}{ty tq:TypeId}
theorem zTA{w:World}{g:Nat}{t ty:TypeId}{cs:Array Value}{d:TypeDesc}(hg:zG w g cs t)(hu:P.underlying ty=some d)(hd:(match d with | .struct _ | .array _ _=>true|_=>false)=true)(hi:(P.info? ty).map (·.size)=some cs.size) :
  ((asAddr (.pointer (some ⟨g,0,none⟩))).run P w).andThen (λa w₁=>(loadVar ty a).run P w₁)=.ok (.agg cs) w:=by
 have hg':w.heap[g]? = some (.cells cs t (0,0)):=hg;simp[asAddr,run_loadVar_row w g t ty cs (0,0) d hg' hu hd hi]
theorem zCz(h:fn.results=#[.cell p ty,.tmp u,.cell q tq])(tmps:Array Value)(w:World)(g g2:Nat)(t t2:TypeId)(cs cs2:Array Value)(d:TypeDesc)
  (hp:tmps.getD p undef=.pointer (some ⟨g,0,none⟩)) (hg:zG w g cs t) (hq:tmps.getD q undef=.pointer (some ⟨g2,0,none⟩)) (Ao:zG w g2 cs2 t2) (e:tq=ty)
  (hu:P.underlying ty=some d) (hd:(match d with | .struct _ | .array _ _=>true|_=>false)=true) (hi:(P.info? ty).map (·.size)=some cs.size) (Ap:cs2.size=cs.size) :
  (results fn tmps).run P w=.ok (.tuple #[.agg cs,tmps.getD u undef,.agg cs2]) w:=by
 subst e;have hg':w.heap[g]? = some (.cells cs t (0,0)):=hg;have hg2':w.heap[g2]? = some (.cells cs2 t2 (0,0)):=Ao;have e1:=run_loadVar_row w g t tq cs (0,0) d hg' hu hd hi;have e2:=run_loadVar_row w g2 t2 tq cs2 (0,0) d hg2' hu hd (by rw[Ap];exact hi);have e:(results fn tmps).run P w=((asAddr (tmps.getD p undef)).run P w).andThen λa w₁=>((loadVar tq a).run P w₁).andThen λx w₂=>((asAddr (tmps.getD q undef)).run P w₂).andThen λb w₃=>((loadVar tq b).run P w₃).andThen λy w₄=>.ok (.tuple #[x,tmps.getD u undef,y]) w₄:=by
  simp only[results,h];simp[Sem.run_bind,Result.andThen]
 rw[e,hp,hq];simp[asAddr,e1,e2]
theorem zAr(h:fn.results=#[.cell p ty,.tmp u,.cell q tq,.tmp v])(tmps:Array Value)(w:World)(g g2:Nat)(t t2:TypeId)(cs cs2:Array Value)(d:TypeDesc)
  (hp:tmps.getD p undef=.pointer (some ⟨g,0,none⟩)) (hg:zG w g cs t) (hq:tmps.getD q undef=.pointer (some ⟨g2,0,none⟩)) (Ao:zG w g2 cs2 t2) (e:tq=ty)
  (hu:P.underlying ty=some d) (hd:(match d with | .struct _ | .array _ _=>true|_=>false)=true) (hi:(P.info? ty).map (·.size)=some cs.size) (Ap:cs2.size=cs.size) :
  (results fn tmps).run P w=.ok (.tuple #[.agg cs,tmps.getD u undef,.agg cs2,tmps.getD v undef]) w:=by
 subst e;have hg':w.heap[g]? = some (.cells cs t (0,0)):=hg;have hg2':w.heap[g2]? = some (.cells cs2 t2 (0,0)):=Ao;have e1:=run_loadVar_row w g t tq cs (0,0) d hg' hu hd hi;have e2:=run_loadVar_row w g2 t2 tq cs2 (0,0) d hg2' hu hd (by rw[Ap];exact hi);have e:(results fn tmps).run P w=((asAddr (tmps.getD p undef)).run P w).andThen λa w₁=>((loadVar tq a).run P w₁).andThen λx w₂=>((asAddr (tmps.getD q undef)).run P w₂).andThen λb w₃=>((loadVar tq b).run P w₃).andThen λy w₄=>.ok (.tuple #[x,tmps.getD u undef,y,tmps.getD v undef]) w₄:=by
  simp only[results,h];simp[Sem.run_bind,Result.andThen]
 rw[e,hp,hq];simp[asAddr,e1,e2]
end
theorem zG.set5{w:World}{R:Nat}{t:TypeId}{a0 a1 a2 a3 a4:Value}(h:zG w R #[a0,a1,a2,a3,a4] t)(v0 v1 v2 v3 v4:Value) :
  zG (((((w.setCell ⟨R,0,none⟩ v0).setCell ⟨R,1,none⟩ v1).setCell ⟨R,2,none⟩ v2).setCell ⟨R,3,none⟩ v3).setCell ⟨R,4,none⟩ v4) R #[v0,v1,v2,v3,v4] t:=by
 simpa using ((((h.set 0 v0).set 1 v1).set 2 v2).set 3 v3).set 4 v4
theorem zA.set5{F:NP}{w w':World}(m:zA F w w'){R:Nat}(hR:w.heap.size<=R\/F R)(v0 v1 v2 v3 v4:Value) :
  zA F w (((((w'.setCell ⟨R,0,none⟩ v0).setCell ⟨R,1,none⟩ v1).setCell ⟨R,2,none⟩ v2).setCell ⟨R,3,none⟩ v3).setCell ⟨R,4,none⟩ v4) :=
 (m.set4 hR v0 v1 v2 v3).setCell (p:=⟨R,4,none⟩) hR _
def zEj(l:List Nat)(id:Int):List Nat × Option Err :=
 match qF l id with
 | some e=>(l,some e)
 | none=>if l[id.toNat]? = some 0 then (l.set id.toNat 1,none) else (l,some ([zBz id],1))
theorem zQC{F:NP}{ad:Nat->Addr}{w:World}(hL:yH F ad w)(b b2:Nat)(l:List Nat)(h:SpR w b b2 l)(id:Int) :
  Calls Tryz.prog 50 #[.pointer (some ⟨b,0,none⟩),.int .i64 id] w λe w' =>
   ∃ev,e=.returned ev/\zAb F ad w' ev (zEj l id).2/\SpR w' b b2 (zEj l id).1/\zA (spF b b2) w w':=by
 have HS:=oh h;have HL:=oh hL;have hl:=h.len;have Am:=h.len2;clear h hL;cases hc:qF l id with
 | some er =>
  have HR:Hid (zEj l id=(l,some er)):=oh (by unfold zEj;rw[hc])
  go_enter Tryz.func50, Tryz.ntmps50
  go_wp2_with fail;refine (zDZ HL.out b b2 l HS.out _ id).mono ?_;rintro e w1 ⟨ev,rfl,hE,hm⟩;rw[hc] at hE;obtain⟨el,ek⟩:=er;obtain⟨f,rfl,hE⟩:=hE;have HE:=oh hE;clear hE hc;go_wp2
  go_ret;exact⟨_,rfl,by rw[HR.out];exact⟨f,rfl,HE.out⟩,by rw[HR.out];exact HS.out.mods hm (λf=>f) (λf=>f),hm.ext⟩
 | none =>
  have hid:2<=id/\id<(l.length:Int):=by
   unfold qF at hc;split at hc
   .cases hc
   .omega
  obtain⟨i,rfl⟩:∃i:Nat,id=i:=⟨id.toNat,by omega⟩;have A4:i<l.length:=by omega
  obtain⟨x,hx⟩:∃x,l[i]? = some x:=⟨_,uB A4⟩;have HG:Hid (zEj l i=if x=0 then (l.set i 1,none) else (l,some ([zBz i],1))):=oh (by
   unfold zEj;rw[hc];simp only[uH,hx,Option.some.injEq])
  go_enter Tryz.func50, Tryz.ntmps50
  go_wp2_with fail;refine (zDZ HL.out b b2 l HS.out _ i).mono ?_;rintro e w1 ⟨ev,rfl,hE,hm⟩;rw[hc] at hE;cases hE
  have A6:=oh (HS.out.mods hm (λf=>f) (λf=>f));have Ah:=oh (HL.out.mods hm.ext);have c0:=A6.out.own.d 0 (.slice (some ⟨b2,0,none⟩) l.length l.length) rfl;have c1:=A6.out.row.cell (zCF l i x hx);have An:=A6.out.row.frozen i;have g1:=Ah.out.c1;clear hx hc;by_cases A5:x=0
  .subst A5;rw[if_pos rfl] at HG;go_wp2
   go_ret;exact⟨_,rfl,by rw[HG.out];rfl,by rw[HG.out];exact A6.out.set i 1,hm.ext.trans (zA.at _ _ b2 i _ (.inr rfl))⟩
  .rw[if_neg A5] at HG;go_wp2_with fail;refine (zAF Ah.out _ _ _ _ 1 (.sent 1 (by decide) (by decide))).mono ?_;rintro e w2 ⟨f,rfl,hE,Ai⟩;have HE:=oh hE;clear hE;go_wp2
   go_ret;exact⟨_,by rfl,by rw[HG.out];exact⟨f,rfl,HE.out⟩,by rw[HG.out];exact A6.out.mods Ai (λf=>f) (λf=>f),(hm.trans Ai).ext⟩
end Go.Proofs.YtalpfcaakpgkmaaGreatDoor
