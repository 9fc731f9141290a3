import Derived.Test.YtgphfebjjedeaaaGreatDoorV05
import Derived.Test.YtgphfebjjedeaaaGreatDoorV06
import Derived.Laws.BitsAllLaws
import Derived.Lib.SliceRun
namespace Go.Proofs.YtgphfebjjedeaaaGreatDoor
open Lib renaming hid->oh
set_option maxRecDepth 100000
section
open Go.RowKit
theorem Tryz.mkB:(Tryz.prog.info? 5).map (λi=>(i.zero,i.size,i.bytes))=some (some (.int .u8 0),1,1):=by kernel_rfl
theorem Tryz.elB:ElT Tryz.prog 27 5 (.int .u8 0) 1 1:=⟨Tryz.underlying27,Tryz.mkB,rfl,by decide,by decide⟩
def isW(n:Int):Bool:=n == 1 || n == 2 || n == 4 || n == 8
theorem zBD(n:Int)(w:World) : Calls Tryz.prog 279 #[.int .i64 n] w λe w'=>e=.returned (.bool (isW n))/\w=w':=by
 by_cases h1:n=1
 .subst h1;go_enter Tryz.func279, Tryz.ntmps279;go_wp2;go_ret;exact⟨rfl,rfl⟩
 .by_cases h2:n=2
  .subst h2;go_enter Tryz.func279, Tryz.ntmps279;go_wp2;go_ret;exact⟨rfl,rfl⟩
  .by_cases h3:n=4
   .subst h3;go_enter Tryz.func279, Tryz.ntmps279;go_wp2;go_ret;exact⟨rfl,rfl⟩
   .by_cases h4:n=8
    .subst h4;go_enter Tryz.func279, Tryz.ntmps279;go_wp2;go_ret;exact⟨rfl,rfl⟩
    .have H:Hid (isW n=false):=oh (by simp[isW,h1,h2,h3,h4])
     go_enter Tryz.func279, Tryz.ntmps279;go_wp2;go_ret;exact⟨zY H.out.symm,rfl⟩
theorem zAt{F:NP}{ad:Nat->Addr}{w:World}(hL:yE F ad w)(bv:Value)(l:List UInt8)(hb:Sl F w 1 zO bv l)(n W:Nat)(hw:W=1\/W=2\/W=4\/W=8)(hn:n<256 ^ W)(hlen:l.length<=1000000000) :
  Calls Tryz.prog 190 #[bv,.int .u64 (n:Int),.int .i64 (W:Int)] w λe w'=>∃a c,e=.returned (.tuple #[.slice a (l.length+W) c,.nilIface]) /\
   yA F w' w.heap.size 5 1 zO (.slice a (l.length+W) c) (l++zV W n)/\zG w w':=by
 have HB:=oh hb;have HF:Hid (Bd F w):=oh (λk hk=>hL.lt k hk);obtain⟨a,cap,rfl,h1,h2,h3,h4⟩:=hb;unfold maxLen at h2;clear h4 hL;rcases hw with rfl|rfl|rfl|rfl
 .have hr:isW ((1:Nat):Int)=true:=rfl;replace hn:n<256:=hn
  go_enter Tryz.func190, Tryz.ntmps190
  go_wp2_with fail;refine (zBD _ _).mono ?_;rintro e w1 ⟨rfl,rfl⟩;go_wp2_with (at_builtin;refine zCR Tryz.elB yU rfl _ _ rfl w.heap.size _ _ [] l rfl rfl (yA.empty HF.out _ _ _ (λ_=>rfl)) (HB.out.mods ((zss w).alloc _)) (by simp;omega) (by simp) (HF.out.mods ((zA.refl F w).alloc _)) ?_;simp only[uF,uV,wN];intro a1 c1 w1 hO hm1);have HO:=oh hO;have HM:Hid (zG w w1):=oh (zA.past ((zss w).alloc _) hm1);clear hO hm1;go_wp2_with fail;go_loopg [8,1,29] 1 (λm v8 v1 v29 wr=>∃(k q:Nat) (acc:List UInt8) (a:Option Addr) (c:Nat),k+m=1/\v8=.slice a acc.length c/\v1=.int .u64 q/\v29=.int .i64 k/\acc.length=l.length+k/\q<18446744073709551616 /\
   Hid (l++zV 1 n=acc++zV m q)/\Hid (yA F wr w.heap.size 5 1 zO (.slice a acc.length c) acc)/\Hid (zG w wr))
  case atStart=>exact⟨0,n,l,a1,c1,rfl,rfl,rfl,rfl,rfl,by omega,oh rfl,HO,HM⟩
  case round =>
   obtain⟨k,q,acc,a2,c2,hk,rfl,rfl,rfl,hlen2,hq,HQ,HO2,HM2⟩:=hrel;by_cases hlt:k<1
   .obtain⟨m,rfl⟩:∃m,gk=m+1:=⟨gk-1,by omega⟩;have HF2:Hid (Bd F wr):=oh (HF.out.mods HM2.out);have hz2:=HM2.out.size;go_wp2_with (at_builtin;refine zCR Tryz.elB yU rfl _ _ rfl w.heap.size _ _ acc [UInt8.ofNat q] rfl rfl (HO2.out.ext ((zss wr).alloc _)) (zFr HF2.out q _) (by simp;omega) (by simp;omega) (HF2.out.mods ((zA.refl F wr).alloc _)) ?_;simp only[uD,uF,uV];intro a3 c3 w3 hO3 hm3);have HO3:=oh hO3;have HM3:Hid (zG w w3):=oh (zA.past (HM2.out.alloc _) hm3);clear hO3 hm3;go_wp2_with fail;go_roundg m
    case measure=>omega
    case rel=>exact⟨k+1,q / 256,acc++[UInt8.ofNat q],a3,c3,by omega,by simp[hlen2],by go_num,by go_num,by simp;omega,by omega,oh (by rw[HQ.out];simp[zV]),by simpa using HO3,HM3⟩
   .obtain rfl:gk=0:=by omega
    have he:acc=l++zV 1 n:=by have:=HQ.out;simpa[zV] using this.symm
    have HO3:=HO2.out;rw[he] at HO3;have HO4:=oh HO3;have hl4:acc.length=l.length+1:=by omega
    clear HO3 he;go_wp2_with fail;go_ret2
    have e:Value.slice a2 (l.length+1) c2=.slice a2 acc.length c2:=by rw[hl4]
    exact⟨a2,c2,by rw[e];rfl,by simpa[zV] using HO4.out,HM2.out⟩
 .have hr:isW ((2:Nat):Int)=true:=rfl;replace hn:n<65536:=hn
  go_enter Tryz.func190, Tryz.ntmps190
  go_wp2_with fail;refine (zBD _ _).mono ?_;rintro e w1 ⟨rfl,rfl⟩;go_wp2_with (at_builtin;refine zCR Tryz.elB yU rfl _ _ rfl w.heap.size _ _ [] l rfl rfl (yA.empty HF.out _ _ _ (λ_=>rfl)) (HB.out.mods ((zss w).alloc _)) (by simp;omega) (by simp) (HF.out.mods ((zA.refl F w).alloc _)) ?_;simp only[uF,uV,wN];intro a1 c1 w1 hO hm1);have HO:=oh hO;have HM:Hid (zG w w1):=oh (zA.past ((zss w).alloc _) hm1);clear hO hm1;go_wp2_with fail;go_loopg [8,1,29] 2 (λm v8 v1 v29 wr=>∃(k q:Nat) (acc:List UInt8) (a:Option Addr) (c:Nat),k+m=2/\v8=.slice a acc.length c/\v1=.int .u64 q/\v29=.int .i64 k/\acc.length=l.length+k/\q<18446744073709551616 /\
   Hid (l++zV 2 n=acc++zV m q)/\Hid (yA F wr w.heap.size 5 1 zO (.slice a acc.length c) acc)/\Hid (zG w wr))
  case atStart=>exact⟨0,n,l,a1,c1,rfl,rfl,rfl,rfl,rfl,by omega,oh rfl,HO,HM⟩
  case round =>
   obtain⟨k,q,acc,a2,c2,hk,rfl,rfl,rfl,hlen2,hq,HQ,HO2,HM2⟩:=hrel;by_cases hlt:k<2
   .obtain⟨m,rfl⟩:∃m,gk=m+1:=⟨gk-1,by omega⟩;have HF2:Hid (Bd F wr):=oh (HF.out.mods HM2.out);have hz2:=HM2.out.size;go_wp2_with (at_builtin;refine zCR Tryz.elB yU rfl _ _ rfl w.heap.size _ _ acc [UInt8.ofNat q] rfl rfl (HO2.out.ext ((zss wr).alloc _)) (zFr HF2.out q _) (by simp;omega) (by simp;omega) (HF2.out.mods ((zA.refl F wr).alloc _)) ?_;simp only[uD,uF,uV];intro a3 c3 w3 hO3 hm3);have HO3:=oh hO3;have HM3:Hid (zG w w3):=oh (zA.past (HM2.out.alloc _) hm3);clear hO3 hm3;go_wp2_with fail;go_roundg m
    case measure=>omega
    case rel=>exact⟨k+1,q / 256,acc++[UInt8.ofNat q],a3,c3,by omega,by simp[hlen2],by go_num,by go_num,by simp;omega,by omega,oh (by rw[HQ.out];simp[zV]),by simpa using HO3,HM3⟩
   .obtain rfl:gk=0:=by omega
    have he:acc=l++zV 2 n:=by have:=HQ.out;simpa[zV] using this.symm
    have HO3:=HO2.out;rw[he] at HO3;have HO4:=oh HO3;have hl4:acc.length=l.length+2:=by omega
    clear HO3 he;go_wp2_with fail;go_ret2
    have e:Value.slice a2 (l.length+2) c2=.slice a2 acc.length c2:=by rw[hl4]
    exact⟨a2,c2,by rw[e];rfl,by simpa[zV] using HO4.out,HM2.out⟩
 .have hr:isW ((4:Nat):Int)=true:=rfl;replace hn:n<4294967296:=hn
  go_enter Tryz.func190, Tryz.ntmps190
  go_wp2_with fail;refine (zBD _ _).mono ?_;rintro e w1 ⟨rfl,rfl⟩;go_wp2_with (at_builtin;refine zCR Tryz.elB yU rfl _ _ rfl w.heap.size _ _ [] l rfl rfl (yA.empty HF.out _ _ _ (λ_=>rfl)) (HB.out.mods ((zss w).alloc _)) (by simp;omega) (by simp) (HF.out.mods ((zA.refl F w).alloc _)) ?_;simp only[uF,uV,wN];intro a1 c1 w1 hO hm1);have HO:=oh hO;have HM:Hid (zG w w1):=oh (zA.past ((zss w).alloc _) hm1);clear hO hm1;go_wp2_with fail;go_loopg [8,1,29] 4 (λm v8 v1 v29 wr=>∃(k q:Nat) (acc:List UInt8) (a:Option Addr) (c:Nat),k+m=4/\v8=.slice a acc.length c/\v1=.int .u64 q/\v29=.int .i64 k/\acc.length=l.length+k/\q<18446744073709551616 /\
   Hid (l++zV 4 n=acc++zV m q)/\Hid (yA F wr w.heap.size 5 1 zO (.slice a acc.length c) acc)/\Hid (zG w wr))
  case atStart=>exact⟨0,n,l,a1,c1,rfl,rfl,rfl,rfl,rfl,by omega,oh rfl,HO,HM⟩
  case round =>
   obtain⟨k,q,acc,a2,c2,hk,rfl,rfl,rfl,hlen2,hq,HQ,HO2,HM2⟩:=hrel;by_cases hlt:k<4
   .obtain⟨m,rfl⟩:∃m,gk=m+1:=⟨gk-1,by omega⟩;have HF2:Hid (Bd F wr):=oh (HF.out.mods HM2.out);have hz2:=HM2.out.size;go_wp2_with (at_builtin;refine zCR Tryz.elB yU rfl _ _ rfl w.heap.size _ _ acc [UInt8.ofNat q] rfl rfl (HO2.out.ext ((zss wr).alloc _)) (zFr HF2.out q _) (by simp;omega) (by simp;omega) (HF2.out.mods ((zA.refl F wr).alloc _)) ?_;simp only[uD,uF,uV];intro a3 c3 w3 hO3 hm3);have HO3:=oh hO3;have HM3:Hid (zG w w3):=oh (zA.past (HM2.out.alloc _) hm3);clear hO3 hm3;go_wp2_with fail;go_roundg m
    case measure=>omega
    case rel=>exact⟨k+1,q / 256,acc++[UInt8.ofNat q],a3,c3,by omega,by simp[hlen2],by go_num,by go_num,by simp;omega,by omega,oh (by rw[HQ.out];simp[zV]),by simpa using HO3,HM3⟩
   .obtain rfl:gk=0:=by omega
    have he:acc=l++zV 4 n:=by have:=HQ.out;simpa[zV] using this.symm
    have HO3:=HO2.out;rw[he] at HO3;have HO4:=oh HO3;have hl4:acc.length=l.length+4:=by omega
    clear HO3 he;go_wp2_with fail;go_ret2
    have e:Value.slice a2 (l.length+4) c2=.slice a2 acc.length c2:=by rw[hl4]
    exact⟨a2,c2,by rw[e];rfl,by simpa[zV] using HO4.out,HM2.out⟩
 .have hr:isW ((8:Nat):Int)=true:=rfl;replace hn:n<18446744073709551616:=hn
  go_enter Tryz.func190, Tryz.ntmps190
  go_wp2_with fail;refine (zBD _ _).mono ?_;rintro e w1 ⟨rfl,rfl⟩;go_wp2_with (at_builtin;refine zCR Tryz.elB yU rfl _ _ rfl w.heap.size _ _ [] l rfl rfl (yA.empty HF.out _ _ _ (λ_=>rfl)) (HB.out.mods ((zss w).alloc _)) (by simp;omega) (by simp) (HF.out.mods ((zA.refl F w).alloc _)) ?_;simp only[uF,uV,wN];intro a1 c1 w1 hO hm1);have HO:=oh hO;have HM:Hid (zG w w1):=oh (zA.past ((zss w).alloc _) hm1);clear hO hm1;go_wp2_with fail;go_loopg [8,1,29] 8 (λm v8 v1 v29 wr=>∃(k q:Nat) (acc:List UInt8) (a:Option Addr) (c:Nat),k+m=8/\v8=.slice a acc.length c/\v1=.int .u64 q/\v29=.int .i64 k/\acc.length=l.length+k/\q<18446744073709551616 /\
   Hid (l++zV 8 n=acc++zV m q)/\Hid (yA F wr w.heap.size 5 1 zO (.slice a acc.length c) acc)/\Hid (zG w wr))
  case atStart=>exact⟨0,n,l,a1,c1,rfl,rfl,rfl,rfl,rfl,by omega,oh rfl,HO,HM⟩
  case round =>
   obtain⟨k,q,acc,a2,c2,hk,rfl,rfl,rfl,hlen2,hq,HQ,HO2,HM2⟩:=hrel;by_cases hlt:k<8
   .obtain⟨m,rfl⟩:∃m,gk=m+1:=⟨gk-1,by omega⟩;have HF2:Hid (Bd F wr):=oh (HF.out.mods HM2.out);have hz2:=HM2.out.size;go_wp2_with (at_builtin;refine zCR Tryz.elB yU rfl _ _ rfl w.heap.size _ _ acc [UInt8.ofNat q] rfl rfl (HO2.out.ext ((zss wr).alloc _)) (zFr HF2.out q _) (by simp;omega) (by simp;omega) (HF2.out.mods ((zA.refl F wr).alloc _)) ?_;simp only[uD,uF,uV];intro a3 c3 w3 hO3 hm3);have HO3:=oh hO3;have HM3:Hid (zG w w3):=oh (zA.past (HM2.out.alloc _) hm3);clear hO3 hm3;go_wp2_with fail;go_roundg m
    case measure=>omega
    case rel=>exact⟨k+1,q / 256,acc++[UInt8.ofNat q],a3,c3,by omega,by simp[hlen2],by go_num,by go_num,by simp;omega,by omega,oh (by rw[HQ.out];simp[zV]),by simpa using HO3,HM3⟩
   .obtain rfl:gk=0:=by omega
    have he:acc=l++zV 8 n:=by have:=HQ.out;simpa[zV] using this.symm
    have HO3:=HO2.out;rw[he] at HO3;have HO4:=oh HO3;have hl4:acc.length=l.length+8:=by omega
    clear HO3 he;go_wp2_with fail;go_ret2
    have e:Value.slice a2 (l.length+8) c2=.slice a2 acc.length c2:=by rw[hl4]
    exact⟨a2,c2,by rw[e];rfl,by simpa[zV] using HO4.out,HM2.out⟩
def yO(l:List UInt8)(at_:Int)(W:Nat):Nat × Option Err :=
 if at_<0\/(l.length:Int)<at_ then (0,some ([-1],2)) else if (l.length:Int)-at_<W then (0,some ([-1],1)) else (zBp ((l.drop at_.toNat).take W),none)
theorem zDX{F:NP}{ad:Nat->Addr}{w:World}(hL:yE F ad w)(bv:Value)(l:List UInt8)(hb:Sl F w 1 zO bv l)(p:Int)(W:Nat)(hw:W=1\/W=2\/W=4\/W=8) :
  Calls Tryz.prog 209 #[bv,.int .i64 p,.int .i64 (W:Int)] w λe w'=>∃ev,e=.returned (.tuple #[.int .u64 ((yO l p W).1:Nat),ev])/\zCa F ad w' ev (yO l p W).2/\zG w w':=by
 have HL:=oh hL;have g1:=hL.c1;have g2:=hL.c2;obtain⟨a,cap,rfl,h1,h2,h3,h4⟩:=hb;unfold maxLen at h2;clear hL;have hr:isW (W:Int)=true:=by rcases hw with rfl|rfl|rfl|rfl <;> rfl
 have HW:=oh hw;have hW:W<=8:=by omega
 have hW1:1<=W:=by omega
 clear hw;by_cases hc:p<0\/(l.length:Int)<p
 .have HT:Hid (yO l p W=(0,some ([-1],2))):=oh (by unfold yO;rw[if_pos hc]);by_cases h0:p<0
  .clear hc
   go_enter Tryz.func209, Tryz.ntmps209
   go_wp2_with fail;refine (zBD _ _).mono ?_;rintro e w1 ⟨rfl,rfl⟩;go_wp2_with fail;refine (yR HL.out _ _ _ 2 (.sent 2 (by decide) (by decide))).mono ?_;rintro e w1 ⟨f,rfl,hE,hm⟩;have HE:=oh hE;clear hE;go_wp2
   go_ret2
   exact⟨_,by rw[HT.out];rfl,by rw[HT.out];exact⟨f,rfl,HE.out⟩,hm⟩
  .have h5:(l.length:Int)<p:=by omega
   clear hc
   go_enter Tryz.func209, Tryz.ntmps209
   go_wp2_with fail;refine (zBD _ _).mono ?_;rintro e w1 ⟨rfl,rfl⟩;go_wp2_with fail;refine (yR HL.out _ _ _ 2 (.sent 2 (by decide) (by decide))).mono ?_;rintro e w1 ⟨f,rfl,hE,hm⟩;have HE:=oh hE;clear hE;go_wp2
   go_ret2
   exact⟨_,by rw[HT.out];rfl,by rw[HT.out];exact⟨f,rfl,HE.out⟩,hm⟩
 .have hp:0<=p:=by omega
  obtain⟨q,rfl⟩:∃q:Nat,p=q:=⟨p.toNat,by omega⟩;have hq:q<=l.length:=by omega
  by_cases hc2:(l.length:Int)-q<W
  .have HT:Hid (yO l q W=(0,some ([-1],1))):=oh (by unfold yO;rw[if_neg hc,if_pos hc2]);clear hc
   go_enter Tryz.func209, Tryz.ntmps209
   go_wp2_with fail;refine (zBD _ _).mono ?_;rintro e w1 ⟨rfl,rfl⟩;go_wp2_with fail;refine (yR HL.out _ _ _ 1 (.sent 1 (by decide) (by decide))).mono ?_;rintro e w1 ⟨f,rfl,hE,hm⟩;have HE:=oh hE;clear hE;go_wp2
   go_ret2
   exact⟨_,by rw[HT.out];rfl,by rw[HT.out];exact⟨f,rfl,HE.out⟩,hm⟩
  .have HT:Hid (yO l q W=(zBp ((l.drop q).take W),none)):=oh (by unfold yO;rw[if_neg hc,if_neg hc2,uK]);have hqW:q+W<=l.length:=by omega
   clear hc hc2
   go_enter Tryz.func209, Tryz.ntmps209
   go_wp2_with fail;refine (zBD _ _).mono ?_;rintro e w1 ⟨rfl,rfl⟩;go_wp2_with fail;go_loopg [8,9] W (λm n i wr=>∃x:Nat,wr=w/\m<=W/\i=.int .i64 ((m:Int)-1)/\n=.int .u64 (x:Int)/\Hid (x=zBp ((l.drop (q+m)).take (W-m))))
   case atStart=>exact⟨0,rfl,by omega,rfl,rfl,oh (by simp[zBp])⟩
   case round =>
    obtain⟨x,rfl,hmW,rfl,rfl,HX⟩:=hrel;by_cases h0:0<gk
    .obtain⟨m,rfl⟩:∃m,gk=m+1:=⟨gk-1,by omega⟩;have hlt:q+m<l.length:=by omega
     obtain⟨b,off,rfl,hb,hF,hc⟩:=Sl.atE h4 zr (q+m) hlt;obtain⟨y,hy⟩:∃y,y=l[q+m]:=⟨_,rfl⟩;have hc0:=hc 0 (.int .u8 (y.toNat:Int)) (by rw[hy];rfl);simp only[uY,uO] at hc0;have hy8:y.toNat<256:=y.toNat_lt;have hS:=zHW l q m W y (by omega) (by rw[hy];simp[hlt]);have hx56:x<72057594037927936:=by
      have h1:=zJ9 l q (m+1) W;rw[<- HX.out] at h1;exact uG h1 (wW (n:=256) (by decide) (show W-(m+1)<=7 by omega))
     rw[<- HX.out] at hS;have HS:=oh hS;have hor:bits .or .u64 ((x:Int) * 256) (y.toNat:Int)=((x * 256+y.toNat:Nat):Int):=by
      have h1:=u64_or_nat (x * 256) y.toNat (by omega) (by omega);rw[nat_join 8 (x * 256) y.toNat (by omega) (by omega)] at h1;simpa using h1
     have hm1:(((m+1:Nat):Int)-1)=(m:Int):=by omega
     rw[hm1];clear hc hy hS h4 hm1;go_wp2_with fail;go_roundg m
     case measure=>omega
     case rel=>exact⟨x * 256+y.toNat,rfl,by omega,by go_num,rfl,oh HS.out.symm⟩
    .obtain rfl:gk=0:=by omega
     have hm1:(((0:Nat):Int)-1) = -1:=by omega
     rw[hm1];clear hm1 h0 hmW h4;have HX2:Hid (x=zBp ((l.drop q).take W)):=HX;go_wp2_with fail;go_ret2
     exact⟨_,by rw[HT.out,<- HX2.out];rfl,by rw[HT.out];rfl,zA.refl _ _⟩
theorem zOn{F:NP}{w:World}(hF:Bd F w)(bv:Value)(l:List UInt8)(hb:Sl F w 1 zO bv l) :
  Calls Tryz.prog 377 #[bv] w λe w'=>∃a c,e=.returned (.slice a l.length c)/\yA F w' w.heap.size 5 1 zO (.slice a l.length c) l/\zG w w':=by
 have HB:=oh hb;have HF:=oh hF;obtain⟨a,cap,rfl,h1,h2,h3,h4⟩:=hb;unfold maxLen at h2;have hq:=λ(a:Option Addr) (n:Nat) (w:World)=>Go.Lib.run_eql_slice_nil (P:=Tryz.prog) w 27 5 a n cap 0 0 Tryz.underlying27
 match a,h4 with
 | none,h4 =>
  have hl:l=[]:=by
   rcases h4 with h|⟨_,_,h,_⟩
   .exact h
   .cases h
  subst hl;clear h4 hF
  go_enter Tryz.func377, Tryz.ntmps377
  go_wp2_with fail;go_ret;exact⟨none,0,rfl,yA.nil _ _ _ _ _ _,zA.refl _ _⟩
 | some ad,h4 =>
  clear h4 hF
  go_enter Tryz.func377, Tryz.ntmps377
  go_wp2_with (at_builtin;go_loud (refine zCR Tryz.elB yU rfl _ _ rfl w.heap.size _ _ [] l rfl rfl (yA.empty HF.out _ _ _ (λ_=>rfl)) (HB.out.mods ((zss w).alloc _)) (by simp;omega) (by simp) (HF.out.mods ((zA.refl F w).alloc _)) ?_);simp only[uF,uV,wN];intro a1 c1 w1 hO hm1);have HO:=oh hO;have HM:Hid (zG w w1):=oh (zA.past ((zss w).alloc _) hm1);clear hO hm1;go_wp2_with fail;go_ret;exact⟨a1,c1,rfl,HO.out,HM.out⟩
theorem zCx{F G:NP}{w:World}(av bv:Value)(l m:List UInt8)(ha:Sl F w 1 zO av l)(hb:Sl G w 1 zO bv m) :
  Calls Tryz.prog 297 #[av,bv] w λe w'=>e=.returned (.bool (decide (l=m)))/\zG w w':=by
 obtain⟨a,cap,rfl,h1,h2,h3,h4⟩:=ha;obtain⟨b,cap2,rfl,i1,i2,i3,i4⟩:=hb;unfold maxLen at h2 i2;have H4:=oh h4;have I4:=oh i4;clear h4 i4;by_cases hl:l.length=m.length
 .obtain⟨n,hn⟩:∃n,n=l.length:=⟨_,rfl⟩;rw[<- hl,<- hn] at i1 i3 ⊢;rw[<- hn] at h1 h3;have N1:Hid (n=l.length):=oh hn;have N2:Hid (n=m.length):=oh (hn.trans hl);clear hn hl
  go_enter Tryz.func297, Tryz.ntmps297
  go_wp2_with fail;go_loopg [13] n (λq v13 wr=>∃k:Nat,k+q=n/\v13=.int .i64 k/\Hid (l.take k=m.take k)/\Hid (zG w wr))
  case atStart=>exact⟨0,by omega,rfl,oh rfl,oh zr⟩
  case round =>
   obtain⟨k,hk,rfl,HQ,HM⟩:=hrel;by_cases hltn:k<n
   .have hlt:k<l.length:=by have:=N1.out;omega
    have hlt2:k<m.length:=by have:=N2.out;omega
    obtain⟨b1,off1,rfl,hb1,hF1,hc1⟩:=Sl.atE H4.out HM.out k hlt;obtain⟨b2,off2,rfl,hb2,hF2,hc2⟩:=Sl.atE I4.out HM.out k hlt2;obtain⟨x,hx⟩:∃x,x=l[k]:=⟨_,rfl⟩;obtain⟨y,hy⟩:∃y,y=m[k]:=⟨_,rfl⟩;have d1:=hc1 0 (.int .u8 (x.toNat:Int)) (by rw[hx];rfl);have d2:=hc2 0 (.int .u8 (y.toNat:Int)) (by rw[hy];rfl);simp only[uY,uO] at d1 d2;have hx8:x.toNat<256:=x.toNat_lt;have hy8:y.toNat<256:=y.toNat_lt;have hx2:l[k]? = some x:=by rw[hx];simp[hlt]
    have hy2:m[k]? = some y:=by rw[hy];simp[hlt2]
    have HT:Hid (x=y->l.take (k+1)=m.take (k+1)):=oh (λe=>by rw[qD l k x hx2,qD m k y hy2,HQ.out,e]);have HN:Hid (x≠y->decide (l=m)=false):=oh (λe=>by
     rw[decide_eq_false_iff_not];intro h;rw[h,hy2] at hx2;injection hx2 with h5;exact e h5.symm)
    clear hc1 hc2 hx hy hx2 hy2 hlt hlt2;by_cases hxy:x=y
    .subst hxy;go_wp2_with fail;go_region
     go_wp2_with fail;go_roundg (gk-1)
     case measure=>omega
     case rel=>exact⟨k+1,by omega,by go_num,oh (HT.out (by first|rfl|trivial)),oh HM.out.drew⟩
    .have hne:x.toNat≠y.toNat:=λe=>hxy (UInt8.toNat_inj.1 e)
     have HN2:=oh (HN.out hxy);clear hxy;go_wp2_with fail;go_region
     go_wp2_with fail;go_ret;exact⟨zY HN2.out.symm,HM.out.drew⟩
   .have he:Hid (decide (l=m)=true):=oh (by
     have:=HQ.out;have n1:=N1.out;have n2:=N2.out;rw[wB (by omega),wB (by omega)] at this;simp[this])
    go_wp2_with fail;go_ret;exact⟨zY he.out.symm,HM.out⟩
 .have he:Hid (decide (l=m)=false):=oh (by rw[decide_eq_false_iff_not];intro h;exact hl (by rw[h]))
  go_enter Tryz.func297, Tryz.ntmps297
  go_wp2_with fail;go_ret;exact⟨zY he.out.symm,zA.refl _ _⟩
def yD(F:NP)(R:Nat):NP:=λk=>F k\/k=R
section
variable {F:NP}{ad:Nat->Addr}{w w':World}{R:Nat}
theorem yE.withR(h:yE F ad w)(m:zG w w')(hz:w.heap.size<w'.heap.size):yE (yD F w.heap.size) ad w' :=
 h.step m.ext (λk hk hF hG=>by rcases hG with g|g;exact hF g;omega) (λk hk=>by
  rcases hk with g|g
  .exact Nat.lt_trans (h.lt k g) hz
  .omega)
theorem Sl.withR{α:Type}{sz:Nat}{enc:α->List Value}{v:Value}{l:List α}(h:Sl F w sz enc v l)(m:zG w w'):Sl (yD F w.heap.size) w' sz enc v l :=
 h.step m.ext (λk hk hF hG=>by rcases hG with g|g;exact hF g;omega)
theorem yN.unR{v:Value}{l:List Int}{k:Nat}(h:yN (yD F R) ad w v l k)(m:zA (yD F R) w w'):yN F ad w' v l k:=h.step m (λ_ _ hF hG=>hF (.inl hG))
theorem Sl.unR{α:Type}{sz:Nat}{enc:α->List Value}{v:Value}{l:List α}(h:Sl (yD F R) w sz enc v l)(m:zA (yD F R) w w'):Sl F w' sz enc v l:=h.step m (λ_ _ hF hG=>hF (.inl hG))
end
structure Stp(P P':NP)(w w':World):Prop where
 mods:zA P w w'
 old:∀k,k<w.heap.size->P' k->P k
 bd:Bd P' w'
section
variable {P P' P1 P2 Q F F' F1 F2:NP}{ad:Nat->Addr}{w w' w1 w2:World}
theorem Stp.trans(a:Stp P P1 w w1)(b:Stp P1 P2 w1 w2):Stp P P2 w w2 :=
 ⟨a.mods.trans' b.mods (λi hi h=>a.old i hi h),λk hk h=>a.old k hk (b.old k (uG hk a.mods.size) h),b.bd⟩
theorem Stp.ext(h:Bd P w)(m:zG w w'):Stp P P w w':=⟨m.ext,λ_ _ h=>h,h.mods m⟩
theorem Stp.same(h:Bd P w)(m:zA P w w'):Stp P P w w':=⟨m,λ_ _ h=>h,h.mods m⟩
theorem Stp.frame(s:Stp P P' w w')(hQ:Bd Q w):Stp (λk=>P k\/Q k) (λk=>P' k\/Q k) w w' :=
 ⟨s.mods.mono (λ_ h=>.inl h),λk hk h=>h.elim (λh=>.inl (s.old k hk h)) .inr,λk h=>h.elim (λh=>s.bd k h) (λh=>uG (hQ k h) s.mods.size)⟩
structure zU(P P' F F':NP)(ad:Nat->Addr)(w w':World):Prop where
 stp:Stp P P' w w'
 sub:∀k,P' k->F' k
 grow:∀k,F k->F' k
 oldF:∀k,k<w.heap.size->F' k->F k
 env:yE F' ad w'
theorem zU.trans(a:zU P P1 F F1 ad w w1)(b:zU P1 P2 F1 F2 ad w1 w2):zU P P2 F F2 ad w w2 :=
 ⟨a.stp.trans b.stp,b.sub,λk h=>b.grow k (a.grow k h),λk hk h=>a.oldF k hk (b.oldF k (uG hk a.stp.mods.size) h),b.env⟩
theorem zU.ext(hL:yE F ad w)(hP:∀k,P k->F k)(m:zG w w'):zU P P F F ad w w' :=
 ⟨Stp.ext (λk h=>hL.lt k (hP k h)) m,hP,λ_ h=>h,λ_ _ h=>h,hL.mods m.ext⟩
theorem zU.refl(hL:yE F ad w)(hP:∀k,P k->F k):zU P P F F ad w w:=zU.ext hL hP zr
theorem zU.same(hL:yE F ad w)(hP:∀k,P k->F k)(m:zA P w w'):zU P P F F ad w w' :=
 ⟨Stp.same (λk h=>hL.lt k (hP k h)) m,hP,λ_ h=>h,λ_ _ h=>h,hL.mods (m.mono hP)⟩
theorem zU.of(hL:yE F ad w)(hP:∀k,P k->F k)(s:Stp P P' w w'):zU P P' F (λk=>F k\/P' k) ad w w' :=
 ⟨s,λ_ h=>.inr h,λ_ h=>.inl h,λk hk h=>h.elim id (λh=>hP k (s.old k hk h)),
  hL.step (s.mods.mono hP) (λk hk hn h=>hn (h.elim id (λh=>hP k (s.old k hk h)))) (λk h=>h.elim (λh=>uG (hL.lt k h) s.mods.size) (λh=>s.bd k h))⟩
theorem zU.part(n:zU P P' F F' ad w w')(hQ:∀k,Q k->F k)(hL:yE F ad w):zU (λk=>P k\/Q k) (λk=>P' k\/Q k) F F' ad w w' :=
 ⟨n.stp.frame (λk h=>hL.lt k (hQ k h)),λk h=>h.elim (n.sub k) (λh=>n.grow k (hQ k h)),n.grow,n.oldF,n.env⟩
theorem zU.subP(n:zU P P' F F' ad w w')(hPF:∀k,P k->F k):zA F w w':=n.stp.mods.mono hPF
theorem zU.sl{α:Type}{sz:Nat}{enc:α->List Value}{v:Value}{l:List α}(n:zU P P' F F' ad w w')(hPF:∀k,P k->F k)(h:Sl F w sz enc v l):Sl F' w' sz enc v l :=
 h.step (n.subP hPF) (λk hk hn h'=>hn (n.oldF k hk h'))
theorem zU.errc{v:Value}{l:List Int}{k:Nat}(n:zU P P' F F' ad w w')(hPF:∀k,P k->F k)(h:yN F ad w v l k):yN F' ad w' v l k :=
 h.step (n.subP hPF) (λk hk hn h'=>hn (n.oldF k hk h'))
theorem zU.blk{b:Nat}{c:Array Value}{t:TypeId}(n:zU P P' F F' ad w w')(h:zK w b c t)(hb:¬ P b):zK w' b c t:=h.mods n.stp.mods hb
theorem zU.not{b:Nat}(n:zU P P' F F' ad w w')(hb:b<w.heap.size)(h:¬ P b):¬ P' b:=λh'=>h (n.stp.old b hb h')
theorem zU.size(n:zU P P' F F' ad w w'):w.heap.size<=w'.heap.size:=n.stp.mods.size
theorem Sl.anti'{α:Type}{sz:Nat}{enc:α->List Value}{v:Value}{l:List α}(h:Sl F w sz enc v l)(hG:∀k,Q k->F k):Sl Q w sz enc v l:=h.anti (λk _=>hG k)
theorem yE.anti(h:yE F ad w)(hG:∀k,Q k->F k):yE Q ad w:=h.step zr (λk _ hn hq=>hn (hG k hq)) (λk hk=>h.lt k (hG k hk))
end
def zDC(l:List Nat):Array Value:=(l.map λn=>.int .i64 (n:Int)).toArray
structure SpR(w:World)(b b2:Nat)(l:List Nat):Prop where
 own:zK w b #[.slice (some ⟨b2,0,none⟩) l.length l.length] 238
 row:zK w b2 (zDC l) 3
 ne:b≠b2
 len:8<=l.length
 len2:l.length<=256
abbrev spF(b b2:Nat):NP:=λk=>k=b\/k=b2
theorem zDn(l:List Nat)(i:Nat)(x:Nat)(h:l[i]? = some x):(zDC l)[i]? = some (.int .i64 (x:Int)):=by
 simp[zDC,h]
theorem zK3(l:List Nat)(i x:Nat):(zDC l).setIfInBounds i (.int .i64 (x:Int))=zDC (l.set i x):=by
 simp[zDC,List.map_set]
section
variable {F:NP}{w w':World}{b b2:Nat}{l:List Nat}
theorem SpR.mods(h:SpR w b b2 l)(m:zA F w w')(h1:¬ F b)(h2:¬ F b2):SpR w' b b2 l:=⟨h.own.mods m h1,h.row.mods m h2,h.ne,h.len,h.len2⟩
theorem SpR.drew(h:SpR w b b2 l):SpR w.drew b b2 l:=⟨h.own.drew,h.row.drew,h.ne,h.len,h.len2⟩
theorem SpR.set(h:SpR w b b2 l)(i x:Nat):SpR (w.setCell ⟨b2,i,none⟩ (.int .i64 (x:Int))) b b2 (l.set i x) :=
 ⟨by rw[tG];exact h.own.set_other h.ne _,by rw[<- zK3];exact h.row.set i _,h.ne,by rw[tG];exact h.len,by rw[tG];exact h.len2⟩
end
def qN(l:List Nat):Option Nat:=l.findIdx? (· == 0)
theorem zGy{l:List Nat}{k:Nat}(h:∀j,j<k->l[j]? ≠ some 0)(hk:l[k]? = some 0):qN l=some k:=by
 unfold qN;rw[List.findIdx?_eq_some_iff_getElem];obtain⟨hlt,he⟩:=uB.1 hk;refine⟨hlt,by simp[he],λj hj=>?_⟩;have:=h j hj;rw[uA (by omega)] at this;simpa using this
theorem zK4{l:List Nat}(h:∀j,j<l.length->l[j]? ≠ some 0):qN l=none:=by
 unfold qN;rw[List.findIdx?_eq_none_iff];intro x hx;obtain⟨j,hj,rfl⟩:=wI hx;have:=h j hj;rw[uA (by omega)] at this;simpa using this
theorem zMt{F:NP}{ad:Nat->Addr}{w:World}(hL:yE F ad w)(b b2:Nat)(l:List Nat)(h:SpR w b b2 l) :
  Calls Tryz.prog 343 #[.pointer (some ⟨b,0,none⟩)] w λe w' =>
   (∃i,qN l=some i/\i<l.length/\e=.returned (.tuple #[.int .i64 (i:Int),.nilIface])/\SpR w' b b2 (l.set i 2)/\zA (spF b b2) w w') \/
   (qN l=none/\∃f,e=.returned (.tuple #[.int .i64 0,zI f])/\yN F ad w' (zI f) [-1] 3/\zG w w'):=by
 have c0:=h.own.d 0 (.slice (some ⟨b2,0,none⟩) l.length l.length) rfl;have hl:=h.len;have hl2:=h.len2;have hfr:=h.row.frozen;have HS:=oh h;have g3:=hL.c3;have HL:=oh hL;clear h hL
 go_enter Tryz.func343, Tryz.ntmps343
 go_wp2
 go_loopg [15] l.length (λm i wr=>∃k:Nat,wr=w/\k+m=l.length/\i=.int .i64 k/\Hid (∀j,j<k->l[j]? ≠ some 0))
 case atStart=>exact⟨0,rfl,by omega,rfl,oh (by omega)⟩
 case round =>
  obtain⟨k,rfl,hk,rfl,HQ⟩:=hrel;by_cases hlt:k<l.length
  .obtain⟨x,hx⟩:∃x,x=l[k]:=⟨_,rfl⟩;have hx2:l[k]? = some x:=by rw[hx];simp[hlt]
   have hc:=HS.out.row.cell (zDn l k x hx2);have hf:=hfr k;have HX:=oh hx2;clear hx hx2;by_cases hx0:x=0
   .subst hx0;go_wp2
    go_ret2
    exact .inl ⟨k,zGy HQ.out HX.out,hlt,rfl,HS.out.set k 2,zA.at _ _ b2 k _ (.inr rfl)⟩
   .go_wp2
    go_roundg (gk-1)
    case measure=>omega
    case rel=>exact⟨k+1,rfl,by omega,by go_num,oh (λj hj=>by
     by_cases e:j=k
     .subst e;rw[HX.out];simpa using hx0
     .exact HQ.out j (by omega))⟩
  .go_wp2_with fail;refine (yR HL.out _ _ _ 3 (.sent 3 (by decide) (by decide))).mono ?_;rintro e w1 ⟨f,rfl,hE,hm⟩;have HE:=oh hE;clear hE;go_wp2
   go_ret2
   exact .inr ⟨zK4 (by have:=HQ.out;rwa [show k=l.length by omega] at this),f,rfl,HE.out,hm⟩
def vL(l:List Nat)(id:Int):Option Err:=if id<2\/(l.length:Int)<=id then some ([zBq id],2) else none
theorem zDD{F:NP}{ad:Nat->Addr}{w:World}(hL:yE F ad w)(b b2:Nat)(l:List Nat)(h:SpR w b b2 l)(op:ByteArray)(id:Int) :
  Calls Tryz.prog 153 #[.pointer (some ⟨b,0,none⟩),.string op,.int .i64 id] w λe w'=>∃ev,e=.returned ev/\zCa F ad w' ev (vL l id)/\zG w w':=by
 have c0:=h.own.d 0 (.slice (some ⟨b2,0,none⟩) l.length l.length) rfl;have hl:=h.len;have hl2:=h.len2;have g2:=hL.c2;have HL:=oh hL;clear h hL;by_cases h1:id<2\/(l.length:Int)<=id
 .have HR:Hid (vL l id=some ([zBq id],2)):=oh (by unfold vL;rw[if_pos h1]);by_cases h2:id<2
  .clear h1
   go_enter Tryz.func153, Tryz.ntmps153
   go_wp2_with fail;refine (jY HL.out _ _ _ _ 2 (.sent 2 (by decide) (by decide))).mono ?_;rintro e w1 ⟨f,rfl,hE,hm⟩;have HE:=oh hE;clear hE;go_wp2
   go_ret;exact⟨_,rfl,by rw[HR.out];exact⟨f,rfl,HE.out⟩,hm⟩
  .have h3:(l.length:Int)<=id:=by omega
   clear h1
   go_enter Tryz.func153, Tryz.ntmps153
   go_wp2_with fail;refine (jY HL.out _ _ _ _ 2 (.sent 2 (by decide) (by decide))).mono ?_;rintro e w1 ⟨f,rfl,hE,hm⟩;have HE:=oh hE;clear hE;go_wp2
   go_ret;exact⟨_,rfl,by rw[HR.out];exact⟨f,rfl,HE.out⟩,hm⟩
 .have HR:Hid (vL l id=none):=oh (by unfold vL;rw[if_neg h1]);have h2:2<=id:=by omega
  have h3:id<(l.length:Int):=by omega
  clear h1
  go_enter Tryz.func153, Tryz.ntmps153
  go_wp2
  go_ret;exact⟨_,rfl,by rw[HR.out];rfl,zA.refl _ _⟩
def yZ(l:List Nat)(id:Int):List Nat × Option Err :=
 match vL l id with
 | some e=>(l,some e)
 | none=>if l[id.toNat]? = some 2 then (l.set id.toNat 0,none) else if l[id.toNat]? = some 1 then (l.set id.toNat 3,none) else (l,some ([zBq id],1))
theorem zQK{F:NP}{ad:Nat->Addr}{w:World}(hL:yE F ad w)(b b2:Nat)(l:List Nat)(h:SpR w b b2 l)(id:Int) :
  Calls Tryz.prog 345 #[.pointer (some ⟨b,0,none⟩),.int .i64 id] w λe w' =>
   ∃ev,e=.returned ev/\zCa F ad w' ev (yZ l id).2/\SpR w' b b2 (yZ l id).1/\zA (spF b b2) w w':=by
 have HS:=oh h;have HL:=oh hL;have hl:=h.len;have hl2:=h.len2;clear h hL;cases hc:vL l id with
 | some er =>
  have HR:Hid (yZ l id=(l,some er)):=oh (by unfold yZ;rw[hc])
  go_enter Tryz.func345, Tryz.ntmps345
  go_wp2_with fail;refine (zDD HL.out b b2 l HS.out _ id).mono ?_;rintro e w1 ⟨ev,rfl,hE,hm⟩;rw[hc] at hE;obtain⟨el,ek⟩:=er;obtain⟨f,rfl,hE⟩:=hE;have HE:=oh hE;clear hE hc;go_wp2
  go_ret;exact⟨_,rfl,by rw[HR.out];exact⟨f,rfl,HE.out⟩,by rw[HR.out];exact HS.out.mods hm (λf=>f) (λf=>f),hm.ext⟩
 | none =>
  have hid:2<=id/\id<(l.length:Int):=by
   unfold vL at hc;split at hc
   .cases hc
   .omega
  obtain⟨i,rfl⟩:∃i:Nat,id=i:=⟨id.toNat,by omega⟩;have hlt:i<l.length:=by omega
  obtain⟨x,hx⟩:∃x,l[i]? = some x:=⟨_,uA hlt⟩;have HG:Hid (yZ l i=if x=2 then (l.set i 0,none) else if x=1 then (l.set i 3,none) else (l,some ([zBq i],1))):=oh (by
   unfold yZ;rw[hc];simp only[uK,hx,Option.some.injEq])
  go_enter Tryz.func345, Tryz.ntmps345
  go_wp2_with fail;refine (zDD HL.out b b2 l HS.out _ i).mono ?_;rintro e w1 ⟨ev,rfl,hE,hm⟩;rw[hc] at hE;cases hE
  have HS1:=oh (HS.out.mods hm (λf=>f) (λf=>f));have HL1:=oh (HL.out.mods hm.ext);have c0:=HS1.out.own.d 0 (.slice (some ⟨b2,0,none⟩) l.length l.length) rfl;have c1:=HS1.out.row.cell (zDn l i x hx);have hfr:=HS1.out.row.frozen i;have g1:=HL1.out.c1;clear hx hc;by_cases hx2:x=2
  .subst hx2;rw[if_pos rfl] at HG;go_wp2
   go_ret;exact⟨_,rfl,by rw[HG.out];rfl,by rw[HG.out];exact HS1.out.set i 0,hm.ext.trans (zA.at _ _ b2 i _ (.inr rfl))⟩
  .by_cases hx1:x=1
   .subst hx1;rw[if_neg hx2,if_pos rfl] at HG;clear hx2;go_wp2
    go_ret;exact⟨_,rfl,by rw[HG.out];rfl,by rw[HG.out];exact HS1.out.set i 3,hm.ext.trans (zA.at _ _ b2 i _ (.inr rfl))⟩
   .rw[if_neg hx2,if_neg hx1] at HG;go_wp2_with fail;refine (jY HL1.out _ _ _ _ 1 (.sent 1 (by decide) (by decide))).mono ?_;rintro e w2 ⟨f,rfl,hE,hm2⟩;have HE:=oh hE;clear hE;go_wp2
    go_ret;exact⟨_,rfl,by rw[HG.out];exact⟨f,rfl,HE.out⟩,by rw[HG.out];exact HS1.out.mods hm2 (λf=>f) (λf=>f),(hm.trans hm2).ext⟩
def zHQ(l:List Nat):Nat:=l.countP (· == 0)
theorem Tryz.mkI:(Tryz.prog.info? 3).map (λi=>(i.zero,i.size,i.bytes))=some (some (.int .i64 0),1,8):=by kernel_rfl
def zQL(n:Nat):List Nat:=((List.replicate n 0).set 0 1).set 1 1
theorem zOo{w:World}(n:Nat)(h1:8<=n)(h2:n<=256) :
  Calls Tryz.prog 89 #[.int .i64 (n:Int)] w λe w'=>∃b b2,e=.returned (.tuple #[.pointer (some ⟨b,0,none⟩),.nilIface])/\SpR w' b b2 (zQL n)/\w.heap.size<=b/\w.heap.size<=b2/\zG w w':=by
 have hmk:=zHl (P:=Tryz.prog) 78 3 (.int .i64 0) 8 Tryz.underlying78 Tryz.mkI rfl n (by omega) (by omega);have h3:7<n:=by omega
 have h4:n<257:=by omega
 clear h1 h2
 go_enter Tryz.func89, Tryz.ntmps89
 go_wp2
 have k1:zK ((w.alloc (.cells (Array.replicate n (.int .i64 0)) 3)).alloc (.cells #[.slice (some ⟨w.heap.size,0,none⟩) n n] 238)) (w.heap.size+1) #[.slice (some ⟨w.heap.size,0,none⟩) n n] 238:=zM (by simp);have k2:zK ((w.alloc (.cells (Array.replicate n (.int .i64 0)) 3)).alloc (.cells #[.slice (some ⟨w.heap.size,0,none⟩) n n] 238)) w.heap.size (Array.replicate n (.int .i64 0)) 3:=(zK.new w _ _).alloc _;have km:zG w ((w.alloc (.cells (Array.replicate n (.int .i64 0)) 3)).alloc (.cells #[.slice (some ⟨w.heap.size,0,none⟩) n n] 238)):=((zss w).alloc _).alloc _;generalize ((w.alloc (.cells (Array.replicate n (.int .i64 0)) 3)).alloc (.cells #[.slice (some ⟨w.heap.size,0,none⟩) n n] 238))=w2 at *
 have c1:=k1.d 0 (.slice (some ⟨w.heap.size,0,none⟩) n n) rfl;have c2:=k2.d 0 (.int .i64 0) (by rw[Array.getElem?_replicate,if_pos (by omega)]);have c3:=k2.d 1 (.int .i64 0) (by rw[Array.getElem?_replicate,if_pos (by omega)]);have f2:=k2.frozen;have K1:=oh k1;have K2:=oh k2;have KM:=oh km;clear k1 k2 km hmk;go_region
 go_wp2
 go_ret2
 have hS:SpR w2 (w.heap.size+1) w.heap.size (List.replicate n 0) :=
  ⟨by rw[pE];exact K1.out,by rw[show zDC (List.replicate n 0)=Array.replicate n (.int .i64 0) by simp[zDC]];exact K2.out,by omega,by simp;omega,by simp;omega⟩
 exact⟨_,_,rfl,((hS.set 0 1).set 1 1).drew,by omega,uJ _,(((KM.out.setCell (.inl (uJ _)) _).setCell (.inl (uJ _)) _)).drew⟩
end
section
def zCo(n:Int):Bool:=decide (2<=n) && decide (n<256)
def qZ(e:zR):Bool :=
 qP e.key && (if e.chain=0 then decide (e.size=0) && decide (e.value.size<=24) else zCo e.chain && decide (e.value.size=0) && decide (24<e.size) && decide (e.size<=4096))
def jH:List ByteArray->Bool
 | []=>true
 | [_]=>true
 | a :: b :: l=>qH a b && jH (b :: l)
def zQ(n:zJ):Bool :=
 if n.leaf then n.entries.all qZ && n.keys.isEmpty && n.kids.isEmpty && jH (n.entries.map (·.key)) && decide (n.entries.length<=65535)
 else n.entries.isEmpty && decide (2<=n.kids.length) && decide (n.kids.length=n.keys.length+1) && decide (n.kids.length<=256) && n.kids.all zCo && decide n.kids.Nodup && n.keys.all qP && jH n.keys
def vM(s:ByteArray):List UInt8:=zV 1 s.size++s.data.toList
def zAJ(e:zR):List UInt8 :=
 vM e.key++(if e.chain=0 then zV 1 0++vM e.value else zV 1 1++(zV 4 e.chain.toNat++zV 4 e.size.toNat))
def zAu(p:ByteArray × Int):List UInt8:=vM p.1++zV 4 p.2.toNat
def yB(n:zJ):List UInt8 :=
 if n.leaf then zV 2 n.entries.length++n.entries.flatMap zAJ
 else zV 2 n.kids.length++(zV 4 (n.kids.headD 0).toNat++(n.keys.zip n.kids.tail).flatMap zAu)
structure RdA where
 at_:Int
 bad:Bool
def vK(b:List UInt8)(r:RdA)(W:Nat):Nat × RdA:=((yO b r.at_ W).1,⟨r.at_+W,r.bad || (yO b r.at_ W).2.isSome⟩)
def jK(b:List UInt8)(r:RdA):ByteArray × RdA :=
 let x:=vK b r 1
 if x.2.bad=true\/(b.length:Int)-x.2.at_<(x.1:Int) then (⟨#[]⟩,⟨x.2.at_,true⟩)
 else (⟨((b.drop x.2.at_.toNat).take x.1).toArray⟩,⟨x.2.at_+x.1,false⟩)
def vV(b:List UInt8)(r:RdA):zR × RdA :=
 let k:=jK b r
 let c:=vK b k.2 1
 if c.1=0 then
  let v:=jK b c.2
  (⟨k.1,v.1,0,0⟩,v.2)
 else
  let x:=vK b c.2 4
  let y:=vK b x.2 4
  (⟨k.1,⟨#[]⟩,x.1,y.1⟩,y.2)
def yX(b:List UInt8):Nat->RdA->List zR->List zR × RdA
 | 0,r,l=>(l,r)
 | k+1,r,l=>if r.bad then (l,r) else yX b k (vV b r).2 (l++[(vV b r).1])
def zBf(b:List UInt8):Nat->RdA->List ByteArray->List Int->List ByteArray × List Int × RdA
 | 0,r,l,m=>(l,m,r)
 | k+1,r,l,m=>if r.bad then (l,m,r) else
  let s:=jK b r
  let x:=vK b s.2 4
  zBf b k x.2 (l++[s.1]) (m++[(x.1:Int)])
def jZ(leaf:Bool)(b:List UInt8):zJ × RdA :=
 let m:=vK b ⟨0,false⟩ 2
 if leaf then
  let x:=yX b m.1 m.2 []
  (⟨true,x.1,[],[]⟩,x.2)
 else
  let k:=vK b m.2 4
  let x:=zBf b (m.1-1) k.2 [] [(k.1:Int)]
  (⟨false,[],x.1,x.2.1⟩,x.2.2)
def zEM(leaf:Bool)(b:List UInt8):Option zJ :=
 let x:=jZ leaf b
 if x.2.bad=false/\zQ x.1=true/\yB x.1=b then some x.1 else none
theorem zQM(p q:List UInt8)(W n:Nat)(hn:n<256 ^ W):yO (p++(zV W n++q)) (p.length:Int) W=(n,none):=by
 unfold yO;rw[if_neg (by simp;omega),if_neg (by simp[zC];omega)];have e:((p++(zV W n++q)).drop ((p.length:Int)).toNat).take W=zV W n:=by
  rw[uK,List.drop_left,rO (zC W n)]
 rw[e,zFk,rL hn]
theorem zBw(p q:List UInt8)(W n:Nat)(hn:n<256 ^ W):vK (p++(zV W n++q)) ⟨(p.length:Int),false⟩ W=(n,⟨((p++zV W n).length:Int),false⟩):=by
 unfold vK;simp only[zQM p q W n hn];simp[zC]
theorem zEu(p q:List UInt8)(s:ByteArray)(hs:s.size<256):jK (p++(vM s++q)) ⟨(p.length:Int),false⟩=(s,⟨((p++vM s).length:Int),false⟩):=by
 unfold jK vM;have h:=zBw p (s.data.toList++q) 1 s.size (by simpa using hs);rw[uM] at *;simp only at h ⊢;rw[h];have hl:s.data.toList.length=s.size:=by rw[tP];rfl
 simp only;rw[if_neg (by simp[zC];omega)];have e:((p++(zV 1 s.size++(s.data.toList++q))).drop ((((p++zV 1 s.size).length:Nat):Int)).toNat).take s.size=s.data.toList:=by
  rw[uK,<- uM,List.drop_left,rO hl]
 rw[e];simp[zC,hl];omega
theorem zMu(p q:List UInt8)(e:zR)(he:qZ e=true):vV (p++(zAJ e++q)) ⟨(p.length:Int),false⟩=(e,⟨((p++zAJ e).length:Int),false⟩):=by
 obtain⟨key,value,chain,size⟩:=e;unfold qZ at he;simp only[uL] at he;obtain⟨hk,he⟩:=he;have hk2:key.size<256:=by have:=(jX key).1 hk;omega
 unfold vV zAJ;by_cases hc:chain=0
 .rw[if_pos hc] at he;simp only[uL,uR] at he;obtain⟨h1,h2⟩:=he;subst hc h1;simp only[if_pos];have a:=zEu p (zV 1 0++vM value++q) key hk2;have b:=zBw (p++vM key) (vM value++q) 1 0 (by decide);have c:=zEu (p++vM key++zV 1 0) q value (by omega);simp only[uM] at a b c ⊢;rw[a];simp only;rw[b];simp only[if_pos];rw[c]
 .rw[if_neg hc] at he;simp only[uL,uR,zCo] at he;obtain⟨⟨⟨⟨h1,h2⟩,h3⟩,h4⟩,h5⟩:=he;obtain⟨cn,rfl⟩:∃cn:Nat,chain=(cn:Int):=⟨chain.toNat,by omega⟩;obtain⟨sn,rfl⟩:∃sn:Nat,size=(sn:Int):=⟨size.toNat,by omega⟩;have hv:value=⟨#[]⟩:=by
   apply pQ
   exact rW h3
  subst hv;simp only[if_neg hc,uK];have a:=zEu p (zV 1 1++(zV 4 cn++(zV 4 sn++q))) key hk2;have b:=zBw (p++vM key) (zV 4 cn++(zV 4 sn++q)) 1 1 (by decide);have c:=zBw (p++vM key++zV 1 1) (zV 4 sn++q) 4 cn (by omega);have d:=zBw (p++vM key++zV 1 1++zV 4 cn) q 4 sn (by omega);simp only[uM] at a b c d ⊢;rw[a];simp only;rw[b];simp only[if_neg (show ¬ (1:Nat)=0 by omega)];rw[c];simp only;rw[d]
theorem zFt:∀(m:List zR) (p q:List UInt8) (l:List zR),m.all qZ=true->yX (p++(m.flatMap zAJ++q)) m.length ⟨(p.length:Int),false⟩ l=(l++m,⟨((p++m.flatMap zAJ).length:Int),false⟩)
 | [],p,q,l,_=>by simp[yX]
 | e :: m,p,q,l,h=>by
  simp only[List.all_cons,uL] at h;have a:=zMu p (m.flatMap zAJ++q) e h.1;have b:=zFt m (p++zAJ e) q (l++[e]) h.2;rw[uD,yX];simp only[uZ,uM] at a b ⊢;rw[if_neg (by simp),a];simp only;rw[b];simp
theorem zJC:∀(m:List (ByteArray × Int)) (p q:List UInt8) (l:List ByteArray) (k:List Int),(∀x∈m,qP x.1=true/\zCo x.2=true) ->
  zBf (p++(m.flatMap zAu++q)) m.length ⟨(p.length:Int),false⟩ l k=(l++m.map (·.1),k++m.map (·.2),⟨((p++m.flatMap zAu).length:Int),false⟩)
 | [],p,q,l,k,_=>by simp[zBf]
 | x :: m,p,q,l,k,h=>by
  obtain⟨s,c⟩:=x;obtain⟨h1,h2⟩:=h _ uH;simp only at h1 h2;have hs:s.size<256:=by have:=(jX s).1 h1;omega
  simp only[zCo,uL,uR] at h2;obtain⟨cn,rfl⟩:∃cn:Nat,c=(cn:Int):=⟨c.toNat,by omega⟩;have a:=zEu p (zV 4 cn++(m.flatMap zAu++q)) s hs;have b:=zBw (p++vM s) (m.flatMap zAu++q) 4 cn (by omega);have d:=zJC m (p++(vM s++zV 4 cn)) q (l++[s]) (k++[(cn:Int)]) (λy hy=>h y (uI _ hy));rw[uD,zBf];simp only[uZ,zAu,uK,uM] at a b d ⊢;rw[if_neg (by simp),a];simp only;rw[b];simp only;rw[d];simp
theorem zKJ(n:zJ)(h:zQ n=true):jZ n.leaf (yB n)=(n,⟨((yB n).length:Int),false⟩):=by
 obtain⟨leaf,entries,keys,kids⟩:=n;cases leaf with
 | true =>
  unfold zQ at h;simp only[tY,uL,wV,uR] at h;obtain⟨⟨⟨⟨h1,h2⟩,h3⟩,_⟩,h5⟩:=h;subst h2 h3;have a:=zBw [] (entries.flatMap zAJ) 2 entries.length (by omega);have b:=zFt entries (zV 2 entries.length) [] [] h1;simp only[wN,wJ,uF] at a b;unfold jZ yB;simp only[tY];rw[show ((⟨0,false⟩:RdA))=⟨((0:Nat):Int),false⟩ from rfl,a];simp only;rw[b]
 | false =>
  unfold zQ at h;simp only[wH,tO,uL,wV,uR] at h;obtain⟨⟨⟨⟨⟨⟨⟨h1,h2⟩,h3⟩,h4⟩,h5⟩,_⟩,h7⟩,_⟩:=h;subst h1;cases kids with
  | nil=>simp at h2
  | cons k0 ks =>
   simp only[uD] at h3 h4 h2;simp only[List.all_cons,uL] at h5;obtain⟨hk0,hks⟩:=h5;have hk1:2<=k0/\k0<256:=by simpa[zCo] using hk0
   obtain⟨c0,rfl⟩:∃c0:Nat,k0=(c0:Int):=⟨k0.toNat,by omega⟩;have hz1:(keys.zip ks).map (·.1)=keys:=List.map_fst_zip (by omega);have hz2:(keys.zip ks).map (·.2)=ks:=List.map_snd_zip (by omega);have hzl:(keys.zip ks).length=ks.length:=by rw[List.length_zip];omega
   have a:=zBw [] (zV 4 c0++(keys.zip ks).flatMap zAu) 2 (ks.length+1) (by omega);have b:=zBw (zV 2 (ks.length+1)) ((keys.zip ks).flatMap zAu) 4 c0 (by omega);have d:=zJC (keys.zip ks) (zV 2 (ks.length+1)++zV 4 c0) [] [] [(c0:Int)] (λx hx=>by
    have hm:=List.of_mem_zip hx;exact⟨tC.1 h7 _ hm.1,tC.1 hks _ hm.2⟩)
   simp only[wN,wJ,uF,uM] at a b d;unfold jZ yB;simp only[wH,tO,uD,List.headD_cons,List.tail_cons,uK];rw[show ((⟨0,false⟩:RdA))=⟨((0:Nat):Int),false⟩ from rfl,a];simp only;rw[b];simp only[tN];rw[hzl] at d;rw[d,hz1,hz2];rfl
theorem zFu(leaf:Bool)(b:List UInt8)(n:zJ):zEM leaf b=some n ↔ zQ n=true/\n.leaf=leaf/\yB n=b:=by
 have hlf:(jZ leaf b).1.leaf=leaf:=by cases leaf <;> rfl
 constructor
 .intro h;unfold zEM at h;simp only at h;split at h
  .rename_i hc;injection h with h;subst h;exact⟨hc.2.1,hlf,hc.2.2⟩
  .cases h
 .rintro⟨h1,rfl,rfl⟩;unfold zEM;rw[zKJ n h1];simp[h1]
end
section
open Go.RowKit
def zFO(R:Int->Int->Option ByteArray)(e:zR):Option ByteArray:=if e.chain=0 then some e.value else R e.chain e.size
def inB(lo:ByteArray)(hi:Option ByteArray)(k:ByteArray):Prop:=qH k lo=false/\∀h,hi=some h->qH k h=true
def zFP(lo:ByteArray)(keys:List ByteArray)(i:Nat):ByteArray:=if i=0 then lo else keys.getD (i-1) lo
def zFQ(hi:Option ByteArray)(keys:List ByteArray)(i:Nat):Option ByteArray:=match keys[i]? with
 | some s=>some s
 | none=>hi
inductive Tr (V:Nat->Option zJ) (R:Int->Int->Option ByteArray):ByteArray->Option ByteArray->Nat->Nat->List zE->Prop
 | leaf {lo hi id n} {l:List zE}:V id=some n->n.leaf=true->zQ n=true->n.entries.length=l.length->(∀(i:Nat) (e:zR) (x:zE),n.entries[i]? = some e->l[i]? = some x->e.key=x.1/\zFO R e=some x.2)->(∀x∈l,inB lo hi x.1)->Tr V R lo hi id 1 l
 | inner {lo hi id n d} {parts:List (List zE)}:V id=some n->n.leaf=false->zQ n=true->parts.length=n.kids.length->(∀(i:Nat) (k:Int) (p:List zE),n.kids[i]? = some k->parts[i]? = some p->Tr V R (zFP lo n.keys i) (zFQ hi n.keys i) k.toNat d p)->(∀s∈n.keys,inB lo hi s)->Tr V R lo hi id (d+1) parts.flatten
theorem zFv{a b c:ByteArray}(h1:qH b a=false)(h2:qH c b=false):qH c a=false:=by
 cases h:qH c a with
 | false=>rfl
 | true =>
  rcases zC8 h2 with k|rfl
  .have:=qQ k h;rw[h1] at this;cases this
  .rw[h1] at h;cases h
theorem zCp{a b c:ByteArray}(h1:qH a b=true)(h2:qH c b=false):qH a c=true:=by
 rcases zC8 h2 with k|rfl
 .exact qQ h1 k
 .exact h1
theorem zKK{a b c:ByteArray}(h1:qH b a=false)(h2:qH b c=true):qH a c=true:=by
 rcases zC8 h1 with k|rfl
 .exact qQ k h2
 .exact h2
theorem zGR:∀{l:List ByteArray},jH l=true->l.Pairwise λa b=>qH a b=true
 | [],_=>List.Pairwise.nil
 | [_],_=>List.pairwise_singleton _ _
 | a :: b :: l,h=>by
  simp only[jH,uL] at h;have h2:=zGR h.2;refine wT.2 ⟨λy hy=>?_,h2⟩;rcases uP.1 hy with rfl|hy
  .exact h.1
  .exact qQ h.1 ((wT.1 h2).1 y hy)
theorem zQN{l:List ByteArray}(h:l.Pairwise λa b=>qH a b=true){i j:Nat}{a b:ByteArray}(hij:i<j)(hi:l[i]? = some a)(hj:l[j]? = some b):qH a b=true:=by
 obtain⟨h1,rfl⟩:=uB.1 hi;obtain⟨h2,rfl⟩:=uB.1 hj;exact rB.1 h i j h1 h2 hij
theorem zRm{lo:ByteArray}{hi:Option ByteArray}{keys:List ByteArray}(hs:∀s∈keys,inB lo hi s){i:Nat}{k:ByteArray}(h:inB (zFP lo keys i) (zFQ hi keys i) k):inB lo hi k:=by
 refine⟨?_,λq hq=>?_⟩
 .unfold zFP at h;by_cases hi0:i=0
  .rw[if_pos hi0] at h;exact h.1
  .rw[if_neg hi0] at h;have h1:=h.1;by_cases hl:i-1<keys.length
   .have e:keys.getD (i-1) lo=keys[i-1]:=by simp[List.getD,hl]
    rw[e] at h1;exact zFv (hs _ (wL hl)).1 h1
   .have e:keys.getD (i-1) lo=lo:=by simp[List.getD,tI (by omega:keys.length<=i-1)]
    rw[e] at h1;exact h1
 .have h2:=h.2;unfold zFQ at h2;cases hk:keys[i]? with
  | none=>rw[hk] at h2;exact h2 q hq
  | some s =>
   rw[hk] at h2;obtain⟨hl,rfl⟩:=uB.1 hk;exact qQ (h2 _ rfl) ((hs _ (wL hl)).2 q hq)
theorem Tr.keys{V:Nat->Option zJ}{R:Int->Int->Option ByteArray}{lo:ByteArray}{hi:Option ByteArray}{id d:Nat}{l:List zE}(h:Tr V R lo hi id d l):∀x∈l,inB lo hi x.1:=by
 induction h with
 | leaf _ _ _ _ _ h6=>exact h6
 | @inner lo hi id n d parts h1 h2 h3 h4 h5 h6 ih =>
  intro x hx;obtain⟨p,hp,hx⟩:=nL.1 hx;obtain⟨i,hi,e⟩:=wI hp;have hp2:parts[i]? = some p:=by rw[<- e];exact uA hi
  have hk:i<n.kids.length:=by omega
  exact zRm h6 (ih i n.kids[i] p (uA hk) hp2 x hx)
def zAh(key:ByteArray)(keys:List ByteArray):Nat:=keys.findIdx λs=>qH key s
def vN(key:ByteArray)(es:List zR):Nat:=es.findIdx λe=>!qH e.key key
def zAp(key:ByteArray)(es:List zR):Bool:=match es[vN key es]? with
 | some e=>decide (e.key=key)
 | none=>false
theorem zJD(key:ByteArray):∀(parts:List (List zE)) (at_:Nat) (p:List zE),parts[at_]? = some p->(∀(j:Nat) (q:List zE),j≠at_->parts[j]? = some q->∀x∈q,x.1≠key)->yV key parts.flatten=yV key p
 | [],_,_,h,_=>by simp at h
 | q :: parts,0,p,h,hn=>by
  simp at h;subst h;rw[p6,zAQ];have:yV key parts.flatten=none:=zDk (λx hx=>by
   obtain⟨r,hr,hx⟩:=nL.1 hx;obtain⟨i,hi,e⟩:=wI hr;exact hn (i+1) r (by omega) (by rw[rH,<- e];exact uA hi) x hx)
  rw[this];cases yV key q <;> rfl
 | q :: parts,at_+1,p,h,hn=>by
  rw[p6,zAQ,zDk (λx hx=>hn 0 q (by omega) rfl x hx),zJD key parts at_ p (by simpa using h) (λj r hj hr=>hn (j+1) r (by omega) (by simpa using hr))];rfl
theorem zDo{α:Type}{f:α->Bool}{l:List α}{i:Nat}{a:α}(hi:i<l.findIdx f)(ha:l[i]? = some a):f a=false:=by
 obtain⟨h,rfl⟩:=uB.1 ha;simpa using List.not_of_lt_findIdx hi
theorem zDp{α:Type}{f:α->Bool}{l:List α}{a:α}(ha:l[l.findIdx f]? = some a):f a=true:=by
 obtain⟨h,rfl⟩:=uB.1 ha;exact List.findIdx_getElem
theorem zMv{V:Nat->Option zJ}{R:Int->Int->Option ByteArray}{lo:ByteArray}{hi:Option ByteArray}{n:zJ}{d:Nat}{parts:List (List zE)}{key:ByteArray}(hr:n.keys.Pairwise λa b=>qH a b=true)(hkl:n.kids.length=n.keys.length+1)(hpl:parts.length=n.kids.length)
  (hT:∀(i:Nat) (k:Int) (p:List zE),n.kids[i]? = some k->parts[i]? = some p->Tr V R (zFP lo n.keys i) (zFQ hi n.keys i) k.toNat d p) (hk:inB lo hi key) :
  ∃(k:Int) (p:List zE),n.kids[zAh key n.keys]? = some k/\parts[zAh key n.keys]? = some p/\inB (zFP lo n.keys (zAh key n.keys)) (zFQ hi n.keys (zAh key n.keys)) key/\yV key parts.flatten=yV key p:=by
 obtain⟨a,ha⟩:∃a,a=zAh key n.keys:=⟨_,rfl⟩;rw[<- ha];have hal:a<=n.keys.length:=by rw[ha];exact tZ
 have hak:a<n.kids.length:=by omega
 have hap:a<parts.length:=by omega
 refine⟨n.kids[a],parts[a],uA hak,uA hap,⟨?_,λq hq=>?_⟩,zJD key parts a parts[a] (uA hap) (λj q hj hq x hx=>?_)⟩
 .unfold zFP;by_cases h0:a=0
  .rw[if_pos h0];exact hk.1
  .rw[if_neg h0];have hl:a-1<n.keys.length:=by omega
   have e:n.keys.getD (a-1) lo=n.keys[a-1]:=by simp[List.getD,hl]
   rw[e];exact zDo (f:=λs=>qH key s) (i:=a-1) (by show a-1<zAh key n.keys;omega) (uA hl)
 .unfold zFQ at hq;cases hs:n.keys[a]? with
  | none=>rw[hs] at hq;exact hk.2 q hq
  | some s =>
   rw[hs] at hq;injection hq with hq;subst hq;rw[ha] at hs;exact zDp (f:=λs=>qH key s) hs
 .have hjp:=(uB.1 hq).1;have hjk:j<n.kids.length:=by omega
  have hx2:=(hT j n.kids[j] q (uA hjk) hq).keys x hx;rcases Nat.lt_or_gt_of_ne hj with hlt|hgt
  .have hl:j<n.keys.length:=by omega
   have h1:qH x.1 n.keys[j]=true:=hx2.2 _ (by unfold zFQ;rw[uA hl]);have h2:qH key n.keys[j]=false:=zDo (f:=λs=>qH key s) (i:=j) (by show j<zAh key n.keys;omega) (uA hl);exact λe=>by rw[e] at h1;rw[h1] at h2;cases h2
  .have hl:j-1<n.keys.length:=by omega
   have h1:=hx2.1;unfold zFP at h1;rw[if_neg (by omega)] at h1;have e:n.keys.getD (j-1) lo=n.keys[j-1]:=by simp[List.getD,hl]
   rw[e] at h1;have hal2:a<n.keys.length:=by omega
   have h2:qH key n.keys[a]=true:=by
    have hs:n.keys[zAh key n.keys]? = some n.keys[a]:=by rw[<- ha];exact uA hal2
    exact zDp (f:=λs=>qH key s) hs
   have h3:qH key n.keys[j-1]=true:=by
    by_cases e:a=j-1
    .subst e;exact h2
    .exact qQ h2 (zQN hr (by omega) (uA hal2) (uA hl))
   exact λe=>by rw[e] at h1;rw[h1] at h3;cases h3
theorem zEN{n:zJ}(h:zQ n=true)(hl:n.leaf=true):(n.entries.map (·.key)).Pairwise λa b=>qH a b=true:=by
 unfold zQ at h;rw[if_pos hl] at h;simp only[uL] at h;exact zGR h.1.2
theorem zAv{n:zJ}(h:zQ n=true)(hl:n.leaf=false):(n.keys.Pairwise λa b=>qH a b=true)/\n.kids.length=n.keys.length+1/\∀k∈n.kids,2<=k/\k<256:=by
 unfold zQ at h;rw[if_neg (by rw[hl];simp)] at h;simp only[uL,uR,tC] at h;obtain⟨⟨⟨⟨⟨⟨⟨h1,h2⟩,h3⟩,h4⟩,h5⟩,h6⟩,h7⟩,h8⟩:=h;exact⟨zGR h8,h3,λk hk=>by simpa[zCo] using h5 k hk⟩
end
end Go.Proofs.YtgphfebjjedeaaaGreatDoor
