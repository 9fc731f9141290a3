import Derived.Test.YteabpacpngaoaaaGreatDoorC06
import Derived.Test.YteabpacpngaoaaaGreatDoorC07
namespace Go.Proofs.YteabpacpngaoaaaGreatDoor
open Lib renaming hid->oh
set_option maxRecDepth 100000
section
open Go.RowKit
theorem Tryz.mkB:(Tryz.prog.info? 5).map (λi=>(i.zero,i.size,i.bytes))=some (some (.int .u8 0),1,1):=by kernel_rfl
theorem Tryz.elB:ElT Tryz.prog 87 5 (.int .u8 0) 1 1:=⟨Tryz.underlying87,Tryz.mkB,rfl,by decide,by decide⟩
def isW(n:Int):Bool:=n == 1 || n == 2 || n == 4 || n == 8
theorem zBB(n:Int)(w:World) : Calls Tryz.prog 206 #[.int .i64 n] w λe w'=>e=.returned (.bool (isW n))/\w=w':=by
 by_cases h1:n=1
 .subst h1;go_enter Tryz.func206, Tryz.ntmps206;go_wp2;go_ret;exact⟨rfl,rfl⟩
 .by_cases h2:n=2
  .subst h2;go_enter Tryz.func206, Tryz.ntmps206;go_wp2;go_ret;exact⟨rfl,rfl⟩
  .by_cases h3:n=4
   .subst h3;go_enter Tryz.func206, Tryz.ntmps206;go_wp2;go_ret;exact⟨rfl,rfl⟩
   .by_cases h4:n=8
    .subst h4;go_enter Tryz.func206, Tryz.ntmps206;go_wp2;go_ret;exact⟨rfl,rfl⟩
    .have H:Hid (isW n=false):=oh (by simp[isW,h1,h2,h3,h4])
     go_enter Tryz.func206, Tryz.ntmps206;go_wp2;go_ret;exact⟨yB H.out.symm,rfl⟩
theorem zBL{F:Nat->Prop}{ad:Nat->Addr}{w:World}(hL:yG F ad w)(bv:Value)(l:List UInt8)(hb:Sl F w 1 zZ bv l)(n W:Nat)(hw:W=1\/W=2\/W=4\/W=8)(hn:n<256 ^ W)(hlen:l.length<=1000000000) :
  Calls Tryz.prog 135 #[bv,.int .u64 (n:Int),.int .i64 (W:Int)] w λe w'=>∃a c,e=.returned (.tuple #[.slice a (l.length+W) c,.nilIface]) /\
   yC F w' w.heap.size 5 1 zZ (.slice a (l.length+W) c) (l++yD W n)/\zF w w':=by
 have HB:=oh hb;have HF:Hid (Bd F w):=oh (λk hk=>hL.lt k hk);obtain⟨a,cap,rfl,h1,h2,h3,h4⟩:=hb;unfold maxLen at h2;clear h4 hL;rcases hw with rfl|rfl|rfl|rfl
 .have hr:isW ((1:Nat):Int)=true:=rfl;replace hn:n<256:=hn
  go_enter Tryz.func135, Tryz.ntmps135
  go_wp2_with fail;refine (zBB _ _).mono ?_;rintro e w1 ⟨rfl,rfl⟩;go_wp2_with (at_builtin;refine zCG Tryz.elB jE rfl _ _ rfl w.heap.size _ _ [] l rfl rfl (yC.empty HF.out _ _ _ (λ_=>rfl)) (HB.out.mods ((zA.refl _ w).alloc _)) (by simp;omega) (by simp) (HF.out.mods ((zA.refl F w).alloc _)) ?_;simp only[List.length_nil,Nat.zero_add,List.nil_append];intro a1 c1 w1 hO hm1);have HO:=oh hO;have HM:Hid (zF w w1):=oh (zA.past ((zA.refl _ w).alloc _) hm1);clear hO hm1;go_wp2_with fail;go_loopg [8,1,29] 1 (λm v8 v1 v29 wr=>∃(k q:Nat) (acc:List UInt8) (a:Option Addr) (c:Nat),k+m=1/\v8=.slice a acc.length c/\v1=.int .u64 q/\v29=.int .i64 k/\acc.length=l.length+k/\q<18446744073709551616 /\
   Hid (l++yD 1 n=acc++yD m q)/\Hid (yC F wr w.heap.size 5 1 zZ (.slice a acc.length c) acc)/\Hid (zF w wr))
  case atStart=>exact⟨0,n,l,a1,c1,rfl,rfl,rfl,rfl,rfl,by omega,oh rfl,HO,HM⟩
  case round =>
   obtain⟨k,q,acc,a2,c2,hk,rfl,rfl,rfl,hlen2,hq,HQ,HO2,HM2⟩:=hrel;by_cases hlt:k<1
   .obtain⟨m,rfl⟩:∃m,gk=m+1:=⟨gk-1,by omega⟩;have HF2:Hid (Bd F wr):=oh (HF.out.mods HM2.out);have hz2:=HM2.out.size;go_wp2_with (at_builtin;refine zCG Tryz.elB jE rfl _ _ rfl w.heap.size _ _ acc [UInt8.ofNat q] rfl rfl (HO2.out.ext ((zA.refl _ wr).alloc _)) (zFa HF2.out q _) (by simp;omega) (by simp;omega) (HF2.out.mods ((zA.refl F wr).alloc _)) ?_;simp only[List.length_cons,List.length_nil,Nat.zero_add];intro a3 c3 w3 hO3 hm3);have HO3:=oh hO3;have HM3:Hid (zF w w3):=oh (zA.past (HM2.out.alloc _) hm3);clear hO3 hm3;go_wp2_with fail;go_roundg m
    case measure=>omega
    case rel=>exact⟨k+1,q / 256,acc++[UInt8.ofNat q],a3,c3,by omega,by simp[hlen2],by go_num,by go_num,by simp;omega,by omega,oh (by rw[HQ.out];simp[yD]),by simpa using HO3,HM3⟩
   .obtain rfl:gk=0:=by omega
    have he:acc=l++yD 1 n:=by have:=HQ.out;simpa[yD] using this.symm
    have HO3:=HO2.out;rw[he] at HO3;have HO4:=oh HO3;have hl4:acc.length=l.length+1:=by omega
    clear HO3 he;go_wp2_with fail;go_ret2
    have e:Value.slice a2 (l.length+1) c2=.slice a2 acc.length c2:=by rw[hl4]
    exact⟨a2,c2,by rw[e];rfl,by simpa[yD] using HO4.out,HM2.out⟩
 .have hr:isW ((2:Nat):Int)=true:=rfl;replace hn:n<65536:=hn
  go_enter Tryz.func135, Tryz.ntmps135
  go_wp2_with fail;refine (zBB _ _).mono ?_;rintro e w1 ⟨rfl,rfl⟩;go_wp2_with (at_builtin;refine zCG Tryz.elB jE rfl _ _ rfl w.heap.size _ _ [] l rfl rfl (yC.empty HF.out _ _ _ (λ_=>rfl)) (HB.out.mods ((zA.refl _ w).alloc _)) (by simp;omega) (by simp) (HF.out.mods ((zA.refl F w).alloc _)) ?_;simp only[List.length_nil,Nat.zero_add,List.nil_append];intro a1 c1 w1 hO hm1);have HO:=oh hO;have HM:Hid (zF w w1):=oh (zA.past ((zA.refl _ w).alloc _) hm1);clear hO hm1;go_wp2_with fail;go_loopg [8,1,29] 2 (λm v8 v1 v29 wr=>∃(k q:Nat) (acc:List UInt8) (a:Option Addr) (c:Nat),k+m=2/\v8=.slice a acc.length c/\v1=.int .u64 q/\v29=.int .i64 k/\acc.length=l.length+k/\q<18446744073709551616 /\
   Hid (l++yD 2 n=acc++yD m q)/\Hid (yC F wr w.heap.size 5 1 zZ (.slice a acc.length c) acc)/\Hid (zF w wr))
  case atStart=>exact⟨0,n,l,a1,c1,rfl,rfl,rfl,rfl,rfl,by omega,oh rfl,HO,HM⟩
  case round =>
   obtain⟨k,q,acc,a2,c2,hk,rfl,rfl,rfl,hlen2,hq,HQ,HO2,HM2⟩:=hrel;by_cases hlt:k<2
   .obtain⟨m,rfl⟩:∃m,gk=m+1:=⟨gk-1,by omega⟩;have HF2:Hid (Bd F wr):=oh (HF.out.mods HM2.out);have hz2:=HM2.out.size;go_wp2_with (at_builtin;refine zCG Tryz.elB jE rfl _ _ rfl w.heap.size _ _ acc [UInt8.ofNat q] rfl rfl (HO2.out.ext ((zA.refl _ wr).alloc _)) (zFa HF2.out q _) (by simp;omega) (by simp;omega) (HF2.out.mods ((zA.refl F wr).alloc _)) ?_;simp only[List.length_cons,List.length_nil,Nat.zero_add];intro a3 c3 w3 hO3 hm3);have HO3:=oh hO3;have HM3:Hid (zF w w3):=oh (zA.past (HM2.out.alloc _) hm3);clear hO3 hm3;go_wp2_with fail;go_roundg m
    case measure=>omega
    case rel=>exact⟨k+1,q / 256,acc++[UInt8.ofNat q],a3,c3,by omega,by simp[hlen2],by go_num,by go_num,by simp;omega,by omega,oh (by rw[HQ.out];simp[yD]),by simpa using HO3,HM3⟩
   .obtain rfl:gk=0:=by omega
    have he:acc=l++yD 2 n:=by have:=HQ.out;simpa[yD] using this.symm
    have HO3:=HO2.out;rw[he] at HO3;have HO4:=oh HO3;have hl4:acc.length=l.length+2:=by omega
    clear HO3 he;go_wp2_with fail;go_ret2
    have e:Value.slice a2 (l.length+2) c2=.slice a2 acc.length c2:=by rw[hl4]
    exact⟨a2,c2,by rw[e];rfl,by simpa[yD] using HO4.out,HM2.out⟩
 .have hr:isW ((4:Nat):Int)=true:=rfl;replace hn:n<4294967296:=hn
  go_enter Tryz.func135, Tryz.ntmps135
  go_wp2_with fail;refine (zBB _ _).mono ?_;rintro e w1 ⟨rfl,rfl⟩;go_wp2_with (at_builtin;refine zCG Tryz.elB jE rfl _ _ rfl w.heap.size _ _ [] l rfl rfl (yC.empty HF.out _ _ _ (λ_=>rfl)) (HB.out.mods ((zA.refl _ w).alloc _)) (by simp;omega) (by simp) (HF.out.mods ((zA.refl F w).alloc _)) ?_;simp only[List.length_nil,Nat.zero_add,List.nil_append];intro a1 c1 w1 hO hm1);have HO:=oh hO;have HM:Hid (zF w w1):=oh (zA.past ((zA.refl _ w).alloc _) hm1);clear hO hm1;go_wp2_with fail;go_loopg [8,1,29] 4 (λm v8 v1 v29 wr=>∃(k q:Nat) (acc:List UInt8) (a:Option Addr) (c:Nat),k+m=4/\v8=.slice a acc.length c/\v1=.int .u64 q/\v29=.int .i64 k/\acc.length=l.length+k/\q<18446744073709551616 /\
   Hid (l++yD 4 n=acc++yD m q)/\Hid (yC F wr w.heap.size 5 1 zZ (.slice a acc.length c) acc)/\Hid (zF w wr))
  case atStart=>exact⟨0,n,l,a1,c1,rfl,rfl,rfl,rfl,rfl,by omega,oh rfl,HO,HM⟩
  case round =>
   obtain⟨k,q,acc,a2,c2,hk,rfl,rfl,rfl,hlen2,hq,HQ,HO2,HM2⟩:=hrel;by_cases hlt:k<4
   .obtain⟨m,rfl⟩:∃m,gk=m+1:=⟨gk-1,by omega⟩;have HF2:Hid (Bd F wr):=oh (HF.out.mods HM2.out);have hz2:=HM2.out.size;go_wp2_with (at_builtin;refine zCG Tryz.elB jE rfl _ _ rfl w.heap.size _ _ acc [UInt8.ofNat q] rfl rfl (HO2.out.ext ((zA.refl _ wr).alloc _)) (zFa HF2.out q _) (by simp;omega) (by simp;omega) (HF2.out.mods ((zA.refl F wr).alloc _)) ?_;simp only[List.length_cons,List.length_nil,Nat.zero_add];intro a3 c3 w3 hO3 hm3);have HO3:=oh hO3;have HM3:Hid (zF w w3):=oh (zA.past (HM2.out.alloc _) hm3);clear hO3 hm3;go_wp2_with fail;go_roundg m
    case measure=>omega
    case rel=>exact⟨k+1,q / 256,acc++[UInt8.ofNat q],a3,c3,by omega,by simp[hlen2],by go_num,by go_num,by simp;omega,by omega,oh (by rw[HQ.out];simp[yD]),by simpa using HO3,HM3⟩
   .obtain rfl:gk=0:=by omega
    have he:acc=l++yD 4 n:=by have:=HQ.out;simpa[yD] using this.symm
    have HO3:=HO2.out;rw[he] at HO3;have HO4:=oh HO3;have hl4:acc.length=l.length+4:=by omega
    clear HO3 he;go_wp2_with fail;go_ret2
    have e:Value.slice a2 (l.length+4) c2=.slice a2 acc.length c2:=by rw[hl4]
    exact⟨a2,c2,by rw[e];rfl,by simpa[yD] using HO4.out,HM2.out⟩
 .have hr:isW ((8:Nat):Int)=true:=rfl;replace hn:n<18446744073709551616:=hn
  go_enter Tryz.func135, Tryz.ntmps135
  go_wp2_with fail;refine (zBB _ _).mono ?_;rintro e w1 ⟨rfl,rfl⟩;go_wp2_with (at_builtin;refine zCG Tryz.elB jE rfl _ _ rfl w.heap.size _ _ [] l rfl rfl (yC.empty HF.out _ _ _ (λ_=>rfl)) (HB.out.mods ((zA.refl _ w).alloc _)) (by simp;omega) (by simp) (HF.out.mods ((zA.refl F w).alloc _)) ?_;simp only[List.length_nil,Nat.zero_add,List.nil_append];intro a1 c1 w1 hO hm1);have HO:=oh hO;have HM:Hid (zF w w1):=oh (zA.past ((zA.refl _ w).alloc _) hm1);clear hO hm1;go_wp2_with fail;go_loopg [8,1,29] 8 (λm v8 v1 v29 wr=>∃(k q:Nat) (acc:List UInt8) (a:Option Addr) (c:Nat),k+m=8/\v8=.slice a acc.length c/\v1=.int .u64 q/\v29=.int .i64 k/\acc.length=l.length+k/\q<18446744073709551616 /\
   Hid (l++yD 8 n=acc++yD m q)/\Hid (yC F wr w.heap.size 5 1 zZ (.slice a acc.length c) acc)/\Hid (zF w wr))
  case atStart=>exact⟨0,n,l,a1,c1,rfl,rfl,rfl,rfl,rfl,by omega,oh rfl,HO,HM⟩
  case round =>
   obtain⟨k,q,acc,a2,c2,hk,rfl,rfl,rfl,hlen2,hq,HQ,HO2,HM2⟩:=hrel;by_cases hlt:k<8
   .obtain⟨m,rfl⟩:∃m,gk=m+1:=⟨gk-1,by omega⟩;have HF2:Hid (Bd F wr):=oh (HF.out.mods HM2.out);have hz2:=HM2.out.size;go_wp2_with (at_builtin;refine zCG Tryz.elB jE rfl _ _ rfl w.heap.size _ _ acc [UInt8.ofNat q] rfl rfl (HO2.out.ext ((zA.refl _ wr).alloc _)) (zFa HF2.out q _) (by simp;omega) (by simp;omega) (HF2.out.mods ((zA.refl F wr).alloc _)) ?_;simp only[List.length_cons,List.length_nil,Nat.zero_add];intro a3 c3 w3 hO3 hm3);have HO3:=oh hO3;have HM3:Hid (zF w w3):=oh (zA.past (HM2.out.alloc _) hm3);clear hO3 hm3;go_wp2_with fail;go_roundg m
    case measure=>omega
    case rel=>exact⟨k+1,q / 256,acc++[UInt8.ofNat q],a3,c3,by omega,by simp[hlen2],by go_num,by go_num,by simp;omega,by omega,oh (by rw[HQ.out];simp[yD]),by simpa using HO3,HM3⟩
   .obtain rfl:gk=0:=by omega
    have he:acc=l++yD 8 n:=by have:=HQ.out;simpa[yD] using this.symm
    have HO3:=HO2.out;rw[he] at HO3;have HO4:=oh HO3;have hl4:acc.length=l.length+8:=by omega
    clear HO3 he;go_wp2_with fail;go_ret2
    have e:Value.slice a2 (l.length+8) c2=.slice a2 acc.length c2:=by rw[hl4]
    exact⟨a2,c2,by rw[e];rfl,by simpa[yD] using HO4.out,HM2.out⟩
def vI(l:List UInt8)(at_:Int)(W:Nat):Nat × Option Err :=
 if at_<0\/(l.length:Int)<at_ then (0,some ([-1],2)) else if (l.length:Int)-at_<W then (0,some ([-1],1)) else (zEK ((l.drop at_.toNat).take W),none)
theorem zFb{F:Nat->Prop}{ad:Nat->Addr}{w:World}(hL:yG F ad w)(bv:Value)(l:List UInt8)(hb:Sl F w 1 zZ bv l)(p:Int)(W:Nat)(hw:W=1\/W=2\/W=4\/W=8) :
  Calls Tryz.prog 247 #[bv,.int .i64 p,.int .i64 (W:Int)] w λe w'=>∃ev,e=.returned (.tuple #[.int .u64 ((vI l p W).1:Nat),ev])/\zBw F ad w' ev (vI l p W).2/\zF w w':=by
 have HL:=oh hL;have g1:=hL.c1;have g2:=hL.c2;obtain⟨a,cap,rfl,h1,h2,h3,h4⟩:=hb;unfold maxLen at h2;clear hL;have hr:isW (W:Int)=true:=by rcases hw with rfl|rfl|rfl|rfl <;> rfl
 have HW:=oh hw;have hW:W<=8:=by omega
 have hW1:1<=W:=by omega
 clear hw;by_cases hc:p<0\/(l.length:Int)<p
 .have HT:Hid (vI l p W=(0,some ([-1],2))):=oh (by unfold vI;rw[if_pos hc]);by_cases h0:p<0
  .clear hc
   go_enter Tryz.func247, Tryz.ntmps247
   go_wp2_with fail;refine (zBB _ _).mono ?_;rintro e w1 ⟨rfl,rfl⟩;go_wp2_with fail;refine (qN HL.out _ _ _ 2 (.sent 2 (by decide) (by decide))).mono ?_;rintro e w1 ⟨f,rfl,hE,hm⟩;have HE:=oh hE;clear hE;go_wp2
   go_ret2
   exact⟨_,by rw[HT.out];rfl,by rw[HT.out];exact⟨f,rfl,HE.out⟩,hm⟩
  .have h5:(l.length:Int)<p:=by omega
   clear hc
   go_enter Tryz.func247, Tryz.ntmps247
   go_wp2_with fail;refine (zBB _ _).mono ?_;rintro e w1 ⟨rfl,rfl⟩;go_wp2_with fail;refine (qN HL.out _ _ _ 2 (.sent 2 (by decide) (by decide))).mono ?_;rintro e w1 ⟨f,rfl,hE,hm⟩;have HE:=oh hE;clear hE;go_wp2
   go_ret2
   exact⟨_,by rw[HT.out];rfl,by rw[HT.out];exact⟨f,rfl,HE.out⟩,hm⟩
 .have hp:0<=p:=by omega
  obtain⟨q,rfl⟩:∃q:Nat,p=q:=⟨p.toNat,by omega⟩;have hq:q<=l.length:=by omega
  by_cases hc2:(l.length:Int)-q<W
  .have HT:Hid (vI l q W=(0,some ([-1],1))):=oh (by unfold vI;rw[if_neg hc,if_pos hc2]);clear hc
   go_enter Tryz.func247, Tryz.ntmps247
   go_wp2_with fail;refine (zBB _ _).mono ?_;rintro e w1 ⟨rfl,rfl⟩;go_wp2_with fail;refine (qN HL.out _ _ _ 1 (.sent 1 (by decide) (by decide))).mono ?_;rintro e w1 ⟨f,rfl,hE,hm⟩;have HE:=oh hE;clear hE;go_wp2
   go_ret2
   exact⟨_,by rw[HT.out];rfl,by rw[HT.out];exact⟨f,rfl,HE.out⟩,hm⟩
  .have HT:Hid (vI l q W=(zEK ((l.drop q).take W),none)):=oh (by unfold vI;rw[if_neg hc,if_neg hc2,Int.toNat_natCast]);have hqW:q+W<=l.length:=by omega
   clear hc hc2
   go_enter Tryz.func247, Tryz.ntmps247
   go_wp2_with fail;refine (zBB _ _).mono ?_;rintro e w1 ⟨rfl,rfl⟩;go_wp2_with fail;go_loopg [8,9] W (λm n i wr=>∃x:Nat,wr=w/\m<=W/\i=.int .i64 ((m:Int)-1)/\n=.int .u64 (x:Int)/\Hid (x=zEK ((l.drop (q+m)).take (W-m))))
   case atStart=>exact⟨0,rfl,by omega,rfl,rfl,oh (by simp[zEK])⟩
   case round =>
    obtain⟨x,rfl,hmW,rfl,rfl,HX⟩:=hrel;by_cases h0:0<gk
    .obtain⟨m,rfl⟩:∃m,gk=m+1:=⟨gk-1,by omega⟩;have hlt:q+m<l.length:=by omega
     obtain⟨b,off,rfl,hb,hF,hc⟩:=Sl.atE h4 (zA.refl _ _) (q+m) hlt;obtain⟨y,hy⟩:∃y,y=l[q+m]:=⟨_,rfl⟩;have hc0:=hc 0 (.int .u8 (y.toNat:Int)) (by rw[hy];rfl);simp only[Nat.mul_one,Nat.add_zero] at hc0;have hy8:y.toNat<256:=y.toNat_lt;have hS:=zHG l q m W y (by omega) (by rw[hy];simp[hlt]);have hx56:x<72057594037927936:=by
      have h1:=zJi l q (m+1) W;rw[<- HX.out] at h1;exact Nat.lt_of_lt_of_le h1 (Nat.pow_le_pow_right (n:=256) (by decide) (show W-(m+1)<=7 by omega))
     rw[<- HX.out] at hS;have HS:=oh hS;have hor:bits .or .u64 ((x:Int) * 256) (y.toNat:Int)=((x * 256+y.toNat:Nat):Int):=by
      have h1:=u64_or_nat (x * 256) y.toNat (by omega) (by omega);rw[nat_join 8 (x * 256) y.toNat (by omega) (by omega)] at h1;simpa using h1
     have hm1:(((m+1:Nat):Int)-1)=(m:Int):=by omega
     rw[hm1];clear hc hy hS h4 hm1;go_wp2_with fail;go_roundg m
     case measure=>omega
     case rel=>exact⟨x * 256+y.toNat,rfl,by omega,by go_num,rfl,oh HS.out.symm⟩
    .obtain rfl:gk=0:=by omega
     have hm1:(((0:Nat):Int)-1) = -1:=by omega
     rw[hm1];clear hm1 h0 hmW h4;have HX2:Hid (x=zEK ((l.drop q).take W)):=HX;go_wp2_with fail;go_ret2
     exact⟨_,by rw[HT.out,<- HX2.out];rfl,by rw[HT.out];rfl,zA.refl _ _⟩
theorem zNy{F:Nat->Prop}{w:World}(hF:Bd F w)(bv:Value)(l:List UInt8)(hb:Sl F w 1 zZ bv l) :
  Calls Tryz.prog 294 #[bv] w λe w'=>∃a c,e=.returned (.slice a l.length c)/\yC F w' w.heap.size 5 1 zZ (.slice a l.length c) l/\zF w w':=by
 have HB:=oh hb;have HF:=oh hF;obtain⟨a,cap,rfl,h1,h2,h3,h4⟩:=hb;unfold maxLen at h2;have hq:=λ(a:Option Addr) (n:Nat) (w:World)=>Go.Lib.run_eql_slice_nil (P:=Tryz.prog) w 87 5 a n cap 0 0 Tryz.underlying87
 match a,h4 with
 | none,h4 =>
  have hl:l=[]:=by
   rcases h4 with h|⟨_,_,h,_⟩
   .exact h
   .cases h
  subst hl;clear h4 hF
  go_enter Tryz.func294, Tryz.ntmps294
  go_wp2_with fail;go_ret;exact⟨none,0,rfl,yC.nil _ _ _ _ _ _,zA.refl _ _⟩
 | some ad,h4 =>
  clear h4 hF
  go_enter Tryz.func294, Tryz.ntmps294
  go_wp2_with (at_builtin;go_loud (refine zCG Tryz.elB jE rfl _ _ rfl w.heap.size _ _ [] l rfl rfl (yC.empty HF.out _ _ _ (λ_=>rfl)) (HB.out.mods ((zA.refl _ w).alloc _)) (by simp;omega) (by simp) (HF.out.mods ((zA.refl F w).alloc _)) ?_);simp only[List.length_nil,Nat.zero_add,List.nil_append];intro a1 c1 w1 hO hm1);have HO:=oh hO;have HM:Hid (zF w w1):=oh (zA.past ((zA.refl _ w).alloc _) hm1);clear hO hm1;go_wp2_with fail;go_ret;exact⟨a1,c1,rfl,HO.out,HM.out⟩
theorem zC5{F G:Nat->Prop}{w:World}(av bv:Value)(l m:List UInt8)(ha:Sl F w 1 zZ av l)(hb:Sl G w 1 zZ bv m) :
  Calls Tryz.prog 244 #[av,bv] w λe w'=>e=.returned (.bool (decide (l=m)))/\zF w w':=by
 obtain⟨a,cap,rfl,h1,h2,h3,h4⟩:=ha;obtain⟨b,cap2,rfl,i1,i2,i3,i4⟩:=hb;unfold maxLen at h2 i2;have H4:=oh h4;have I4:=oh i4;clear h4 i4;by_cases hl:l.length=m.length
 .obtain⟨n,hn⟩:∃n,n=l.length:=⟨_,rfl⟩;rw[<- hl,<- hn] at i1 i3 ⊢;rw[<- hn] at h1 h3;have N1:Hid (n=l.length):=oh hn;have N2:Hid (n=m.length):=oh (hn.trans hl);clear hn hl
  go_enter Tryz.func244, Tryz.ntmps244
  go_wp2_with fail;go_loopg [13] n (λq v13 wr=>∃k:Nat,k+q=n/\v13=.int .i64 k/\Hid (l.take k=m.take k)/\Hid (zF w wr))
  case atStart=>exact⟨0,by omega,rfl,oh rfl,oh (zA.refl _ _)⟩
  case round =>
   obtain⟨k,hk,rfl,HQ,HM⟩:=hrel;by_cases hltn:k<n
   .have hlt:k<l.length:=by have:=N1.out;omega
    have hlt2:k<m.length:=by have:=N2.out;omega
    obtain⟨b1,off1,rfl,hb1,hF1,hc1⟩:=Sl.atE H4.out HM.out k hlt;obtain⟨b2,off2,rfl,hb2,hF2,hc2⟩:=Sl.atE I4.out HM.out k hlt2;obtain⟨x,hx⟩:∃x,x=l[k]:=⟨_,rfl⟩;obtain⟨y,hy⟩:∃y,y=m[k]:=⟨_,rfl⟩;have d1:=hc1 0 (.int .u8 (x.toNat:Int)) (by rw[hx];rfl);have d2:=hc2 0 (.int .u8 (y.toNat:Int)) (by rw[hy];rfl);simp only[Nat.mul_one,Nat.add_zero] at d1 d2;have hx8:x.toNat<256:=x.toNat_lt;have hy8:y.toNat<256:=y.toNat_lt;have hx2:l[k]? = some x:=by rw[hx];simp[hlt]
    have hy2:m[k]? = some y:=by rw[hy];simp[hlt2]
    have HT:Hid (x=y->l.take (k+1)=m.take (k+1)):=oh (λe=>by rw[jA l k x hx2,jA m k y hy2,HQ.out,e]);have HN:Hid (x≠y->decide (l=m)=false):=oh (λe=>by
     rw[decide_eq_false_iff_not];intro h;rw[h,hy2] at hx2;injection hx2 with h5;exact e h5.symm)
    clear hc1 hc2 hx hy hx2 hy2 hlt hlt2;by_cases hxy:x=y
    .subst hxy;go_wp2_with fail;go_region
     go_wp2_with fail;go_roundg (gk-1)
     case measure=>omega
     case rel=>exact⟨k+1,by omega,by go_num,oh (HT.out (by first|rfl|trivial)),oh HM.out.drew⟩
    .have hne:x.toNat≠y.toNat:=λe=>hxy (UInt8.toNat_inj.1 e)
     have HN2:=oh (HN.out hxy);clear hxy;go_wp2_with fail;go_region
     go_wp2_with fail;go_ret;exact⟨yB HN2.out.symm,HM.out.drew⟩
   .have he:Hid (decide (l=m)=true):=oh (by
     have:=HQ.out;have n1:=N1.out;have n2:=N2.out;rw[List.take_of_length_le (by omega),List.take_of_length_le (by omega)] at this;simp[this])
    go_wp2_with fail;go_ret;exact⟨yB he.out.symm,HM.out⟩
 .have he:Hid (decide (l=m)=false):=oh (by rw[decide_eq_false_iff_not];intro h;exact hl (by rw[h]))
  go_enter Tryz.func244, Tryz.ntmps244
  go_wp2_with fail;go_ret;exact⟨yB he.out.symm,zA.refl _ _⟩
def qE(F:Nat->Prop)(R:Nat):Nat->Prop:=λk=>F k\/k=R
section
variable {F:Nat->Prop}{ad:Nat->Addr}{w w':World}{R:Nat}
theorem yG.withR(h:yG F ad w)(m:zF w w')(hz:w.heap.size<w'.heap.size):yG (qE F w.heap.size) ad w' :=
 h.step m.ext (λk hk hF hG=>by rcases hG with g|g;exact hF g;omega) (λk hk=>by
  rcases hk with g|g
  .exact Nat.lt_trans (h.lt k g) hz
  .omega)
theorem Sl.withR{α:Type}{sz:Nat}{enc:α->List Value}{v:Value}{l:List α}(h:Sl F w sz enc v l)(m:zF w w'):Sl (qE F w.heap.size) w' sz enc v l :=
 h.step m.ext (λk hk hF hG=>by rcases hG with g|g;exact hF g;omega)
theorem vB.unR{v:Value}{l:List Int}{k:Nat}(h:vB (qE F R) ad w v l k)(m:zA (qE F R) w w'):vB F ad w' v l k:=h.step m (λ_ _ hF hG=>hF (.inl hG))
theorem Sl.unR{α:Type}{sz:Nat}{enc:α->List Value}{v:Value}{l:List α}(h:Sl (qE F R) w sz enc v l)(m:zA (qE F R) w w'):Sl F w' sz enc v l:=h.step m (λ_ _ hF hG=>hF (.inl hG))
end
structure Stp(P P':Nat->Prop)(w w':World):Prop where
 mods:zA P w w'
 old:∀k,k<w.heap.size->P' k->P k
 bd:Bd P' w'
section
variable {P P' P1 P2 Q F F' F1 F2:Nat->Prop}{ad:Nat->Addr}{w w' w1 w2:World}
theorem Stp.trans(a:Stp P P1 w w1)(b:Stp P1 P2 w1 w2):Stp P P2 w w2 :=
 ⟨a.mods.trans' b.mods (λi hi h=>a.old i hi h),λk hk h=>a.old k hk (b.old k (Nat.lt_of_lt_of_le hk a.mods.size) h),b.bd⟩
theorem Stp.ext(h:Bd P w)(m:zF w w'):Stp P P w w':=⟨m.ext,λ_ _ h=>h,h.mods m⟩
theorem Stp.same(h:Bd P w)(m:zA P w w'):Stp P P w w':=⟨m,λ_ _ h=>h,h.mods m⟩
theorem Stp.frame(s:Stp P P' w w')(hQ:Bd Q w):Stp (λk=>P k\/Q k) (λk=>P' k\/Q k) w w' :=
 ⟨s.mods.mono (λ_ h=>.inl h),λk hk h=>h.elim (λh=>.inl (s.old k hk h)) .inr,λk h=>h.elim (λh=>s.bd k h) (λh=>Nat.lt_of_lt_of_le (hQ k h) s.mods.size)⟩
structure zY(P P' F F':Nat->Prop)(ad:Nat->Addr)(w w':World):Prop where
 stp:Stp P P' w w'
 sub:∀k,P' k->F' k
 grow:∀k,F k->F' k
 oldF:∀k,k<w.heap.size->F' k->F k
 env:yG F' ad w'
theorem zY.trans(a:zY P P1 F F1 ad w w1)(b:zY P1 P2 F1 F2 ad w1 w2):zY P P2 F F2 ad w w2 :=
 ⟨a.stp.trans b.stp,b.sub,λk h=>b.grow k (a.grow k h),λk hk h=>a.oldF k hk (b.oldF k (Nat.lt_of_lt_of_le hk a.stp.mods.size) h),b.env⟩
theorem zY.ext(hL:yG F ad w)(hP:∀k,P k->F k)(m:zF w w'):zY P P F F ad w w' :=
 ⟨Stp.ext (λk h=>hL.lt k (hP k h)) m,hP,λ_ h=>h,λ_ _ h=>h,hL.mods m.ext⟩
theorem zY.refl(hL:yG F ad w)(hP:∀k,P k->F k):zY P P F F ad w w:=zY.ext hL hP (zA.refl _ _)
theorem zY.same(hL:yG F ad w)(hP:∀k,P k->F k)(m:zA P w w'):zY P P F F ad w w' :=
 ⟨Stp.same (λk h=>hL.lt k (hP k h)) m,hP,λ_ h=>h,λ_ _ h=>h,hL.mods (m.mono hP)⟩
theorem zY.of(hL:yG F ad w)(hP:∀k,P k->F k)(s:Stp P P' w w'):zY P P' F (λk=>F k\/P' k) ad w w' :=
 ⟨s,λ_ h=>.inr h,λ_ h=>.inl h,λk hk h=>h.elim id (λh=>hP k (s.old k hk h)),
  hL.step (s.mods.mono hP) (λk hk hn h=>hn (h.elim id (λh=>hP k (s.old k hk h)))) (λk h=>h.elim (λh=>Nat.lt_of_lt_of_le (hL.lt k h) s.mods.size) (λh=>s.bd k h))⟩
theorem zY.part(n:zY P P' F F' ad w w')(hQ:∀k,Q k->F k)(hL:yG F ad w):zY (λk=>P k\/Q k) (λk=>P' k\/Q k) F F' ad w w' :=
 ⟨n.stp.frame (λk h=>hL.lt k (hQ k h)),λk h=>h.elim (n.sub k) (λh=>n.grow k (hQ k h)),n.grow,n.oldF,n.env⟩
theorem zY.subP(n:zY P P' F F' ad w w')(hPF:∀k,P k->F k):zA F w w':=n.stp.mods.mono hPF
theorem zY.sl{α:Type}{sz:Nat}{enc:α->List Value}{v:Value}{l:List α}(n:zY P P' F F' ad w w')(hPF:∀k,P k->F k)(h:Sl F w sz enc v l):Sl F' w' sz enc v l :=
 h.step (n.subP hPF) (λk hk hn h'=>hn (n.oldF k hk h'))
theorem zY.errc{v:Value}{l:List Int}{k:Nat}(n:zY P P' F F' ad w w')(hPF:∀k,P k->F k)(h:vB F ad w v l k):vB F' ad w' v l k :=
 h.step (n.subP hPF) (λk hk hn h'=>hn (n.oldF k hk h'))
theorem zY.blk{b:Nat}{c:Array Value}{t:TypeId}(n:zY P P' F F' ad w w')(h:zH w b c t)(hb:¬ P b):zH w' b c t:=h.mods n.stp.mods hb
theorem zY.not{b:Nat}(n:zY P P' F F' ad w w')(hb:b<w.heap.size)(h:¬ P b):¬ P' b:=λh'=>h (n.stp.old b hb h')
theorem zY.size(n:zY P P' F F' ad w w'):w.heap.size<=w'.heap.size:=n.stp.mods.size
theorem Sl.anti'{α:Type}{sz:Nat}{enc:α->List Value}{v:Value}{l:List α}(h:Sl F w sz enc v l)(hG:∀k,Q k->F k):Sl Q w sz enc v l:=h.anti (λk _=>hG k)
theorem yG.anti(h:yG F ad w)(hG:∀k,Q k->F k):yG Q ad w:=h.step (zA.refl _ _) (λk _ hn hq=>hn (hG k hq)) (λk hk=>h.lt k (hG k hk))
end
def zDF(l:List Nat):Array Value:=(l.map λn=>.int .i64 (n:Int)).toArray
structure SpR(w:World)(b b2:Nat)(l:List Nat):Prop where
 own:zH w b #[.slice (some ⟨b2,0,none⟩) l.length l.length] 207
 row:zH w b2 (zDF l) 3
 ne:b≠b2
 len:8<=l.length
 len2:l.length<=256
abbrev spF(b b2:Nat):Nat->Prop:=λk=>k=b\/k=b2
theorem zB3(l:List Nat)(i:Nat)(x:Nat)(h:l[i]? = some x):(zDF l)[i]? = some (.int .i64 (x:Int)):=by
 simp[zDF,h]
theorem zKd(l:List Nat)(i x:Nat):(zDF l).setIfInBounds i (.int .i64 (x:Int))=zDF (l.set i x):=by
 simp[zDF,List.map_set]
section
variable {F:Nat->Prop}{w w':World}{b b2:Nat}{l:List Nat}
theorem SpR.mods(h:SpR w b b2 l)(m:zA F w w')(h1:¬ F b)(h2:¬ F b2):SpR w' b b2 l:=⟨h.own.mods m h1,h.row.mods m h2,h.ne,h.len,h.len2⟩
theorem SpR.drew(h:SpR w b b2 l):SpR w.drew b b2 l:=⟨h.own.drew,h.row.drew,h.ne,h.len,h.len2⟩
theorem SpR.set(h:SpR w b b2 l)(i x:Nat):SpR (w.setCell ⟨b2,i,none⟩ (.int .i64 (x:Int))) b b2 (l.set i x) :=
 ⟨by rw[List.length_set];exact h.own.set_other h.ne _,by rw[<- zKd];exact h.row.set i _,h.ne,by rw[List.length_set];exact h.len,by rw[List.length_set];exact h.len2⟩
end
def vJ(l:List Nat):Option Nat:=l.findIdx? (· == 0)
theorem zKe{l:List Nat}{k:Nat}(h:∀j,j<k->l[j]? ≠ some 0)(hk:l[k]? = some 0):vJ l=some k:=by
 unfold vJ;rw[List.findIdx?_eq_some_iff_getElem];obtain⟨hlt,he⟩:=List.getElem?_eq_some_iff.1 hk;refine⟨hlt,by simp[he],λj hj=>?_⟩;have:=h j hj;rw[List.getElem?_eq_getElem (by omega)] at this;simpa using this
theorem zKf{l:List Nat}(h:∀j,j<l.length->l[j]? ≠ some 0):vJ l=none:=by
 unfold vJ;rw[List.findIdx?_eq_none_iff];intro x hx;obtain⟨j,hj,rfl⟩:=List.getElem_of_mem hx;have:=h j hj;rw[List.getElem?_eq_getElem (by omega)] at this;simpa using this
theorem zL7{F:Nat->Prop}{ad:Nat->Addr}{w:World}(hL:yG F ad w)(b b2:Nat)(l:List Nat)(h:SpR w b b2 l) :
  Calls Tryz.prog 222 #[.pointer (some ⟨b,0,none⟩)] w λe w' =>
   (∃i,vJ l=some i/\i<l.length/\e=.returned (.tuple #[.int .i64 (i:Int),.nilIface])/\SpR w' b b2 (l.set i 2)/\zA (spF b b2) w w') \/
   (vJ l=none/\∃f,e=.returned (.tuple #[.int .i64 0,zL f])/\vB F ad w' (zL f) [-1] 3/\zF w w'):=by
 have c0:=h.own.cell (o:=0) (v:=.slice (some ⟨b2,0,none⟩) l.length l.length) rfl;have hl:=h.len;have hl2:=h.len2;have hfr:=h.row.frozen;have HS:=oh h;have g3:=hL.c3;have HL:=oh hL;clear h hL
 go_enter Tryz.func222, Tryz.ntmps222
 go_wp2
 go_loopg [15] l.length (λm i wr=>∃k:Nat,wr=w/\k+m=l.length/\i=.int .i64 k/\Hid (∀j,j<k->l[j]? ≠ some 0))
 case atStart=>exact⟨0,rfl,by omega,rfl,oh (by omega)⟩
 case round =>
  obtain⟨k,rfl,hk,rfl,HQ⟩:=hrel;by_cases hlt:k<l.length
  .obtain⟨x,hx⟩:∃x,x=l[k]:=⟨_,rfl⟩;have hx2:l[k]? = some x:=by rw[hx];simp[hlt]
   have hc:=HS.out.row.cell (zB3 l k x hx2);have hf:=hfr k;have HX:=oh hx2;clear hx hx2;by_cases hx0:x=0
   .subst hx0;go_wp2
    go_ret2
    exact .inl ⟨k,zKe HQ.out HX.out,hlt,rfl,HS.out.set k 2,zA.at _ _ b2 k _ (.inr rfl)⟩
   .go_wp2
    go_roundg (gk-1)
    case measure=>omega
    case rel=>exact⟨k+1,rfl,by omega,by go_num,oh (λj hj=>by
     by_cases e:j=k
     .subst e;rw[HX.out];simpa using hx0
     .exact HQ.out j (by omega))⟩
  .go_wp2_with fail;refine (qN HL.out _ _ _ 3 (.sent 3 (by decide) (by decide))).mono ?_;rintro e w1 ⟨f,rfl,hE,hm⟩;have HE:=oh hE;clear hE;go_wp2
   go_ret2
   exact .inr ⟨zKf (by have:=HQ.out;rwa [show k=l.length by omega] at this),f,rfl,HE.out,hm⟩
def qB(l:List Nat)(id:Int):Option Err:=if id<2\/(l.length:Int)<=id then some ([zB2 id],2) else none
theorem zDG{F:Nat->Prop}{ad:Nat->Addr}{w:World}(hL:yG F ad w)(b b2:Nat)(l:List Nat)(h:SpR w b b2 l)(op:ByteArray)(id:Int) :
  Calls Tryz.prog 122 #[.pointer (some ⟨b,0,none⟩),.string op,.int .i64 id] w λe w'=>∃ev,e=.returned ev/\zBw F ad w' ev (qB l id)/\zF w w':=by
 have c0:=h.own.cell (o:=0) (v:=.slice (some ⟨b2,0,none⟩) l.length l.length) rfl;have hl:=h.len;have hl2:=h.len2;have g2:=hL.c2;have HL:=oh hL;clear h hL;by_cases h1:id<2\/(l.length:Int)<=id
 .have HR:Hid (qB l id=some ([zB2 id],2)):=oh (by unfold qB;rw[if_pos h1]);by_cases h2:id<2
  .clear h1
   go_enter Tryz.func122, Tryz.ntmps122
   go_wp2_with fail;refine (zAG HL.out _ _ _ _ 2 (.sent 2 (by decide) (by decide))).mono ?_;rintro e w1 ⟨f,rfl,hE,hm⟩;have HE:=oh hE;clear hE;go_wp2
   go_ret;exact⟨_,rfl,by rw[HR.out];exact⟨f,rfl,HE.out⟩,hm⟩
  .have h3:(l.length:Int)<=id:=by omega
   clear h1
   go_enter Tryz.func122, Tryz.ntmps122
   go_wp2_with fail;refine (zAG HL.out _ _ _ _ 2 (.sent 2 (by decide) (by decide))).mono ?_;rintro e w1 ⟨f,rfl,hE,hm⟩;have HE:=oh hE;clear hE;go_wp2
   go_ret;exact⟨_,rfl,by rw[HR.out];exact⟨f,rfl,HE.out⟩,hm⟩
 .have HR:Hid (qB l id=none):=oh (by unfold qB;rw[if_neg h1]);have h2:2<=id:=by omega
  have h3:id<(l.length:Int):=by omega
  clear h1
  go_enter Tryz.func122, Tryz.ntmps122
  go_wp2
  go_ret;exact⟨_,rfl,by rw[HR.out];rfl,zA.refl _ _⟩
def yR(l:List Nat)(id:Int):List Nat × Option Err :=
 match qB l id with
 | some e=>(l,some e)
 | none=>if l[id.toNat]? = some 2 then (l.set id.toNat 0,none) else if l[id.toNat]? = some 1 then (l.set id.toNat 3,none) else (l,some ([zB2 id],1))
theorem zPR{F:Nat->Prop}{ad:Nat->Addr}{w:World}(hL:yG F ad w)(b b2:Nat)(l:List Nat)(h:SpR w b b2 l)(id:Int) :
  Calls Tryz.prog 224 #[.pointer (some ⟨b,0,none⟩),.int .i64 id] w λe w' =>
   ∃ev,e=.returned ev/\zBw F ad w' ev (yR l id).2/\SpR w' b b2 (yR l id).1/\zA (spF b b2) w w':=by
 have HS:=oh h;have HL:=oh hL;have hl:=h.len;have hl2:=h.len2;clear h hL;cases hc:qB l id with
 | some er =>
  have HR:Hid (yR l id=(l,some er)):=oh (by unfold yR;rw[hc])
  go_enter Tryz.func224, Tryz.ntmps224
  go_wp2_with fail;refine (zDG HL.out b b2 l HS.out _ id).mono ?_;rintro e w1 ⟨ev,rfl,hE,hm⟩;rw[hc] at hE;obtain⟨el,ek⟩:=er;obtain⟨f,rfl,hE⟩:=hE;have HE:=oh hE;clear hE hc;go_wp2
  go_ret;exact⟨_,rfl,by rw[HR.out];exact⟨f,rfl,HE.out⟩,by rw[HR.out];exact HS.out.mods hm (λf=>f) (λf=>f),hm.ext⟩
 | none =>
  have hid:2<=id/\id<(l.length:Int):=by
   unfold qB at hc;split at hc
   .cases hc
   .omega
  obtain⟨i,rfl⟩:∃i:Nat,id=i:=⟨id.toNat,by omega⟩;have hlt:i<l.length:=by omega
  obtain⟨x,hx⟩:∃x,l[i]? = some x:=⟨_,List.getElem?_eq_getElem hlt⟩;have HG:Hid (yR l i=if x=2 then (l.set i 0,none) else if x=1 then (l.set i 3,none) else (l,some ([zB2 i],1))):=oh (by
   unfold yR;rw[hc];simp only[Int.toNat_natCast,hx,Option.some.injEq])
  go_enter Tryz.func224, Tryz.ntmps224
  go_wp2_with fail;refine (zDG HL.out b b2 l HS.out _ i).mono ?_;rintro e w1 ⟨ev,rfl,hE,hm⟩;rw[hc] at hE;cases hE
  have HS1:=oh (HS.out.mods hm (λf=>f) (λf=>f));have HL1:=oh (HL.out.mods hm.ext);have c0:=HS1.out.own.cell (o:=0) (v:=.slice (some ⟨b2,0,none⟩) l.length l.length) rfl;have c1:=HS1.out.row.cell (zB3 l i x hx);have hfr:=HS1.out.row.frozen i;have g1:=HL1.out.c1;clear hx hc;by_cases hx2:x=2
  .subst hx2;rw[if_pos rfl] at HG;go_wp2
   go_ret;exact⟨_,rfl,by rw[HG.out];rfl,by rw[HG.out];exact HS1.out.set i 0,hm.ext.trans (zA.at _ _ b2 i _ (.inr rfl))⟩
  .by_cases hx1:x=1
   .subst hx1;rw[if_neg hx2,if_pos rfl] at HG;clear hx2;go_wp2
    go_ret;exact⟨_,rfl,by rw[HG.out];rfl,by rw[HG.out];exact HS1.out.set i 3,hm.ext.trans (zA.at _ _ b2 i _ (.inr rfl))⟩
   .rw[if_neg hx2,if_neg hx1] at HG;go_wp2_with fail;refine (zAG HL1.out _ _ _ _ 1 (.sent 1 (by decide) (by decide))).mono ?_;rintro e w2 ⟨f,rfl,hE,hm2⟩;have HE:=oh hE;clear hE;go_wp2
    go_ret;exact⟨_,rfl,by rw[HG.out];exact⟨f,rfl,HE.out⟩,by rw[HG.out];exact HS1.out.mods hm2 (λf=>f) (λf=>f),(hm.trans hm2).ext⟩
def zG9(l:List Nat):Nat:=l.countP (· == 0)
theorem Tryz.mkI:(Tryz.prog.info? 3).map (λi=>(i.zero,i.size,i.bytes))=some (some (.int .i64 0),1,8):=by kernel_rfl
def zPS(n:Nat):List Nat:=((List.replicate n 0).set 0 1).set 1 1
theorem zNz{w:World}(n:Nat)(h1:8<=n)(h2:n<=256) :
  Calls Tryz.prog 74 #[.int .i64 (n:Int)] w λe w'=>∃b b2,e=.returned (.tuple #[.pointer (some ⟨b,0,none⟩),.nilIface])/\SpR w' b b2 (zPS n)/\w.heap.size<=b/\w.heap.size<=b2/\zF w w':=by
 have hmk:=zHS (P:=Tryz.prog) 59 3 (.int .i64 0) 8 Tryz.underlying59 Tryz.mkI rfl n (by omega) (by omega);have h3:7<n:=by omega
 have h4:n<257:=by omega
 clear h1 h2
 go_enter Tryz.func74, Tryz.ntmps74
 go_wp2
 have k1:zH ((w.alloc (.cells (Array.replicate n (.int .i64 0)) 3)).alloc (.cells #[.slice (some ⟨w.heap.size,0,none⟩) n n] 207)) (w.heap.size+1) #[.slice (some ⟨w.heap.size,0,none⟩) n n] 207:=zR (by simp);have k2:zH ((w.alloc (.cells (Array.replicate n (.int .i64 0)) 3)).alloc (.cells #[.slice (some ⟨w.heap.size,0,none⟩) n n] 207)) w.heap.size (Array.replicate n (.int .i64 0)) 3:=(zH.new w _ _).alloc _;have km:zF w ((w.alloc (.cells (Array.replicate n (.int .i64 0)) 3)).alloc (.cells #[.slice (some ⟨w.heap.size,0,none⟩) n n] 207)):=((zA.refl _ w).alloc _).alloc _;generalize ((w.alloc (.cells (Array.replicate n (.int .i64 0)) 3)).alloc (.cells #[.slice (some ⟨w.heap.size,0,none⟩) n n] 207))=w2 at *
 have c1:=k1.cell (o:=0) (v:=.slice (some ⟨w.heap.size,0,none⟩) n n) rfl;have c2:=k2.cell (o:=0) (v:=.int .i64 0) (by rw[Array.getElem?_replicate,if_pos (by omega)]);have c3:=k2.cell (o:=1) (v:=.int .i64 0) (by rw[Array.getElem?_replicate,if_pos (by omega)]);have f2:=k2.frozen;have K1:=oh k1;have K2:=oh k2;have KM:=oh km;clear k1 k2 km hmk;go_region
 go_wp2
 go_ret2
 have hS:SpR w2 (w.heap.size+1) w.heap.size (List.replicate n 0) :=
  ⟨by rw[List.length_replicate];exact K1.out,by rw[show zDF (List.replicate n 0)=Array.replicate n (.int .i64 0) by simp[zDF]];exact K2.out,by omega,by simp;omega,by simp;omega⟩
 exact⟨_,_,rfl,((hS.set 0 1).set 1 1).drew,by omega,Nat.le_refl _,(((KM.out.setCell (.inl (Nat.le_refl _)) _).setCell (.inl (Nat.le_refl _)) _)).drew⟩
section
variable {P:Program}{fn:Func}{p q u v:Tmp}{ty tq:TypeId}
theorem zSG{w:World}{g:Nat}{t ty:TypeId}{cs:Array Value}{d:TypeDesc}(hg:zH w g cs t)(hu:P.underlying ty=some d)(hd:(match d with | .struct _ | .array _ _=>true|_=>false)=true)(hi:(P.info? ty).map (·.size)=some cs.size) :
  ((asAddr (.pointer (some ⟨g,0,none⟩))).run P w).andThen (λa w₁=>(loadVar ty a).run P w₁)=.ok (.agg cs) w:=by
 have hg':w.heap[g]? = some (.cells cs t (0,0)):=hg;simp[asAddr,run_loadVar_row w g t ty cs (0,0) d hg' hu hd hi]
theorem zCi(h:fn.results=#[.cell p ty,.tmp u,.cell q tq])(tmps:Array Value)(w:World)(g g2:Nat)(t t2:TypeId)(cs cs2:Array Value)(d:TypeDesc)
  (hp:tmps.getD p undef=.pointer (some ⟨g,0,none⟩)) (hg:zH w g cs t) (hq:tmps.getD q undef=.pointer (some ⟨g2,0,none⟩)) (hg2:zH w g2 cs2 t2) (e:tq=ty)
  (hu:P.underlying ty=some d) (hd:(match d with | .struct _ | .array _ _=>true|_=>false)=true) (hi:(P.info? ty).map (·.size)=some cs.size) (hi2:cs2.size=cs.size) :
  (results fn tmps).run P w=.ok (.tuple #[.agg cs,tmps.getD u undef,.agg cs2]) w:=by
 subst e;have hg':w.heap[g]? = some (.cells cs t (0,0)):=hg;have hg2':w.heap[g2]? = some (.cells cs2 t2 (0,0)):=hg2;have e1:=run_loadVar_row w g t tq cs (0,0) d hg' hu hd hi;have e2:=run_loadVar_row w g2 t2 tq cs2 (0,0) d hg2' hu hd (by rw[hi2];exact hi);have e:(results fn tmps).run P w=((asAddr (tmps.getD p undef)).run P w).andThen λa w₁=>((loadVar tq a).run P w₁).andThen λx w₂=>((asAddr (tmps.getD q undef)).run P w₂).andThen λb w₃=>((loadVar tq b).run P w₃).andThen λy w₄=>.ok (.tuple #[x,tmps.getD u undef,y]) w₄:=by
  simp only[results,h];simp[Sem.run_bind,Result.andThen]
 rw[e,hp,hq];simp[asAddr,e1,e2]
theorem zAb(h:fn.results=#[.cell p ty,.tmp u,.cell q tq,.tmp v])(tmps:Array Value)(w:World)(g g2:Nat)(t t2:TypeId)(cs cs2:Array Value)(d:TypeDesc)
  (hp:tmps.getD p undef=.pointer (some ⟨g,0,none⟩)) (hg:zH w g cs t) (hq:tmps.getD q undef=.pointer (some ⟨g2,0,none⟩)) (hg2:zH w g2 cs2 t2) (e:tq=ty)
  (hu:P.underlying ty=some d) (hd:(match d with | .struct _ | .array _ _=>true|_=>false)=true) (hi:(P.info? ty).map (·.size)=some cs.size) (hi2:cs2.size=cs.size) :
  (results fn tmps).run P w=.ok (.tuple #[.agg cs,tmps.getD u undef,.agg cs2,tmps.getD v undef]) w:=by
 subst e;have hg':w.heap[g]? = some (.cells cs t (0,0)):=hg;have hg2':w.heap[g2]? = some (.cells cs2 t2 (0,0)):=hg2;have e1:=run_loadVar_row w g t tq cs (0,0) d hg' hu hd hi;have e2:=run_loadVar_row w g2 t2 tq cs2 (0,0) d hg2' hu hd (by rw[hi2];exact hi);have e:(results fn tmps).run P w=((asAddr (tmps.getD p undef)).run P w).andThen λa w₁=>((loadVar tq a).run P w₁).andThen λx w₂=>((asAddr (tmps.getD q undef)).run P w₂).andThen λb w₃=>((loadVar tq b).run P w₃).andThen λy w₄=>.ok (.tuple #[x,tmps.getD u undef,y,tmps.getD v undef]) w₄:=by
  simp only[results,h];simp[Sem.run_bind,Result.andThen]
 rw[e,hp,hq];simp[asAddr,e1,e2]
end
theorem zH.set5{w:World}{R:Nat}{t:TypeId}{a0 a1 a2 a3 a4:Value}(h:zH w R #[a0,a1,a2,a3,a4] t)(v0 v1 v2 v3 v4:Value) :
  zH (((((w.setCell ⟨R,0,none⟩ v0).setCell ⟨R,1,none⟩ v1).setCell ⟨R,2,none⟩ v2).setCell ⟨R,3,none⟩ v3).setCell ⟨R,4,none⟩ v4) R #[v0,v1,v2,v3,v4] t:=by
 simpa using ((((h.set 0 v0).set 1 v1).set 2 v2).set 3 v3).set 4 v4
theorem zA.set5{F:Nat->Prop}{w w':World}(m:zA F w w'){R:Nat}(hR:w.heap.size<=R\/F R)(v0 v1 v2 v3 v4:Value) :
  zA F w (((((w'.setCell ⟨R,0,none⟩ v0).setCell ⟨R,1,none⟩ v1).setCell ⟨R,2,none⟩ v2).setCell ⟨R,3,none⟩ v3).setCell ⟨R,4,none⟩ v4) :=
 (m.set4 hR v0 v1 v2 v3).setCell (p:=⟨R,4,none⟩) hR _
def zES(l:List Nat)(id:Int):List Nat × Option Err :=
 match qB l id with
 | some e=>(l,some e)
 | none=>if l[id.toNat]? = some 0 then (l.set id.toNat 1,none) else (l,some ([zB2 id],1))
theorem zPT{F:Nat->Prop}{ad:Nat->Addr}{w:World}(hL:yG F ad w)(b b2:Nat)(l:List Nat)(h:SpR w b b2 l)(id:Int) :
  Calls Tryz.prog 77 #[.pointer (some ⟨b,0,none⟩),.int .i64 id] w λe w' =>
   ∃ev,e=.returned ev/\zBw F ad w' ev (zES l id).2/\SpR w' b b2 (zES l id).1/\zA (spF b b2) w w':=by
 have HS:=oh h;have HL:=oh hL;have hl:=h.len;have hl2:=h.len2;clear h hL;cases hc:qB l id with
 | some er =>
  have HR:Hid (zES l id=(l,some er)):=oh (by unfold zES;rw[hc])
  go_enter Tryz.func77, Tryz.ntmps77
  go_wp2_with fail;refine (zDG HL.out b b2 l HS.out _ id).mono ?_;rintro e w1 ⟨ev,rfl,hE,hm⟩;rw[hc] at hE;obtain⟨el,ek⟩:=er;obtain⟨f,rfl,hE⟩:=hE;have HE:=oh hE;clear hE hc;go_wp2
  go_ret;exact⟨_,rfl,by rw[HR.out];exact⟨f,rfl,HE.out⟩,by rw[HR.out];exact HS.out.mods hm (λf=>f) (λf=>f),hm.ext⟩
 | none =>
  have hid:2<=id/\id<(l.length:Int):=by
   unfold qB at hc;split at hc
   .cases hc
   .omega
  obtain⟨i,rfl⟩:∃i:Nat,id=i:=⟨id.toNat,by omega⟩;have hlt:i<l.length:=by omega
  obtain⟨x,hx⟩:∃x,l[i]? = some x:=⟨_,List.getElem?_eq_getElem hlt⟩;have HG:Hid (zES l i=if x=0 then (l.set i 1,none) else (l,some ([zB2 i],1))):=oh (by
   unfold zES;rw[hc];simp only[Int.toNat_natCast,hx,Option.some.injEq])
  go_enter Tryz.func77, Tryz.ntmps77
  go_wp2_with fail;refine (zDG HL.out b b2 l HS.out _ i).mono ?_;rintro e w1 ⟨ev,rfl,hE,hm⟩;rw[hc] at hE;cases hE
  have HS1:=oh (HS.out.mods hm (λf=>f) (λf=>f));have HL1:=oh (HL.out.mods hm.ext);have c0:=HS1.out.own.cell (o:=0) (v:=.slice (some ⟨b2,0,none⟩) l.length l.length) rfl;have c1:=HS1.out.row.cell (zB3 l i x hx);have hfr:=HS1.out.row.frozen i;have g1:=HL1.out.c1;clear hx hc;by_cases hx2:x=0
  .subst hx2;rw[if_pos rfl] at HG;go_wp2
   go_ret;exact⟨_,rfl,by rw[HG.out];rfl,by rw[HG.out];exact HS1.out.set i 1,hm.ext.trans (zA.at _ _ b2 i _ (.inr rfl))⟩
  .rw[if_neg hx2] at HG;go_wp2_with fail;refine (zAG HL1.out _ _ _ _ 1 (.sent 1 (by decide) (by decide))).mono ?_;rintro e w2 ⟨f,rfl,hE,hm2⟩;have HE:=oh hE;clear hE;go_wp2
   go_ret;exact⟨_,by rfl,by rw[HG.out];exact⟨f,rfl,HE.out⟩,by rw[HG.out];exact HS1.out.mods hm2 (λf=>f) (λf=>f),(hm.trans hm2).ext⟩
end
section
def zCo(n:Int):Bool:=decide (2<=n) && decide (n<256)
def vC(e:zV):Bool :=
 zAE e.key && (if e.chain=0 then decide (e.size=0) && decide (e.value.size<=24) else zCo e.chain && decide (e.value.size=0) && decide (24<e.size) && decide (e.size<=4096))
def jY:List ByteArray->Bool
 | []=>true
 | [_]=>true
 | a :: b :: l=>ltS a b && jY (b :: l)
def zO(n:zJ):Bool :=
 if n.leaf then n.entries.all vC && n.keys.isEmpty && n.kids.isEmpty && jY (n.entries.map (·.key)) && decide (n.entries.length<=65535)
 else n.entries.isEmpty && decide (2<=n.kids.length) && decide (n.kids.length=n.keys.length+1) && decide (n.kids.length<=256) && n.kids.all zCo && decide n.kids.Nodup && n.keys.all zAE && jY n.keys
def vK(s:ByteArray):List UInt8:=yD 1 s.size++s.data.toList
def zAP(e:zV):List UInt8 :=
 vK e.key++(if e.chain=0 then yD 1 0++vK e.value else yD 1 1++(yD 4 e.chain.toNat++yD 4 e.size.toNat))
def zAi(p:ByteArray × Int):List UInt8:=vK p.1++yD 4 p.2.toNat
def yE(n:zJ):List UInt8 :=
 if n.leaf then yD 2 n.entries.length++n.entries.flatMap zAP
 else yD 2 n.kids.length++(yD 4 (n.kids.headD 0).toNat++(n.keys.zip n.kids.tail).flatMap zAi)
structure RdA where
 at_:Int
 bad:Bool
def vD(b:List UInt8)(r:RdA)(W:Nat):Nat × RdA:=((vI b r.at_ W).1,⟨r.at_+W,r.bad || (vI b r.at_ W).2.isSome⟩)
def jO(b:List UInt8)(r:RdA):ByteArray × RdA :=
 let x:=vD b r 1
 if x.2.bad=true\/(b.length:Int)-x.2.at_<(x.1:Int) then (⟨#[]⟩,⟨x.2.at_,true⟩)
 else (⟨((b.drop x.2.at_.toNat).take x.1).toArray⟩,⟨x.2.at_+x.1,false⟩)
def vX(b:List UInt8)(r:RdA):zV × RdA :=
 let k:=jO b r
 let c:=vD b k.2 1
 if c.1=0 then
  let v:=jO b c.2
  (⟨k.1,v.1,0,0⟩,v.2)
 else
  let x:=vD b c.2 4
  let y:=vD b x.2 4
  (⟨k.1,⟨#[]⟩,x.1,y.1⟩,y.2)
def qD(b:List UInt8):Nat->RdA->List zV->List zV × RdA
 | 0,r,l=>(l,r)
 | k+1,r,l=>if r.bad then (l,r) else qD b k (vX b r).2 (l++[(vX b r).1])
def zBW(b:List UInt8):Nat->RdA->List ByteArray->List Int->List ByteArray × List Int × RdA
 | 0,r,l,m=>(l,m,r)
 | k+1,r,l,m=>if r.bad then (l,m,r) else
  let s:=jO b r
  let x:=vD b s.2 4
  zBW b k x.2 (l++[s.1]) (m++[(x.1:Int)])
def zAH(leaf:Bool)(b:List UInt8):zJ × RdA :=
 let m:=vD b ⟨0,false⟩ 2
 if leaf then
  let x:=qD b m.1 m.2 []
  (⟨true,x.1,[],[]⟩,x.2)
 else
  let k:=vD b m.2 4
  let x:=zBW b (m.1-1) k.2 [] [(k.1:Int)]
  (⟨false,[],x.1,x.2.1⟩,x.2.2)
def zET(leaf:Bool)(b:List UInt8):Option zJ :=
 let x:=zAH leaf b
 if x.2.bad=false/\zO x.1=true/\yE x.1=b then some x.1 else none
theorem zPU(p q:List UInt8)(W n:Nat)(hn:n<256 ^ W):vI (p++(yD W n++q)) (p.length:Int) W=(n,none):=by
 unfold vI;rw[if_neg (by simp;omega),if_neg (by simp[zD];omega)];have e:((p++(yD W n++q)).drop ((p.length:Int)).toNat).take W=yD W n:=by
  rw[Int.toNat_natCast,List.drop_left,List.take_left' (zD W n)]
 rw[e,zEL,Nat.mod_eq_of_lt hn]
theorem zBg(p q:List UInt8)(W n:Nat)(hn:n<256 ^ W):vD (p++(yD W n++q)) ⟨(p.length:Int),false⟩ W=(n,⟨((p++yD W n).length:Int),false⟩):=by
 unfold vD;simp only[zPU p q W n hn];simp[zD]
theorem zEn(p q:List UInt8)(s:ByteArray)(hs:s.size<256):jO (p++(vK s++q)) ⟨(p.length:Int),false⟩=(s,⟨((p++vK s).length:Int),false⟩):=by
 unfold jO vK;have h:=zBg p (s.data.toList++q) 1 s.size (by simpa using hs);rw[List.append_assoc] at *;simp only at h ⊢;rw[h];have hl:s.data.toList.length=s.size:=by rw[Array.length_toList];rfl
 simp only;rw[if_neg (by simp[zD];omega)];have e:((p++(yD 1 s.size++(s.data.toList++q))).drop ((((p++yD 1 s.size).length:Nat):Int)).toNat).take s.size=s.data.toList:=by
  rw[Int.toNat_natCast,<- List.append_assoc,List.drop_left,List.take_left' hl]
 rw[e];simp[zD,hl];omega
theorem zL8(p q:List UInt8)(e:zV)(he:vC e=true):vX (p++(zAP e++q)) ⟨(p.length:Int),false⟩=(e,⟨((p++zAP e).length:Int),false⟩):=by
 obtain⟨key,value,chain,size⟩:=e;unfold vC at he;simp only[Bool.and_eq_true] at he;obtain⟨hk,he⟩:=he;have hk2:key.size<256:=by have:=(zAo key).1 hk;omega
 unfold vX zAP;by_cases hc:chain=0
 .rw[if_pos hc] at he;simp only[Bool.and_eq_true,decide_eq_true_eq] at he;obtain⟨h1,h2⟩:=he;subst hc h1;simp only[if_pos];have a:=zEn p (yD 1 0++vK value++q) key hk2;have b:=zBg (p++vK key) (vK value++q) 1 0 (by decide);have c:=zEn (p++vK key++yD 1 0) q value (by omega);simp only[List.append_assoc] at a b c ⊢;rw[a];simp only;rw[b];simp only[if_pos];rw[c]
 .rw[if_neg hc] at he;simp only[Bool.and_eq_true,decide_eq_true_eq,zCo] at he;obtain⟨⟨⟨⟨h1,h2⟩,h3⟩,h4⟩,h5⟩:=he;obtain⟨cn,rfl⟩:∃cn:Nat,chain=(cn:Int):=⟨chain.toNat,by omega⟩;obtain⟨sn,rfl⟩:∃sn:Nat,size=(sn:Int):=⟨size.toNat,by omega⟩;have hv:value=⟨#[]⟩:=by
   apply ByteArray.ext
   exact Array.eq_empty_of_size_eq_zero h3
  subst hv;simp only[if_neg hc,Int.toNat_natCast];have a:=zEn p (yD 1 1++(yD 4 cn++(yD 4 sn++q))) key hk2;have b:=zBg (p++vK key) (yD 4 cn++(yD 4 sn++q)) 1 1 (by decide);have c:=zBg (p++vK key++yD 1 1) (yD 4 sn++q) 4 cn (by omega);have d:=zBg (p++vK key++yD 1 1++yD 4 cn) q 4 sn (by omega);simp only[List.append_assoc] at a b c d ⊢;rw[a];simp only;rw[b];simp only[if_neg (show ¬ (1:Nat)=0 by omega)];rw[c];simp only;rw[d]
theorem zFc:∀(m:List zV) (p q:List UInt8) (l:List zV),m.all vC=true->qD (p++(m.flatMap zAP++q)) m.length ⟨(p.length:Int),false⟩ l=(l++m,⟨((p++m.flatMap zAP).length:Int),false⟩)
 | [],p,q,l,_=>by simp[qD]
 | e :: m,p,q,l,h=>by
  simp only[List.all_cons,Bool.and_eq_true] at h;have a:=zL8 p (m.flatMap zAP++q) e h.1;have b:=zFc m (p++zAP e) q (l++[e]) h.2;rw[List.length_cons,qD];simp only[List.flatMap_cons,List.append_assoc] at a b ⊢;rw[if_neg (by simp),a];simp only;rw[b];simp
theorem zIy:∀(m:List (ByteArray × Int)) (p q:List UInt8) (l:List ByteArray) (k:List Int),(∀x∈m,zAE x.1=true/\zCo x.2=true) ->
  zBW (p++(m.flatMap zAi++q)) m.length ⟨(p.length:Int),false⟩ l k=(l++m.map (·.1),k++m.map (·.2),⟨((p++m.flatMap zAi).length:Int),false⟩)
 | [],p,q,l,k,_=>by simp[zBW]
 | x :: m,p,q,l,k,h=>by
  obtain⟨s,c⟩:=x;obtain⟨h1,h2⟩:=h _ List.mem_cons_self;simp only at h1 h2;have hs:s.size<256:=by have:=(zAo s).1 h1;omega
  simp only[zCo,Bool.and_eq_true,decide_eq_true_eq] at h2;obtain⟨cn,rfl⟩:∃cn:Nat,c=(cn:Int):=⟨c.toNat,by omega⟩;have a:=zEn p (yD 4 cn++(m.flatMap zAi++q)) s hs;have b:=zBg (p++vK s) (m.flatMap zAi++q) 4 cn (by omega);have d:=zIy m (p++(vK s++yD 4 cn)) q (l++[s]) (k++[(cn:Int)]) (λy hy=>h y (List.mem_cons_of_mem _ hy));rw[List.length_cons,zBW];simp only[List.flatMap_cons,zAi,Int.toNat_natCast,List.append_assoc] at a b d ⊢;rw[if_neg (by simp),a];simp only;rw[b];simp only;rw[d];simp
theorem zJp(n:zJ)(h:zO n=true):zAH n.leaf (yE n)=(n,⟨((yE n).length:Int),false⟩):=by
 obtain⟨leaf,entries,keys,kids⟩:=n;cases leaf with
 | true =>
  unfold zO at h;simp only[if_true,Bool.and_eq_true,List.isEmpty_iff,decide_eq_true_eq] at h;obtain⟨⟨⟨⟨h1,h2⟩,h3⟩,_⟩,h5⟩:=h;subst h2 h3;have a:=zBg [] (entries.flatMap zAP) 2 entries.length (by omega);have b:=zFc entries (yD 2 entries.length) [] [] h1;simp only[List.nil_append,List.append_nil,List.length_nil] at a b;unfold zAH yE;simp only[if_true];rw[show ((⟨0,false⟩:RdA))=⟨((0:Nat):Int),false⟩ from rfl,a];simp only;rw[b]
 | false =>
  unfold zO at h;simp only[Bool.false_eq_true,if_false,Bool.and_eq_true,List.isEmpty_iff,decide_eq_true_eq] at h;obtain⟨⟨⟨⟨⟨⟨⟨h1,h2⟩,h3⟩,h4⟩,h5⟩,_⟩,h7⟩,_⟩:=h;subst h1;cases kids with
  | nil=>simp at h2
  | cons k0 ks =>
   simp only[List.length_cons] at h3 h4 h2;simp only[List.all_cons,Bool.and_eq_true] at h5;obtain⟨hk0,hks⟩:=h5;have hk1:2<=k0/\k0<256:=by simpa[zCo] using hk0
   obtain⟨c0,rfl⟩:∃c0:Nat,k0=(c0:Int):=⟨k0.toNat,by omega⟩;have hz1:(keys.zip ks).map (·.1)=keys:=List.map_fst_zip (by omega);have hz2:(keys.zip ks).map (·.2)=ks:=List.map_snd_zip (by omega);have hzl:(keys.zip ks).length=ks.length:=by rw[List.length_zip];omega
   have a:=zBg [] (yD 4 c0++(keys.zip ks).flatMap zAi) 2 (ks.length+1) (by omega);have b:=zBg (yD 2 (ks.length+1)) ((keys.zip ks).flatMap zAi) 4 c0 (by omega);have d:=zIy (keys.zip ks) (yD 2 (ks.length+1)++yD 4 c0) [] [] [(c0:Int)] (λx hx=>by
    have hm:=List.of_mem_zip hx;exact⟨List.all_eq_true.1 h7 _ hm.1,List.all_eq_true.1 hks _ hm.2⟩)
   simp only[List.nil_append,List.append_nil,List.length_nil,List.append_assoc] at a b d;unfold zAH yE;simp only[Bool.false_eq_true,if_false,List.length_cons,List.headD_cons,List.tail_cons,Int.toNat_natCast];rw[show ((⟨0,false⟩:RdA))=⟨((0:Nat):Int),false⟩ from rfl,a];simp only;rw[b];simp only[Nat.add_sub_cancel];rw[hzl] at d;rw[d,hz1,hz2];rfl
theorem zHU(leaf:Bool)(b:List UInt8)(n:zJ):zET leaf b=some n ↔ zO n=true/\n.leaf=leaf/\yE n=b:=by
 have hlf:(zAH leaf b).1.leaf=leaf:=by cases leaf <;> rfl
 constructor
 .intro h;unfold zET at h;simp only at h;split at h
  .rename_i hc;injection h with h;subst h;exact⟨hc.2.1,hlf,hc.2.2⟩
  .cases h
 .rintro⟨h1,rfl,rfl⟩;unfold zET;rw[zJp n h1];simp[h1]
end
end Go.Proofs.YteabpacpngaoaaaGreatDoor
