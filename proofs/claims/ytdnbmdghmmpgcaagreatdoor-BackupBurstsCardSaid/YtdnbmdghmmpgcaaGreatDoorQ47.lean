import Derived.Test.YtdnbmdghmmpgcaaGreatDoorQ37
namespace Go.Proofs.YtdnbmdghmmpgcaaGreatDoor
open Lib renaming hid->oh
open Go.RowKit
attribute [local go_sem ↓] Go.wp_at_zero Go.wp_at_succ
theorem zNr(l:List UInt8)(q:Nat):zED l q 0=l:=by
 unfold zED;rw[rL,Nat.xor_zero,UInt8.ofNat_toNat];by_cases h:q / 8<l.length
 .apply rK
  intro i;rw[pE];by_cases e:q / 8=i
  .subst e;rw[if_pos rfl,if_pos h];simp[List.getD,h]
  .rw[if_neg e]
 .exact List.set_eq_of_length_le (by omega)
section
variable {F:Nat->Prop}{w w':World}
set_option maxRecDepth 100000 in
set_option maxHeartbeats 400000 in
theorem zJC(bv:Value)(l:List UInt8)(hb:Sl F w 1 zT bv l)(bit mask:Nat)(hbit:bit<8 * l.length)(hlen:l.length<=1000000000)(hm:mask<4294967296) :
  Calls Tryz.prog 19 #[bv,.int .i64 (bit:Int),.int .u32 (mask:Int)] w λe w'=>∃a c,e=.returned (.slice a l.length c) /\
   yA (λ_=>False) w' w.heap.size 5 1 zT (.slice a l.length c) (zAN l bit mask)/\zG w w':=by
 have HB:=oh hb;obtain⟨ba,bc,rfl,i1,i2,i3,i4⟩:=hb;clear i4
 go_enter Tryz.func19, Tryz.ntmps19
 go_wp2_with (at_builtin;refine yH Tryz.elB qN rfl _ _ rfl w.heap.size (.slice (some ⟨w.heap.size,0,none⟩) 0 0) _ ([]:List UInt8) l rfl rfl (yA.made (cur:=#[]) (b:=w.heap.size) (cap:=0) (l:=([]:List UInt8)) (sz:=1) (enc:=zT) (F:=λ_=>False) (zK.new w #[] 5) (uK _) (λf=>f) (by simp) (by simp[maxLen]) rfl rfl qN.len) (HB.out.ext ((zA.refl _ w).alloc _)) (by simp;omega) (by simp) (λf=>f) ?_;simp only[uF,uS,wL];intro a4 c4 w4 hO4 hm4 hat4);have HO4:Hid (yA (λ_=>False) w4 w.heap.size 5 1 zT (.slice a4 l.length c4) l/\zG w w4):=oh ⟨hO4,((zA.refl _ w).alloc _).trans' hm4 (λi hi h=>by simp[Value.ownBlock] at h;omega)⟩;have hne:l≠[]:=λe=>by rw[e] at hbit;simp at hbit
 obtain⟨g,hg⟩:∃g,a4=some ⟨g,0,none⟩:=hO4.some' hne;subst hg;clear hO4 hm4 hat4 hne;go_wp2_with fail;go_loopg [2,8] 32 (λm v2 v8 wr=>∃(k mk:Nat) (lk:List UInt8),k+m=32/\v2=.int .u32 (mk:Int)/\v8=.int .i64 (k:Int)/\mk<4294967296/\Hid (mk=mask / 2 ^ k/\lk.length=l.length/\vC mask bit m k lk=zAN l bit mask)/\Hid (yA (λ_=>False) wr w.heap.size 5 1 zT (.slice (some ⟨g,0,none⟩) l.length c4) lk/\zG w wr))
 case atStart=>exact⟨0,mask,l,by omega,rfl,rfl,hm,oh ⟨by simp,rfl,rfl⟩,HO4⟩
 case round =>
  obtain⟨k,mk,lk,hk,rfl,rfl,hmk,HQ,HS⟩:=hrel;by_cases hlt:k<32
  .obtain⟨m,rfl⟩:∃m,gk=m+1:=⟨gk-1,by omega⟩;obtain⟨q,hq⟩:∃q,q=(bit+k) / 8:=⟨_,rfl⟩;obtain⟨r,hr⟩:∃r,r=(bit+k) % 8:=⟨_,rfl⟩;have hr8:r<8:=by omega
   have t0:(bit:Int).tmod 8=((bit % 8:Nat):Int):=by rw[tG (by omega)];omega
   have t1:(bit:Int).tdiv 8=((bit / 8:Nat):Int):=by rw[tZ (by omega)];omega
   have HQR:=oh (And.intro hq hr);obtain⟨y,hy⟩:∃y,y=bit % 8:=⟨_,rfl⟩;obtain⟨z,hz⟩:∃z,z=bit / 8:=⟨_,rfl⟩;rw[<- hy] at t0;rw[<- hz] at t1;have t2:((y:Int)+(k:Int)).tdiv 8=(q:Int)-(z:Int):=by rw[tZ (by omega)];omega
   have t3:((y:Int)+(k:Int)).tmod 8=(r:Int):=by rw[tG (by omega)];omega
   have t4:(z:Int)+((q:Int)-(z:Int))=(q:Int):=by omega
   have u0:(0:Int)<=(q:Int):=by omega
   have y8:(y:Int)<8:=by omega
   have z9:(z:Int)<=1000000000:=by omega
   have k32:(k:Int)<32:=by omega
   have q9:(q:Int)<=1000000010:=by omega
   have hst:=HQ.out.2.2;rw[vC] at hst;have HST:=oh hst;have hmq:mask / 2 ^ k % 2=mk % 2:=by rw[HQ.out.1]
   have HMQ:=oh hmq;have HM2:Hid (mk / 2=mask / 2 ^ (k+1)):=oh (by rw[HQ.out.1,Nat.div_div_eq_div_mul,pI]);have HYZ:Hid (y<8/\z<=q/\q<1000000010):=oh (by omega);clear hst hmq hq hr hy hz;by_cases hodd:mk % 2=1
   .have hodd2:(mk:Int) % 2=1:=by omega
    by_cases hin:q<l.length
    .have u1:(q:Int)<(l.length:Int):=by omega
     obtain⟨x,hx⟩:∃x,lk[q]? = some x:=⟨_,uB (by rw[HQ.out.2.1];exact hin)⟩;have hsl:=HS.out.1.sl qN.len (by rw[HQ.out.2.1];omega);have hln:(.slice (some ⟨g,0,none⟩) l.length c4:Value)=.slice (some ⟨g,0,none⟩) lk.length c4:=by rw[HQ.out.2.1]
     have c0:=hsl.cellsAt hx 0 _ rfl;simp only[uS,Nat.mul_one,uP] at c0;have hx8:=x.toNat_lt;have hp:=zNv 1 r (by omega) hr8;have HX:=oh hx;obtain⟨g',c',hgs, -, -,hgb,hgw,hgf⟩:=HS.out.1.some (by intro e;rw[e] at hx;simp at hx);injection hgs with hgs hge hgc;clear hge;injection hgs with hgs;injection hgs with hgs;subst hgs hgc;have hzf:=hgf q;have hpi:(2:Int) ^ r % 256=((1 * 2 ^ r:Nat):Int):=by
      have e:((1 * 2 ^ r:Nat):Int)=(2:Int) ^ r:=by simp
      rw[<- e];omega
     have hval:bits .xor .u8 (x.toNat:Int) ((2:Int) ^ r % 256)=((x.toNat ^^^ (1 * 2 ^ r):Nat):Int):=by rw[hpi];exact u8_xor_nat x.toNat (1 * 2 ^ r) hx8 hp
     obtain⟨y2,hy2⟩:∃y2,y2=UInt8.ofNat (x.toNat ^^^ (1 * 2 ^ r)):=⟨_,rfl⟩;have hyn:((x.toNat ^^^ (1 * 2 ^ r):Nat):Int)=(y2.toNat:Int):=by
      rw[hy2,UInt8.toNat_ofNat',rG (wQ (n:=8) hx8 hp)]
     rw[hyn] at hval;have HVAL:=oh hval;have HS2:Hid (yA (λ_=>False) (wr.setCell ⟨g,q,none⟩ (.int .u8 (y2.toNat:Int))) w.heap.size 5 1 zT (.slice (some ⟨g,0,none⟩) l.length c4) (zED lk (bit+k) 1)/\zG w (wr.setCell ⟨g,q,none⟩ (.int .u8 (y2.toNat:Int)))):=oh (by
      have h1:=HS.out.1.set qN.len HX.out (j:=0) (x':=y2) (u:=.int .u8 (y2.toNat:Int)) (by omega) rfl;simp only[Nat.mul_one,uP] at h1;refine⟨?_,HS.out.2.setCell (.inl hgb) _⟩;have e:zED lk (bit+k) 1=lk.set q y2:=by
       unfold zED;rw[<- HQR.out.1,<- HQR.out.2,show lk.getD q 0=x by simp[List.getD,HX.out],<- hy2]
      rw[e];exact h1)
     have HN:Hid (mk / 2=mask / 2 ^ (k+1)/\(zED lk (bit+k) 1).length=l.length/\vC mask bit m (k+1) (zED lk (bit+k) 1)=zAN l bit mask):=oh (by
      refine⟨HM2.out,by rw[zDl];exact HQ.out.2.1,?_⟩;have h:=HST.out;rw[if_pos (by rw[HQ.out.2.1];have:=HQR.out.1;omega),HMQ.out,hodd] at h;exact h)
     clear hsl hln hx hgf hgb hgw hpi hy2 hyn hval hp;go_wp2_with fail;rw[HVAL.out];go_roundg m
     case measure=>omega
     case rel=>exact⟨k+1,mk / 2,_,by omega,rfl,by go_num,by omega,HN,HS2⟩
    .have u1:¬ (q:Int)<(l.length:Int):=by omega
     have HN:Hid (mk / 2=mask / 2 ^ (k+1)/\lk.length=l.length/\vC mask bit m (k+1) lk=zAN l bit mask):=oh (by
      refine⟨HM2.out,HQ.out.2.1,?_⟩;have h:=HST.out;rw[if_neg (by rw[HQ.out.2.1];have:=HQR.out.1;omega)] at h;exact h)
     go_wp2_with fail;go_roundg m
     case measure=>omega
     case rel=>exact⟨k+1,mk / 2,lk,by omega,rfl,by go_num,by omega,HN,HS⟩
   .have hodd2:(mk:Int) % 2=0:=by omega
    have HN:Hid (mk / 2=mask / 2 ^ (k+1)/\lk.length=l.length/\vC mask bit m (k+1) lk=zAN l bit mask):=oh (by
     refine⟨HM2.out,HQ.out.2.1,?_⟩;have h:=HST.out;rw[HMQ.out,show mk % 2=0 by omega,zNr] at h;split at h <;> exact h)
    go_wp2_with fail;go_roundg m
    case measure=>omega
    case rel=>exact⟨k+1,mk / 2,lk,by omega,rfl,by go_num,by omega,HN,HS⟩
  .have hk0:gk=0:=by omega
   have HKK:=oh hk0;go_wp2_with fail;go_ret;obtain⟨j1,j2,j3⟩:=HQ.out;rw[HKK.out,vC] at j3;exact⟨_,_,rfl,by rw[<- j3];exact HS.out.1,HS.out.2⟩
end
end Go.Proofs.YtdnbmdghmmpgcaaGreatDoor
