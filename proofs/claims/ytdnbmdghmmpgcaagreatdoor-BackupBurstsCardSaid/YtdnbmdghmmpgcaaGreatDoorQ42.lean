import Derived.Test.YtdnbmdghmmpgcaaGreatDoorQ41
namespace Go.Proofs.YtdnbmdghmmpgcaaGreatDoor
open Lib renaming hid->oh
open Go.RowKit
attribute [local go_sem ↓] Go.wp_at_zero Go.wp_at_succ
section
variable {F:Nat->Prop}{ad:Nat->Addr}{w w':World}
def MgS(F:Nat->Prop)(ad:Nat->Addr)(r:Option (List zD × Nat))(v5 v6 v7:Value)(w:World):Prop:=match r with
 | some (l,g)=>v6=.nilIface/\v7=.int .u64 (g:Int)/\Sl F w 2 yS v5 l
 | none=>∃f,v6=zJ f/\yY F ad w (zJ f) [-1] 1
def zGu(F:Nat->Prop)(ad:Nat->Addr)(r:Option (List zD × Nat))(e:Ending)(w':World):Prop:=match r with
 | some (l,_)=>∃v',e=.returned (.tuple #[v',.nilIface])/\Sl F w' 2 yS v' l
 | none=>∃f el,e=.returned (.tuple #[.slice none 0 0,zJ f])/\yY F ad w' (zJ f) el 1
set_option maxRecDepth 100000 in
set_option maxHeartbeats 400000 in
theorem zEy(hL:yG F ad w)(Rb n:Nat)(hn:n=2\/n=3)(vs:Nat->Value)(hvs:∀i,i<n->w.cell? ⟨Rb,i,none⟩=some (vs i))(b0:List UInt8)(hb0:Sl F w 1 zT (vs 0) b0)(hlen:b0.length<=1000000000)(st:Nat->Option (List zD × Nat))(h0:zBj)(l0:List zD)(hr:zBY b0=.inl (h0,l0))(hs0:st 0=some (l0,h0.gen))
  (hst:∀i,i+1<n->∀l g,st i=some (l,g)->∀W,zG w W->∀v,Sl F W 2 yS v l -> Calls Tryz.prog 72 #[v,.int .u64 (g:Int),vs (i+1)] W λe w'=>zSh F ad (st (i+1)) e w'/\zG W w')
  (hsn:∀i,i+1<n->st i=none->st (i+1)=none) :
  Calls Tryz.prog 21 #[.slice (some ⟨Rb,0,none⟩) n n] w λe w'=>zGu F ad (st (n-1)) e w'/\zG w w':=by
 have HRD:=zNj hL (vs 0) b0 hb0 hlen;unfold zIj at HRD;rw[hr] at HRD;simp only at HRD;obtain⟨k0,g0,q0,r0⟩:=h0;rw[show zCS ⟨k0,g0,q0,r0⟩=.agg #[.int .i64 (k0:Int),.int .u64 (g0:Int),.int .u64 (q0:Int),.int .i64 (r0:Int)] from rfl] at HRD;have HRD:=oh HRD;have HL:=oh hL;have HST:=oh hst;have HSN:=oh hsn;have HS0:=oh hs0;have HVS:=oh (λi (h:i<n) W (m:zG w W)=>(m.cell (yE (hvs i h)) (λf=>f)).trans (hvs i h));have c0:=hvs 0 (by omega);have hn1:1<=n:=by omega
 have i1:(1:Int)<=(n:Int):=by omega
 have i2:¬ (n:Int)=0:=by omega
 have hn3:n<=3:=by omega
 have hif:¬ n=1:=by omega
 have hb:Rb<w.heap.size:=yE c0;clear hL hst hsn hs0 hr hb0 hlen hvs hn
 go_enter Tryz.func21, Tryz.ntmps21
 go_wp2_with fail;refine HRD.out.mono ?_;rintro e w1 ⟨⟨v1,rfl,hv1⟩,hm1⟩;have HV1:=oh (hv1.ext ((zA.refl _ w1).alloc (.cells #[.int .i64 (k0:Int),.int .u64 (g0:Int),.int .u64 (q0:Int),.int .i64 (r0:Int)] 46)));have HM1:=oh (hm1.alloc (.cells #[.int .i64 (k0:Int),.int .u64 (g0:Int),.int .u64 (q0:Int),.int .i64 (r0:Int)] 46));clear hv1 hm1 c0;go_wp2_with fail;go_loopg [5,6,7,27] (n-1) (λm v5 v6 v7 v27 wr=>∃(k:Nat) (a5 a6 a7:Value),k+m=n-1/\a5=v5/\a6=v6/\a7=v7/\v27=.int .i64 (k:Int)/\Hid (MgS F ad (st k) a5 a6 a7 wr/\zG w wr))
 case atStart=>exact⟨0,_,_,_,by omega,rfl,rfl,rfl,rfl,oh ⟨by rw[HS0.out];exact⟨rfl,rfl,HV1.out⟩,HM1.out⟩⟩
 case round =>
  obtain⟨k,a5,a6,a7,hkm,rfl,rfl,rfl,rfl,HQ⟩:=hrel;by_cases hlt:k+1<n
  .have c0:=HVS.out (k+1) hlt wr HQ.out.2;have j1:(k:Int)<(n:Int)-1:=by omega
   have j2:(0:Int)<=(k:Int):=by omega
   rw[n9 k 1] at c0;cases hs:st k with
   | some x =>
    obtain⟨l,g⟩:=x;have hq:=HQ.out.1;unfold MgS at hq;rw[hs] at hq;obtain⟨rfl,rfl,hv⟩:=hq;have HCL:=oh (HST.out k hlt l g hs wr HQ.out.2 a5 hv);rw[n9 k 1] at HCL;have HX:=oh HQ.out.2;clear hs hv HQ;go_wp2_with fail;refine HCL.out.mono ?_;rintro e w6 ⟨hd,hm6⟩;have HX6:=oh (HX.out.trans hm6);rw[n9 1 k] at hd;cases hs2:st (k+1) with
    | some y =>
     obtain⟨l2,g2⟩:=y;rw[hs2] at hd;obtain⟨v6,rfl,hv6⟩:=hd;have HN:Hid (MgS F ad (st (k+1)) v6 .nilIface (.int .u64 (g2:Int)) w6/\zG w w6):=oh ⟨by rw[hs2];exact⟨rfl,rfl,hv6⟩,HX6.out⟩;clear hv6 hs2 hm6;go_wp2_with fail;go_roundg (gk-1)
     case measure=>omega
     case rel=>exact⟨k+1,_,_,_,by omega,rfl,rfl,rfl,by go_num,HN⟩
    | none =>
     rw[hs2] at hd;obtain⟨f,rfl,hE⟩:=hd;have HN:Hid (MgS F ad (st (k+1)) (.slice none 0 0) (zJ f) (.int .u64 0) w6/\zG w w6):=oh ⟨by rw[hs2];exact⟨f,rfl,hE⟩,HX6.out⟩;clear hE hs2 hm6;go_wp2_with fail;go_roundg (gk-1)
     case measure=>omega
     case rel=>exact⟨k+1,_,_,_,by omega,rfl,rfl,rfl,by go_num,HN⟩
   | none =>
    have hq:=HQ.out.1;unfold MgS at hq;rw[hs] at hq;obtain⟨f,rfl,hE⟩:=hq;have HN:Hid (MgS F ad (st (k+1)) a5 (zJ f) a7 wr/\zG w wr):=oh ⟨by rw[HSN.out k hlt hs];exact⟨f,rfl,hE⟩,HQ.out.2⟩;clear hE hs;unfold zJ at HN ⊢;go_wp2_with fail;go_roundg (gk-1)
    case measure=>omega
    case rel=>exact⟨k+1,_,_,_,by omega,rfl,rfl,rfl,by go_num,HN⟩
  .have hke:k=n-1:=by omega
   have j1:¬ (k:Int)<(n:Int)-1:=by omega
   have HQ2:=HQ;rw[hke] at HQ2;cases hs:st (n-1) with
   | some x =>
    obtain⟨l,g⟩:=x;have hq:=HQ2.out.1;unfold MgS at hq;rw[hs] at hq;obtain⟨rfl,rfl,hv⟩:=hq;have HV:=oh hv;have HX:=oh HQ2.out.2;have HSE:=oh hs;clear hv hs hke HQ HQ2;go_wp2_with fail;go_ret2
    refine⟨?_,HX.out⟩;unfold zGu;rw[HSE.out];exact⟨a5,rfl,HV.out⟩
   | none =>
    have hq:=HQ2.out.1;unfold MgS at hq;rw[hs] at hq;obtain⟨f,rfl,hE⟩:=hq;have HE:=oh hE;have HX:=oh HQ2.out.2;have HSE:=oh hs;clear hE hs hke HQ HQ2;go_wp2_with fail;refine (wrap_any (HL.out.mods HX.out.ext) _ _ _ _ HE.out).mono ?_;rintro e w7 ⟨f7,rfl,hE7,hm7⟩;have HF:Hid (yY F ad w7 (zJ f7) _ 1/\zG w w7):=oh ⟨hE7,HX.out.trans hm7⟩;clear hE7 hm7;go_wp2_with fail;go_ret2
    refine⟨?_,HF.out.2⟩;unfold zGu;rw[HSE.out];exact⟨f7,_,rfl,HF.out.1⟩
end
end Go.Proofs.YtdnbmdghmmpgcaaGreatDoor
