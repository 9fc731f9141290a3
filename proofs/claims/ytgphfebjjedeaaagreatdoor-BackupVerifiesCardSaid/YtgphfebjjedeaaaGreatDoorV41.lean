import Derived.Test.YtgphfebjjedeaaaGreatDoorV40
import Derived.Deep.RegionHeld3
import Derived.Deep.DeepCutAuto
namespace Go.Proofs.YtgphfebjjedeaaaGreatDoor
open Lib renaming hid->oh
open Go.RowKit
attribute [local go_sem ↓] Go.wp_at_zero Go.wp_at_succ
theorem Tryz.head20Size:(Tryz.prog.info? 58).map (·.size)=some 4:=by kernel_rfl
section
variable {F:NP}{w w':World}
def zGK(l:List UInt8)(e:Ending):Prop:=match qY l with
 | .inl h=>e=.returned (.tuple #[zBW h,.int .i64 0])
 | .inr c=>e=.returned (.tuple #[zBW ⟨0,0,0,0⟩,.int .i64 (c:Int)])
set_option maxRecDepth 100000 in
set_option maxHeartbeats 8000000 in
theorem zNt(bv:Value)(l:List UInt8)(hb:Sl F w 1 zO bv l)(A2:l.length<=1000000000) :
  Calls Tryz.prog 83 #[bv] w λe w'=>zGK l e/\zG w w':=by
 have m0:zG w (w.alloc (.cells #[.int .i64 0,.int .u64 0,.int .u64 0,.int .i64 0] 58)):=(zss w).alloc _;have Ab:=oh (zK.new w #[.int .i64 0,.int .u64 0,.int .u64 0,.int .i64 0] 58);have A5:=oh (hb.ext m0);have M0:=oh m0;have A3:Hid (∀W c,zG (w.alloc (.cells #[.int .i64 0,.int .u64 0,.int .u64 0,.int .i64 0] 58)) W->qY l=.inr c->zK W w.heap.size #[.int .i64 0,.int .u64 0,.int .u64 0,.int .i64 0] 58 /\ zG w ((((W.setCell ⟨w.heap.size,0,none⟩ (.int .i64 0)).setCell ⟨w.heap.size,1,none⟩ (.int .u64 0)).setCell ⟨w.heap.size,2,none⟩ (.int .u64 0)).setCell ⟨w.heap.size,3,none⟩ (.int .i64 0))/\zGK l (.returned (.tuple #[zBW ⟨0,0,0,0⟩,.int .i64 (c:Int)]))) :=
  oh λW c m hp=>⟨Ab.out.ext m,zA.set4 (M0.out.trans m) (.inl (uJ w.heap.size)) _ _ _ _,by unfold zGK;rw[hp]⟩
 obtain⟨a,cp,rfl,B8,Ay,B9,Ai⟩:=id A5.out;unfold maxLen at Ay;clear hb m0;by_cases h1:l.length<29
 .have HP:Hid (qY l=.inr 1):=oh (by unfold qY;rw[if_pos (.inl h1)]);have h2:(l.length:Int)<29:=by omega
  obtain⟨A6,A7,As⟩:=A3.out _ 1 zr HP.out;have rf:=A6.frozen;have r0:=A6.k 0 rfl;have r1:=A6.k 1 rfl;have r2:=A6.k 2 rfl;have r3:=A6.k 3 rfl;have A4:=oh (zK.set4 A6 (.int .i64 0) (.int .u64 0) (.int .u64 0) (.int .i64 0));have HX:=oh A7;have HD:=oh As;clear Ai h1 A6 A7 As
  go_enter Tryz.func83, Tryz.ntmps83
  go_wp2_with fail;refine bodyPost_ret (zF rfl _ _ w.heap.size 58 (zA7 ⟨0,0,0,0⟩) _ rfl (by first|exact A4.out|exact Ab.out) Tryz.underlying58 rfl Tryz.head20Size) rfl ?_;exact⟨HD.out,by first|exact HX.out|exact M0.out⟩
 .have h2:¬ (l.length:Int)<29:=by omega
  obtain⟨sg,A8⟩:∃sg:ByteArray,sg=⟨(l.take 4).toArray⟩:=⟨_,rfl⟩;have Ba:(convert 27 9 (.slice a 4 cp)).run Tryz.prog (w.alloc (.cells #[.int .i64 0,.int .u64 0,.int .u64 0,.int .i64 0] 58))=.ok (.string sg) (w.alloc (.cells #[.int .i64 0,.int .u64 0,.int .u64 0,.int .i64 0] 58)):=by
   have hs:=Sl.pre A5.out 4 (by omega);rw[A8];exact zBl (P:=Tryz.prog) Tryz.underlying27 Tryz.underlying5 Tryz.underlying9 hs
  have i4:(4:Int)<=(cp:Int):=by omega
  by_cases h3:l.take 4=jB
  .have hs:sg=⟨#[83,67,82,49]⟩:=by rw[A8,h3];rfl
   subst hs;clear A8;have Az:Hid (qY l=if ¬ ((zCC l).kind=1/\(zCC l).base=0\/(zCC l).kind=2) then .inr 1 else if zZ l (l.length-4) 4≠qR (l.take (l.length-4)) then .inr 5 else .inl (zCC l)):=oh (by
    unfold qY;rw[if_neg (λh=>h.elim h1 (λh=>h h3))])
   obtain⟨bb,off,B0,At⟩:=A5.out.elem (k:=4) (by omega) zr;have A7:zZ l 4 1=(l[4]'(by omega)).toNat:=by
    unfold zZ;rw[show (l.drop 4).take 1=[l[4]'(by omega)] from by rw[wK (by omega)];rfl];simp[zBp]
   have d4:=At 0 (.int .u8 ((l[4]'(by omega)).toNat:Int)) rfl;simp only[uY,uO] at d4;rw[<- A7] at d4;subst B0;have H5:=oh (λW (m:zG _ W)=>zD2 l _ (A5.out.ext m) 5 8 (by decide) (by omega) A2);have Ac:=oh (λW (m:zG _ W)=>zD2 l _ (A5.out.ext m) 13 8 (by decide) (by omega) A2);have Ad:=oh (λW (m:zG _ W)=>zD2 l _ (A5.out.ext m) 21 4 (by decide) (by omega) A2);have Aj:=oh (λW (m:zG _ W)=>zD2 l _ (A5.out.ext m) (l.length-4) 4 (by decide) (by omega) A2);have B1:zZ l 4 1<256:=vB l 4 1;have B2:zZ l 21 4<4294967296:=vB l 21 4;have Au:zCC l=⟨zZ l 4 1,zZ l 5 8,zZ l 13 8,zZ l 21 4⟩:=rfl;obtain⟨k,hk⟩:∃k,k=zZ l 4 1:=⟨_,rfl⟩;obtain⟨g,hg⟩:∃g,g=zZ l 5 8:=⟨_,rfl⟩;obtain⟨b,hb⟩:∃b,b=zZ l 13 8:=⟨_,rfl⟩;obtain⟨r,hr⟩:∃r,r=zZ l 21 4:=⟨_,rfl⟩;obtain⟨n,hn⟩:∃n,n=zZ l (l.length-4) 4:=⟨_,rfl⟩;rw[<- hk] at B1 d4;rw[<- hr] at B2 Ad;rw[<- hg] at H5;rw[<- hb] at Ac;rw[<- hn] at Aj;rw[<- hk,<- hg,<- hb,<- hr] at Au;rw[show ((5:Nat):Int)=5 from rfl,show ((8:Nat):Int)=8 from rfl] at H5;rw[show ((13:Nat):Int)=13 from rfl,show ((8:Nat):Int)=8 from rfl] at Ac;rw[show ((21:Nat):Int)=21 from rfl,show ((4:Nat):Int)=4 from rfl] at Ad;rw[show ((l.length-4:Nat):Int)=(l.length:Int)-4 by omega,show ((4:Nat):Int)=4 from rfl] at Aj;have qr:IntKind.i64.wrap (r:Int)=(r:Int):=IntWalk.i64_in _ (by omega);have qk:IntKind.i64.wrap (k:Int)=(k:Int):=IntWalk.i64_in _ (by omega);have zd:(w.alloc (.cells #[.int .i64 0,.int .u64 0,.int .u64 0,.int .i64 0] 58)).drew.cell? ⟨bb,off+4,none⟩=some (.int .u8 (k:Int)):=zD zr.drew d4;have za:((w.alloc (.cells #[.int .i64 0,.int .u64 0,.int .u64 0,.int .i64 0] 58)).alloc (.cells #[.int .i64 0,.int .u64 0,.int .u64 0,.int .i64 0] 58)).drew.cell? ⟨bb,off+4,none⟩=some (.int .u8 (k:Int)):=zD (zr.alloc _).drew d4;have xd:zG (w.alloc (.cells #[.int .i64 0,.int .u64 0,.int .u64 0,.int .i64 0] 58)) (w.alloc (.cells #[.int .i64 0,.int .u64 0,.int .u64 0,.int .i64 0] 58)).drew:=zr.drew;have xa:zG (w.alloc (.cells #[.int .i64 0,.int .u64 0,.int .u64 0,.int .i64 0] 58)) ((w.alloc (.cells #[.int .i64 0,.int .u64 0,.int .u64 0,.int .i64 0] 58)).alloc (.cells #[.int .i64 0,.int .u64 0,.int .u64 0,.int .i64 0] 58)).drew:=(zr.alloc _).drew;have Ak:=oh xd;have Al:=oh xa;have i4:(4:Int)<(l.length:Int):=(by omega);have i5:(5:Int)<=(l.length:Int):=by omega
   have Bb:=yH d4;have HN:=oh (show zZ l (l.length-4) 4=n from hn.symm);clear hn hg hb hr hk A7 At xd xa h1 h3 Ai
   go_enter Tryz.func83, Tryz.ntmps83
   go_upto_region 3 with fail
   go_cut [4] (λv4 wx=>v4=.pointer (some ⟨w.heap.size+1,0,none⟩)/\wx=((w.alloc (.cells #[.int .i64 0,.int .u64 0,.int .u64 0,.int .i64 0] 58)).alloc (.cells #[.int .i64 (k:Int),.int .u64 (g:Int),.int .u64 (b:Int),.int .i64 (r:Int)] 58)).drew)
   case first =>
    go_region_held3 (λw'=>w'.cell? ⟨bb,off+4,none⟩=some (.int .u8 (k:Int)))
     (first|(with_reducible exact zd)|(with_reducible exact za)|go_keep|fail)
     (first
      | (go_at_call 143;(with_reducible refine (H5.out _ Ak.out).mono ?_);rintro e w5 ⟨rfl,rfl⟩)
      | (go_at_call 143;(with_reducible refine (Ac.out _ Ak.out).mono ?_);rintro e w5 ⟨rfl,rfl⟩)
      | (go_at_call 143;(with_reducible refine (Ad.out _ Ak.out).mono ?_);rintro e w5 ⟨rfl,rfl⟩)
      | (go_at_call 143;(with_reducible refine (H5.out _ Al.out).mono ?_);rintro e w5 ⟨rfl,rfl⟩)
      | (go_at_call 143;(with_reducible refine (Ac.out _ Al.out).mono ?_);rintro e w5 ⟨rfl,rfl⟩)
      | (go_at_call 143;(with_reducible refine (Ad.out _ Al.out).mono ?_);rintro e w5 ⟨rfl,rfl⟩)
      | fail)
    all_goals (go_wp2_with fail;go_meet;exact⟨rfl,rfl⟩)
   obtain⟨rfl,Am⟩:=hcut;have xc:zG (w.alloc (.cells #[.int .i64 0,.int .u64 0,.int .u64 0,.int .i64 0] 58)) wc:=by rw[Am];exact (zr.alloc _).drew
   have hH:zK wc (w.heap.size+1) (zA7 ⟨k,g,b,r⟩) 58:=by
    rw[Am];have h:=zK.drew (zK.new (w.alloc (.cells #[.int .i64 0,.int .u64 0,.int .u64 0,.int .i64 0] 58)) #[.int .i64 (k:Int),.int .u64 (g:Int),.int .u64 (b:Int),.int .i64 (r:Int)] 58);have e:(w.alloc (.cells #[.int .i64 0,.int .u64 0,.int .u64 0,.int .i64 0] 58)).heap.size=w.heap.size+1:=by simp
    rw[e] at h;exact h
   have An:=oh xc;have A9:=oh hH;clear Am xc hH zd za;have b0:=A9.out.d 0 (.int .i64 (k:Int)) rfl;have b1:=A9.out.d 1 (.int .u64 (g:Int)) rfl;have b2:=A9.out.d 2 (.int .u64 (b:Int)) rfl;have b3:=A9.out.d 3 (.int .i64 (r:Int)) rfl;obtain⟨q1,Ao⟩:∃q,((k:Int) == 1)=q:=⟨_,rfl⟩;obtain⟨q2,Ap⟩:∃q,((k:Int) == 2)=q:=⟨_,rfl⟩;obtain⟨q3,B3⟩:∃q,((b:Int) != 0)=q:=⟨_,rfl⟩;have Bc:((k:Int) != 1) = !q1:=by rw[<- Ao];rfl
   have Bd:((k:Int) != 2) = !q2:=by rw[<- Ap];rfl
   have Av:Hid (qY l=if (q1 && !q3 || q2)=false then .inr 1 else if n≠qR (l.take (l.length-4)) then .inr 5 else .inl ⟨k,g,b,r⟩):=oh (by
    rw[Az.out,Au,HN.out];have e:(¬ ((zBV.mk k g b r).kind=1/\(zBV.mk k g b r).base=0\/(zBV.mk k g b r).kind=2)) ↔ (q1 && !q3 || q2)=false:=by
     rw[<- Ao,<- Ap,<- B3];show ¬ (k=1/\b=0\/k=2) ↔ _;simp only[pI,Bool.and_eq_false_iff,uS,Bool.not_eq_false',bne_iff_ne];omega
    simp only[e])
   have Aa:(q1=true/\q2=false/\q3=true)\/(q1=true/\q2=false/\q3=false)\/(q1=false/\q2=true)\/(q1=false/\q2=false):=by
    cases q1 <;> cases q2 <;> cases q3 <;> simp at Ao Ap ⊢ <;> omega
   have B4:=yH b0;have i6:(4:Int)<=(l.length:Int):=by omega
   have i7:(l.length:Int)<=(cp:Int):=by omega
   have i8:((l.length:Int)-4).toNat=l.length-4:=by omega
   rcases Aa with ⟨rfl,rfl,rfl⟩|⟨rfl,rfl,rfl⟩|⟨rfl,rfl⟩|⟨rfl,rfl⟩
   rotate_right
   iterate 2 ·have HP:Hid (qY l=.inr 1):=oh (by rw[Av.out];rfl);have A0:=A3.out wc 1 An.out HP.out;have rf:=A0.1.frozen;have r0:=A0.1.d 0 (.int .i64 0) rfl;have r1:=A0.1.d 1 (.int .u64 0) rfl;have r2:=A0.1.d 2 (.int .u64 0) rfl;have r3:=A0.1.d 3 (.int .i64 0) rfl;have A4:=oh (zK.set4 A0.1 (.int .i64 0) (.int .u64 0) (.int .u64 0) (.int .i64 0));have A1:=oh A0.2;clear A0;go_wp2_with fail;refine bodyPost_ret (zF rfl _ _ w.heap.size 58 (zA7 ⟨0,0,0,0⟩) _ rfl A4.out Tryz.underlying58 rfl Tryz.head20Size) rfl ?_;exact⟨A1.out.2,A1.out.1⟩
   all_goals
    have Aq:Hid (qY l=if n≠qR (l.take (l.length-4)) then .inr 5 else .inl ⟨k,g,b,r⟩):=oh (by rw[Av.out];rfl);have Aw:=oh (zJE _ _ wc (Sl.pre (A5.out.ext An.out) (l.length-4) (by omega)));have B5:=zBi (l.take (l.length-4));obtain⟨cs,Ax⟩:∃cs,cs=qR (l.take (l.length-4)):=⟨_,rfl⟩;rw[<- Ax] at Aw B5 Aq;have ec:IntKind.u64.wrap (cs:Int)=(cs:Int):=IntWalk.u64_in _ (by omega);clear Ax;go_wp2_with fail;refine Aw.out.mono ?_;rintro e w6 ⟨rfl,Ar⟩;have Ae:=oh (An.out.trans Ar);have Af:=oh (A9.out.ext Ar);have B6:=oh (Aj.out w6 Ae.out);have b0:=Af.out.d 0 (.int .i64 (k:Int)) rfl;have b1:=Af.out.d 1 (.int .u64 (g:Int)) rfl;have b2:=Af.out.d 2 (.int .u64 (b:Int)) rfl;have b3:=Af.out.d 3 (.int .i64 (r:Int)) rfl;have B4:=yH b0;clear Ar;go_wp2_with fail;refine B6.out.mono ?_;rintro e w7 ⟨rfl,rfl⟩;by_cases Ag:n=cs
    .have HP:Hid (qY l=.inl ⟨k,g,b,r⟩):=oh (by rw[Aq.out,if_neg (λh=>h Ag)]);have Ah:((cs:Int) != (n:Int))=false:=by simp;omega
     have A0:=Ab.out.ext Ae.out;have rf:=A0.frozen;have r0:=A0.d 0 (.int .i64 0) rfl;have r1:=A0.d 1 (.int .u64 0) rfl;have r2:=A0.d 2 (.int .u64 0) rfl;have r3:=A0.d 3 (.int .i64 0) rfl;have A4:=oh (zK.set4 A0 (.int .i64 (k:Int)) (.int .u64 (g:Int)) (.int .u64 (b:Int)) (.int .i64 (r:Int)));have A1:=oh (zA.set4 (M0.out.trans Ae.out) (.inl (uJ w.heap.size)) (.int .i64 (k:Int)) (.int .u64 (g:Int)) (.int .u64 (b:Int)) (.int .i64 (r:Int)));clear Ag A0;go_wp2_with fail;refine bodyPost_ret (zF rfl _ _ w.heap.size 58 (zA7 ⟨k,g,b,r⟩) _ rfl A4.out Tryz.underlying58 rfl Tryz.head20Size) rfl ?_;exact⟨by unfold zGK;rw[HP.out];rfl,A1.out⟩
    .have HP:Hid (qY l=.inr 5):=oh (by rw[Aq.out,if_pos Ag]);have Ah:((cs:Int) != (n:Int))=true:=by simp;omega
     have A0:=A3.out w6 5 Ae.out HP.out;have rf:=A0.1.frozen;have r0:=A0.1.d 0 (.int .i64 0) rfl;have r1:=A0.1.d 1 (.int .u64 0) rfl;have r2:=A0.1.d 2 (.int .u64 0) rfl;have r3:=A0.1.d 3 (.int .i64 0) rfl;have A4:=oh (zK.set4 A0.1 (.int .i64 0) (.int .u64 0) (.int .u64 0) (.int .i64 0));have A1:=oh A0.2;clear A0;clear Ag;go_wp2_with fail;refine bodyPost_ret (zF rfl _ _ w.heap.size 58 (zA7 ⟨0,0,0,0⟩) _ rfl A4.out Tryz.underlying58 rfl Tryz.head20Size) rfl ?_;exact⟨A1.out.2,A1.out.1⟩
  .have HP:Hid (qY l=.inr 1):=oh (by unfold qY;rw[if_pos (.inr h3)]);have Ah:¬ sg=⟨#[83,67,82,49]⟩:=λe=>h3 (by
    rw[A8] at e;have e2:(l.take 4).toArray=#[83,67,82,49]:=congrArg ByteArray.data e;have e3:=congrArg Array.toList e2;simpa[jB] using e3)
   have B7:(sg.toList == [83,67,82,49])=false:=uS.2 (λe=>Ah (toList_inj (by rw[e];simp[ByteArray.toList_eq])));have A0:=A3.out _ 1 zr HP.out;have rf:=A0.1.frozen;have r0:=A0.1.d 0 (.int .i64 0) rfl;have r1:=A0.1.d 1 (.int .u64 0) rfl;have r2:=A0.1.d 2 (.int .u64 0) rfl;have r3:=A0.1.d 3 (.int .i64 0) rfl;have A4:=oh (zK.set4 A0.1 (.int .i64 0) (.int .u64 0) (.int .u64 0) (.int .i64 0));have A1:=oh A0.2;clear A0;clear h1 h3 Ai A8 Ah
   go_enter Tryz.func83, Tryz.ntmps83
   go_wp2_with fail;refine bodyPost_ret (zF rfl _ _ w.heap.size 58 (zA7 ⟨0,0,0,0⟩) _ rfl (by first|exact A4.out|exact Ab.out) Tryz.underlying58 rfl Tryz.head20Size) rfl ?_;exact⟨A1.out.2,by first|exact A1.out.1|exact M0.out⟩
end
end Go.Proofs.YtgphfebjjedeaaaGreatDoor
