import Derived.Test.YtdnbmdghmmpgcaaGreatDoorQ40
namespace Go.Proofs.YtdnbmdghmmpgcaaGreatDoor
open Lib renaming hid->oh
set_option maxHeartbeats 8000000
set_option maxRecDepth 100000
open Go.RowKit
attribute [local go_sem ↓] Go.wp_at_zero Go.wp_at_succ
section
variable {F:Nat->Prop}{ad:Nat->Addr}{w w':World}{B:Nat}{v:Value}{R:List UInt8}{p q:Nat}{ok:Bool}
theorem zDi(hL:yG F ad w)(hF:F B)(h:BrR F w B v R p ok){s:ByteArray}(hw:vY R p=some (s,q))(hp:p<=2000000000)(hlen:R.length<=2000000000) :
  Calls Tryz.prog 70 #[.pointer (some ⟨B,0,none⟩)] w λe w'=>e=.returned (.string s)/\BrR F w' B v R q ok/\zA (λj=>j=B) w w':=by
 refine (zM8 hL hF h hp hlen).mono ?_;rintro e w' ⟨rfl,h,m⟩;rw[hw] at h ⊢;simp only[nJ,mK,Bool.and_true] at h;exact⟨rfl,h,m⟩
theorem zEw(hL:yG F ad w)(hF:F B)(h:BrR F w B v R p ok)(W:Nat)(hW:W=1\/W=2\/W=4\/W=8)(hp:p+W<=R.length)(hlen:R.length<=2000000000){n:Nat}(hn:zZ R p W=n)(hq:p+W=q) :
  Calls Tryz.prog 117 #[.pointer (some ⟨B,0,none⟩),.int .i64 (W:Int)] w λe w'=>e=.returned (.int .u64 (n:Int))/\BrR F w' B v R q ok/\zA (λj=>j=B) w w':=by
 subst hn hq;exact zEu hL hF h W hW hp hlen
theorem BrR.nilC(h:BrR F w B v R p true):w.cell? ⟨B,2,none⟩=some .nilIface:=by
 obtain⟨ev,hB, -,hO⟩:=h;have h0:ev=.nilIface:=hO;subst h0;exact hB.cell rfl
def zRz(F:Nat->Prop)(w:World)(B:Nat)(v:Value)(R:List UInt8)(q:Nat)(l:List zD)(key:ByteArray)(e:Ending)(w':World):Prop :=
 ∃v',e=.returned (.tuple #[v',.string key,.bool true])/\yA (λ_=>False) w' w.heap.size 111 2 yS v' l/\BrR F w' B v R q true/\zA (λj=>j=B) w w'
theorem zKr(hL:yG F ad w)(hF:F B)(c:ChV)(Ab T:List UInt8)(hlenR:(Ab++(yN c++T)).length<=1000000000)(h:BrR F w B v (Ab++(yN c++T)) Ab.length true)(lv:Value)(X Y:List zD)(hl:Sl F w 2 yS lv (X++Y))(hn:(X++Y).length<=1000)(last:ByteArray)(hlast:yX last c.key=true)(hk:qS c.key=true)(hnew:c.new.size<=4096)(hw:c.was=false)(hX:∀z∈X,yX z.1 c.key=true)(hY:∀z∈Y,yX c.key z.1=true) :
  Calls Tryz.prog 121 #[.pointer (some ⟨B,0,none⟩),lv,.string last] w (zRz F w B v (Ab++(yN c++T)) (Ab.length+(yN c).length) (X++(c.key,c.new) :: Y) c.key):=by
 obtain⟨key,was,is_,old,new⟩:=c;simp only at hw hk hnew hlast hX hY ⊢;subst hw;have hk32:=(vW key).1 hk;obtain⟨r1,r2,r3,r4⟩:=zRd (A:=Ab) (T:=T) (c:=⟨key,false,is_,old,new⟩) rfl (by show key.size<_;omega) (by show new.size<_;omega);simp only at r2 r3 r4;have hRL:Ab.length+(5+key.size+new.size)<=(Ab++(yN ⟨key,false,is_,old,new⟩ ++ T)).length:=by rw[uA,uA,r4];omega
 have hqe:Ab.length+(yN ⟨key,false,is_,old,new⟩).length=Ab.length+5+key.size+new.size:=by rw[r4];omega
 rw[hqe];obtain⟨R,hR⟩:∃R,R=Ab++(yN ⟨key,false,is_,old,new⟩ ++ T):=⟨_,rfl⟩;rw[<- hR] at h hlenR r1 r2 r3 hRL ⊢;obtain⟨p,hp⟩:∃p,p=Ab.length:=⟨_,rfl⟩;rw[<- hp] at h r1 r2 r3 hRL ⊢;have H1:=oh (zEw hL hF h 1 (.inl rfl) (by omega) (by omega) r1 rfl);rw[show ((1:Nat):Int)=1 from rfl] at H1;have H2:=oh (λW (hL:yG F ad W) (h:BrR F W B v R (p+1) true)=>zDi hL hF h r2 (by omega) (by omega));have H3:=oh (λW (hL:yG F ad W) (h:BrR F W B v R (p+3+key.size) true)=>zDi hL hF h r3 (by omega) (by omega));have H4:=oh (λW (hl:Sl F W 2 yS lv (X++Y))=>zNL lv X Y key hl false hX (.inl ⟨rfl,hY⟩));have H5:=oh (zAt key);rw[hk] at H5;have HLM:=oh (λW (m:zA (λj=>j=B) w W)=>And.intro (hL.mods (m.mono (λj (h:j=B)=>by rw[h];exact hF))) (hl.mods (m.mono (λj (h:j=B)=>by rw[h];exact hF))));have hb1:Op.bytesLess key.toList last.toList=false:=zBS hlast;have hb2:(key.toList == last.toList)=false:=uU.2 (λe=>zER hlast (toList_inj e).symm);have hv2:¬ (4096:Int)<(new.size:Int):=by omega
 have HBW:=oh (hL.lt B hF);obtain⟨n,hne⟩:∃n,n=(X++Y).length:=⟨_,rfl⟩;have hnl:n=X.length+Y.length:=by rw[hne,uA]
 have HNE:=oh hne;obtain⟨la,lc,rfl,l1,l2,l3, -⟩:=id hl;unfold maxLen at l2;rw[<- hne] at HLM H4 l1 l3 hn ⊢;have i1:(0:Int)<=(X.length:Int):=by omega
 have i2:(X.length:Int)<=(n:Int):=by omega
 have i3:(n:Int)<=(lc:Int):=by omega
 have i4:(X.length:Int)<=(lc:Int):=by omega
 have HNL:=oh hnl;have HXY:Hid (X.length<=1000/\Y.length<=1000):=oh (by omega);clear hL hF h hl hlast hk hnew hX hY hk32 r1 r2 r3 r4 hRL hqe hR hp hne hnl l1 l3 hn hlenR
 go_enter Tryz.func121, Tryz.ntmps121
 go_wp2_with fail;refine H1.out.mono ?_;rintro e w1 ⟨rfl,h1,m1⟩;have HT:=oh (H2.out w1 (HLM.out _ m1).1 h1);have HM1:=oh m1;clear h1 m1;go_wp2_with fail;refine HT.out.mono ?_;rintro e w2 ⟨rfl,h2,m2⟩;have HM2:=oh (HM1.out.trans m2);have HT:=oh (H3.out w2 (HLM.out _ HM2.out).1 h2);clear h2 m2;go_wp2_with fail;refine HT.out.mono ?_;rintro e w3 ⟨rfl,h3,m3⟩;have HM3:=oh (HM2.out.trans m3);have HR3:=oh h3;have HT:=oh (H4.out w3 (HLM.out _ HM3.out).2);clear h3 m3;go_wp2_with fail;refine HT.out.mono ?_;rintro e w4 ⟨rfl,m4⟩;have HR4:=oh (HR3.out.ext m4);have e2:=HR4.out.nilC;have HL4:=oh ((HLM.out _ HM3.out).2.ext m4);have HM4:=oh (HM3.out.trans m4.ext);clear m4;have hbl:=yE e2;go_wp2_with fail;refine (H5.out _).mono ?_;rintro e w5 ⟨rfl,rfl⟩;have HSZ:=oh (HM4.out.size:w.heap.size<=w4.heap.size);have hnl:=HNL.out;have hX4:Hid (Sl F w4 2 yS (.slice la X.length lc) X):=oh (by have:=HL4.out.pre X.length (by rw[uA];omega);rwa [tR rfl] at this);have hY4:Hid (Sl F w4 2 yS (.slice (if lc=X.length then la else la.map (·.add (X.length * 2))) (n-X.length) (lc-X.length)) Y):=oh (by have:=HL4.out.tail_ X.length (by omega);rwa [pQ rfl] at this);clear hnl;go_wp2_with (first
  | (at_builtin;refine yH Tryz.elP yR rfl _ _ rfl w4.heap.size (.slice (some ⟨w4.heap.size,0,none⟩) 0 0) (.slice la X.length lc) ([]:List zD) X rfl rfl (yA.lit 2 yS yR.len (zK.new w4 #[] 111) (uK _)) (hX4.out.ext ((zA.refl _ w4).alloc _)) (by have:=HXY.out;simp only[uF];omega) (by simp) (λf=>f) ?_;simp only[uF,uS,wL];intro a6 c6 w6 hO6 hm6 hat6;have x6:zG w4 w6:=((zA.refl _ w4).alloc (.cells #[] 111)).trans' hm6 (λi hi h=>by simp[Value.ownBlock] at h;omega))
  | (at_builtin;refine yH Tryz.elP yR rfl _ _ rfl w4.heap.size (.slice a6 X.length c6) _ X [(key,new)] rfl rfl (hO6.ext ((zA.refl _ _).alloc _)) (Sl.one (F:=λ_=>False) (zO (by simp)) (λf=>f)) (by have:=HXY.out;simp only[uD,uF];omega) (by have:=x6.size;simp;omega) (λf=>f) ?_;simp only[uD,uF,uS];intro a7 c7 w7 hO7 hm7 hat7;have x7:zG w4 w7:=(x6.alloc (.cells #[.string key,.string new] 111)).trans' hm7 (λi hi h=>by have:=(hO6.lt i h).1;omega))
  | (at_builtin;refine yH Tryz.elP yR rfl _ _ rfl w4.heap.size (.slice a7 (X.length+1) c7) _ (X++[(key,new)]) Y rfl rfl hO7 (hY4.out.ext x7) (by have:=HXY.out;simp only[uA,uD,uF];omega) x7.size (λf=>f) ?_;intro a8 c8 w8 hO8 hm8 hat8)
  | fail)
 all_goals
  have hX8:Hid (yA (λ_=>False) w8 w.heap.size 111 2 yS (.slice a8 (X.length+1+Y.length) c8) (X++(key,new) :: Y)):=oh (by
   have h:=hO8.rebase HSZ.out;rw[uJ] at h;simpa only[uA,uD,uF,rJ] using h)
  have hM8:Hid (zG w4 w8):=oh (x7.trans' hm8 (λi hi h=>by have:=(hO7.lt i h).1;omega));clear hO6 hO7 hO8 hm6 hm7 hm8 hat6 hat7 hat8 x6 x7;go_wp2_with fail;refine bodyPost_ret (v:=.tuple #[.slice a8 (X.length+1+Y.length) c8,.string key,.bool true]) (by simp[results,Tryz.results121,go_sem]) rfl ?_;exact⟨_,rfl,hX8.out,HR4.out.ext hM8.out,HM4.out.trans hM8.out.ext⟩
--was
theorem zIl(hL:yG F ad w)(hF:F B)(c:ChV)(Ab T:List UInt8)(hlenR:(Ab++(yN c++T)).length<=1000000000)(h:BrR F w B v (Ab++(yN c++T)) Ab.length true)(lv:Value)(X Y:List zD)(x:zD)(hl:Sl F w 2 yS lv (X++x :: Y))(hn:(X++x :: Y).length<=1000)(last:ByteArray)(hlast:yX last c.key=true)(hk:qS c.key=true)(hnew:c.new.size<=4096)(hold:c.old.size<=4096)(hw:c.was=true)(hi:c.is=true)(hX:∀z∈X,yX z.1 c.key=true)(hx1:x.1=c.key)(hx2:x.2=c.old) :
  Calls Tryz.prog 121 #[.pointer (some ⟨B,0,none⟩),lv,.string last] w (zRz F w B v (Ab++(yN c++T)) (Ab.length+(yN c).length) (X++(c.key,c.new) :: Y) c.key):=by
 obtain⟨key,was,is_,old,new⟩:=c;obtain⟨xk,xv⟩:=x;simp only at hw hi hk hnew hold hlast hX hx1 hx2 ⊢;subst hw hi hx1 hx2;have hk32:=(vW xk).1 hk;obtain⟨r1,r2,r3,r4,r5⟩:=zRe (A:=Ab) (T:=T) (c:=⟨xk,true,true,xv,new⟩) rfl rfl (by show xk.size<_;omega) (by show new.size<_;omega);simp only at r2 r3 r4 r5;have hRL:Ab.length+(9+xk.size+new.size)<=(Ab++(yN ⟨xk,true,true,xv,new⟩ ++ T)).length:=by rw[uA,uA,r5];omega
 have hqe:Ab.length+(yN ⟨xk,true,true,xv,new⟩).length=Ab.length+9+xk.size+new.size:=by rw[r5];omega
 rw[hqe];obtain⟨R,hR⟩:∃R,R=Ab++(yN ⟨xk,true,true,xv,new⟩ ++ T):=⟨_,rfl⟩;rw[<- hR] at h hlenR r1 r2 r3 r4 hRL ⊢;obtain⟨p,hp⟩:∃p,p=Ab.length:=⟨_,rfl⟩;rw[<- hp] at h r1 r2 r3 r4 hRL ⊢;have hcl:=zA4 xv.data.toList;have HHD:=oh (λW (bv:Value) (hb:Sl (λ_=>False) W 1 zT bv xv.data.toList)=>zGg bv xv.data.toList hb (yC xv.data.toList));rw[uT (rfl:yC xv.data.toList=yC xv.data.toList)] at HHD;obtain⟨cs,hcs⟩:∃cs,cs=yC xv.data.toList:=⟨_,rfl⟩;rw[<- hcs] at HHD hcl r4;have H1:=oh (zEw hL hF h 1 (.inl rfl) (by omega) (by omega) r1 rfl);rw[show ((1:Nat):Int)=1 from rfl,show ((2:Nat):Int)=2 from rfl] at H1;have H2:=oh (λW (hL:yG F ad W) (h:BrR F W B v R (p+1) true)=>zDi hL hF h r2 (by omega) (by omega));have H3:=oh (λW (hL:yG F ad W) (h:BrR F W B v R (p+3+xk.size) true)=>zDi hL hF h r3 (by omega) (by omega));have H4:=oh (λW (hl:Sl F W 2 yS lv (X++(xk,xv) :: Y))=>zNL lv X ((xk,xv) :: Y) xk hl true hX (.inr ⟨rfl,_,_,rfl,rfl⟩));have H5:=oh (zAt xk);rw[hk] at H5;have H6:=oh (λW (hL:yG F ad W) (h:BrR F W B v R (p+5+xk.size+new.size) true)=>zEw hL hF h 4 (.inr (.inr (.inl rfl))) (by omega) (by omega) r4 (show p+5+xk.size+new.size+4=p+9+xk.size+new.size by omega));rw[show ((4:Nat):Int)=4 from rfl] at H6;have HLM:=oh (λW (m:zA (λj=>j=B) w W)=>And.intro (hL.mods (m.mono (λj (h:j=B)=>by rw[h];exact hF))) (hl.mods (m.mono (λj (h:j=B)=>by rw[h];exact hF))));have hb1:Op.bytesLess xk.toList last.toList=false:=zBS hlast;have hb2:(xk.toList == last.toList)=false:=uU.2 (λe=>zER hlast (toList_inj e).symm);have hv2:¬ (4096:Int)<(new.size:Int):=by omega
 have q32:IntKind.u32.wrap (cs:Int)=(cs:Int):=IntWalk.u32_in _ (by omega);obtain⟨la,lc,rfl,l1,l2,l3, -⟩:=id hl;unfold maxLen at l2;obtain⟨qb,qoff,rfl,hqF,hcc⟩:=hl.elemF (k:=X.length) (by simp);have hxx:(X++(xk,xv) :: Y)[X.length]'(by simp)=(xk,xv):=by simp
 rw[hxx] at hcc;have hc1:=hcc 1 (.string xv) rfl;have HC1:=oh (λW (m:zA (λj=>j=B) w W)=>(m.cell (yE hc1) (λh:qb=B=>hqF (h ▸ hF))).trans hc1);obtain⟨n,hne⟩:∃n,n=(X++(xk,xv) :: Y).length:=⟨_,rfl⟩;have hnl:n=X.length+1+Y.length:=by rw[hne,uA,uD];omega
 have HNE:=oh hne;rw[<- hne] at HLM H4 l1 l3 hn ⊢;have i1:(0:Int)<=(X.length:Int):=by omega
 have i2:(X.length:Int)<=(n:Int):=by omega
 have i3:(n:Int)<=(lc:Int):=by omega
 have i4:(X.length:Int)<=(lc:Int):=by omega
 have i5:(X.length:Int)<(n:Int):=by omega
 have i6:(X.length:Int)+1<=(n:Int):=by omega
 have i7:(X.length:Int)+1<=(lc:Int):=by omega
 have i8:((X.length:Int)+1).toNat=X.length+1:=by omega
 have HNL:=oh hnl;have HXY:Hid (X.length<=1000/\Y.length<=1000/\X.length+1<=n/\xv.size<=4096):=oh (by omega);clear hL hF h hl hlast hk hk32 r1 r2 r3 hnew r4 r5 hRL hqe hR hp hne hnl l1 l3 hn hlenR hcc hc1 hxx hqF hX hcs hcl hold
 go_enter Tryz.func121, Tryz.ntmps121
 go_wp2_with fail;refine H1.out.mono ?_;rintro e w1 ⟨rfl,h1,m1⟩;have HT:=oh (H2.out w1 (HLM.out _ m1).1 h1);have HM1:=oh m1;clear h1 m1;go_wp2_with fail;refine HT.out.mono ?_;rintro e w2 ⟨rfl,h2,m2⟩;have HM2:=oh (HM1.out.trans m2);have HT:=oh (H3.out w2 (HLM.out _ HM2.out).1 h2);clear h2 m2;go_wp2_with fail;refine HT.out.mono ?_;rintro e w3 ⟨rfl,h3,m3⟩;have HM3:=oh (HM2.out.trans m3);have HR3:=oh h3;clear h3 m3;have HT:=oh (H4.out w3 (HLM.out _ HM3.out).2);go_wp2_with fail;refine HT.out.mono ?_;rintro e w4 ⟨rfl,m4⟩;have HR4:=oh (HR3.out.ext m4);have e2:=HR4.out.nilC;have HM4:=oh (HM3.out.trans m4.ext);clear m4;have hbl:=yE e2;go_wp2_with fail;refine (H5.out _).mono ?_;rintro e w5 ⟨rfl,rfl⟩;have HT:=oh (H6.out w4 (HLM.out _ HM4.out).1 HR4.out);clear e2 hbl;go_wp2_with fail;refine HT.out.mono ?_;rintro e w5 ⟨rfl,h5,m5⟩;have HM5:=oh (HM4.out.trans m5);have e2:=h5.nilC;have c1:=HC1.out _ HM5.out;have hbl:=yE e2;have hqw:=yE c1;have hcv:=Go.Lib.run_convert_string_bytes (P:=Tryz.prog) w5 9 26 5 xv Tryz.underlying9 Tryz.underlying26 Tryz.underlying5;have hsl:=zIC (F:=λ_=>False) w5 5 xv (λf=>f) (by have:=HXY.out;omega);have hx:=zGe w5 5 xv;obtain⟨w6,hw6⟩:∃w6,w6=Lib.bytesWorld w5 5 xv:=⟨_,rfl⟩;rw[<- hw6] at hsl hx hcv;obtain⟨cp,hcp⟩:∃cp,cp=grownCap w5 xv.size 0 5:=⟨_,rfl⟩;rw[<- hcp] at hsl hcv;have HT:=oh (HHD.out w6 _ hsl);have HR6:=oh (h5.ext hx);have HM6:=oh (HM5.out.trans hx.ext);clear h5 m5 hsl hw6 hcp;go_wp2_with fail;refine HT.out.mono ?_;rintro e w7 ⟨rfl,rfl⟩;clear e2 c1 hbl hqw hcv hx;have HL4:=oh (HLM.out _ HM6.out).2;have HSZ:=oh (HM6.out.size:w.heap.size<=w6.heap.size);have hX4:Hid (Sl F w6 2 yS (.slice (some ⟨qb,qoff,none⟩) X.length lc) X):=oh (by have:=HL4.out.pre X.length (by rw[uA];omega);rwa [tR rfl] at this);have hY4:Hid (Sl F w6 2 yS (.slice (if lc=X.length+1 then some ⟨qb,qoff,none⟩ else (some (⟨qb,qoff,none⟩:Addr)).map (·.add ((X.length+1) * 2))) (n-(X.length+1)) (lc-(X.length+1))) Y):=oh (by
  have:=HL4.out.tail_ (X.length+1) (by have:=HXY.out;omega);have e:(X++(xk,xv) :: Y).drop (X.length+1)=Y:=by rw[List.append_cons];exact pQ (by simp)
  rwa [e] at this)
 go_wp2_with (first
  | (at_builtin;refine yH Tryz.elP yR rfl _ _ rfl w6.heap.size (.slice (some ⟨w6.heap.size,0,none⟩) 0 0) (.slice (some ⟨qb,qoff,none⟩) X.length lc) ([]:List zD) X rfl rfl (yA.lit 2 yS yR.len (zK.new w6 #[] 111) (uK _)) (hX4.out.ext ((zA.refl _ w6).alloc _)) (by have:=HXY.out;simp only[uF];omega) (by simp) (λf=>f) ?_;simp only[uF,uS,wL];intro a7 c7 w7 hO7 hm7 hat7;have x7:zG w6 w7:=((zA.refl _ w6).alloc (.cells #[] 111)).trans' hm7 (λi hi h=>by simp[Value.ownBlock] at h;omega))
  | (at_builtin;refine yH Tryz.elP yR rfl _ _ rfl w6.heap.size (.slice a7 X.length c7) _ X [(xk,new)] rfl rfl (hO7.ext ((zA.refl _ _).alloc _)) (Sl.one (F:=λ_=>False) (zO (by simp)) (λf=>f)) (by have:=HXY.out;simp only[uD,uF];omega) (by have:=x7.size;simp;omega) (λf=>f) ?_;simp only[uD,uF,uS];intro a8 c8 w8 hO8 hm8 hat8;have x8:zG w6 w8:=(x7.alloc (.cells #[.string xk,.string new] 111)).trans' hm8 (λi hi h=>by have:=(hO7.lt i h).1;omega))
  | (at_builtin;refine yH Tryz.elP yR rfl _ _ rfl w6.heap.size (.slice a8 (X.length+1) c8) _ (X++[(xk,new)]) Y rfl rfl hO8 (hY4.out.ext x8) (by have:=HXY.out;simp only[uA,uD,uF];omega) x8.size (λf=>f) ?_;intro a9 c9 w9 hO9 hm9 hat9)
  | fail)
 all_goals
  have hX9:Hid (yA (λ_=>False) w9 w.heap.size 111 2 yS (.slice a9 (X.length+1+Y.length) c9) (X++(xk,new) :: Y)):=oh (by
   have h:=hO9.rebase HSZ.out;rw[uJ] at h;simpa only[uA,uD,uF,rJ] using h)
  have hM9:Hid (zG w6 w9):=oh (x8.trans' hm9 (λi hi h=>by have:=(hO8.lt i h).1;omega));clear hO7 hO8 hO9 hm7 hm8 hm9 hat7 hat8 hat9 x7 x8;go_wp2_with fail;refine bodyPost_ret (v:=.tuple #[.slice a9 (X.length+1+Y.length) c9,.string xk,.bool true]) (by simp[results,Tryz.results121,go_sem]) rfl ?_;exact⟨_,rfl,hX9.out,HR6.out.ext hM9.out,HM6.out.trans hM9.out.ext⟩
theorem zKs(hL:yG F ad w)(hF:F B)(c:ChV)(Ab T:List UInt8)(hlenR:(Ab++(yN c++T)).length<=1000000000)(h:BrR F w B v (Ab++(yN c++T)) Ab.length true)(lv:Value)(X Y:List zD)(x:zD)(hl:Sl F w 2 yS lv (X++x :: Y))(hn:(X++x :: Y).length<=1000)(last:ByteArray)(hlast:yX last c.key=true)(hk:qS c.key=true)(hold:c.old.size<=4096)(hw:c.was=true)(hi:c.is=false)(hX:∀z∈X,yX z.1 c.key=true)(hx1:x.1=c.key)(hx2:x.2=c.old) :
  Calls Tryz.prog 121 #[.pointer (some ⟨B,0,none⟩),lv,.string last] w (zRz F w B v (Ab++(yN c++T)) (Ab.length+(yN c).length) (X++Y) c.key):=by
 obtain⟨key,was,is_,old,new⟩:=c;obtain⟨xk,xv⟩:=x;simp only at hw hi hk hold hlast hX hx1 hx2 ⊢;subst hw hi hx1 hx2;have hk32:=(vW xk).1 hk;obtain⟨r1,r2,r4,r5⟩:=zO3 (A:=Ab) (T:=T) (c:=⟨xk,true,false,xv,new⟩) rfl rfl (by show xk.size<_;omega);simp only at r2 r4 r5;have hRL:Ab.length+(7+xk.size)<=(Ab++(yN ⟨xk,true,false,xv,new⟩ ++ T)).length:=by rw[uA,uA,r5];omega
 have hqe:Ab.length+(yN ⟨xk,true,false,xv,new⟩).length=Ab.length+7+xk.size:=by rw[r5];omega
 rw[hqe];obtain⟨R,hR⟩:∃R,R=Ab++(yN ⟨xk,true,false,xv,new⟩ ++ T):=⟨_,rfl⟩;rw[<- hR] at h hlenR r1 r2 r4 hRL ⊢;obtain⟨p,hp⟩:∃p,p=Ab.length:=⟨_,rfl⟩;rw[<- hp] at h r1 r2 r4 hRL ⊢;have hcl:=zA4 xv.data.toList;have HHD:=oh (λW (bv:Value) (hb:Sl (λ_=>False) W 1 zT bv xv.data.toList)=>zGg bv xv.data.toList hb (yC xv.data.toList));rw[uT (rfl:yC xv.data.toList=yC xv.data.toList)] at HHD;obtain⟨cs,hcs⟩:∃cs,cs=yC xv.data.toList:=⟨_,rfl⟩;rw[<- hcs] at HHD hcl r4;have H1:=oh (zEw hL hF h 1 (.inl rfl) (by omega) (by omega) r1 rfl);rw[show ((1:Nat):Int)=1 from rfl,show ((3:Nat):Int)=3 from rfl] at H1;have H2:=oh (λW (hL:yG F ad W) (h:BrR F W B v R (p+1) true)=>zDi hL hF h r2 (by omega) (by omega));have H4:=oh (λW (hl:Sl F W 2 yS lv (X++(xk,xv) :: Y))=>zNL lv X ((xk,xv) :: Y) xk hl true hX (.inr ⟨rfl,_,_,rfl,rfl⟩));have H5:=oh (zAt xk);rw[hk] at H5;have H6:=oh (λW (hL:yG F ad W) (h:BrR F W B v R (p+3+xk.size) true)=>zEw hL hF h 4 (.inr (.inr (.inl rfl))) (by omega) (by omega) r4 (show p+3+xk.size+4=p+7+xk.size by omega));rw[show ((4:Nat):Int)=4 from rfl] at H6;have HLM:=oh (λW (m:zA (λj=>j=B) w W)=>And.intro (hL.mods (m.mono (λj (h:j=B)=>by rw[h];exact hF))) (hl.mods (m.mono (λj (h:j=B)=>by rw[h];exact hF))));have hb1:Op.bytesLess xk.toList last.toList=false:=zBS hlast;have hb2:(xk.toList == last.toList)=false:=uU.2 (λe=>zER hlast (toList_inj e).symm);have q32:IntKind.u32.wrap (cs:Int)=(cs:Int):=IntWalk.u32_in _ (by omega);obtain⟨la,lc,rfl,l1,l2,l3, -⟩:=id hl;unfold maxLen at l2;obtain⟨qb,qoff,rfl,hqF,hcc⟩:=hl.elemF (k:=X.length) (by simp);have hxx:(X++(xk,xv) :: Y)[X.length]'(by simp)=(xk,xv):=by simp
 rw[hxx] at hcc;have hc1:=hcc 1 (.string xv) rfl;have HC1:=oh (λW (m:zA (λj=>j=B) w W)=>(m.cell (yE hc1) (λh:qb=B=>hqF (h ▸ hF))).trans hc1);obtain⟨n,hne⟩:∃n,n=(X++(xk,xv) :: Y).length:=⟨_,rfl⟩;have hnl:n=X.length+1+Y.length:=by rw[hne,uA,uD];omega
 have HNE:=oh hne;rw[<- hne] at HLM H4 l1 l3 hn ⊢;have i1:(0:Int)<=(X.length:Int):=by omega
 have i2:(X.length:Int)<=(n:Int):=by omega
 have i3:(n:Int)<=(lc:Int):=by omega
 have i4:(X.length:Int)<=(lc:Int):=by omega
 have i5:(X.length:Int)<(n:Int):=by omega
 have i6:(X.length:Int)+1<=(n:Int):=by omega
 have i7:(X.length:Int)+1<=(lc:Int):=by omega
 have i8:((X.length:Int)+1).toNat=X.length+1:=by omega
 have HNL:=oh hnl;have HXY:Hid (X.length<=1000/\Y.length<=1000/\X.length+1<=n/\xv.size<=4096):=oh (by omega);clear hL hF h hl hlast hk hk32 r1 r2 r4 r5 hRL hqe hR hp hne hnl l1 l3 hn hlenR hcc hc1 hxx hqF hX hcs hcl hold
 go_enter Tryz.func121, Tryz.ntmps121
 go_wp2_with fail;refine H1.out.mono ?_;rintro e w1 ⟨rfl,h1,m1⟩;have HT:=oh (H2.out w1 (HLM.out _ m1).1 h1);have HM1:=oh m1;clear h1 m1;go_wp2_with fail;refine HT.out.mono ?_;rintro e w2 ⟨rfl,h2,m2⟩;have HM2:=oh (HM1.out.trans m2);have HM3:=HM2;have HR3:=oh h2;obtain⟨w3,hw3⟩:∃w3,w3=w2:=⟨_,rfl⟩;rw[<- hw3] at HM3 HR3 ⊢;clear h2 m2 hw3;have HT:=oh (H4.out w3 (HLM.out _ HM3.out).2);go_wp2_with fail;refine HT.out.mono ?_;rintro e w4 ⟨rfl,m4⟩;have HR4:=oh (HR3.out.ext m4);have e2:=HR4.out.nilC;have HM4:=oh (HM3.out.trans m4.ext);clear m4;have hbl:=yE e2;go_wp2_with fail;refine (H5.out _).mono ?_;rintro e w5 ⟨rfl,rfl⟩;have HT:=oh (H6.out w4 (HLM.out _ HM4.out).1 HR4.out);clear e2 hbl;go_wp2_with fail;refine HT.out.mono ?_;rintro e w5 ⟨rfl,h5,m5⟩;have HM5:=oh (HM4.out.trans m5);have e2:=h5.nilC;have c1:=HC1.out _ HM5.out;have hbl:=yE e2;have hqw:=yE c1;have hcv:=Go.Lib.run_convert_string_bytes (P:=Tryz.prog) w5 9 26 5 xv Tryz.underlying9 Tryz.underlying26 Tryz.underlying5;have hsl:=zIC (F:=λ_=>False) w5 5 xv (λf=>f) (by have:=HXY.out;omega);have hx:=zGe w5 5 xv;obtain⟨w6,hw6⟩:∃w6,w6=Lib.bytesWorld w5 5 xv:=⟨_,rfl⟩;rw[<- hw6] at hsl hx hcv;obtain⟨cp,hcp⟩:∃cp,cp=grownCap w5 xv.size 0 5:=⟨_,rfl⟩;rw[<- hcp] at hsl hcv;have HT:=oh (HHD.out w6 _ hsl);have HR6:=oh (h5.ext hx);have HM6:=oh (HM5.out.trans hx.ext);clear h5 m5 hsl hw6 hcp;go_wp2_with fail;refine HT.out.mono ?_;rintro e w7 ⟨rfl,rfl⟩;clear e2 c1 hbl hqw hcv hx;have HL4:=oh (HLM.out _ HM6.out).2;have HSZ:=oh (HM6.out.size:w.heap.size<=w6.heap.size);have hX4:Hid (Sl F w6 2 yS (.slice (some ⟨qb,qoff,none⟩) X.length lc) X):=oh (by have:=HL4.out.pre X.length (by rw[uA];omega);rwa [tR rfl] at this);have hY4:Hid (Sl F w6 2 yS (.slice (if lc=X.length+1 then some ⟨qb,qoff,none⟩ else (some (⟨qb,qoff,none⟩:Addr)).map (·.add ((X.length+1) * 2))) (n-(X.length+1)) (lc-(X.length+1))) Y):=oh (by
  have:=HL4.out.tail_ (X.length+1) (by have:=HXY.out;omega);have e:(X++(xk,xv) :: Y).drop (X.length+1)=Y:=by rw[List.append_cons];exact pQ (by simp)
  rwa [e] at this)
 go_wp2_with (first
  | (at_builtin;refine yH Tryz.elP yR rfl _ _ rfl w6.heap.size (.slice (some ⟨w6.heap.size,0,none⟩) 0 0) (.slice (some ⟨qb,qoff,none⟩) X.length lc) ([]:List zD) X rfl rfl (yA.lit 2 yS yR.len (zK.new w6 #[] 111) (uK _)) (hX4.out.ext ((zA.refl _ w6).alloc _)) (by have:=HXY.out;simp only[uF];omega) (by simp) (λf=>f) ?_;simp only[uF,uS,wL];intro a7 c7 w7 hO7 hm7 hat7;have x7:zG w6 w7:=((zA.refl _ w6).alloc (.cells #[] 111)).trans' hm7 (λi hi h=>by simp[Value.ownBlock] at h;omega))
  | (at_builtin;refine yH Tryz.elP yR rfl _ _ rfl w6.heap.size (.slice a7 X.length c7) _ X Y rfl rfl hO7 (hY4.out.ext x7) (by have:=HXY.out;omega) x7.size (λf=>f) ?_;intro a9 c9 w9 hO9 hm9 hat9)
  | fail)
 all_goals
  have hX9:Hid (yA (λ_=>False) w9 w.heap.size 111 2 yS (.slice a9 (X.length+Y.length) c9) (X++Y)):=oh (hO9.rebase HSZ.out);have hM9:Hid (zG w6 w9):=oh (x7.trans' hm9 (λi hi h=>by have:=(hO7.lt i h).1;omega));clear hO7 hO9 hm7 hm9 hat7 hat9 x7;go_wp2_with fail;refine bodyPost_ret (v:=.tuple #[.slice a9 (X.length+Y.length) c9,.string xk,.bool true]) (by simp[results,Tryz.results121,go_sem]) rfl ?_;exact⟨_,rfl,hX9.out,HR6.out.ext hM9.out,HM6.out.trans hM9.out.ext⟩
end
section
variable {F:Nat->Prop}{ad:Nat->Addr}{w w':World}{B:Nat}{l:List UInt8}
theorem zRH(hL:yG F ad w)(hF:F B)(h:BwR F w B l)(c:ChV)(h1:c.key.size<=65535)(h2:c.new.size<=65535)(h3:c.old.size<=65535)(hlen:l.length<=800000000) :
  Calls Tryz.prog 54 #[.pointer (some ⟨B,0,none⟩),.agg (zEG c).toArray] w λe w'=>e=.returned (.tuple #[])/\BwR F w' B (l++yN c)/\zA (λj=>j=B) w w':=by
 obtain⟨key,was,is_,old,new⟩:=c;simp only at h1 h2 h3;rw[show (zEG ⟨key,was,is_,old,new⟩).toArray=#[.string key,.bool was,.bool is_,.string old,.string new] from rfl];have HB0:=oh (zK.new w #[.string key,.bool was,.bool is_,.string old,.string new] 106);have m0:zG w (w.alloc (.cells #[.string key,.bool was,.bool is_,.string old,.string new] 106)):=(zA.refl _ w).alloc _;obtain⟨w1,hw1⟩:∃w1,w1=w.alloc (.cells #[.string key,.bool was,.bool is_,.string old,.string new] 106):=⟨_,rfl⟩;rw[<- hw1] at HB0 m0;have hz:w1.heap.size=w.heap.size+1:=by rw[hw1];simp
 have hFn:¬ F w1.heap.size:=λf=>by have:=hL.lt _ f;omega
 have HCV:=oh (Go.Lib.run_convert_string_bytes (P:=Tryz.prog) w1 9 26 5 old Tryz.underlying9 Tryz.underlying26 Tryz.underlying5);have hsl:=zIC (F:=F) w1 5 old hFn (by omega);have hx:=zGe w1 5 old;have hcv:=HCV.out;obtain⟨w2,hw2⟩:∃w2,w2=Lib.bytesWorld w1 5 old:=⟨_,rfl⟩;rw[<- hw2] at hsl hx hcv;obtain⟨cp,hcp⟩:∃cp,cp=grownCap w1 old.size 0 5:=⟨_,rfl⟩;rw[<- hcp] at hsl hcv;rw[hz] at hcv;rw[hw1] at hcv;have hX2:zG w w2:=m0.trans hx;have hne:¬ w.heap.size=B:=λe=>by have:=hL.lt _ hF;omega
 have HS:=oh (zHZ (.slice (some ⟨w.heap.size+1,0,none⟩) old.size cp) old.data.toList w2 (by rw[<- hz];exact hsl));have ec:IntKind.u64.wrap (yC old.data.toList:Int)=(yC old.data.toList:Int):=IntWalk.u64_in _ (by have:=zA4 old.data.toList;omega);have hcl:=zA4 old.data.toList;obtain⟨cs,hcs⟩:∃cs,cs=yC old.data.toList:=⟨_,rfl⟩;rw[<- hcs] at HS ec hcl;have HCS:=oh hcs;have HL2:=oh (hL.mods hX2.ext);have HR2:=oh (h.ext hX2);have HX2:=oh hX2;have HBK2:=oh (HB0.out.ext hx);have HNE:=oh hne;have HF:=oh hF;have HLE:=oh hlen;have H123:=oh (And.intro h1 (And.intro h2 (And.intro h3 hcl)));have HMM:Hid (∀W,zA (λj=>j=B) w2 W->yG F ad W/\zK W w.heap.size #[.string key,.bool was,.bool is_,.string old,.string new] 106):=oh λW m=>⟨HL2.out.mods (m.mono (λj (h:j=B)=>by rw[h];exact HF.out)),HBK2.out.mods m HNE.out⟩
 clear hL hF h h1 h2 h3 hlen HB0 m0 HCV hsl hx hw2 hcp hX2 hne hcs hFn hw1 hz hcl;cases was with
 | false =>
  go_enter Tryz.func54, Tryz.ntmps54
  go_wp2_with fail;refine HS.out.mono ?_;rintro e w3 ⟨rfl,rfl⟩;have bk:=HBK2.out;have c1:=bk.cell (o:=1) rfl;have c2:=bk.cell (o:=2) rfl;clear bk hcv;go_wp2_with fail;refine (zFM HL2.out HF.out HR2.out 1 1 (by decide) (by decide) (by have:=HLE.out;omega)).mono ?_;rintro e W3 ⟨rfl,hR3,mm3⟩;have HR3:=oh hR3;have HM3:=oh (mm3);have bk:=(HMM.out _ HM3.out).2;have c0:=bk.cell (o:=0) (v:=.string key) rfl;have c4:=bk.cell (o:=4) (v:=.string new) rfl;clear hR3 mm3 bk;go_wp2_with fail;refine (zFm (HMM.out _ HM3.out).1 HF.out HR3.out key H123.out.1 (by have:=HLE.out;have:=H123.out;simp[zC];omega)).mono ?_;rintro e W4 ⟨rfl,hR4,mm4⟩;have HR4:=oh hR4;have HM4:=oh (HM3.out.trans mm4);have bk:=(HMM.out _ HM4.out).2;have c0:=bk.cell (o:=0) (v:=.string key) rfl;have c4:=bk.cell (o:=4) (v:=.string new) rfl;clear hR4 mm4 bk;go_wp2_with fail;refine (zFm (HMM.out _ HM4.out).1 HF.out HR4.out new H123.out.2.1 (by have:=HLE.out;have:=H123.out;simp[zC,yL];omega)).mono ?_;rintro e W5 ⟨rfl,hR5,mm5⟩;have HR5:=oh hR5;have HM5:=oh (HM4.out.trans mm5);have bk:=(HMM.out _ HM5.out).2;have c0:=bk.cell (o:=0) (v:=.string key) rfl;have c4:=bk.cell (o:=4) (v:=.string new) rfl;clear hR5 mm5 bk;go_wp2_with fail;go_end0
  exact⟨rfl,by have h:=HR5.out;simpa[yN] using h,HX2.out.ext.trans HM5.out⟩
 | true =>
  cases is_ with
  | false =>
   go_enter Tryz.func54, Tryz.ntmps54
   go_wp2_with fail;refine HS.out.mono ?_;rintro e w3 ⟨rfl,rfl⟩;have bk:=HBK2.out;have c1:=bk.cell (o:=1) rfl;have c2:=bk.cell (o:=2) rfl;clear bk hcv;go_wp2_with fail;refine (zFM HL2.out HF.out HR2.out 3 1 (by decide) (by decide) (by have:=HLE.out;omega)).mono ?_;rintro e W3 ⟨rfl,hR3,mm3⟩;have HR3:=oh hR3;have HM3:=oh (mm3);have bk:=(HMM.out _ HM3.out).2;have c0:=bk.cell (o:=0) (v:=.string key) rfl;have c4:=bk.cell (o:=4) (v:=.string new) rfl;clear hR3 mm3 bk;go_wp2_with fail;refine (zFm (HMM.out _ HM3.out).1 HF.out HR3.out key H123.out.1 (by have:=HLE.out;have:=H123.out;simp[zC];omega)).mono ?_;rintro e W4 ⟨rfl,hR4,mm4⟩;have HR4:=oh hR4;have HM4:=oh (HM3.out.trans mm4);have bk:=(HMM.out _ HM4.out).2;have c0:=bk.cell (o:=0) (v:=.string key) rfl;have c4:=bk.cell (o:=4) (v:=.string new) rfl;clear hR4 mm4 bk;go_wp2_with fail;refine (zFM (HMM.out _ HM4.out).1 HF.out HR4.out cs 4 (by decide) (by have:=H123.out.2.2.2;omega) (by have:=HLE.out;have:=H123.out;simp[zC,yL];omega)).mono ?_;rintro e W5 ⟨rfl,hR5,mm5⟩;have HR5:=oh hR5;have HM5:=oh (HM4.out.trans mm5);have bk:=(HMM.out _ HM5.out).2;have c0:=bk.cell (o:=0) (v:=.string key) rfl;have c4:=bk.cell (o:=4) (v:=.string new) rfl;clear hR5 mm5 bk;go_wp2_with fail;go_end0
   exact⟨rfl,by have h:=HR5.out;rw[HCS.out] at h;simpa[yN] using h,HX2.out.ext.trans HM5.out⟩
  | true =>
   go_enter Tryz.func54, Tryz.ntmps54
   go_wp2_with fail;refine HS.out.mono ?_;rintro e w3 ⟨rfl,rfl⟩;have bk:=HBK2.out;have c1:=bk.cell (o:=1) rfl;have c2:=bk.cell (o:=2) rfl;clear bk hcv;go_wp2_with fail;refine (zFM HL2.out HF.out HR2.out 2 1 (by decide) (by decide) (by have:=HLE.out;omega)).mono ?_;rintro e W3 ⟨rfl,hR3,mm3⟩;have HR3:=oh hR3;have HM3:=oh (mm3);have bk:=(HMM.out _ HM3.out).2;have c0:=bk.cell (o:=0) (v:=.string key) rfl;have c4:=bk.cell (o:=4) (v:=.string new) rfl;clear hR3 mm3 bk;go_wp2_with fail;refine (zFm (HMM.out _ HM3.out).1 HF.out HR3.out key H123.out.1 (by have:=HLE.out;have:=H123.out;simp[zC];omega)).mono ?_;rintro e W4 ⟨rfl,hR4,mm4⟩;have HR4:=oh hR4;have HM4:=oh (HM3.out.trans mm4);have bk:=(HMM.out _ HM4.out).2;have c0:=bk.cell (o:=0) (v:=.string key) rfl;have c4:=bk.cell (o:=4) (v:=.string new) rfl;clear hR4 mm4 bk;go_wp2_with fail;refine (zFm (HMM.out _ HM4.out).1 HF.out HR4.out new H123.out.2.1 (by have:=HLE.out;have:=H123.out;simp[zC,yL];omega)).mono ?_;rintro e W5 ⟨rfl,hR5,mm5⟩;have HR5:=oh hR5;have HM5:=oh (HM4.out.trans mm5);have bk:=(HMM.out _ HM5.out).2;have c0:=bk.cell (o:=0) (v:=.string key) rfl;have c4:=bk.cell (o:=4) (v:=.string new) rfl;clear hR5 mm5 bk;go_wp2_with fail;refine (zFM (HMM.out _ HM5.out).1 HF.out HR5.out cs 4 (by decide) (by have:=H123.out.2.2.2;omega) (by have:=HLE.out;have:=H123.out;simp[zC,yL];omega)).mono ?_;rintro e W6 ⟨rfl,hR6,mm6⟩;have HR6:=oh hR6;have HM6:=oh (HM5.out.trans mm6);have bk:=(HMM.out _ HM6.out).2;have c0:=bk.cell (o:=0) (v:=.string key) rfl;have c4:=bk.cell (o:=4) (v:=.string new) rfl;clear hR6 mm6 bk;go_wp2_with fail;go_end0
   exact⟨rfl,by have h:=HR6.out;rw[HCS.out] at h;simpa[yN] using h,HX2.out.ext.trans HM6.out⟩
end
def szC(c:ChV):Prop:=c.key.size<=4096/\c.new.size<=4096/\c.old.size<=4096
def szP(x:zD):Prop:=x.1.size<=4096/\x.2.size<=4096
theorem zC2:∀(a b:List zD),(∀x∈a,szP x)->(∀y∈b,szP y)->∀c∈yF a b,szC c
 | [],ys,_,h2,c,hc=>by
  rw[yF] at hc;obtain⟨y,hy,rfl⟩:=rY.1 hc;exact⟨(h2 y hy).1,(h2 y hy).2,by show (0:Nat)<=4096;omega⟩
 | x :: xs,[],h1,h2,c,hc=>by
  rw[yF] at hc;rcases uO.1 hc with rfl|hc
  .have:=h1 x uG;exact⟨this.1,by show (0:Nat)<=4096;omega,this.2⟩
  .exact zC2 xs [] (λz hz=>h1 z (uH _ hz)) h2 c hc
 | x :: xs,y :: ys,h1,h2,c,hc=>by
  have hx:=h1 x uG;have hy:=h2 y uG;have h1':∀z∈xs,szP z:=λz hz=>h1 z (uH _ hz)
  have h2':∀z∈ys,szP z:=λz hz=>h2 z (uH _ hz)
  rw[yF] at hc;split at hc
  .rcases uO.1 hc with rfl|hc
   .exact⟨hx.1,by show (0:Nat)<=4096;omega,hx.2⟩
   .exact zC2 xs (y :: ys) h1' h2 c hc
  .split at hc
   .rcases uO.1 hc with rfl|hc
    .exact⟨hy.1,hy.2,by show (0:Nat)<=4096;omega⟩
    .exact zC2 (x :: xs) ys h1 h2' c hc
   .split at hc
    .exact zC2 xs ys h1' h2' c hc
    .rcases uO.1 hc with rfl|hc
     .exact⟨hx.1,hy.2,hx.2⟩
     .exact zC2 xs ys h1' h2' c hc
termination_by a b=>a.length+b.length
theorem zGt:∀(l:List zD) (last:ByteArray),vS last l=true->∀x∈l,szP x
 | [],_,_,x,hx=>by cases hx
 | y :: l,last,h,x,hx=>by
  rw[vS] at h;simp only[uL,uQ] at h;rcases uO.1 hx with rfl|hx
  .have:=(vW x.1).1 h.1.1.1;exact⟨by omega,h.1.2⟩
  .exact zGt l y.1 h.2 x hx
theorem zRI(c:ChV)(h:szC c):(yN c).length<=8300:=by
 obtain⟨h1,h2,h3⟩:=h;unfold yN;split
 .simp[zC,yL];omega
 .split <;> simp[zC,yL] <;> omega
theorem zIm:∀(l:List ChV),(∀c∈l,szC c)->(l.flatMap yN).length<=8300 * l.length
 | [],_=>by simp
 | c :: l,h=>by
  rw[List.flatMap_cons,uA,uD];have:=zRI c (h c uG);have:=zIm l (λx hx=>h x (uH _ hx));omega
theorem zNk(o:List ChV)(k:Nat)(hk:k<o.length):(o.take (k+1)).flatMap yN=(o.take k).flatMap yN++yN o[k]:=by
 rw[tE hk,wT,List.flatMap_singleton]
section
variable {F:Nat->Prop}{ad:Nat->Addr}{w w':World}
def zKt(F:Nat->Prop)(ad:Nat->Addr)(gen:Nat)(was is_:List zD)(base:Nat)(e:Ending)(w':World):Prop :=
 if (vS e0 was && vS e0 is_)=true then ∃v,e=.returned (.tuple #[v,.nilIface])/\Sl F w' 1 zT v (zBu gen was is_ base)
 else ∃f,e=.returned (.tuple #[.slice none 0 0,zJ f])/\yY F ad w' (zJ f) [-1] 1
theorem zOQ(hL:yG F ad w)(gen base:Nat)(hg:gen<18446744073709551616)(hb:base<18446744073709551616)(was is_:List zD)(wv iv:Value)(hw:Sl F w 2 yS wv was)(hi:Sl F w 2 yS iv is_)(hl1:was.length<=100)(hl2:is_.length<=100) :
  Calls Tryz.prog 10 #[.int .u64 (gen:Int),wv,iv,.int .u64 (base:Int)] w λe w'=>zKt F ad gen was is_ base e w'/\zG w w':=by
 have HR1:=oh (zIB was wv hw);have HR2:=oh (λW (m:zG w W)=>zIB is_ iv (hi.ext m));have HDF:=oh (λW (m:zG w W)=>zSQ was is_ wv iv (hw.ext m) (hi.ext m) (by omega) (by omega));have HL:=oh hL;have HZ1:=oh (zGt was e0);have HZ2:=oh (zGt is_ e0);have HLN:=oh (And.intro hl1 hl2);have HGB:=oh (And.intro hg hb);obtain⟨aa,ac,rfl, -⟩:=hw;obtain⟨ba,bc,rfl, -⟩:=hi;obtain⟨q1,hq1⟩:∃q,q=vS e0 was:=⟨_,rfl⟩;obtain⟨q2,hq2⟩:∃q,q=vS e0 is_:=⟨_,rfl⟩;unfold zKt;rw[<- hq1] at HR1 HZ1;rw[<- hq2] at HR2 HZ2;rw[<- hq1,<- hq2];clear hL hl1 hl2 hg hb hq1 hq2;rcases (show q1=false\/q1=true/\q2=false\/q1=true/\q2=true by cases q1 <;> cases q2 <;> simp) with rfl|⟨rfl,rfl⟩|⟨rfl,rfl⟩
 focus
  go_enter Tryz.func10, Tryz.ntmps10
  go_wp2_with fail;refine HR1.out.mono ?_;rintro e w1 ⟨rfl,hm1⟩;have HM1:=oh hm1;have hL1:=HL.out.mods hm1.ext;have g1:=hL1.c1;clear hm1 hL1;go_wp2_with fail
 rotate_left;focus
  go_enter Tryz.func10, Tryz.ntmps10
  go_wp2_with fail;refine HR1.out.mono ?_;rintro e w0 ⟨rfl,hm0⟩;have HM0:=oh hm0;clear hm0;go_wp2_with fail;refine (HR2.out _ HM0.out).mono ?_;rintro e w1 ⟨rfl,hm1⟩;have HM1:=oh (HM0.out.trans hm1);have hL1:=HL.out.mods HM1.out.ext;have g1:=hL1.c1;clear hm1 hL1;go_wp2_with fail
 rotate_left;focus
  go_enter Tryz.func10, Tryz.ntmps10
  go_wp2_with fail;refine HR1.out.mono ?_;rintro e w0 ⟨rfl,hm0⟩;have HM0:=oh hm0;clear hm0;go_wp2_with fail;refine (HR2.out _ HM0.out).mono ?_;rintro e w1 ⟨rfl,hm1⟩;have HM1:=oh (HM0.out.trans hm1);clear hm1;go_wp2_with fail;refine (HDF.out _ HM1.out).mono ?_;rintro e w2 ⟨kv,rfl,hO2,hm2⟩;have HM2:=oh (HM1.out.trans hm2);have HSZ:Hid (∀c∈yF was is_,szC c):=oh (zC2 was is_ (HZ1.out (by simp)) (HZ2.out (by simp)));have HDL:=oh (uY (zHq was is_) (Nat.add_le_add HLN.out.1 HLN.out.2));have HSB:Hid (zBu gen was is_ base=zB3 (qW ⟨2,gen,base,(yF was is_).length⟩ ++ (yF was is_).flatMap yN)):=oh rfl;obtain⟨o,ho⟩:∃o,o=yF was is_:=⟨_,rfl⟩;rw[<- ho] at hO2 HSZ HDL HSB;have HOS:=oh ((hO2.blocks (G:=F) (λk hk f=>by have:=(hO2.lt k hk).1;have:=HL.out.lt k f;have:=HM1.out.size;omega)).sl zDe.len (by have:=HDL.out;omega));have HL2:=oh (HL.out.mods HM2.out.ext);have HBG:=oh (zMb HL2.out ⟨2,gen,base,o.length⟩ (by show (2:Nat)<256;omega) HGB.out.1 HGB.out.2 (by have:=HDL.out;show o.length<4294967296;omega));unfold zCS at HBG;simp only at HBG;rw[show ((2:Nat):Int)=2 from rfl] at HBG;obtain⟨oa,oc,rfl,hz1,hz2⟩:=hO2.form;have hdl:o.length<=200:=HDL.out;clear hm2 hO2 ho HR1 HR2 HDF hz1 hz2;go_wp2_with fail;refine HBG.out.mono ?_;rintro e w3 ⟨B,rfl,hB3,hL3,hq3,m3⟩;have HB3:=oh hB3;have HL3:=oh hL3;have HQ3:=oh hq3;have HM3:=oh m3;clear hB3 hL3 hq3 m3;go_wp2_with fail;go_loopg [35] o.length (λm v35 wr=>∃(k:Nat),k+m=o.length/\v35=.int .i64 (k:Int)/\Hid (BwR (yB F B) wr B (qW ⟨2,gen,base,o.length⟩ ++ (o.take k).flatMap yN)/\yG (yB F B) ad wr/\zG w2 wr))
  case atStart=>exact⟨0,by omega,rfl,oh ⟨by simpa using HB3.out,HL3.out,HM3.out⟩⟩
  case round =>
   obtain⟨k,hkm,rfl,HR⟩:=hrel;have HLB:Hid (∀k,(qW ⟨2,gen,base,o.length⟩ ++ (o.take k).flatMap yN).length<=2000000):=oh (λk=>by
    have h1:=zIm (o.take k) (λc hc=>HSZ.out c (rR hc));have h2:(o.take k).length<=o.length:=by rw[uR];omega
    have:=HDL.out;rw[uA,vN];omega)
   by_cases hlt:k<o.length
   .obtain⟨qb,qoff,hqa,hc⟩:=HOS.out.elem hlt HR.out.2.2;have c0:=hc 0 (.string o[k].key) rfl;have c1:=hc 1 (.bool o[k].was) rfl;have c2:=hc 2 (.bool o[k].is) rfl;have c3:=hc 3 (.string o[k].old) rfl;have c4:=hc 4 (.string o[k].new) rfl;simp only[uP] at c0;subst hqa;have HX:=oh (HSZ.out _ (wJ hlt));have HFT:=oh (zNk o k hlt);obtain⟨x,hx⟩:∃x,x=o[k]:=⟨_,rfl⟩;rw[<- hx] at c0 c1 c2 c3 c4 HX HFT;have i1:(0:Int)<=(k:Int):=by omega
    have i2:(k:Int)<(o.length:Int):=by omega
    have m0:zG wr (wr.alloc (.cells #[.string x.key,.bool x.was,.bool x.is,.string x.old,.string x.new] 106)):=(zA.refl _ wr).alloc _;have HRC:=oh (zRH (HR.out.2.1.mods m0.ext) (.inr rfl:yB F B B) (HR.out.1.ext m0) x (by have:=HX.out.1;omega) (by have:=HX.out.2.1;omega) (by have:=HX.out.2.2;omega) (by have:=HLB.out k;omega));rw[show (zEG x).toArray=#[.string x.key,.bool x.was,.bool x.is,.string x.old,.string x.new] from rfl] at HRC;have HM0:=oh m0;obtain⟨xk,xw,xi,xo,xn⟩:=x;simp only at c0 c1 c2 c3 c4 HRC HM0;clear hc hx m0;go_wp2_with fail;refine HRC.out.mono ?_;rintro e w5 ⟨rfl,hB5,m5⟩;have HF5:Hid (BwR (yB F B) w5 B (qW ⟨2,gen,base,o.length⟩ ++ (o.take (k+1)).flatMap yN)/\yG (yB F B) ad w5/\zG w2 w5):=oh ⟨by rw[HFT.out];simpa using hB5,(HR.out.2.1.mods HM0.out.ext).mods (m5.mono (λj (h:j=B)=>.inr h)),(HR.out.2.2.trans HM0.out).trans' m5 (λi hi (h:i=B)=>by have:=HQ3.out;omega)⟩;clear hB5 m5;go_wp2_with fail;go_roundg (gk-1)
    case measure=>omega
    case rel=>exact⟨k+1,by omega,by go_num,HF5⟩
   .have hke:k=o.length:=by omega
    subst hke;go_wp2_with fail;refine (zSA HR.out.2.1 (.inr rfl:yB F B B) HR.out.1 _ (by have:=HLB.out o.length;omega)).mono ?_;rintro e w5 ⟨v5,rfl,hs5,m5⟩;have HM5:=oh (HR.out.2.2.trans' m5 (λi hi (h:i=B)=>by have:=HQ3.out;omega));have HS5:=oh hs5;clear hs5 m5;go_wp2_with fail;go_ret2
    refine⟨?_,HM2.out.trans HM5.out⟩;refine⟨v5,rfl,?_⟩;have h:=HS5.out;rw[wX] at h;rw[HSB.out];exact h.anti (λk _ hk=>.inl hk)
 all_goals
  refine (yW (HL.out.mods HM1.out.ext) _ _ [] 1 (.sent 1 (by decide) (by decide))).mono ?_;rintro e w2 ⟨f,rfl,hE,hm2⟩;have HE:=oh hE;have HM2:=oh (HM1.out.trans hm2);clear hE hm2;go_wp2_with fail;go_ret2
  exact⟨⟨f,rfl,HE.out⟩,HM2.out⟩
end
theorem zRJ{k:ByteArray}(h:qS k=true):yX e0 k=true:=by
 rcases zF2 e0 k with h1|h1|h1
 .exact h1
 .rw[<- h1] at h;exact absurd h (by decide)
 .unfold yX at h1;rw[show e0.toList=[] from by simp[ByteArray.toList_eq]] at h1;cases hk:k.toList <;> rw[hk] at h1 <;> simp[Op.bytesLess] at h1
section
variable {F:Nat->Prop}{ad:Nat->Addr}{w w':World}{B:Nat}{v:Value}{R:List UInt8}{p q:Nat}{ok:Bool}
def okP(x:zD):Prop:=qS x.1=true/\x.2.size<=4096
def okC(c:ChV):Prop:=qS c.key=true/\c.new.size<=4096/\c.old.size<=4096/\(c.was=false->c.is=true)
theorem zRK{a b:List zD}(h1:∀x∈a,okP x)(h2:∀x∈b,okP x):∀c∈yF a b,okC c :=
 zDX a b (λx hx=>⟨(h1 x hx).1,tJ _,(h1 x hx).2,λh=>by cases h⟩) (λy hy=>⟨(h2 y hy).1,(h2 y hy).2,tJ _,λ_=>rfl⟩) (λx hx y hy=>⟨(h1 x hx).1,(h2 y hy).2,(h1 x hx).2,λh=>by cases h⟩)
theorem zNl(hL:yG F ad w)(hF:F B)(c:ChV)(Ab T:List UInt8)(hlenR:(Ab++(yN c++T)).length<=1000000000)(h:BrR F w B v (Ab++(yN c++T)) Ab.length true)(lv:Value)(l is:List zD)(hl:Sl F w 2 yS lv l)(hn:l.length<=1000)(last:ByteArray)(o:List ChV)(hfo:zFF l last is (c :: o))(hc:okC c) :
  ∃l',zFF l' c.key is o/\l'.length<=l.length+1 /\ Calls Tryz.prog 121 #[.pointer (some ⟨B,0,none⟩),lv,.string last] w (zRz F w B v (Ab++(yN c++T)) (Ab.length+(yN c).length) l' c.key):=by
 obtain⟨h1,X,Y,hX,hh⟩:=hfo.next;obtain⟨k1,k2,k3,k4⟩:=hc;rcases hh with ⟨hw,hi,rfl,hY,hf⟩|⟨hw,x,hx1,hx2,rfl,hf⟩
 .exact⟨_,hf,by simp;omega,zKr hL hF c Ab T hlenR h lv X Y hl hn last h1 k1 k2 hw hX hY⟩
 .cases hi:c.is with
  | true =>
   rw[hi] at hf;simp only[tS] at hf;exact⟨_,hf,by simp,zIl hL hF c Ab T hlenR h lv X Y x hl hn last h1 k1 k2 k3 hw hi hX hx1 hx2⟩
  | false =>
   rw[hi] at hf;simp only[wF,tN] at hf;exact⟨_,hf,by simp;omega,zKs hL hF c Ab T hlenR h lv X Y x hl hn last h1 k1 k3 hw hi hX hx1 hx2⟩
def zSh(F:Nat->Prop)(ad:Nat->Addr)(r:Option (List zD × Nat))(e:Ending)(w':World):Prop:=match r with
 | some (l,g)=>∃v',e=.returned (.tuple #[v',.int .u64 (g:Int),.nilIface])/\Sl F w' 2 yS v' l
 | none=>∃f,e=.returned (.tuple #[.slice none 0 0,.int .u64 0,zJ f])/\yY F ad w' (zJ f) [-1] 1
theorem zEx(hL:yG F ad w)(was is:List zD)(lv:Value)(hl:Sl F w 2 yS lv was)(g base:Nat)(hg:g<18446744073709551616)(hbs:base<18446744073709551616)(bv:Value)(hb:Sl F w 1 zT bv (zBu g was is base))(s1:yK was)(s2:yK is)(p1:∀x∈was,okP x)(p2:∀x∈is,okP x)(n1:was.length<=100)(n2:is.length<=100)(hlen:(zBu g was is base).length<=1000000000) :
  Calls Tryz.prog 72 #[lv,.int .u64 (base:Int),bv] w λe w'=>zSh F ad (some (is,g)) e w'/\zG w w':=by
 have hoc:=zRK p1 p2;have hol:=zHq was is;have hst:zFF was e0 is (yF was is):=zFF.start s1 s2 (λz hz=>zRJ (p1 z hz).1) (λz hz=>zRJ (p2 z hz).1);have hpk:=zH9 ⟨2,g,base,(yF was is).length⟩ ((yF was is).flatMap yN) (.inr rfl) hg hbs (by show (yF was is).length<_;omega);have hsb:zBu g was is base=zB3 (qW ⟨2,g,base,(yF was is).length⟩ ++ (yF was is).flatMap yN):=rfl;obtain⟨o,ho⟩:∃o,o=yF was is:=⟨_,rfl⟩;rw[<- ho] at hoc hol hst hpk hsb;rw[hsb] at hb hlen;obtain⟨bb,hbb⟩:∃bb,bb=zB3 (qW ⟨2,g,base,o.length⟩ ++ o.flatMap yN):=⟨_,rfl⟩;have htk:bb.take (bb.length-4)=qW ⟨2,g,base,o.length⟩ ++ o.flatMap yN:=by rw[hbb];exact zGd _
 have h29:29<=bb.length:=by rw[hbb,zAq,uA,vN];omega
 rw[<- hbb] at hb hlen hpk;have HPK:=zNi hL bv bb hb (by omega);unfold zIi at HPK;rw[hpk] at HPK;simp only at HPK;rw[show zCS ⟨2,g,base,o.length⟩=.agg #[.int .i64 2,.int .u64 (g:Int),.int .u64 (base:Int),.int .i64 (o.length:Int)] from rfl] at HPK;have HPK:=oh HPK;have HRC:=oh (λW (m:zG w W)=>zJm bv bb (hb.ext m) (by omega) (by omega));rw[htk] at HRC;have HSL:=oh hl;have HL:=oh hL;have HOC:=oh hoc;have HST:=oh hst;have HLN:Hid (o.length<=200/\was.length<=100/\(qW ⟨2,g,base,o.length⟩ ++ o.flatMap yN).length<=1000000000):=oh ⟨by omega,n1,by rw[<- htk,uR];omega⟩;obtain⟨a,cp,rfl, -⟩:=hb;clear hL hl hoc hol hst hpk hsb ho hbb htk h29 s1 s2 p1 p2 n1 n2 hlen hg hbs
 go_enter Tryz.func72, Tryz.ntmps72
 go_wp2_with fail;refine HPK.out.mono ?_;rintro e w1 ⟨rfl,hm1⟩;have HB1:=oh (zK.new w1 #[.int .i64 2,.int .u64 (g:Int),.int .u64 (base:Int),.int .i64 (o.length:Int)] 46);obtain⟨W1,hW1⟩:∃W1,W1=w1.alloc (.cells #[.int .i64 2,.int .u64 (g:Int),.int .u64 (base:Int),.int .i64 (o.length:Int)] 46):=⟨_,rfl⟩;have HM1:Hid (zG w W1):=oh (by rw[hW1];exact hm1.alloc _);have hz1:w1.heap.size<W1.heap.size:=by rw[hW1];simp
 rw[<- hW1] at HB1;have c0:=HB1.out.cell (o:=0) (v:=.int .i64 2) rfl;have c2:=HB1.out.cell (o:=2) (v:=.int .u64 (base:Int)) rfl;have HW1:=oh hW1;have HZ1:=oh hz1;rw[hW1] at c0 c2;clear hm1 hW1 hz1;go_wp2_with fail;rw[<- HW1.out];refine (HRC.out _ HM1.out).mono ?_;rintro e w5 ⟨RB,rv,rfl,hR5,hm5,hz5,hz6⟩;have HR5:=oh hR5;have HM5:=oh (HM1.out.trans hm5);have HL5:=oh ((HL.out.mods HM1.out.ext).plusX hm5 hz5 hz6);have HB5:=oh (HB1.out.ext hm5);have HS5:=oh ((HSL.out.ext HM1.out).plusX hm5 hz5);have HZ5:Hid (w1.heap.size<RB/\RB<w5.heap.size/\w.heap.size<=RB):=oh ⟨uI HZ1.out hz5,hz6,uY HM1.out.size hz5⟩;have HFB:=oh (show yB F RB RB from .inr rfl);clear hR5 hm5 hz5 hz6 c0 c2;go_wp2_with fail;go_loopg [0,12,13,14] o.length (λm v0 v12 v13 v14 wr=>∃(i:Nat) (li:List zD) (last:ByteArray) (lv:Value),i+m=o.length/\lv=v0/\v12=.string last/\v13=.bool true/\v14=.int .i64 (i:Int)/\Hid (zFF li last is (o.drop i)/\li.length<=100+i)/\Hid (Sl (yB F RB) wr 2 yS lv li/\BrR (yB F RB) wr RB rv (qW ⟨2,g,base,o.length⟩ ++ o.flatMap yN) (zCy ⟨2,g,base,o.length⟩ o i).length true/\zA (λj=>j=RB) w5 wr))
 case atStart=>exact⟨0,was,e0,_,by omega,rfl,rfl,rfl,rfl,oh ⟨HST.out,HLN.out.2.1⟩,oh ⟨HS5.out,by rw[zM9];exact HR5.out,zA.refl _ _⟩⟩
 case round =>
  obtain⟨i,li,last,v0,him,rfl,rfl,rfl,rfl,HQ,HS⟩:=hrel;have hB:=HB5.out.mods HS.out.2.2 (λ(h:w1.heap.size=RB)=>by have:=HZ5.out;omega);have c1:=hB.cell (o:=1) (v:=.int .u64 (g:Int)) rfl;have c3:=hB.cell (o:=3) (v:=.int .i64 (o.length:Int)) rfl;have HLr:=oh (HL5.out.mods (HS.out.2.2.mono (λj (h:j=RB)=>by rw[h];exact HFB.out)));clear hB;by_cases hlt:i<o.length
  .obtain⟨T,ht1,ht2⟩:=zLe ⟨2,g,base,o.length⟩ o hlt;have hdr:o.drop i=o[i] :: o.drop (i+1):=wM hlt;have hcc:=HOC.out _ (wJ hlt);have hfi:=HQ.out.1;rw[hdr] at hfi;have hbr:=HS.out.2.1;have hln:=HLN.out.2.2;rw[ht1] at hbr hln;obtain⟨l',hf',hl',hcal⟩:=zNl HLr.out HFB.out o[i] _ T hln hbr v0 li is HS.out.1 (by have:=HQ.out.2;have:=HLN.out.1;omega) last _ hfi hcc;rw[<- ht1,<- uA,<- ht2] at hcal;have HCAL:=oh hcal;have HQN:Hid (zFF l' o[i].key is (o.drop (i+1))/\l'.length<=100+(i+1)):=oh ⟨hf',by have:=HQ.out.2;omega⟩;have HLL:Hid (l'.length<=1000):=oh (by have:=HQ.out.2;have:=HLN.out.1;omega);obtain⟨ck,hck⟩:∃ck,ck=o[i].key:=⟨_,rfl⟩;rw[<- hck] at HCAL HQN;have i1:(i:Int)<(o.length:Int):=by omega
   have i2:(o.length:Int)<=200:=by have:=HLN.out.1;omega
   clear ht1 ht2 hdr hcc hfi hbr hln hf' hl' hcal hck;go_wp2_with fail;refine HCAL.out.mono ?_;rintro e w6 ⟨v6,rfl,hO6,hR6,m6⟩;have HN6:Hid (Sl (yB F RB) w6 2 yS v6 l'/\BrR (yB F RB) w6 RB rv (qW ⟨2,g,base,o.length⟩ ++ o.flatMap yN) (zCy ⟨2,g,base,o.length⟩ o (i+1)).length true/\zA (λj=>j=RB) w5 w6):=oh ⟨hO6.slF (λk hk=>HLr.out.lt k hk) yR.len (by have:=HLL.out;omega),hR6,HS.out.2.2.trans m6⟩;clear hO6 hR6 m6;go_wp2_with fail;go_roundg (gk-1)
   case measure=>omega
   case rel=>exact⟨i+1,l',ck,_,by omega,rfl,rfl,rfl,by go_num,HQN,HN6⟩
  .have hie:i=o.length:=by omega
   have hbr:=HS.out.2.1;rw[hie,zO4] at hbr;have HD:=zNK hbr;rw[uT rfl,Bool.and_true] at HD;have HD:=oh HD;have hli:li=is:=by have:=HQ.out.1;rw[hie,List.drop_length] at this;exact this.done
   have HSR:=HS;have HLI:=oh hli;have i1:¬ (i:Int)<(o.length:Int):=by omega
   clear hbr hli hie him hlt;go_wp2_with fail;refine HD.out.mono ?_;rintro e w6 ⟨rfl,m6⟩;have hB:=HB5.out.mods (HSR.out.2.2.trans m6.ext) (λ(h:w1.heap.size=RB)=>by have:=HZ5.out;omega);have c1:=hB.cell (o:=1) (v:=.int .u64 (g:Int)) rfl;have HF:Hid (∀q,Sl F (w6.drewN q) 2 yS v0 is/\zG w (w6.drewN q)):=oh λq=>by
    have h1:=(HSR.out.1.ext m6).ext ((zA.refl _ w6).drewN q);rw[HLI.out] at h1;exact⟨h1.anti (λk _ hk=>.inl hk),((HM5.out.trans' HSR.out.2.2 (λj hj (h:j=RB)=>by have:=HZ5.out;omega)).trans m6).trans ((zA.refl _ w6).drewN q)⟩
   clear hB m6;go_wp2_with fail;go_quiet (fail)
   go_wp2_with fail;refine bodyPost_ret (v:=.tuple #[v0,.int .u64 (g:Int),.nilIface]) (by simp[results,Tryz.results72,go_sem]) rfl ?_;exact⟨⟨_,rfl,(HF.out _).1⟩,(HF.out _).2⟩
theorem zKu(hL:yG F ad w)(lv:Value)(x y:List zD)(g base gen:Nat)(hg:g<18446744073709551616)(hbs:base<18446744073709551616)(hne:base≠gen)(bv:Value)(hb:Sl F w 1 zT bv (zBu g x y base))(hd:(yF x y).length<4294967296)(hlen:(zBu g x y base).length<=1000000000) :
  Calls Tryz.prog 72 #[lv,.int .u64 (gen:Int),bv] w λe w'=>zSh F ad none e w'/\zG w w':=by
 have hpk:=zH9 ⟨2,g,base,(yF x y).length⟩ ((yF x y).flatMap yN) (.inr rfl) hg hbs hd;have hsb:zBu g x y base=zB3 (qW ⟨2,g,base,(yF x y).length⟩ ++ (yF x y).flatMap yN):=rfl;have HPK:=zNi hL bv _ hb hlen;unfold zIi at HPK;rw[hsb,hpk] at HPK;simp only at HPK;obtain⟨n,hn⟩:∃n,n=(yF x y).length:=⟨_,rfl⟩;rw[<- hn,show zCS ⟨2,g,base,n⟩=.agg #[.int .i64 2,.int .u64 (g:Int),.int .u64 (base:Int),.int .i64 (n:Int)] from rfl] at HPK;have HPK:=oh HPK;have HL:=oh hL;have hne2:((base:Int) != (gen:Int))=true:=by simp;omega
 obtain⟨a,cp,rfl, -⟩:=hb;clear hL hpk hsb hn hd hlen hg hbs hne
 go_enter Tryz.func72, Tryz.ntmps72
 go_wp2_with fail;refine HPK.out.mono ?_;rintro e w1 ⟨rfl,hm1⟩;have HB1:=oh (zK.new w1 #[.int .i64 2,.int .u64 (g:Int),.int .u64 (base:Int),.int .i64 (n:Int)] 46);have HM1:=oh (hm1.alloc (.cells #[.int .i64 2,.int .u64 (g:Int),.int .u64 (base:Int),.int .i64 (n:Int)] 46));have c0:=HB1.out.cell (o:=0) (v:=.int .i64 2) rfl;have c2:=HB1.out.cell (o:=2) (v:=.int .u64 (base:Int)) rfl;clear hm1;go_wp2_with fail;refine (zNJ (HL.out.mods HM1.out.ext) _).mono ?_;rintro e w2 ⟨f,rfl,hE,hm2⟩;have HF:Hid (yY F ad w2 (zJ f) [-1] 1/\zG w w2):=oh ⟨hE,HM1.out.trans hm2⟩;clear hE hm2;go_wp2_with fail;refine bodyPost_ret (v:=.tuple #[.slice none 0 0,.int .u64 0,zJ f]) (by simp[results,Tryz.results72,go_sem]) rfl ?_;exact⟨⟨f,rfl,HF.out.1⟩,HF.out.2⟩
end
end Go.Proofs.YtdnbmdghmmpgcaaGreatDoor
