import Derived.Test.YtdnbmdghmmpgcaaGreatDoorQ01
import Derived.Test.YtdnbmdghmmpgcaaGreatDoorQ09
import Derived.Test.YtdnbmdghmmpgcaaGreatDoorQ20
import Derived.Laws.IdiomStrings
import Derived.IntWalk
namespace Go.Proofs.YtdnbmdghmmpgcaaGreatDoor
open Lib renaming hid->oh
set_option maxHeartbeats 4000000
set_option maxRecDepth 100000
section
open Go.RowKit
theorem zH7{F:Nat->Prop}{ad:Nat->Addr}{w:World}(hL:yG F ad w)(m:zBQ)(hm:zB5 m=true)(hg:m.gen<18446744073709551616)(uv:Value)(hu:Sl F w 1 yP uv (yQ m))(i z:Nat)(hi:zBR m.gen i=true)(h1:256<=z)(h2:z<=1024) :
  Calls Tryz.prog 143 #[zCm m uv,.int .i64 (i:Int),.int .i64 (z:Int)] w λe w'=>∃a c,e=.returned (.tuple #[.slice a z c,.nilIface])/\yA F w' w.heap.size 5 1 zT (.slice a z c) (qL m i z)/\zG w w':=by
 obtain⟨o1,o2,o3,o4,o5,o6⟩:=(zAL m).1 hm;have hlen:m.used.length<=m.blocks:=zEY m.used 0 m.blocks o5 (λn hn=>⟨tJ _,o6 n hn⟩) (tJ _);have hi6:i<6:=by
  unfold zBR at hi;simp only[pA,uQ] at hi;unfold place at hi;omega
 have HU:Hid (∀w',zG w w'->Sl F w' 1 yP uv (yQ m)):=oh (λw' k=>hu.ext k);have HL:Hid (∀w',zG w w'->yG F ad w'):=oh (λw' k=>hL.mods k.ext);have HF:Hid (∀w',zG w w'->Bd F w'):=oh (λw' k x hx=>(HL.out w' k).lt x hx);have HCK:Hid (∀w',zG w w' -> Calls Tryz.prog 206 #[zCm m uv] w' λe w''=>e=.returned .nilIface/\zG w' w''):=oh (λw' k=>zLB m hm uv (HU.out w' k));have HBI:Hid (∀w',zG w w' -> Calls Tryz.prog 209 #[zCm m uv] w' λe w''=>∃v,e=.returned v/\Sl F w'' 1 zT v (zCY m.blocks m.used)/\(zCY m.blocks m.used).length=(m.blocks+7) / 8/\zG w' w''):=oh (λw' k=>zQM (HF.out w' k) m hm uv (HU.out w' k));have HON:Hid (∀w',Calls Tryz.prog 207 #[.int .u64 (m.gen:Int),.int .i64 (i:Int)] w' λe w''=>e=.returned (.bool true)/\zG w' w''):=oh (λw'=>(zNy m.gen hg i (by omega) w').mono (λe w'' h=>⟨by rw[h.1,hi],h.2⟩));have HPC:=oh (zG9 hm hi6 h1 h2);have HBY:Hid (zU 4 m.blocks++zU 4 m.used.length++zCY m.blocks m.used=qY m):=oh rfl;have HBK:Hid (zA8 (zB6 m i) z=qL m i z):=oh rfl;have HPB:Hid ((zB6 m i).body=qY m):=oh rfl;have HPG:Hid (∀v,Value.agg #[.int .i64 5,.int .i64 (i:Int),.int .u64 (m.gen:Int),v]=qD (zB6 m i) v):=oh (λ_=>rfl);have HG2:Hid ((zB6 m i).gen<18446744073709551616):=oh hg;have HML:=oh (zBD m);have hul:(yQ m).length=m.used.length:=by unfold yQ;rw[wU]
 obtain⟨ua,uc,rfl,i1,i2,i3, -⟩:=hu;unfold maxLen at i2;have HMV:Hid (zCm m (.slice ua (yQ m).length uc)=.agg #[.int .u64 (m.gen:Int),.int .i64 (m.blocks:Int),.slice ua (yQ m).length uc]):=oh rfl;rw[HMV.out];rw[hul] at HU HCK HBI HMV i1 i3 ⊢;obtain⟨g,hgg⟩:∃g,g=m.gen:=⟨_,rfl⟩;obtain⟨b,hb⟩:∃b,b=m.blocks:=⟨_,rfl⟩;obtain⟨n,hn⟩:∃n,n=m.used.length:=⟨_,rfl⟩;rw[<- hgg,<- hb,<- hn] at HMV ⊢;rw[<- hgg] at HON HPG hg;rw[<- hb,<- hn] at hlen HBY;rw[<- hb] at o1 o2;rw[<- hb] at HBI HML;rw[<- hn] at HBI HCK HU i1 i3 o3;clear hL hm hi o4 o5 o6 hul hgg hb hn;obtain⟨W0,hW0⟩:∃W0,W0=w.alloc (.cells #[.int .u64 (g:Int),.int .i64 (b:Int),.slice ua n uc] 170):=⟨_,rfl⟩;have hM0:zG w W0:=by rw[hW0];exact (zA.refl _ w).alloc _
 have hB0:zK W0 w.heap.size #[.int .u64 (g:Int),.int .i64 (b:Int),.slice ua n uc] 170:=by rw[hW0];exact zK.new w _ _
 have HM0:=oh hM0;have HX0:=oh hB0;clear hM0 hB0
 go_enter Tryz.func143, Tryz.ntmps143
 go_wp2_with fail;rw[<- hW0,<- HMV.out];refine (HCK.out _ HM0.out).mono ?_;rintro e w1 ⟨rfl,m1⟩;have HM1:=oh (HM0.out.trans m1);have HX1:=oh (HX0.out.ext m1);clear m1 hW0;have x0:=HX1.out.cell (o:=0) rfl;go_wp2_with fail;refine (HON.out _).mono ?_;rintro e w2 ⟨rfl,m2⟩;have HM2:=oh (HM1.out.trans m2);have HX2:=oh (HX1.out.ext m2);clear m2 x0;have x1:=HX2.out.cell (o:=1) rfl;have e1:decide ((z:Int)<256)=false:=by simp;omega
 have e2:decide (1024<(z:Int))=false:=by simp;omega
 go_wp2_with fail;have PA:=zAu (HL.out _ HM2.out) (.slice none 0 0) [] (Sl.nil _ _ _ _) b 4 (by decide) (by show b<4294967296;omega) (by decide);simp only[uF,uS,wL] at PA;refine PA.mono ?_;rintro e w3 ⟨a3,c3,rfl,hO3,m3⟩;have HS3:=oh (hO3.sl (λ_=>rfl) (by rw[zC];decide));have HM3:=oh (HM2.out.trans m3);have HX3:=oh (HX2.out.ext m3);clear hO3 m3 x1 PA;have x2:=HX3.out.cell (o:=2) rfl;go_wp2_with fail;have PA:=zAu (HL.out _ HM3.out) _ (zU 4 b) HS3.out n 4 (by decide) (by show n<4294967296;omega) (by rw[zC];decide);rw[zC] at PA;refine PA.mono ?_;rintro e w4 ⟨a4,c4,rfl,hO4,m4⟩;have HO4:=oh hO4;have HM4:=oh (HM3.out.trans m4);have HX4:=oh (HX3.out.ext m4);have HM34:=oh m4;clear hO4 m4 x2 PA;obtain⟨X,hX⟩:∃X,X=w.heap.size:=⟨_,rfl⟩;have HSX:Hid (∀W,zG w3 W->W.cell? ⟨X,0,none⟩=some (.int .u64 (g:Int))/\W.cell? ⟨X,1,none⟩=some (.int .i64 (b:Int))/\W.cell? ⟨X,2,none⟩=some (.slice ua n uc)):=oh (λW k=>by rw[hX];exact⟨(HX3.out.ext k).cell rfl,(HX3.out.ext k).cell rfl,(HX3.out.ext k).cell rfl⟩);go_wp2_with fail;rw[<- hX];clear hX;refine wp_region_held_drew (S:=(λw'=>w'.cell? ⟨X,0,none⟩=some (.int .u64 (g:Int))/\w'.cell? ⟨X,1,none⟩=some (.int .i64 (b:Int))/\w'.cell? ⟨X,2,none⟩=some (.slice ua n uc))) (by kernel_rfl) (HSX.out _ HM34.out.drew) (λhHeld=>?_);obtain⟨Wd,hWd⟩:∃W,W=w4.drew:=⟨_,rfl⟩;rw[<- hWd] at hHeld ⊢;have xE:zG w4 Wd:=by rw[hWd];exact (zA.refl _ _).drew
 have xWd:zG w3 Wd:=HM34.out.trans xE;clear hWd;refine tkH 0 ⟨some 56,_,_,_,_,_⟩ ?_;try go_frame
 refine tkH 1 ⟨some 57,_,_,_,_,_⟩ ?_;try go_frame
 refine tkH 2 ⟨some 58,_,_,_,_,_⟩ ?_;try go_frame
 refine tkH 3 ⟨some 59,_,_,_,_,_⟩ ?_;try go_frame
 refine tkH 4 ⟨some 60,_,_,_,_,_⟩ ?_;try go_frame
 refine tkH 8 ⟨some 64,_,_,_,_,_⟩ ?_;try go_frame
 refine wpAnyH_ready (rs:=[5]) (by kernel_rfl) (by simp) ?_;refine AllReadyH.cons (o:=⟨some 61,_,_,_,_,_⟩) rfl (λK hK=>?_) AllReadyH.nil;go_simp;go_at_call 209
 rw[<- HMV.out]
 (with_reducible refine (HBI.out _ (HM3.out.trans xWd)).mono ?_)
 rintro e W5 ⟨v5,rfl,s5,l5,m5⟩;have xW5:=xWd.trans m5;refine hK.out _ _ (by first|exact HSX.out _ xW5|go_keep) (λhHeld=>?_);clear hK;try go_frame
 refine wpAnyH_ready (rs:=[6]) (by kernel_rfl) (by simp) ?_;refine AllReadyH.cons (o:=⟨some 62,_,_,_,_,_⟩) rfl (λK hK=>?_) AllReadyH.nil;have hO5:=HO4.out.ext (xE.trans m5);refine zHv (F:=F) (G:=F) Tryz.elB qN (by rfl) (.tmp 59) (.tmp 61) (by rfl) w3.heap.size (.slice a4 (4+4) c4) v5 (zU 4 b++zU 4 n) (zCY b m.used) (by rfl) (by rfl) hO5 s5 (by rw[l5,uA,zC,zC];omega) xW5.size (λf=>pB _ ((HF.out _ (HM3.out.trans xW5)) _ f)) ?_;intro a6 c6 W6 hO6 hg6 hat6;have xW6:zG w3 W6:=zA.grown xW5 hg6 (λk hk=>.inl (hO5.lt k hk).1);have s6:=hO6.sl (λ_=>rfl) (by rw[uA,uA,l5,zC,zC];omega);rw[HBY.out,<- HPB.out] at s6;have S6:=oh s6;have zN:(zU 4 b++zU 4 n).length+(zCY b m.used).length=8+(b+7) / 8:=by rw[l5,uA,zC,zC]
 rw[zN] at S6 ⊢;refine hK.out _ _ (by first|exact HSX.out _ xW6|go_keep) (λhHeld=>?_);clear hK;try go_frame
 refine tkH 7 ⟨some 63,_,_,_,_,_⟩ ?_;try go_frame
 refine wpAnyH_ready (rs:=[9]) (by kernel_rfl) (by simp) ?_;refine AllReadyH.cons (o:=⟨some 65,_,_,_,_,_⟩) rfl (λK hK=>?_) AllReadyH.nil;go_simp;go_at_call 208
 rw[HPG.out]
 (with_reducible refine (zHc (HL.out _ (HM3.out.trans xW6)) (zB6 m i) _ S6.out z HG2.out HPC.out).mono ?_)
 rintro e W9 ⟨a9,c9,rfl,hO9,m9⟩;have xW9:=xW6.trans m9;refine hK.out _ _ (by first|exact HSX.out _ xW9|go_keep) (λhHeld=>?_);clear hK;try go_frame
 refine tkH 10 ⟨some 55,_,_,_,_,_⟩ ?_;try go_frame
 refine tkH 11 ⟨some 66,_,_,_,_,_⟩ ?_;try go_frame
 refine tkH 12 ⟨some 67,_,_,_,_,_⟩ ?_;try go_frame
 refine tkH 13 ⟨some 11,_,_,_,_,_⟩ ?_;try go_frame
 refine tkH 14 ⟨some 10,_,_,_,_,_⟩ ?_;try go_frame
 refine wpAnyH_done (by kernel_rfl) ?_ _;have HO9:=oh (hO9.rebase (HM3.out.trans xW6).size);have HM9:=oh (HM3.out.trans xW9);clear hO9 m9 xW9 xW6 xW5 xWd xE m5 s5 l5 hO5 hO6 hg6 hat6 s6 zN;go_wp2_with fail;refine (wrap_nil _ _).mono ?_;rintro e w5 ⟨rfl,rfl⟩;go_wp2_with fail;go_ret2
 exact⟨a9,c9,rfl,by rw[<- HBK.out];exact HO9.out,HM9.out⟩
end
section
open Go.RowKit
attribute [local go_sem ↓] Go.wp_at_zero Go.wp_at_succ
def zGC(b:List UInt8)(i:Nat):Bool:=decide (8+i / 8<b.length) && (b.getD (8+i / 8) 0).toNat.testBit (i % 8)
def zGD(b:List UInt8)(k:Nat):List Int:=((List.range k).filter (λi=>zGC b i)).map (λ(i:Nat)=>(i:Int))
theorem zM4(b:List UInt8)(k:Nat):zGD b (k+1)=zGD b k++if zGC b k=true then [(k:Int)] else []:=by
 unfold zGD;rw[List.range_succ,List.filter_append,List.map_append];congr 1
 by_cases h:zGC b k=true
 .rw[if_pos h,List.filter_cons_of_pos (p:=λi=>zGC b i) h];rfl
 .rw[if_neg h,List.filter_cons_of_neg (p:=λi=>zGC b i) h];rfl
theorem zJX(b:List UInt8)(k:Nat):(zGD b k).length<=k:=by
 unfold zGD;rw[wU];exact uY (List.length_filter_le _ _) (by simp)
theorem zRY(y r:Nat):y.testBit r=decide (y / 2 ^ r % 2=1):=by
 rw[Nat.testBit_eq_decide_div_mod_eq]
theorem zTH(y r:Nat)(hy:y<256):bits .and .u8 ((y:Int) / 2 ^ r) 1=((y / 2 ^ r % 2:Nat):Int):=by
 have h:=u8_and_nat (y / 2 ^ r) 1 (Nat.lt_of_le_of_lt (Nat.div_le_self _ _) hy) (by decide);rw[nat_mask1] at h;rw[<- h,Int.natCast_ediv,Int.natCast_pow];rfl
theorem Tryz.elI5:ElT Tryz.prog 90 3 (.int .i64 0) 1 8:=⟨Tryz.underlying90,by kernel_rfl,rfl,by decide,by decide⟩
theorem Tryz.mapSize:(Tryz.prog.info? 170).map (·.size)=some 3:=by kernel_rfl
theorem zLX{F:Nat->Prop}{ad:Nat->Addr}{w:World}(hL:yG F ad w)(p:yI)(bv:Value)(hb:Sl F w 1 zT bv p.body)(h1:4<=p.body.length)(h2:zZ p.body 0 4<=256)(h3:p.body.length<=100000)(_hg:p.gen<18446744073709551616) :
  Calls Tryz.prog 248 #[qD p bv] w λe w'=>∃uv,e=.returned (zCm (zHA p) uv)/\yA (λ_=>False) w' w.heap.size 3 1 yP uv (yQ (zHA p))/\(yQ (zHA p)).length<=256/\zG w w':=by
 have HB:Hid (∀w',zG w w'->Sl F w' 1 zT bv p.body):=oh (λw' m=>hb.ext m);have HL:Hid (∀w',zG w w'->yG F ad w'):=oh (λw' m=>hL.mods m.ext);clear hL;have HT:Hid (qO p.body ((0:Nat):Int) 4=(zZ p.body 0 4,none)):=oh (zDs _ _ _ (by omega));have HSM:=oh (zJF p h1 h2);have HUI:Hid (yQ (zHA p)=zGD p.body (zZ p.body 0 4)):=oh (by rw[HSM.out];rfl);have HMV:Hid (∀uv,zCm (zHA p) uv=.agg #[.int .u64 (p.gen:Int),.int .i64 (zZ p.body 0 4:Int),uv]):=oh (λuv=>by rw[HSM.out];rfl);obtain⟨pa,pc,rfl,i1,i2,i3, -⟩:=hb;unfold maxLen at i2;have HP:Hid (∀bv,qD p bv=.agg #[.int .i64 p.kind,.int .i64 p.id,.int .u64 (p.gen:Int),bv]):=oh (λbv=>rfl);rw[HP.out];obtain⟨bl,hbl⟩:∃n,n=p.body.length:=⟨_,rfl⟩;obtain⟨K,hK⟩:∃I,I=p.kind:=⟨_,rfl⟩;obtain⟨I,hI⟩:∃I,I=p.id:=⟨_,rfl⟩;obtain⟨g,hgg⟩:∃g,g=p.gen:=⟨_,rfl⟩;obtain⟨n,hn⟩:∃n,n=zZ p.body 0 4:=⟨_,rfl⟩;have HBL:=oh hbl;rw[<- hbl,<- hK,<- hI,<- hgg];rw[<- hbl] at HB h1 h3 i1 i3;rw[<- hgg] at HMV;rw[<- hn] at HT HUI HMV h2;clear hbl hK hI hgg hn HP HSM;obtain⟨W0,hW0⟩:∃W0,W0=(w.alloc (.cells #[.int .i64 K,.int .i64 I,.int .u64 (g:Int),.slice pa bl pc] 304)).alloc (.cells #[.int .u64 0,.int .i64 0,.slice none 0 0] 170):=⟨_,rfl⟩;have hM0:zG w W0:=by rw[hW0];exact ((zA.refl _ w).alloc _).alloc _
 have hBX:zK W0 w.heap.size #[.int .i64 K,.int .i64 I,.int .u64 (g:Int),.slice pa bl pc] 304:=by rw[hW0];exact (zK.new w _ _).alloc _
 have hBR:zK W0 (w.heap.size+1) #[.int .u64 0,.int .i64 0,.slice none 0 0] 170:=by rw[hW0];exact zO (by simp)
 have hsz:W0.heap.size=w.heap.size+2:=by rw[hW0];simp
 have TA:=zDt (HL.out _ hM0) _ p.body (HB.out _ hM0) 0 4 n (by decide) HT.out;rw[show ((0:Nat):Int)=0 from rfl,show ((4:Nat):Int)=4 from rfl] at TA;have TA:=oh TA;have HM0:=oh hM0;have HX0:=oh hBX;have HR0:=oh hBR;clear hM0 hBX hBR
 go_enter Tryz.func248, Tryz.ntmps248
 go_wp2_with fail;rw[<- hW0];refine TA.out.mono ?_;rintro e w1 ⟨rfl,m1⟩;have hX1:=HX0.out.ext m1;have hR1:=HR0.out.ext m1;have hM1:=HM0.out.trans m1;have hs1:w.heap.size+2<=w1.heap.size:=by have:=m1.size;omega
 have x2:=hX1.cell (o:=2) rfl;have HX1:=oh hX1;have HR1:=oh hR1;have HM1:=oh hM1;have hgt:¬ (256:Int)<(n:Int):=by omega
 clear hX1 hR1 hM1 m1 hW0 TA;go_wp2_with fail;obtain⟨W2,hW2⟩:∃W,W=w1.alloc (.cells #[.int .u64 (g:Int),.int .i64 (n:Int),.slice none 0 0] 170):=⟨_,rfl⟩;have m2:zG w1 W2:=by rw[hW2];exact (zA.refl _ w1).alloc _
 have hY2:zK W2 w1.heap.size #[.int .u64 (g:Int),.int .i64 (n:Int),.slice none 0 0] 170:=by rw[hW2];exact zK.new w1 _ _
 have hs2:W2.heap.size=w1.heap.size+1:=by rw[hW2];simp
 rw[<- hW2];obtain⟨Y,hY⟩:∃Y,Y=w1.heap.size:=⟨_,rfl⟩;rw[<- hY] at hY2 hs1 hs2 ⊢;have HX2:=oh (HX1.out.ext m2);have HR2:=oh (HR1.out.ext m2);have HM2:=oh (HM1.out.trans m2);have HY2:=oh hY2;have hXY:w.heap.size<Y:=by omega
 have hRY:w.heap.size+1<Y:=by omega
 have HXY:=oh hXY;have HS2:=oh hs2;have HS1:=oh hs1;clear hW2 m2 hY2 hY x2 HX1 HR1 HM1 HX0 HR0 HM0 hsz hs2;go_loopg [28] n (λr v28 wr=>∃(k:Nat) (uv:Value),k+r=n/\v28=.int .i64 k/\Hid (zG w wr/\zK wr w.heap.size #[.int .i64 K,.int .i64 I,.int .u64 (g:Int),.slice pa bl pc] 304 /\ zK wr (w.heap.size+1) #[.int .u64 0,.int .i64 0,.slice none 0 0] 170 /\ zK wr Y #[.int .u64 (g:Int),.int .i64 (n:Int),uv] 170 /\ yA (λ_=>False) wr (Y+1) 3 1 yP uv (zGD p.body k)))
 case atStart=>exact⟨0,_,by omega,rfl,oh ⟨HM2.out,HX2.out,HR2.out,HY2.out,yA.nil _ _ _ _ _ _⟩⟩
 case round =>
  clear HX2 HR2 HM2 HY2;obtain⟨k,uv,hk,rfl,HW⟩:=hrel;obtain⟨hM,hX,hR,hY,hO⟩:=HW.out;have y2:=hY.cell (o:=2) rfl;have x3:=hX.cell (o:=3) rfl;have yf:=hY.frozen;have hz:=hY.lt;obtain⟨ua,uc,huv, -, -⟩:=_root_.id hO.form;obtain⟨ul,hul⟩:∃ul,ul=(zGD p.body k).length:=⟨_,rfl⟩;have HUL:=oh hul;have hulk:ul<=k:=by rw[hul];exact zJX _ _
  rw[<- hul] at huv;have HU:=oh (zM4 p.body k);by_cases hlt:k<n
  .obtain⟨q,hq⟩:∃q,q=k / 8:=⟨_,rfl⟩;obtain⟨r,hr⟩:∃r,r=k % 8:=⟨_,rfl⟩;have t1:(k:Int) / 8=(q:Int):=by omega
   have t2:(k:Int).tdiv 8=(q:Int):=by rw[tZ (by omega)];exact t1
   have t3:(k:Int) % 8=(r:Int):=by omega
   have t4:(k:Int).tmod 8=(r:Int):=by rw[tG (by omega)];exact t3
   have hr8:r<8:=by omega
   have HBI:Hid (zGC p.body k=(decide (8+q<bl) && (p.body.getD (8+q) 0).toNat.testBit r)):=oh (by unfold zGC;rw[<- hq,<- hr,<- HBL.out]);by_cases hin:8+q<bl
   .have hinI:8+(q:Int)<(bl:Int):=by omega
    have i8:(0:Int)<=8+(q:Int):=by omega
    obtain⟨y,hy⟩:∃y,p.body[8+q]? = some y:=⟨_,uB (by rw[<- HBL.out];exact hin)⟩;have hyD:p.body.getD (8+q) 0=y:=by simp[List.getD,hy]
    obtain⟨qb,qoff,hqa,hc⟩:=(HB.out _ hM).elemF (k:=8+q) (by rw[<- HBL.out];exact hin);have d0:=hc.2 0 (.int .u8 (y.toNat:Int)) (by
     obtain⟨e1,e2⟩:=uC.1 hy;rw[e2];rfl)
    simp only[uP,u9] at d0;have hy8:=y.toNat_lt;have ha1:=zTH y.toNat r hy8;obtain⟨bz,hbz⟩:∃z,z=y.toNat / 2 ^ r % 2:=⟨_,rfl⟩;have hbz2:bz=0\/bz=1:=by omega
    rw[<- hbz] at ha1;have HBT:Hid (zGC p.body k=decide (bz=1)):=oh (by rw[HBI.out,hyD,zRY,<- hbz];simp[hin]);subst hqa;clear hc hyD hy hq hr hbz HBI;rcases hbz2 with rfl|rfl
    .go_wp2_with fail;go_roundg (gk-1)
     case measure=>omega
     case rel=>exact⟨k+1,uv,by omega,by go_num,oh (by rw[HU.out,if_neg (by rw[HBT.out];simp),wH];exact HW.out)⟩
    .subst huv;have HOW:=oh (hO.ext ((zA.refl _ wr).alloc (.cells #[.int .i64 (k:Int)] 3)));have HOL:=oh hO.lt;have hsz:Y+1<=wr.heap.size:=by omega
     have HSZ:=oh hsz;clear hO hul;go_wp2_with (first
      | (at_builtin;refine yH Tryz.elI5 jT rfl _ _ rfl (Y+1) (.slice ua ul uc) (.slice (some ⟨wr.heap.size,0,none⟩) 1 1) (zGD p.body k) [(k:Int)] rfl rfl HOW.out (Sl.one (F:=λ_=>False) (x:=(k:Int)) (t := 3) (fz:=(0,0)) (zO rfl) (λf=>f)) (by rw[<- HUL.out];simp only[uD,uF];omega) (uY HSZ.out (by simp)) (λf=>f) ?_;intro a' c' w4 hown4 hmod4 hat4;rw[<- HUL.out] at hown4 ⊢;simp only[uD,uF,uS] at hown4 ⊢;have HO4:=oh hown4;have HM4:=oh (zA.mono hmod4 (λj hj=>(HOL.out j hj).1));clear hown4 hmod4 hat4;have hY4:=(((HW.out.2.2.2.1).alloc (.cells #[.int .i64 (k:Int)] 3)).mods HM4.out (by omega));have y4:=hY4.cell (o:=2) (v:=.slice ua ul uc) rfl;have yf4:=hY4.frozen;have HY4:=oh hY4;clear hY4)
      | fail)
     go_roundg (gk-1)
     case measure=>omega
     case rel =>
      have HMS:zA (λj=>j=Y) w4 (w4.setCell ⟨Y,2,none⟩ (.slice a' (ul+1) c')):=zA.setCell (F:=λj=>j=Y) (zA.refl _ w4) (p:=⟨Y,2,none⟩) (.inr rfl) _;refine⟨k+1,.slice a' (ul+1) c',by omega,by go_num,oh ⟨?_,?_,?_,?_,?_⟩⟩
      .exact ((HW.out.1.alloc _).trans' HM4.out (λi hi h=>by have h':Y+1<=i:=h;have:=HXY.out;omega)).setCell (.inl (show w.heap.size<=Y by omega)) _
      .exact ((HW.out.2.1.alloc _).mods HM4.out (by omega)).set_other (by simp;omega) _
      .exact ((HW.out.2.2.1.alloc _).mods HM4.out (by omega)).set_other (by simp;omega) _
      .simpa using HY4.out.set 2 (.slice a' (ul+1) c')
      .rw[HU.out,if_pos (by rw[HBT.out];simp)];exact HO4.out.mods HMS (λj hj h=>by have:=(HO4.out.lt j hj).1;omega)
   .have hinI:¬ 8+(q:Int)<(bl:Int):=by omega
    have HBT:Hid (zGC p.body k=false):=oh (by rw[HBI.out];simp[hin]);clear hq hr HBI;go_wp2_with fail;go_roundg (gk-1)
    case measure=>omega
    case rel=>exact⟨k+1,uv,by omega,by go_num,oh (by rw[HU.out,if_neg (by rw[HBT.out];simp),wH];exact HW.out)⟩
  .obtain rfl:k=n:=by omega
   subst huv;have y0:=hY.cell (o:=0) rfl;have y1:=hY.cell (o:=1) rfl;have r0:=hR.cell (o:=0) rfl;have r1:=hR.cell (o:=1) rfl;have r2:=hR.cell (o:=2) rfl;have rf:=hR.frozen;clear hO hM hX x3 hul;go_wp2_with fail;have HRB:Hid (zK (((wr.setCell ⟨w.heap.size+1,0,none⟩ (.int .u64 (g:Int))).setCell ⟨w.heap.size+1,1,none⟩ (.int .i64 (k:Int))).setCell ⟨w.heap.size+1,2,none⟩ (.slice ua ul uc)) (w.heap.size+1) #[.int .u64 (g:Int),.int .i64 (k:Int),.slice ua ul uc] 170):=oh (by simpa using ((hR.set 0 (.int .u64 (g:Int))).set 1 (.int .i64 (k:Int))).set 2 (.slice ua ul uc));have hMR:zA (λj=>j=w.heap.size+1) wr (((wr.setCell ⟨w.heap.size+1,0,none⟩ (.int .u64 (g:Int))).setCell ⟨w.heap.size+1,1,none⟩ (.int .i64 (k:Int))).setCell ⟨w.heap.size+1,2,none⟩ (.slice ua ul uc)):=zA.setCell (F:=λj=>j=w.heap.size+1) (zA.setCell (F:=λj=>j=w.heap.size+1) (zA.setCell (F:=λj=>j=w.heap.size+1) (zA.refl _ wr) (p:=⟨w.heap.size+1,0,none⟩) (.inr rfl) _) (p:=⟨w.heap.size+1,1,none⟩) (.inr rfl) _) (p:=⟨w.heap.size+1,2,none⟩) (.inr rfl) _;have HMR:=oh hMR;refine bodyPost_ret (results_cell_row rfl _ _ (w.heap.size+1) 170 #[.int .u64 (g:Int),.int .i64 (k:Int),.slice ua ul uc] (0,0) _ rfl HRB.out Tryz.underlying170 rfl Tryz.mapSize) rfl ?_;have hO:=HW.out.2.2.2.2;refine⟨.slice ua ul uc,by rw[HMV.out],?_,by rw[HUI.out];have:=zJX p.body k;omega,HW.out.1.trans' HMR.out (λi hi h=>by omega)⟩;rw[HUI.out];exact (hO.mods HMR.out (λj hj h=>by have:=(hO.lt j hj).1;omega)).rebase (by omega)
end
section
open Go.RowKit
theorem zHH{P:Program}{w:World}{t u e:TypeId}(T:ElT P t e (.int .u8 0) 1 1)(hu:P.underlying u=some .string)
  {ops:Array Oper} {rest:List Oper} {o:Oper} {a:Act} {Q:Exit->Act->World->Prop} (hgd:o.guard=none) (sx x:Operand)
  (ho:o.op=.call { callee:=.builtin .append,args:=#[sx,x],argTypes:=#[t,u] })
  (base:Nat) (v:Value) (l:List UInt8) (s:ByteArray) (hv:a.eval sx=v) (hx:a.eval x=.string s) (hown:yA (λ_=>False) w base e 1 zT v l) (hb:l.length+s.size<=140737488355328) (hbase:base<=w.heap.size)
  (h:∀a' c' w',yA (λ_=>False) w' base e 1 zT (.slice a' (l.length+s.size) c') (l++s.data.toList)->w.grownBy w' v.ownBlock->wpList P ops Q rest (a.put o.dst (.slice a' (l.length+s.size) c')) w') :
  wpList P ops Q (o :: rest) a w:=by
 refine wpList_plain hgd λK hK=>?_
 obtain⟨i,hi,hz,hs1,hb1⟩:=zFJ T.info;obtain⟨v',w',hr,h2,h3,_⟩:=Go.Lib.run_append_own_string (P:=P) (w:=w) base t u o.type e i T.under hu hi hz hs1 hb1 v l.length _ hown.1 s (by simp only[maxLen];omega) hb hbase;have hO:yA (λ_=>False) w' base e 1 zT v' (l++s.data.toList):=⟨by
  rw[uA,qP,wT,<- zGB];exact h2,λ_ _ f=>f⟩
 obtain⟨a',c',hvv,_⟩:=hO.form;rw[uA,qP] at hvv;subst hvv;unfold Oper.wp execOp;simp only[ho,resolve,invoke,builtin,Sem.run_bind,Sem.run_pure,Result.andThen_ok,pJ,wZ,pV,hv,hx,hr];exact hK _ _ (h a' c' w' hO h3)
structure WrR(base:Nat)(w:World)(B:Nat)(l:List UInt8):Prop where
 box:∃a c,zK w B #[.slice a l.length c,.nilIface] 419 /\ yA (λ_=>False) w base 5 1 zT (.slice a l.length c) l
 ge:base<=B
def WFr(B:Nat)(w w':World):Prop:=∀(b:Nat) (c:Array Value) (t:TypeId),b≠B->t ≠ 5 -> zK w b c t->zK w' b c t
section
variable {F:Nat->Prop}{ad:Nat->Addr}{w w':World}{base B:Nat}{l:List UInt8}
theorem yA.notB{e t:TypeId}{α:Type}{F:Nat->Prop}{enc:α->List Value}{sz:Nat}{v:Value}{x:List α}{B:Nat}{c:Array Value}(h:yA F w base e sz enc v x)(hB:zK w B c t)(ht:t≠e):∀g,v.ownBlock=some g->g≠B:=by
 intro g hg he;subst he;rcases h.1.2 with ⟨rfl,_⟩|⟨g',cap,cur,rfl,hbg,hg',_⟩
 .simp[Value.ownBlock] at hg
 .simp[Value.ownBlock] at hg;subst hg;unfold zK at hB;rw[hg'] at hB;injection hB with hB;injection hB with h1 h2;exact ht h2.symm
theorem zLY(hL:yG F ad w)(hF:∀k,F k->k<base)(h:WrR base w B l)(n W:Nat)(hW:W=1\/W=2\/W=4)(hn:n<256 ^ W)(hlen:l.length<=100000) :
  Calls Tryz.prog 280 #[.pointer (some ⟨B,0,none⟩),.int .i64 (n:Int),.int .i64 (W:Int)] w λe w'=>e=.returned (.tuple #[])/\WrR base w' B (l++zU W n)/\zA (λk=>base<=k) w w'/\WFr B w w':=by
 obtain⟨⟨a,c,hB,hO⟩,hge⟩:=h;have hn2:n<4294967296:=by
  rcases hW with rfl|rfl|rfl <;> simp at hn <;> omega
 have b0:=hB.cell (o:=0) (v:=.slice a l.length c) rfl;have b1:=hB.cell (o:=1) (v:=.nilIface) rfl;have HSL:Hid (Sl F w 1 zT (.slice a l.length c) l):=oh (yA.sl (F:=F) ⟨hO.1,λg hg f=>by have:=hO.lt g hg;have:=hF g f;omega⟩ qN.len (by omega));have HB:=oh hB;have HL:=oh hL;have HN:=oh hn;have HW:=oh hW;have HBL:=oh hB.lt;clear hB hO hL hF hn hW
 go_enter Tryz.func280, Tryz.ntmps280
 go_wp2_with fail;refine (zAu HL.out _ l HSL.out n W (by have:=HW.out;omega) HN.out (uY hlen (by omega))).mono ?_;rintro e w1 ⟨a1,c1,rfl,hO1,hm1⟩;have hB1:=HB.out.ext hm1;have f0:=hB1.frozen 0;have f1:=hB1.frozen 1;have z0:=hB1.cell (o:=0) rfl;have z1:=hB1.cell (o:=1) rfl;have HB1:=oh hB1;have hsz:=hm1.size;have HM:Hid (zA (λk=>base<=k) w ((w1.setCell ⟨B,0,none⟩ (.slice a1 (l.length+W) c1)).setCell ⟨B,1,none⟩ .nilIface)):=oh ((hm1.ext.setCell (p:=⟨B,0,none⟩) (.inr hge) _).setCell (p:=⟨B,1,none⟩) (.inr hge) _);have HO1:Hid (yA (λ_=>False) ((w1.setCell ⟨B,0,none⟩ (.slice a1 (l.length+W) c1)).setCell ⟨B,1,none⟩ .nilIface) base 5 1 zT (.slice a1 (l.length+W) c1) (l++zU W n)):=oh (by
  have h1:yA (λ_=>False) w1 base 5 1 zT (.slice a1 (l.length+W) c1) (l++zU W n):=yA.rebase ⟨hO1.1,λ_ _ f=>f⟩ (by have:=HBL.out;omega);exact h1.mods (((zA.refl (λk=>k=B) w1).setCell (F:=λk=>k=B) (p:=⟨B,0,none⟩) (.inr rfl) _).setCell (F:=λk=>k=B) (p:=⟨B,1,none⟩) (.inr rfl) _) (λg hg=>yA.notB h1 hB1 (by decide) g hg))
 have HFR:Hid (WFr B w ((w1.setCell ⟨B,0,none⟩ (.slice a1 (l.length+W) c1)).setCell ⟨B,1,none⟩ .nilIface)):=oh (λb c t h1 _ h3=>((h3.ext hm1).set_other (p:=⟨B,0,none⟩) h1 _).set_other (p:=⟨B,1,none⟩) h1 _);clear hm1 hB1 hO1;go_wp2_with fail;go_end0
 exact⟨rfl,⟨⟨a1,c1,by rw[uA,zC];exact (HB1.out.set 0 _).set 1 _,by rw[uA,zC];exact HO1.out⟩,hge⟩,HM.out,HFR.out⟩
theorem zOy(hL:yG F ad w)(hF:∀k,F k->k<base)(h:WrR base w B l)(s:ByteArray)(hs:s.size<256)(hlen:l.length<=100000) :
  Calls Tryz.prog 281 #[.pointer (some ⟨B,0,none⟩),.string s] w λe w'=>e=.returned (.tuple #[])/\WrR base w' B (l++vK s)/\zA (λk=>base<=k) w w'/\WFr B w w':=by
 have HL:=oh hL;have HF:=oh hF;have HH:=oh h;have HW0:=oh h.box;clear hL hF h
 go_enter Tryz.func281, Tryz.ntmps281
 go_wp2_with fail;refine (zLY HL.out HF.out HH.out s.size 1 (.inl rfl) (by simpa using hs) hlen).mono ?_;rintro e w1 ⟨rfl,hR,hm,hfr⟩;have HFR:=oh hfr;clear hfr;obtain⟨⟨a,c,hB,hO⟩,hge⟩:=hR;have hbb:=hB.lt;have hll:(l++zU 1 s.size).length=l.length+1:=by rw[uA,zC]
 have HB:=oh hB;have HO:=oh hO;have HM:=oh hm;have HLL:=oh hll;generalize hq:l++zU 1 s.size=q at *
 have HQ:=oh hq;clear hB hO hm hll hq;have b0:=HB.out.cell (o:=0) (v:=.slice a q.length c) rfl;have f0:=HB.out.frozen 0;go_wp2_with (at_builtin;refine zHH Tryz.elB Tryz.underlying9 rfl _ _ rfl base _ q s rfl rfl HO.out (by rw[HLL.out];omega) (by omega) ?_;intro a2 c2 w2 hO2 hg2;have hgm:=zA.of_grown hg2;have hB2:zK w2 B #[.slice a q.length c,.nilIface] 419:=HB.out.mods hgm (λe=>yA.notB HO.out HB.out (by decide) B e rfl);have z0:=hB2.cell (o:=0) (v:=.slice a q.length c) rfl;have zf:=hB2.frozen 0);have HB2:=oh hB2;have HM2:Hid (zA (λk=>base<=k) w (w2.setCell ⟨B,0,none⟩ (.slice a2 (q.length+s.size) c2))):=oh (((HM.out.trans (hgm.mono (λk hk=>(HO.out.lt k hk).1)))).setCell (p:=⟨B,0,none⟩) (.inr hge) _);have HO2:Hid (yA (λ_=>False) (w2.setCell ⟨B,0,none⟩ (.slice a2 (q.length+s.size) c2)) base 5 1 zT (.slice a2 (q.length+s.size) c2) (q++s.data.toList)):=oh
  (hO2.mods ((zA.refl _ w2).setCell (F:=λk=>k=B) (p:=⟨B,0,none⟩) (.inr rfl) _) (λg hg=>yA.notB hO2 hB2 (by decide) g hg))
 have HFR2:Hid (WFr B w (w2.setCell ⟨B,0,none⟩ (.slice a2 (q.length+s.size) c2))):=oh (λb c t h1 h2 h3=>((HFR.out b c t h1 h2 h3).mods hgm (λe=>yA.notB HO.out (HFR.out b c t h1 h2 h3) h2 b e rfl)).set_other (p:=⟨B,0,none⟩) h1 _);clear hB2 hO2 hg2 hgm;go_end0
 have e1:l++vK s=q++s.data.toList:=by rw[<- HQ.out];unfold vK;rw[uJ]
 have e2:(q++s.data.toList).length=q.length+s.size:=by rw[uA,qP]
 exact⟨rfl,⟨⟨a2,c2,by rw[e1,e2];exact HB2.out.set 0 _,by rw[e1,e2];exact HO2.out⟩,hge⟩,HM2.out,HFR2.out⟩
end
theorem zGb:∀{l:List ByteArray},(l.Pairwise λa b=>yX a b=true)->jI l=true
 | [],_=>rfl
 | [_],_=>rfl
 | a :: b :: l,h=>by
  have h1:=wR.1 h;simp only[jI,uL];exact⟨h1.1 b uG,zGb h1.2⟩
def zDB(l:List zD):Prop:=∀x∈l,qS x.1=true/\x.2.size<=4096
theorem zCC(s:ByteArray):(vK s).length=1+s.size:=by
 unfold vK;rw[uA,zC,tO];rfl
theorem zM5{e:zQ}(h:vA e=true):(zAH e).length<=59:=by
 unfold vA at h;simp only[uL] at h;have hk:=(vW e.key).1 h.1;have h2:=h.2;unfold zAH;rw[uA,zCC];by_cases hc:e.chain=0
 .rw[if_pos hc] at h2 ⊢;simp only[uL,uQ] at h2;rw[uA,zC,zCC];omega
 .rw[if_neg hc];simp only[uA,zC];omega
theorem zH8{α:Type}(g:α->List UInt8)(M:Nat):∀(l:List α),(∀x∈l,(g x).length<=M)->(l.flatMap g).length<=M * l.length
 | [],_=>by simp
 | x :: l,h=>by
  have h1:=zH8 g M l (λy hy=>h y (uH _ hy));have h2:=h x uG;rw[u7,uA,uD,Nat.mul_succ];omega
theorem zM6{p:ByteArray × Int}(h:qS p.1=true):(zAv p).length<=37:=by
 have hk:=(vW p.1).1 h;unfold zAv;rw[uA,zCC,zC];omega
structure RdR(F:Nat->Prop)(w:World)(B:Nat)(bv:Value)(b:List UInt8)(r:RdA):Prop where
 own:zK w B #[bv,.int .i64 r.at_,.bool r.bad] 410
 sl:Sl F w 1 zT bv b
 mem:F B
section
variable {F:Nat->Prop}{ad:Nat->Addr}{w w':World}{B:Nat}{bv:Value}{b:List UInt8}{r:RdA}
theorem zHI(b:List UInt8)(p:Int)(W:Nat)(hW:W=1\/W=2\/W=4):(qO b p W).1<4294967296:=by
 unfold qO;split
 .simp
 .split
  .simp
  .have:=zE0 ((b.drop p.toNat).take W);have h2:((b.drop p.toNat).take W).length<=4:=uY (List.length_take_le _ _) (by omega);have h3:(256:Nat) ^ ((b.drop p.toNat).take W).length<=256 ^ 4:=tH (by omega) h2;simp only;omega
theorem RdR.turn(h:RdR F w B bv b r)(r':RdA)(m:zA (λk=>k=B) w w')(hB:zK w' B #[bv,.int .i64 r'.at_,.bool r'.bad] 410):RdR F w' B bv b r' :=
 ⟨hB,h.sl.mods (m.mono (λk e=>by subst e;exact h.mem)),h.mem⟩
theorem zOz(hL:yG F ad w)(h:RdR F w B bv b r)(W:Nat)(hW:W=1\/W=2\/W=4)(h0:0<=r.at_)(h1:r.at_<=1000000000000) :
  Calls Tryz.prog 273 #[.pointer (some ⟨B,0,none⟩),.int .i64 (W:Int)] w λe w'=>e=.returned (.int .i64 ((vI b r W).1:Nat))/\RdR F w' B bv b (vI b r W).2/\zA (λk=>k=B) w w':=by
 obtain⟨a,bd⟩:=r;simp only at h0 h1;have hsm:=zHI b a W hW;obtain⟨sa,cap,rfl,hz,_,_,_⟩:=_root_.id h.sl;obtain⟨n,hn⟩:∃n,n=(qO b a W).1:=⟨_,rfl⟩;rw[<- hn] at hsm;have HN:=oh hn;have HH:=oh h;have HLd:=oh (hL.mods (zA.refl _ w).drew);have HSd:=oh (h.sl.mods (zA.refl _ w).drew);have HW:=oh hW;have hW4:W<=4:=by omega
 have c0:=h.own.cell (o:=0) (v:=.slice sa b.length cap) rfl;have c1:=h.own.cell (o:=1) (v:=.int .i64 a) rfl;have c2:=h.own.cell (o:=2) (v:=.bool bd) rfl;clear h hL hW hn
 go_enter Tryz.func273, Tryz.ntmps273
 go_wp2_with fail;go_region_held3 (λw'=>w'.cell? ⟨B,0,none⟩=some (.slice sa b.length cap)/\w'.cell? ⟨B,1,none⟩=some (.int .i64 a))
  (first|(with_reducible exact⟨x0,x1⟩)|go_keep)
  (first
   | (go_at_call 118;refine (zDY HLd.out _ b HSd.out a W (by have:=HW.out;omega)).mono ?_;rintro e w1 ⟨ev,rfl,hE,hm⟩;rw[<- HN.out];have x0:=zE hm c0;have x1:=zE hm c1))
 have x2:=zE hm c2;have HB:=oh ((HH.out.own.drew).ext hm);have f1:=HB.out.frozen 1;have f2:=HB.out.frozen 2;have HM:=oh (hm.ofDrew);have HM2:Hid (∀x:Bool,zA (λk=>k=B) w ((w1.setCell ⟨B,2,none⟩ (.bool x)).setCell ⟨B,1,none⟩ (.int .i64 (a+W)))) :=
  oh λx=>HM.out.ext.trans ((zA.at (λk=>k=B) w1 B 2 _ rfl).trans (zA.at (λk=>k=B) _ B 1 _ rfl))
 clear c0 c1 c2 hm;cases hT:(qO b a W).2 with
 | none =>
  rw[hT] at hE;cases hE
  have HR:Hid (vI b ⟨a,bd⟩ W=(n,⟨a+W,bd⟩)):=oh (by unfold vI;simp only[hT,<- HN.out];simp);clear hT;cases bd
  all_goals
   go_wp2_with fail;go_ret;exact⟨by rw[HR.out];rfl,by rw[HR.out];exact HH.out.turn _ (HM2.out _) ((HB.out.set 2 _).set 1 _),HM2.out _⟩
 | some er =>
  rw[hT] at hE;obtain⟨el,ek⟩:=er;obtain⟨f,rfl,hE⟩:=hE;have HR:Hid (vI b ⟨a,bd⟩ W=(n,⟨a+W,true⟩)):=oh (by unfold vI;simp only[hT,<- HN.out];simp);clear hT hE;cases bd
  all_goals
   go_wp2_with fail;go_ret;exact⟨by rw[HR.out];rfl,by rw[HR.out];exact HH.out.turn _ (HM2.out _) ((HB.out.set 2 _).set 1 _),HM2.out _⟩
end
section
variable {P P' F F':Nat->Prop}{ad:Nat->Addr}{w w':World}{c s:Nat}
theorem zLZ(op:ByteArray)(gen:Nat) : Calls Tryz.prog 193 #[.string op,pgV c s gen] w λe w'=>e=.returned .nilIface/\zG w w':=by
 unfold pgV;have m0:zG w (w.alloc (gP c s gen)):=(zA.refl _ w).alloc _;have M0:=oh m0;clear m0
 go_enter Tryz.func193, Tryz.ntmps193
 go_wp2_with fail;go_ret;exact⟨rfl,M0.out⟩
end
theorem zSt{C:CaA}(hI:vP C){id:Nat}(hid:id<C.disk.blocks){p:yI}(h:C.vw id=.inl p):p.id=(id:Int)/\zKC p C.disk.size:=by
 unfold CaA.vw at h;split at h
 .rename_i s hs;injection h with h;subst h;have hm:=List.mem_of_find?_eq_some hs;have hh:=List.find?_some hs;obtain⟨i,hi,e⟩:=wG hm;have hi2:C.slots[i]? = some s:=by rw[<- e];exact uB hi
  have hf:s.full=true/\s.page.id=(id:Int):=by
   cases hfl:s.full with
   | false=>rw[zHd (.inl hfl)] at hh;cases hh
   | true =>
    by_cases e:s.page.id=(id:Int)
    .exact⟨rfl,e⟩
    .rw[zHd (.inr e)] at hh;cases hh
  exact⟨hf.2,(hI.page i s hi2 hf.1).2.2⟩
 .have hl:=hI.len id hid;unfold yV at h;split at h
  .cases h
  .rename_i h1;split at h
   .cases h
   .rename_i h2;injection h with h;subst h;simp only[ne_eq,Decidable.not_not] at h2;unfold zDV at h1;simp only[pU,uL,uQ] at h1;refine⟨h2,?_,zE1 _⟩;rw[<- hl];exact h1.1
section
variable {P F:Nat->Prop}{ad:Nat->Addr}{w:World}{c s:Nat}{G:GA}{l:List Nat}
theorem vH.page(h:vH F w P c s G l){id:Nat}(hid:id<G.blocks){p:yI}(hv:G.view id=some (.inl p)):p.id=(id:Int)/\zKC p G.size:=by
 obtain⟨d,sb,bvs,Pd,b2,C,h1,h2,h3,h4,h5,h6,h7⟩:=h;have:=zSt h2 (by rw[h3.blocks];exact hid) (h3.view id _ hv);rw[h3.size] at this;exact this
theorem vH.got(h:vH F w P c s G l){id:Int}{p:yI}(hv:G.get id=.inl p):p.id=id/\zKC p G.size/\p.body.length<=1000:=by
 unfold GA.get at hv;split at hv
 .cases hv
 .rename_i hc;unfold GA.check at hc;split at hc
  .cases hc
  .rename_i hr;split at hv
   .rename_i q hq;injection hv with hv;subst hv;obtain⟨k1,k2⟩:=h.page (id:=id.toNat) (by omega) hq;have:=(jE k2.1).2.2.2.2.2;have:=h.lim;exact⟨by omega,k2,by omega⟩
   .cases hv
   .cases hv
end
def jU(l:List Nat)(id:Int):Bool:=decide (0<=id) && decide (l[id.toNat]? = some 2)
theorem zO0(w:World)(b b2:Nat)(l:List Nat)(h:SpR w b b2 l)(id:Int) :
  Calls Tryz.prog 284 #[.pointer (some ⟨b,0,none⟩),.int .i64 id] w λe w'=>e=.returned (.bool (jU l id))/\w=w':=by
 have c0:=h.own.cell (o:=0) (v:=.slice (some ⟨b2,0,none⟩) l.length l.length) rfl;have hl:=h.len;have hl2:=h.len2;by_cases h0:0<=id
 .obtain⟨i,rfl⟩:∃i:Nat,id=i:=⟨id.toNat,by omega⟩;by_cases h1:i<l.length
  .obtain⟨x,hx⟩:∃x,l[i]? = some x:=⟨_,uB h1⟩;have c1:=h.row.cell (zDp l i x hx);have HR:Hid (jU l (i:Int)=decide (x=2)):=oh (by
    unfold jU;rw[uT (by omega),uM,hx];simp)
   have h2:(i:Int)<(l.length:Int):=by omega
   clear h hx h0 h1;by_cases hx2:x=2
   .subst hx2
    go_enter Tryz.func284, Tryz.ntmps284
    go_wp2
    go_ret;exact⟨by rw[HR.out];rfl,rfl⟩
   .rw[uX hx2] at HR;have hx3:¬ (x:Int)=2:=by omega
    clear hx2
    go_enter Tryz.func284, Tryz.ntmps284
    go_wp2
    go_ret;exact⟨by rw[HR.out];simp[hx3],rfl⟩
  .have HR:Hid (jU l (i:Int)=false):=oh (by
    unfold jU;rw[uM,List.getElem?_eq_none_iff.2 (by omega)];simp)
   have h2:¬ (i:Int)<(l.length:Int):=by omega
   clear h h0 h1
   go_enter Tryz.func284, Tryz.ntmps284
   go_wp2
   go_ret;exact⟨by rw[HR.out];rfl,rfl⟩
 .have HR:Hid (jU l id=false):=oh (by unfold jU;rw[uX h0];rfl);clear h
  go_enter Tryz.func284, Tryz.ntmps284
  go_wp2
  go_ret;exact⟨by rw[HR.out];rfl,rfl⟩
section
variable {P F:Nat->Prop}{w:World}{c s:Nat}{G:GA}{l:List Nat}
theorem zRa(h:vH F w P c s G l)(id:Int) : Calls Tryz.prog 284 #[.pointer (some ⟨s,0,none⟩),.int .i64 id] w λe w'=>e=.returned (.bool (jU l id))/\w=w':=by
 obtain⟨d,sb,bvs,Pd,b2,C,h1,h2,h3,h4,h5,h6,h7⟩:=h;exact zO0 w s b2 l h5 id
end
abbrev e0:ByteArray:=⟨#[]⟩
def zGE(acc:List zD)(x:zD):List zD:=if qS x.1=true/\x.2.size<=4096 then qF x.1 x.2 false acc else acc
def zAK(l:List zD):List zD:=l.foldl zGE []
theorem zLa(l:List zD)(x:zD):zAK (l++[x])=zGE (zAK l) x:=by
 unfold zAK;rw[pD];rfl
theorem zJY(key value:ByteArray)(over:Bool):∀l:List zD,(qF key value over l).length<=l.length+1
 | []=>by simp[qF]
 | x :: l=>by
  have:=zJY key value over l;unfold qF;split
  .simp only[uD];omega
  .split
   .split <;> simp
   .simp
theorem zRb{acc:List zD}{x:zD}(h1:yK acc)(h2:zDB acc):yK (zGE acc x)/\zDB (zGE acc x)/\(zGE acc x).length<=acc.length+1:=by
 unfold zGE;split
 .rename_i hc;refine⟨zCi h1,λy hy=>?_,zJY _ _ _ _⟩;rcases zE3 hy with rfl|hy
  .exact hc
  .exact h2 y hy
 .exact⟨h1,h2,by omega⟩
theorem zLb:∀(l acc:List zD),yK acc->zDB acc->yK (l.foldl zGE acc)/\zDB (l.foldl zGE acc)/\(l.foldl zGE acc).length<=acc.length+l.length
 | [],acc,h1,h2=>⟨h1,h2,by simp⟩
 | x :: l,acc,h1,h2=>by
  obtain⟨k1,k2,k3⟩:=zRb (x:=x) h1 h2;obtain⟨j1,j2,j3⟩:=zLb l (zGE acc x) k1 k2;exact⟨j1,j2,by simp only[uD] at j3 ⊢;rw[nO];omega⟩
theorem zGc(l:List zD):yK (zAK l)/\zDB (zAK l)/\(zAK l).length<=l.length:=by
 obtain⟨h1,h2,h3⟩:=zLb l [] List.Pairwise.nil (λx h=>by simp at h);exact⟨h1,h2,by simpa[zAK] using h3⟩
def zO1(n:Nat)(v:ByteArray):ByteArray:=v.extract 0 (min v.size n)
theorem zJZ(n:Nat)(v:ByteArray):(zO1 n v).size=min v.size n:=by unfold zO1;rw[ByteArray.size_extract];omega
def zFk(n:Nat)(l:List zD):List zD:=l.map λx=>(x.1,zO1 n x.2)
theorem zRc{n:Nat}{l:List zD}(h1:yK l)(h2:zDB l):yK (zFk n l)/\zDB (zFk n l)/\(zFk n l).length=l.length/\∀x∈zFk n l,x.2.size<=n:=by
 refine⟨?_,λx hx=>?_,by simp[zFk],λx hx=>?_⟩
 .unfold yK zFk;rw[tP];exact h1
 .obtain⟨y,hy,rfl⟩:=rY.1 hx;have:=h2 y hy;exact⟨this.1,by simp only;rw[zJZ];omega⟩
 .obtain⟨y,hy,rfl⟩:=rY.1 hx;simp only;rw[zJZ];omega
end
section
open Go.RowKit
def zFl(n k:Nat)(l:List zD):List zD:=zFk n (l.take k)++l.drop k
theorem zO2(n:Nat)(l:List zD):zFl n 0 l=l:=by simp[zFl,zFk]
theorem zQZ(n:Nat)(l:List zD):zFl n l.length l=zFk n l:=by simp[zFl]
theorem zLc(n k:Nat)(l:List zD):(zFl n k l).length=l.length:=by
 unfold zFl zFk;rw[uA,wU,uR,wK];omega
theorem zN3{n k:Nat}{l:List zD}{x:zD}(hx:l[k]? = some x):(zFl n k l)[k]? = some x:=by
 have hk:=(uC.1 hx).1;unfold zFl zFk;rw[wI (by rw[wU,uR];omega),wU,uR,tV];rw[show k+(k-min k l.length)=k by omega];exact hx
theorem zQa{n k:Nat}{l:List zD}{x:zD}(hx:l[k]? = some x):(zFl n k l).set k (x.1,zO1 n x.2)=zFl n (k+1) l:=by
 have hk:=(uC.1 hx).1;unfold zFl;have hl:(zFk n (l.take k)).length=k:=by unfold zFk;rw[wU,uR];omega
 rw[List.set_append_right _ _ (by rw[hl];exact uK _),hl,Nat.sub_self,zE4 hx,pR,vX l k x hx];unfold zFk;rw[List.map_append];simp
def qE(s:ByteArray):List UInt8:=zU 2 s.size++s.data.toList
structure zBj where
 kind:Nat
 gen:Nat
 base:Nat
 records:Nat
 deriving DecidableEq
def zBX:List UInt8:=[83,67,82,49]
def qW(h:zBj):List UInt8:=zBX++zU 1 h.kind++zU 8 h.gen++zU 8 h.base++zU 4 h.records
def zB3(b:List UInt8):List UInt8:=b++zU 4 (yC b)
def zAp(x:zD):List UInt8:=qE x.1++qE x.2
def zAj(gen:Nat)(l:List zD):List UInt8:=zB3 (qW ⟨1,gen,0,l.length⟩ ++ l.flatMap zAp)
def yN(c:ChV):List UInt8 :=
 if c.was=false then zU 1 1++qE c.key++qE c.new
 else if c.is=false then zU 1 3++qE c.key++zU 4 (yC c.old.data.toList)
 else zU 1 2++qE c.key++qE c.new++zU 4 (yC c.old.data.toList)
def zBu(gen:Nat)(was is:List zD)(base:Nat):List UInt8:=zB3 (qW ⟨2,gen,base,(yF was is).length⟩ ++ (yF was is).flatMap yN)
def vY(l:List UInt8)(p:Nat):Option (ByteArray × Nat) :=
 if p+2<=l.length/\p+2+zZ l p 2<=l.length then some (⟨((l.drop (p+2)).take (zZ l p 2)).toArray⟩,p+2+zZ l p 2) else none
def jP(l:List UInt8):Nat->Nat->List zD->Option (List zD × Nat)
 | 0,p,acc=>some (acc,p)
 | n+1,p,acc=>match vY l p with
  | none=>none
  | some (k,p1)=>match vY l p1 with
   | none=>none
   | some (v,p2)=>jP l n p2 (acc++[(k,v)])
def zCd(b:List UInt8):zBj:=⟨zZ b 4 1,zZ b 5 8,zZ b 13 8,zZ b 21 4⟩
def zA0(b:List UInt8):zBj ⊕ Nat :=
 if b.length<29\/b.take 4≠zBX then .inr 1
 else if ¬ ((zCd b).kind=1/\(zCd b).base=0\/(zCd b).kind=2) then .inr 1
 else if zZ b (b.length-4) 4≠yC (b.take (b.length-4)) then .inr 5 else .inl (zCd b)
def vS:ByteArray->List zD->Bool
 | _,[]=>true
 | last,x :: l=>qS x.1 && yX last x.1 && decide (x.2.size<=4096) && vS x.1 l
def zBY(b:List UInt8):(zBj × List zD) ⊕ Nat:=match zA0 b with
 | .inr c=>.inr c
 | .inl h=>if h.kind≠1 then .inr 1 else match jP (b.take (b.length-4)) h.records 25 [] with
  | none=>.inr 1
  | some (l,p)=>if p=b.length-4/\vS ⟨#[]⟩ l=true then .inl (h,l) else .inr 1
theorem vN(h:zBj):(qW h).length=25:=by simp[qW,zBX,zC]
theorem yL(s:ByteArray):(qE s).length=2+s.size:=by simp[qE,zC]
theorem zCD{A B:List UInt8}{s:ByteArray}(hs:s.size<65536):vY (A++(qE s++B)) A.length=some (s,A.length+2+s.size):=by
 have hn:zZ (A++(qE s++B)) A.length 2=s.size:=by
  have e:A++(qE s++B)=A++(zU 2 s.size++(s.data.toList++B)):=by simp only[qE,uJ]
  rw[e];exact yU A _ 2 s.size A.length rfl hs
 have hl:(A++(qE s++B)).length=A.length+(2+s.size+B.length):=by rw[uA,uA,yL]
 unfold vY;rw[hn,if_pos ⟨by omega,by omega⟩];have hd:((A++(qE s++B)).drop (A.length+2)).take s.size=s.data.toList:=by
  have e:A++(qE s++B)=(A++zU 2 s.size)++(s.data.toList++B):=by simp only[qE,uJ]
  rw[e,pQ (by rw[uA,zC])];exact tR (by rw[tO];rfl)
 rw[hd]
theorem zEh:∀(l:List zD) (A B:List UInt8) (acc:List zD),(∀x∈l,x.1.size<65536/\x.2.size<65536)->jP (A++(l.flatMap zAp++B)) l.length A.length acc=some (acc++l,A.length+(l.flatMap zAp).length)
 | [],A,B,acc,_=>by simp[jP]
 | x :: l,A,B,acc,h=>by
  obtain⟨h1,h2⟩:=h x uG;have e1:A++((x :: l).flatMap zAp++B)=A++(qE x.1++(qE x.2++(l.flatMap zAp++B))):=by simp only[u7,zAp,uJ]
  have e2:A++(qE x.1++(qE x.2++(l.flatMap zAp++B)))=(A++qE x.1)++(qE x.2++(l.flatMap zAp++B)):=by simp only[uJ]
  have e3:(A++qE x.1)++(qE x.2++(l.flatMap zAp++B))=(A++qE x.1++qE x.2)++(l.flatMap zAp++B):=by simp only[uJ]
  have l1:A.length+2+x.1.size=(A++qE x.1).length:=by rw[uA,yL];omega
  have l2:(A++qE x.1).length+2+x.2.size=(A++qE x.1++qE x.2).length:=by rw[uA (bs:=qE x.2),yL];omega
  rw[e1,uD,jP,zCD h1];simp only;rw[l1,e2,zCD h2];simp only;rw[l2,e3,zEh l _ B _ (λy hy=>h y (uH _ hy))];simp only[u7,zAp,uA,uJ,rJ];rw[rF A.length,rF (qE x.1).length]
theorem zQb(h:zBj)(R:List UInt8)(h1:h.kind<256)(h2:h.gen<18446744073709551616)(h3:h.base<18446744073709551616)(h4:h.records<4294967296):zCd (qW h++R)=h:=by
 have n0:zZ (qW h++R) 4 1=h.kind:=by
  have e:qW h++R=zBX++(zU 1 h.kind++(zU 8 h.gen++zU 8 h.base++zU 4 h.records++R)):=by simp only[qW,uJ]
  rw[e];exact yU _ _ 1 h.kind 4 rfl h1
 have n1:zZ (qW h++R) 5 8=h.gen:=by
  have e:qW h++R=(zBX++zU 1 h.kind)++(zU 8 h.gen++(zU 8 h.base++zU 4 h.records++R)):=by simp only[qW,uJ]
  rw[e];exact yU _ _ 8 h.gen 5 (by rw[uA,zC];rfl) h2
 have n2:zZ (qW h++R) 13 8=h.base:=by
  have e:qW h++R=(zBX++zU 1 h.kind++zU 8 h.gen)++(zU 8 h.base++(zU 4 h.records++R)):=by simp only[qW,uJ]
  rw[e];exact yU _ _ 8 h.base 13 (by rw[uA,uA,zC,zC];rfl) h3
 have n3:zZ (qW h++R) 21 4=h.records:=by
  have e:qW h++R=(zBX++zU 1 h.kind++zU 8 h.gen++zU 8 h.base)++(zU 4 h.records++R):=by simp only[qW,uJ]
  rw[e];exact yU _ _ 4 h.records 21 (by rw[uA,uA,uA,zC,zC,zC];rfl) h4
 unfold zCd;rw[n0,n1,n2,n3]
theorem zAq(b:List UInt8):(zB3 b).length=b.length+4:=by simp[zB3,zC]
theorem zGd(b:List UInt8):(zB3 b).take ((zB3 b).length-4)=b:=by
 rw[zAq,tM];exact tR rfl
theorem zQc(b:List UInt8):zZ (zB3 b) ((zB3 b).length-4) 4=yC b:=by
 rw[zAq,tM];have e:zB3 b=b++(zU 4 (yC b)++[]):=by rw[wH];rfl
 rw[e];exact yU b [] 4 (yC b) b.length rfl (zA4 b)
theorem zH9(h:zBj)(R:List UInt8)(h1:h.kind=1/\h.base=0\/h.kind=2)(h2:h.gen<18446744073709551616)(h3:h.base<18446744073709551616)(h4:h.records<4294967296):zA0 (zB3 (qW h++R))=.inl h:=by
 have hk:h.kind<256:=by rcases h1 with h|h <;> omega
 have hp:zCd (zB3 (qW h++R))=h:=by
  unfold zB3;rw[uJ];exact zQb h _ hk h2 h3 h4
 have hl:=vN h;have ht:(zB3 (qW h++R)).take 4=zBX:=by
  have e:zB3 (qW h++R)=zBX++(zU 1 h.kind++zU 8 h.gen++zU 8 h.base++zU 4 h.records++R++zU 4 (yC (qW h++R))):=by simp only[zB3,qW,uJ]
  rw[e];exact tR rfl
 unfold zA0;rw[if_neg (by rw[zAq,uA,ht];intro hc;rcases hc with hc|hc;omega;exact hc rfl),hp,if_neg (λhc=>hc h1),if_neg (by rw[zQc,zGd];exact λhc=>hc rfl)]
theorem zIA{gen:Nat}{l:List zD}(hg:gen<18446744073709551616)(hl:l.length<4294967296)(hr:vS ⟨#[]⟩ l=true)(hk:∀x∈l,x.1.size<65536/\x.2.size<65536):zBY (zAj gen l)=.inl (⟨1,gen,0,l.length⟩,l):=by
 unfold zBY zAj;rw[zH9 _ _ (.inl ⟨rfl,rfl⟩) hg (by show 0<18446744073709551616;omega) hl];simp only;rw[if_neg (λh=>h rfl),zGd];have hrd:=zEh l (qW ⟨1,gen,0,l.length⟩) [] [] hk;rw[wH,vN,wL] at hrd;rw[hrd];simp only;rw[if_pos ⟨by rw[zAq,uA,vN];omega,hr⟩]
end
end Go.Proofs.YtdnbmdghmmpgcaaGreatDoor
