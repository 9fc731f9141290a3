import Derived.Test.YteabpacpngaoaaaGreatDoorC29
namespace Go.Proofs.YteabpacpngaoaaaGreatDoor
open Lib renaming hid->oh
set_option maxHeartbeats 4000000
set_option maxRecDepth 100000
open Go.RowKit
attribute [local go_sem ↓] Go.wp_at_zero Go.wp_at_succ
theorem yC.alloc'{α:Type}{F:Nat->Prop}{w:World}{base:Nat}{e:TypeId}{sz:Nat}{enc:α->List Value}{v:Value}{l:List α}(h:yC F w base e sz enc v l)(o:Obj):yC F (w.alloc o) base e sz enc v l:=h.ext ((zA.refl _ w).alloc o)
theorem zRa{F:Nat->Prop}{w:World}{b off U c:Nat}{l:List Int}(h:Sl F w 1 yK (.slice (some ⟨b,off,none⟩) U c) l)(h6:6<=U)(hU:U=l.length):Sl F w 1 yK (.slice (some ⟨b,off+6,none⟩) (U-6) (c-6)) (l.drop 6):=by
 have:=h.sub 6 U (by omega) (Nat.le_refl _);rw[List.take_of_length_le (by rw[List.length_drop,hU];omega),Nat.mul_one] at this;exact this
theorem zQq{F:Nat->Prop}{w:World}{a:Option Addr}{U:Nat}{l:List Int}(hU:U=l.length)(h:U=6):Sl F w 1 yK (.slice a (U-6) 0) (l.drop 6):=by
 have e:l.drop 6=[]:=List.drop_of_length_le (by omega);rw[e,h];exact⟨a,0,rfl,Nat.le_refl _,by simp[maxLen],by simp,.inl rfl⟩
section
variable {P P' F F':Nat->Prop}{ad:Nat->Addr}{w w':World}{d:Nat}{D:zI}
theorem zOZ(hL:yG F ad w)(h:jT w P d D)(ho:D.off=false)(s:yM)(m:vF)(hm:zAa m=true)(hg:m.gen<18446744073709551616)(hmg:m.gen=s.gen)(hmb:m.blocks=s.blocks)(hb8:8<=D.blocks)(hz1:256<=D.size)(hz2:D.size<=1024)
  (hl0:D.look (place m.gen 0)=yF m (place m.gen 0) D.size) (hl1:D.look (place m.gen 1)=yF m (place m.gen 1) D.size)
  (S:Nat) (_hPS:¬ P S) (hFS:F S) (cv sv:Value) (home root keys:Int) (dead:Bool) (hB:zH w S (stC d cv sv s home root keys (.slice none 0 0) dead) 123) :
  Calls Tryz.prog 76 #[.pointer (some ⟨S,0,none⟩)] w λe w'=>∃uv a c,e=.returned (.tuple #[uv,.nilIface])/\Sl F w' 1 yK uv ((yA m).drop 6)/\zH w' S (stC d cv sv s home root keys (.slice a 0 c) dead) 123 /\ zA (λj=>j=S) w w':=by
 have hp0:place m.gen 0<D.blocks:=by unfold place;omega
 have hp1:place m.gen 1<D.blocks:=by unfold place;omega
 have hlt0:(yF m (place m.gen 0) D.size).length=D.size:=vG hm _ hz1;have hlt1:(yF m (place m.gen 1) D.size).length=D.size:=vG hm _ hz1;have h6:6<=(yA m).length:=by have:=(jC m).1 hm;unfold yA;rw[List.length_map];omega
 have HL:Hid (∀w',zA F w w'->yG F ad w'):=oh (λw' k=>hL.mods k);have HFS:=oh hFS;have HBT:Hid (∀W,zF w W -> Calls Tryz.prog 118 #[.pointer (some ⟨d,0,none⟩),.agg #[.int .i64 (place m.gen 0:Int),.int .i64 (place m.gen 1:Int)]] W λe w'=>∃v0 v1,e=.returned (.tuple #[.agg #[v0,v1],.nilIface])/\zAM W.heap.size D.size w' v0 (D.look (place m.gen 0))/\zAM W.heap.size D.size w' v1 (D.look (place m.gen 1))/\zF W w'):=oh (λW k=>zNS (hL.mods k.ext) (h.at k) ho _ _ hp0 hp1);have HROW:Hid (∀{B:Nat} {W:World} {v:Value} {l:List UInt8},w.heap.size<=B->l.length=D.size->zAM B D.size W v l->Sl F W 1 zZ v l):=oh (λhB hlen ⟨g,h1,h2,h3⟩=>by rw[h1];exact zDW h3 hlen (λf=>by have:=hL.lt _ f;omega) (by omega));have HCH:Hid (∀B W,zA F w W->w.heap.size<=B->∀av bv,zAM B D.size W av (D.look (place m.gen 0))->zAM B D.size W bv (D.look (place m.gen 1)) -> Calls Tryz.prog 113 #[av,bv,.int .u64 (m.gen:Int),.int .i64 (m.blocks:Int)] W λe w'=>∃uv,e=.returned (.tuple #[zB5 m uv,.slice none 0 0,.nilIface])/\yC (λ_=>False) w' W.heap.size 3 1 yK uv (yA m)/\(yA m).length<=256/\zF W w'):=oh (λB W k hB av bv ha hb=>zJ5 (HL.out W k) m hm hg D.size hz1 hz2 av bv (by have:=HROW.out hB (by rw[hl0];exact hlt0) ha;rw[hl0] at this;exact this) (by have:=HROW.out hB (by rw[hl1];exact hlt1) hb;rw[hl1] at this;exact this));have HPL:=oh (λw'=>zBX m.gen hg w');have HMV:Hid (∀v,zB5 m v=.agg #[.int .u64 (m.gen:Int),.int .i64 (m.blocks:Int),v]):=oh (λ_=>rfl);have HPV:Hid (zBh m.gen=.agg #[.int .i64 (place m.gen 0:Int),.int .i64 (place m.gen 1:Int)]):=oh rfl;replace hB:zH w S (stC d cv sv ⟨m.gen,m.blocks,s.size,s.root,s.keys⟩ home root keys (.slice none 0 0) dead) 123:=by rw[hmg,hmb];exact hB
 obtain⟨g,hgg⟩:∃g,g=m.gen:=⟨_,rfl⟩;obtain⟨DB,hb2⟩:∃b,b=m.blocks:=⟨_,rfl⟩;obtain⟨DZ,hDZ⟩:∃b,b=D.size:=⟨_,rfl⟩;obtain⟨q0,hq0⟩:∃q,q=place m.gen 0:=⟨_,rfl⟩;obtain⟨q1,hq1⟩:∃q,q=place m.gen 1:=⟨_,rfl⟩;rw[<- hq0,<- hq1] at HBT HCH HPV;rw[<- hDZ] at HBT HCH;rw[<- hgg] at HCH HPL HMV HPV hB;rw[<- hb2] at HCH HMV hB;have HSG:Hid (s.gen=g/\s.blocks=DB):=oh ⟨by rw[hgg,hmg],by rw[hb2,hmb]⟩;have H6:=oh h6;have hS:=hB.lt;have s3:=hB.cell (o:=3) (v:=.int .u64 (g:Int)) rfl;have HB:=oh hB;clear hgg hb2 hDZ hq0 hq1 hmg hmb hL h ho hm hg hb8 hz1 hz2 hl0 hl1 _hPS hFS hB hp0 hp1 hlt0 hlt1 h6 HROW
 go_enter Tryz.func76, Tryz.ntmps76
 go_wp2_with fail;refine (HPL.out _).mono ?_;rintro e w1 ⟨rfl,m1⟩;rw[HPV.out];have HM1:=oh m1;have HB1:=oh (HB.out.ext m1);have hz1:S<w1.heap.size:=HB1.out.lt;clear m1 s3;go_wp2_with fail;obtain⟨w2,hw2⟩:∃W,W=w1.alloc (.cells #[.int .i64 (q0:Int),.int .i64 (q1:Int)] 161):=⟨_,rfl⟩;have m2:zF w1 w2:=by rw[hw2];exact (zA.refl _ w1).alloc _
 have hY2:zH w2 w1.heap.size #[.int .i64 (q0:Int),.int .i64 (q1:Int)] 161:=by rw[hw2];exact zH.new w1 _ _
 obtain⟨Y,hY⟩:∃Y,Y=w1.heap.size:=⟨_,rfl⟩;rw[<- hY] at hY2 hz1;rw[<- hw2,<- hY];have HM2:=oh (HM1.out.trans m2);have HB2:=oh (HB1.out.ext m2);have HY2:=oh hY2;clear m2 hY2 hw2 hY HM1 HB1;have HBT:=oh (λW (k:zF w2 W)=>HBT.out W (HM2.out.trans k));have HSX2:=oh (λW (k:zF w2 W)=>(⟨(HB2.out.ext k).cell rfl,(HY2.out.ext k).cell rfl,(HY2.out.ext k).cell rfl⟩:W.cell? ⟨S,0,none⟩=some (.pointer (some ⟨d,0,none⟩))/\W.cell? ⟨Y,0,none⟩=some (.int .i64 (q0:Int))/\W.cell? ⟨Y,1,none⟩=some (.int .i64 (q1:Int))));have zd:=HSX2.out _ (zA.refl _ w2).drew;have za:=HSX2.out _ ((zA.refl _ w2).alloc (.cells #[.slice none 0 0,.slice none 0 0] 208)).drew;have n1:S≠w2.heap.size:=λe=>by have:=HB2.out.lt;omega
 have n2:Y≠w2.heap.size:=λe=>by have:=HY2.out.lt;omega
 go_region_held3 (λw'=>w'.cell? ⟨S,0,none⟩=some (.pointer (some ⟨d,0,none⟩))/\w'.cell? ⟨Y,0,none⟩=some (.int .i64 (q0:Int))/\w'.cell? ⟨Y,1,none⟩=some (.int .i64 (q1:Int)))
  (first|(with_reducible exact zd)|(with_reducible exact z5)|(with_reducible exact z7)|(with_reducible exact z6)|(with_reducible exact za)|fail)
  (first
   | (go_at_call 118;((with_reducible refine (HBT.out _ (zA.refl _ w2).drew).mono ?_);rintro e w6 ⟨v0,v1,rfl,hv0,hv1,m6⟩;obtain⟨a0,rfl,ha0,hr0⟩:=hv0;obtain⟨a1,rfl,ha1,hr1⟩:=hv1;simp only[zAL];have x6:=(zA.refl _ w2).drew.trans m6;have z5:=HSX2.out _ x6;have z7:=HSX2.out _ (x6.alloc (.cells #[.slice none 0 0,.slice none 0 0] 208));have hB:zH (w6.alloc (.cells #[.slice none 0 0,.slice none 0 0] 208)) w6.heap.size #[.slice none 0 0,.slice none 0 0] 208:=zH.new w6 _ _;have b0:=hB.cell (o:=0) (v:=.slice none 0 0) rfl;have b1:=hB.cell (o:=1) (v:=.slice none 0 0) rfl;have bf:=hB.frozen;have z6:=HSX2.out _ (x6.alloc (.cells #[.slice (some ⟨a0,0,none⟩) DZ DZ,.slice (some ⟨a1,0,none⟩) DZ DZ] 208));have HP3:∃X3 w3,X3=w6.heap.size/\w3=w6.alloc (.cells #[.slice (some ⟨a0,0,none⟩) DZ DZ,.slice (some ⟨a1,0,none⟩) DZ DZ] 208)/\zH w3 X3 #[.slice (some ⟨a0,0,none⟩) DZ DZ,.slice (some ⟨a1,0,none⟩) DZ DZ] 208 /\ zF w2 w3/\w2.heap.size<=X3/\zAM w2.heap.size DZ w3 (zAL DZ a0) (D.look q0)/\zAM w2.heap.size DZ w3 (zAL DZ a1) (D.look q1):=⟨_,_,rfl,rfl,zH.new w6 _ _,x6.alloc _,x6.size,⟨a0,rfl,ha0,hr0.alloc _⟩,⟨a1,rfl,ha1,hr1.alloc _⟩⟩))
   | (go_at_call 118;((with_reducible refine (HBT.out _ ((zA.refl _ w2).alloc (.cells #[.slice none 0 0,.slice none 0 0] 208)).drew).mono ?_);rintro e w6 ⟨v0,v1,rfl,hv0,hv1,m6⟩;obtain⟨a0,rfl,ha0,hr0⟩:=hv0;obtain⟨a1,rfl,ha1,hr1⟩:=hv1;simp only[zAL];have x6:=((zA.refl _ w2).alloc (.cells #[.slice none 0 0,.slice none 0 0] 208)).drew.trans m6;have z5:=HSX2.out _ x6;have z7:=z5;have hB:zH w6 w2.heap.size #[.slice none 0 0,.slice none 0 0] 208:=zH.ext (w:=(w2.alloc (.cells #[.slice none 0 0,.slice none 0 0] 208)).drew) (zH.new w2 _ _) m6;have b0:=hB.cell (o:=0) (v:=.slice none 0 0) rfl;have b1:=hB.cell (o:=1) (v:=.slice none 0 0) rfl;have bf:=hB.frozen;have ms:zA (λj=>j=w2.heap.size) w6 ((w6.setCell ⟨w2.heap.size,0,none⟩ (.slice (some ⟨a0,0,none⟩) DZ DZ)).setCell ⟨w2.heap.size,1,none⟩ (.slice (some ⟨a1,0,none⟩) DZ DZ)):=(zA.setCell (F:=λj=>j=w2.heap.size) (zA.setCell (F:=λj=>j=w2.heap.size) (zA.refl _ w6) (p:=⟨w2.heap.size,0,none⟩) (.inr rfl) (.slice (some ⟨a0,0,none⟩) DZ DZ)) (p:=⟨w2.heap.size,1,none⟩) (.inr rfl) (.slice (some ⟨a1,0,none⟩) DZ DZ));have x8:zF w2 ((w6.setCell ⟨w2.heap.size,0,none⟩ (.slice (some ⟨a0,0,none⟩) DZ DZ)).setCell ⟨w2.heap.size,1,none⟩ (.slice (some ⟨a1,0,none⟩) DZ DZ)):=x6.trans' ms (λi hi h=>by have h':i=w2.heap.size:=h;omega);have z6:=HSX2.out _ x8;have HP3:∃X3 w3,X3=w2.heap.size/\w3=((w6.setCell ⟨w2.heap.size,0,none⟩ (.slice (some ⟨a0,0,none⟩) DZ DZ)).setCell ⟨w2.heap.size,1,none⟩ (.slice (some ⟨a1,0,none⟩) DZ DZ))/\zH w3 X3 #[.slice (some ⟨a0,0,none⟩) DZ DZ,.slice (some ⟨a1,0,none⟩) DZ DZ] 208 /\ zF w2 w3/\w2.heap.size<=X3/\zAM w2.heap.size DZ w3 (zAL DZ a0) (D.look q0)/\zAM w2.heap.size DZ w3 (zAL DZ a1) (D.look q1):=⟨_,_,rfl,rfl,(by simpa using ((hB.set 0 (.slice (some ⟨a0,0,none⟩) DZ DZ)).set 1 (.slice (some ⟨a1,0,none⟩) DZ DZ))),x8,Nat.le_refl _,⟨a0,rfl,by have h:(w2.alloc _).heap.size<a0:=ha0;simp at h;omega,hr0.mods ms (by have h:(w2.alloc _).heap.size<a0:=ha0;simp at h;omega)⟩,⟨a1,rfl,by have h:(w2.alloc _).heap.size<a1:=ha1;simp at h;omega,hr1.mods ms (by have h:(w2.alloc _).heap.size<a1:=ha1;simp at h;omega)⟩⟩))
   | fail)
 all_goals
  obtain⟨X3,w3,hX3,hw3,hC,hM3,hlo,hv0,hv1⟩:=HP3;rw[<- hw3,<- hX3];have HB3:=oh (HB2.out.ext hM3);have HM3:=oh (HM2.out.trans hM3);have HV0:=oh hv0;have HV1:=oh hv1;have HC:=oh hC;have HLO:=oh HM2.out.size;clear hw3 hX3 hC hM3 hv0 hv1 zd za z5 z7 z6 x6 m6 hB b0 b1 bf n1 n2 ha0 hr0 ha1 hr1;try clear ms x8
  obtain⟨w4,hw4⟩:∃w4,w4=w3:=⟨_,rfl⟩;rw[<- hw4] at HB3 HM3 HV0 HV1 HC ⊢;clear hw4;have HCH2:=oh (λW (k:zF w4 W)=>HCH.out _ W (HM3.out.trans k).ext HLO.out _ _ (zAM.mods HV0.out k (λ_ _ _ f=>f)) (zAM.mods HV1.out k (λ_ _ _ f=>f)));simp only[zAL] at HCH2;have HSX5:=oh (λW (k:zF w4 W)=>(⟨(HC.out.ext k).cell rfl,(HC.out.ext k).cell rfl,(HB3.out.ext k).cell rfl,(HB3.out.ext k).cell rfl⟩:W.cell? ⟨X3,0,none⟩=some (.slice (some ⟨a0,0,none⟩) DZ DZ)/\W.cell? ⟨X3,1,none⟩=some (.slice (some ⟨a1,0,none⟩) DZ DZ)/\W.cell? ⟨S,3,none⟩=some (.int .u64 (g:Int))/\W.cell? ⟨S,4,none⟩=some (.int .i64 (DB:Int))));have zd:=HSX5.out _ (zA.refl _ w4).drew;have za:=HSX5.out _ ((zA.refl _ w4).alloc (.cells #[.int .u64 0,.int .i64 0,.slice none 0 0] 106)).drew;have n1:S≠w4.heap.size:=λe=>by have:=HB3.out.lt;omega
  have n2:X3≠w4.heap.size:=λe=>by have:=HC.out.lt;omega
  go_wp2_with fail;go_region_held3 (λw'=>w'.cell? ⟨X3,0,none⟩=some (.slice (some ⟨a0,0,none⟩) DZ DZ)/\w'.cell? ⟨X3,1,none⟩=some (.slice (some ⟨a1,0,none⟩) DZ DZ)/\w'.cell? ⟨S,3,none⟩=some (.int .u64 (g:Int))/\w'.cell? ⟨S,4,none⟩=some (.int .i64 (DB:Int)))
   (first|(with_reducible exact zd)|(with_reducible exact z5)|(with_reducible exact z7)|(with_reducible exact z6)|(with_reducible exact za)|fail)
   (first
    | (go_at_call 113;((with_reducible refine (HCH2.out _ (zA.refl _ w4).drew).mono ?_);rintro e w6 ⟨uv,rfl,ho,h256,m6⟩;rw[HMV.out];obtain⟨ua,uc,rfl, -, -⟩:=_root_.id ho.form;obtain⟨U,hU⟩:∃U,U=(yA m).length:=⟨_,rfl⟩;rw[<- hU] at ho h256 ⊢;have HUU:=oh hU;clear hU;have x6:=(zA.refl _ w4).drew.trans m6;have z5:=HSX5.out _ x6;have z7:=HSX5.out _ (x6.alloc (.cells #[.int .u64 0,.int .i64 0,.slice none 0 0] 106));have hB:zH (w6.alloc (.cells #[.int .u64 0,.int .i64 0,.slice none 0 0] 106)) w6.heap.size #[.int .u64 0,.int .i64 0,.slice none 0 0] 106:=zH.new w6 _ _;have b0:=hB.cell (o:=0) (v:=.int .u64 0) rfl;have b1:=hB.cell (o:=1) (v:=.int .i64 0) rfl;have b2:=hB.cell (o:=2) (v:=.slice none 0 0) rfl;have bf:=hB.frozen;have z6:=HSX5.out _ (x6.alloc (.cells #[.int .u64 (g:Int),.int .i64 (DB:Int),.slice ua U uc] 106));have HP3:∃X3 w3,X3=w6.heap.size/\w3=w6.alloc (.cells #[.int .u64 (g:Int),.int .i64 (DB:Int),.slice ua U uc] 106)/\zH w3 X3 #[.int .u64 (g:Int),.int .i64 (DB:Int),.slice ua U uc] 106 /\ zF w4 w3/\w4.heap.size<=X3/\U=(yA m).length/\U<=256/\yC (λ_=>False) w3 w4.heap.size 3 1 yK (.slice ua U uc) (yA m)/\(Value.slice ua U uc).ownBlock≠some X3:=⟨_,_,rfl,rfl,zH.new w6 _ _,x6.alloc _,x6.size,HUU.out,h256,(ho.alloc' _),(λe=>by have:=(ho.lt _ e).2;omega)⟩))
    | (go_at_call 113;((with_reducible refine (HCH2.out _ ((zA.refl _ w4).alloc (.cells #[.int .u64 0,.int .i64 0,.slice none 0 0] 106)).drew).mono ?_);rintro e w6 ⟨uv,rfl,ho,h256,m6⟩;rw[HMV.out];obtain⟨ua,uc,rfl, -, -⟩:=_root_.id ho.form;obtain⟨U,hU⟩:∃U,U=(yA m).length:=⟨_,rfl⟩;rw[<- hU] at ho h256 ⊢;have HUU:=oh hU;clear hU;have x6:=((zA.refl _ w4).alloc (.cells #[.int .u64 0,.int .i64 0,.slice none 0 0] 106)).drew.trans m6;have z5:=HSX5.out _ x6;have z7:=z5;have hB:zH w6 w4.heap.size #[.int .u64 0,.int .i64 0,.slice none 0 0] 106:=zH.ext (w:=(w4.alloc (.cells #[.int .u64 0,.int .i64 0,.slice none 0 0] 106)).drew) (zH.new w4 _ _) m6;have b0:=hB.cell (o:=0) (v:=.int .u64 0) rfl;have b1:=hB.cell (o:=1) (v:=.int .i64 0) rfl;have b2:=hB.cell (o:=2) (v:=.slice none 0 0) rfl;have bf:=hB.frozen;have ms:zA (λj=>j=w4.heap.size) w6 (((w6.setCell ⟨w4.heap.size,0,none⟩ (.int .u64 (g:Int))).setCell ⟨w4.heap.size,1,none⟩ (.int .i64 (DB:Int))).setCell ⟨w4.heap.size,2,none⟩ (.slice ua U uc)):=(zA.setCell (F:=λj=>j=w4.heap.size) (zA.setCell (F:=λj=>j=w4.heap.size) (zA.setCell (F:=λj=>j=w4.heap.size) (zA.refl _ w6) (p:=⟨w4.heap.size,0,none⟩) (.inr rfl) (.int .u64 (g:Int))) (p:=⟨w4.heap.size,1,none⟩) (.inr rfl) (.int .i64 (DB:Int))) (p:=⟨w4.heap.size,2,none⟩) (.inr rfl) (.slice ua U uc));have x8:zF w4 (((w6.setCell ⟨w4.heap.size,0,none⟩ (.int .u64 (g:Int))).setCell ⟨w4.heap.size,1,none⟩ (.int .i64 (DB:Int))).setCell ⟨w4.heap.size,2,none⟩ (.slice ua U uc)):=x6.trans' ms (λi hi h=>by have h':i=w4.heap.size:=h;omega);have z6:=HSX5.out _ x8;have HP3:∃X3 w3,X3=w4.heap.size/\w3=(((w6.setCell ⟨w4.heap.size,0,none⟩ (.int .u64 (g:Int))).setCell ⟨w4.heap.size,1,none⟩ (.int .i64 (DB:Int))).setCell ⟨w4.heap.size,2,none⟩ (.slice ua U uc))/\zH w3 X3 #[.int .u64 (g:Int),.int .i64 (DB:Int),.slice ua U uc] 106 /\ zF w4 w3/\w4.heap.size<=X3/\U=(yA m).length/\U<=256/\yC (λ_=>False) w3 w4.heap.size 3 1 yK (.slice ua U uc) (yA m)/\(Value.slice ua U uc).ownBlock≠some X3:=⟨_,_,rfl,rfl,(by simpa using (((hB.set 0 (.int .u64 (g:Int))).set 1 (.int .i64 (DB:Int))).set 2 (.slice ua U uc))),x8,Nat.le_refl _,HUU.out,h256,(ho.mods ms (λj hj h=>by have h0:=(ho.lt j hj).1;simp at h0;have h':j=w4.heap.size:=h;omega)).rebase (by simp),(λe=>by have h0:=(ho.lt _ e).1;simp at h0;omega)⟩))
    | fail)
 all_goals
  obtain⟨X5,w5,hX5,hw5,hC,hM5,hlo,hU,h256,ho,hne⟩:=HP3;rw[<- hw5,<- hX5];have HB5:=oh (HB3.out.ext hM5);have HM5:=oh (HM3.out.trans hM5);have HO5:=oh ho;have HC5:=oh hC;have HU:=oh hU;have H256:=oh h256;have hS4:S<w4.heap.size:=HB3.out.lt;have HS4:=oh hS4;have HSX:Hid (S<X5):=oh (by omega);have s11:=HB5.out.cell (o:=11) (v:=.slice none 0 0) rfl;have sf:=HB5.out.frozen;have x2:=hC.cell (o:=2) rfl;have h6U:6<=U:=by have:=H6.out;omega
  have hsl:=(ho.blocks (G:=λ_=>False) (λ_ _ f=>f)).sl (λ_=>rfl) (by omega);obtain⟨_,_,he,hcap1,hcap2, -,hss⟩:=hsl;injection he with he1 he2 he3;subst he1;subst he3;obtain⟨ub,uoff,rfl, -⟩:∃ub uoff,ua=some ⟨ub,uoff,none⟩/\True:=by
   rcases hss with h|⟨b,off,h,_⟩
   .exfalso;rw[h] at hU;simp at hU;omega
   .exact⟨b,off,h,trivial⟩
  unfold maxLen at hcap2;rw[<- hU] at hcap1;clear HUU;clear hw5 hX5 hC hM5 ho hne h256 zd za z5 z7 z6 x6 m6 hB b0 b1 b2 bf n1 n2 hss HCH2 HSX5 hU he2 hlo;try clear ms x8
  have i6:(6:Int)<=(U:Int):=by omega
  have iU:(U:Int)<=(uc:Int):=by omega
  go_wp2_with (first
   | (at_builtin;refine yU Tryz.elI5 vW rfl _ _ rfl 0 (.slice none 0 0) (.slice none 0 0) ([]:List Int) [] rfl rfl (yC.nil (λ_=>False) _ 0 _ _ _) (Sl.nil (λ_=>False) _ _ _) (by simp) (Nat.zero_le _) (λf=>f) ?_;intro a' c' w6 hown6 hmod6 hat6;have xw6:zF w5 w6:=hmod6.mono (λj h=>by cases h);have HX6:=oh xw6;have s11:=(HB5.out.ext xw6).cell (o:=11) (v:=.slice none 0 0) rfl;have sf:=(HB5.out.ext xw6).frozen;have x2:=(HC5.out.ext xw6).cell (o:=2) rfl;have hSX6:X5≠S:=(λe=>by have:=HSX.out;omega);clear hown6 hmod6 hat6 xw6)
   | fail)
 all_goals
  have hMS:zA (λj=>j=S) w6 (w6.setCell ⟨S,11,none⟩ (.slice a' 0 c')):=zA.setCell (F:=λj=>j=S) (zA.refl _ w6) (p:=⟨S,11,none⟩) (.inr rfl) _;have hOW:=((HO5.out.ext HX6.out).mods hMS (λj hj h=>by have h0:=(HO5.out.lt j hj).1;have h':j=S:=h;have:=HS4.out;omega));have hF:=(hOW.blocks (G:=F) (λj hj f=>by have h0:=(HO5.out.lt j hj).1;have:=(HL.out _ (zA.refl _ _)).lt j f;have:=HM3.out.size;omega)).sl (λ_=>rfl) (by have:=H256.out;rw[<- HU.out];omega);have hBW:zH (w6.setCell ⟨S,11,none⟩ (.slice a' 0 c')) S (stC d cv sv s home root keys (.slice a' 0 c') dead) 123:=by
   have:=(HB5.out.ext HX6.out).set 11 (.slice a' 0 c');obtain⟨g1,g2⟩:=HSG.out;obtain⟨sg,sb,sz,sr,sk⟩:=s;simp only at g1 g2;subst g1;subst g2;simpa[stC] using this
  have hMW:zA (λj=>j=S) w (w6.setCell ⟨S,11,none⟩ (.slice a' 0 c')):=(HM5.out.trans HX6.out).ext.trans hMS;have HF:=oh hF;have HBW:=oh hBW;have HMW:=oh hMW;clear hMS hOW hF hBW hMW;go_ret2
  refine⟨_,rfl,?_,⟨a',c',HBW.out⟩,HMW.out⟩;first
   | exact zRa HF.out h6U HU.out
   | exact zQq HU.out (by omega)
end
theorem zPs(v:Value)(w:World) : Calls Tryz.prog 180 #[v,.int .i64 0,.int .i64 0] w λe w'=>e=.returned (.tuple #[])/\w=w':=by
 go_enter Tryz.func180, Tryz.ntmps180
 go_wp2_with fail;go_loopg [6] 0 (λm v6 wr=>wr=w/\v6=.int .i64 1/\m=0)
 case atStart=>exact⟨rfl,rfl,rfl⟩
 case round =>
  obtain⟨rfl,rfl,rfl⟩:=hrel;go_wp2_with fail;go_end0
  exact⟨rfl,rfl⟩
theorem zSL(v n:Value)(w:World) : Calls Tryz.prog 112 #[v,.int .i64 0,.int .i64 0,n] w λe w'=>e=.returned (.tuple #[])/\w=w':=by
 have HI:=oh (zPs v)
 go_enter Tryz.func112, Tryz.ntmps112
 go_wp2_with fail;go_loopg [1,2] 0 (λm v1 v2 wr=>wr=w/\v1=.int .i64 0/\v2=.int .i64 0/\m=0)
 case atStart=>exact⟨rfl,rfl,rfl,rfl⟩
 case round =>
  obtain⟨rfl,rfl,rfl,rfl⟩:=hrel;go_wp2_with fail;refine (HI.out _).mono ?_;rintro e w1 ⟨rfl,rfl⟩;go_wp2_with fail;refine bodyPost_ret (v:=.tuple #[]) (by simp[results,Tryz.results112,go_sem]) rfl ?_;exact⟨rfl,rfl⟩
theorem zQr(w:World) : Calls Tryz.prog 160 #[.int .u64 0] w λe w'=>(∃v,e=.returned v)/\w=w':=by
 go_enter Tryz.func160, Tryz.ntmps160
 go_wp2_with fail;go_ret;exact⟨⟨_,rfl⟩,rfl⟩
theorem zR4(w:World) : Calls Tryz.prog 100 #[.int .u64 0] w λe w'=>(∃v,e=.returned v)/\w=w':=by
 have HL:=oh zQr
 go_enter Tryz.func100, Tryz.ntmps100
 go_wp2_with fail;refine (HL.out _).mono ?_;rintro e w1 ⟨⟨v,rfl⟩,rfl⟩;go_wp2_with fail;go_ret;exact⟨⟨_,rfl⟩,rfl⟩
theorem zRJ(a:Option Addr)(c:Nat)(w:World) : Calls Tryz.prog 66 #[.slice a 0 c] w λe w'=>e=.returned (.tuple #[])/\w=w':=by
 have HL:=oh zR4;have HQ:=oh (zSL (.slice a 0 c))
 go_enter Tryz.func66, Tryz.ntmps66
 go_wp2_with fail;refine (HL.out _).mono ?_;rintro e w1 ⟨⟨v,rfl⟩,rfl⟩;go_wp2_with fail;refine (HQ.out v _).mono ?_;rintro e w1 ⟨rfl,rfl⟩;go_wp2_with fail;go_end0
 exact⟨rfl,rfl⟩
theorem zLJ{n:Nat}(h:8<=n):zPS n=zAz n [0,1]:=by
 refine List.ext_getElem? (λj=>?_);unfold zPS;rw[List.getElem?_set,List.getElem?_set];by_cases hj:j<n
 .rw[zAl _ hj];by_cases h1:1=j
  .subst h1;simp;omega
  .rw[if_neg h1];by_cases h0:0=j
   .subst h0;simp;omega
   .rw[if_neg h0,List.getElem?_replicate,if_pos hj,if_neg (by simp;omega)]
 .have e:(zAz n [0,1])[j]? = none:=List.getElem?_eq_none (by rw[zBY];omega);rw[e,if_neg (by omega),if_neg (by omega)];exact List.getElem?_eq_none (by simp;omega)
def vN(m:vF):List Nat:=[2,3,4,5]++m.used.drop 6
theorem zE7{m:vF}(hm:zAa m=true):[0,1]++vN m=m.used:=by
 obtain⟨_,_,_,h,_,_⟩:=(jC m).1 hm;have:=List.take_append_drop 6 m.used;rw[h] at this;rw[vN,<- this];simp
theorem zLK{m:vF}(hm:zAa m=true){k x:Nat}(hx:(vN m)[k]? = some x):2<=x/\x<m.blocks/\x ∉ [0,1]++(vN m).take k:=by
 obtain⟨_,_,_,_,h5,h6⟩:=(jC m).1 hm;have hu:=zE7 hm;have hx2:m.used[k+2]? = some x:=by
  rw[<- hu,List.getElem?_append_right (by simp)];simpa using hx
 obtain⟨hl,he⟩:=List.getElem?_eq_some_iff.1 hx2;have hlt:∀y∈[0,1]++(vN m).take k,y<x:=λy hy=>by
  have e:[0,1]++(vN m).take k=m.used.take (k+2):=by
   rw[<- hu,List.take_append];simp
  rw[e] at hy;obtain⟨j,hj,rfl⟩:=List.getElem_of_mem hy;rw[List.getElem_take,<- he];rw[List.length_take] at hj;exact (List.pairwise_iff_getElem.1 h5) j (k+2) (by omega) hl (by omega)
 refine⟨?_,h6 x (List.mem_of_getElem? hx2),λh=>Nat.lt_irrefl _ (hlt x h)⟩;have:=hlt 1 (by simp);omega
theorem zFm(m:vF):(vN m).map (λ(i:Nat)=>(i:Int))=([2,3,4,5]:List Int)++(yA m).drop 6:=by
 unfold vN yA;rw[List.map_append,List.map_drop];rfl
section
variable {P P' F F':Nat->Prop}{ad:Nat->Addr}{w w':World}{d:Nat}{D:zI}
def StR[zW](F:Nat->Prop)(w:World)(P:Nat->Prop)(S d c sp:Nat)(s:yM)(home root keys:Int)(G:GA)(l:List Nat):Prop :=
 jU F w P c sp G l/\(∃a cc,zH w S (stC d (.pointer (some ⟨c,0,none⟩)) (.pointer (some ⟨sp,0,none⟩)) s home root keys (.slice a 0 cc) false) 123)/\¬ P S/\F S
def StO(F:Nat->Prop)(w:World)(P:Nat->Prop)(S d c sp:Nat)(s:yM)(home root keys:Int)(C:qJ)(l:List Nat):Prop :=
 ∃sb bvs Pd b2,CaR F w d c sb bvs Pd C/\SpR w sp b2 l/\(∀k,P k ↔ (caF c sb Pd k\/spF sp b2 k))/\(∀k,caF c sb Pd k->¬ spF sp b2 k)/\(∃a cc,zH w S (stC d (.pointer (some ⟨c,0,none⟩)) (.pointer (some ⟨sp,0,none⟩)) s home root keys (.slice a 0 cc) false) 123)/\¬ P S/\F S
theorem StO.st[zW]{S c sp:Nat}{s:yM}{home root keys:Int}{C:qJ}{G:GA}{l:List Nat}(h:StO F w P S d c sp s home root keys C l)(hi:yI C)(hr:qW C G)(hc:G.cost<=1000000)(hlo:zGB d l):StR F w P S d c sp s home root keys G l:=by
 obtain⟨sb,bvs,Pd,b2,h1,h2,h3,h4,h5,h6,h7⟩:=h;exact⟨⟨d,sb,bvs,Pd,b2,C,h1,hi,hr,hc,h2,h3,h4,hlo⟩,h5,h6,h7⟩
def zMg(F P:Nat->Prop)(ad:Nat->Addr)(w:World)(d:Nat)(D:zI)(s:yM)(m:vF)(q:Nat)(e:Ending)(w':World):Prop :=
 ∃S c sp P' F',e=.returned (.tuple #[.pointer (some ⟨S,0,none⟩),.nilIface])/\StO F' w' P' S d c sp s 0 s.root s.keys ⟨D,List.replicate q qM,0⟩ (zAz D.blocks m.used)/\zY P P' F F' ad w w'
abbrev stZ(d:Nat):Array Value:=#[.pointer (some ⟨d,0,none⟩),.pointer none,.pointer none,.int .u64 0,.int .i64 0,.int .i64 0,.int .i64 0,.int .i64 0,.int .i64 0,.int .i64 0,.int .i64 0,.slice none 0 0,.bool false]
theorem zOa(hL:yG F ad w)(hP:∀k,P k->F k)(h:jT w P d D)(hD:zC7 D)(s:yM)(m:vF)(hW:zGd D s m)(q:Nat)(h3:3<=q)(h64:q<=64) :
  Calls Tryz.prog 34 #[.pointer (some ⟨d,0,none⟩),.int .i64 (q:Int)] w (zMg F P ad w d D s m q):=by
 have HCK:=oh (λop=>zE6 h hD.off op q h3 h64);have HWD:=oh hW;have HDR:=oh hD;have HQ:=oh (And.intro h3 h64);obtain⟨W0,hW0⟩:∃W0,W0=w.alloc (.cells (stZ d) 123):=⟨_,rfl⟩;have hM0:zF w W0:=by rw[hW0];exact (zA.refl _ w).alloc _
 have hB0:zH W0 w.heap.size (stZ d) 123:=by rw[hW0];exact zH.new w _ _
 obtain⟨S,hS⟩:∃S,S=w.heap.size:=⟨_,rfl⟩;have hE0:yG (qE F w.heap.size) ad W0:=hL.withR hM0 (by rw[hW0];simp);rw[<- hS] at hB0 hE0;have hPS:¬ P S:=λf=>by have:=hL.lt _ (hP _ f);omega
 have HNW:=oh (zPd hE0 (λk hk=>.inl (hP k hk)) (h.at hM0) q h3 h64);have HM0:=oh hM0;have HB0:=oh hB0;have HPS:=oh hPS;have HSW:Hid (S=w.heap.size):=oh hS;have HLP:=oh (And.intro hL hP);clear hL hP h hD hW h3 h64 hM0 hB0 hE0 hPS
 go_enter Tryz.func34, Tryz.ntmps34
 go_wp2_with fail;refine (HCK.out _).mono ?_;rintro e w0 ⟨rfl,rfl⟩;go_wp2_with fail;rw[<- hS];have e0:w.alloc (.cells #[.pointer (some ⟨d,0,none⟩),.pointer none,.pointer none,.int .u64 0,.int .i64 0,.int .i64 0,.int .i64 0,.int .i64 0,.int .i64 0,.int .i64 0,.int .i64 0,.slice none 0 0,.bool false] 123)=W0:=hW0.symm;rw[e0];clear hS e0 hW0;refine HNW.out.mono ?_;rintro e w1 ⟨c,sb,bvs,F1,rfl,hC,n1⟩;have hCS:¬ caF c sb P S:=n1.not HB0.out.lt HPS.out;have hB1:=n1.blk HB0.out HPS.out;have s1:=hB1.cell (o:=1) (v:=.pointer none) rfl;have sf:=hB1.frozen;have HC1:=oh hC;have HN1:=oh n1;have HB1:=oh hB1;have HCS:=oh hCS;have HFS:Hid (F1 S):=oh (n1.grow S (.inr rfl));clear hC n1 hB1 hCS;go_upto_if 31 with fail
 obtain⟨W2,hW2⟩:∃W,W=w1.setCell ⟨S,1,none⟩ (.pointer (some ⟨c,0,none⟩)):=⟨_,rfl⟩;have m2:zA (λj=>j=S) w1 W2:=by rw[hW2];exact zA.setCell (F:=λj=>j=S) (zA.refl _ w1) (p:=⟨S,1,none⟩) (.inr rfl) _
 have hB2:zH W2 S (stC d (.pointer (some ⟨c,0,none⟩)) (.pointer none) ⟨0,0,0,0,0⟩ 0 0 0 (.slice none 0 0) false) 123:=by rw[hW2];simpa[stC,stZ] using HB1.out.set 1 (.pointer (some ⟨c,0,none⟩))
 rw[<- hW2];have mF:zA F1 w1 W2:=m2.mono (λj hj=>by have h':j=S:=hj;rw[h'];exact HFS.out);have HC2:=oh (HC1.out.plus (F':=F1) m2 (λj hj h=>by have h':j=S:=h;rw[h'] at hj;exact HCS.out hj) (λj hj=>by have h':j=S:=hj;rw[h'];exact HFS.out) (λ_ _ h=>h));have HE2:=oh (HN1.out.env.mods mF);have HB2:=oh hB2;have HX2:Hid (zA (λj=>caF c sb P j\/j=S) W0 W2/\W0.heap.size<=W2.heap.size):=oh ⟨(HN1.out.stp.mods.mono (λj hj=>.inl (.inl hj))).trans (m2.mono (λj hj=>.inr hj)),Nat.le_trans HN1.out.stp.mods.size m2.size⟩;clear m2 hB2 hW2 mF s1 sf HB1 HC1;have HG2:=oh (HC2.out.disk.geo);have gf:=Tryz.geoField0;go_wp2_with fail;refine HG2.out.mono ?_;rintro e wg ⟨rfl,mg⟩;have HMG:=oh mg;have HBG:=oh (HB2.out.ext mg);have HPS2:Hid (¬ P S):=HPS;clear mg;go_wp2_with fail;refine (zNz D.blocks HDR.out.b8 HDR.out.b256).mono ?_;rintro e w3 ⟨sp,b2,rfl,hSP,hsp1,hsp2,m3⟩;have hB3:=HBG.out.ext m3;have s2:=hB3.cell (o:=2) (v:=.pointer none) rfl;have sf:=hB3.frozen;have HB3:=oh hB3;have hsS:∀k,spF sp b2 k->k≠S:=λk hk e=>by
  have hb:=HBG.out.lt;rcases hk with rfl|rfl <;> omega
 have HSS:=oh hsS;have HSP3:=oh hSP;have HMG3:=oh (HMG.out.trans m3);have hcsp:∀k,caF c sb P k->¬ spF sp b2 k:=λk hk hs=>by
  have h1:k<W2.heap.size:=HC2.out.bdP k hk;have h2:=HMG.out.size;rcases hs with rfl|rfl <;> omega
 have HCSP:=oh hcsp;have hlo:∀k,spF sp b2 k->W2.heap.size<=k:=λk hk=>by
  have h2:=HMG.out.size;rcases hk with rfl|rfl <;> omega
 have HLO:=oh hlo;clear hB3 hSP hsp1 hsp2 m3 hsS hcsp hlo gf HG2;go_upto_if 43 with fail
 obtain⟨W4,hW4⟩:∃W,W=w3.setCell ⟨S,2,none⟩ (.pointer (some ⟨sp,0,none⟩)):=⟨_,rfl⟩;have m4:zA (λj=>j=S) w3 W4:=by rw[hW4];exact zA.setCell (F:=λj=>j=S) (zA.refl _ w3) (p:=⟨S,2,none⟩) (.inr rfl) _
 have hB4:zH W4 S (stC d (.pointer (some ⟨c,0,none⟩)) (.pointer (some ⟨sp,0,none⟩)) ⟨0,0,0,0,0⟩ 0 0 0 (.slice none 0 0) false) 123:=by rw[hW4];simpa[stC] using HB3.out.set 2 (.pointer (some ⟨sp,0,none⟩))
 rw[<- hW4];have m24:zA (λj=>j=S) W2 W4:=HMG3.out.ext.trans m4;have mF:zA F1 W2 W4:=m24.mono (λj hj=>by have h':j=S:=hj;rw[h'];exact HFS.out);have HC4:=oh (HC2.out.plus (F':=F1) m24 (λj hj h=>by have h':j=S:=h;rw[h'] at hj;exact HCS.out hj) (λj hj=>by have h':j=S:=hj;rw[h'];exact HFS.out) (λ_ _ h=>h));have HE4:=oh (HE2.out.mods mF);have HB4:=oh hB4;have HSP4:=oh (HSP3.out.mods m4 (λh=>HSS.out sp (.inl rfl) h) (λh=>HSS.out b2 (.inr rfl) h));have HX4:Hid (zA (λj=>caF c sb P j\/j=S) W0 W4/\W0.heap.size<=W2.heap.size/\W2.heap.size<=W4.heap.size/\zA (λj=>j=S) W2 W4):=oh ⟨HX2.out.1.trans (m24.mono (λj hj=>.inr hj)),HX2.out.2,m24.size,m24⟩;clear m4 hB4 hW4 mF m24 s2 sf HB3 HSP3 HB2 HBG HMG HMG3;have HCHO:=oh (zLI HE4.out (P:=P) HC4.out.disk HDR.out.off s HWD.out.open0 HWD.out.open1 HWD.out.blk HWD.out.siz (by have:=HDR.out;exact this.len 0 (by have:=this.b8;omega)) (by have:=HDR.out;exact this.len 1 (by have:=this.b8;omega)) S HPS.out HFS.out _ _ _ _ _ _ _ _ HB4.out);go_wp2_with fail;refine HCHO.out.mono ?_;rintro e w5 ⟨rfl,hB5,m5⟩;have mF:zA F1 W4 w5:=m5.mono (λj hj=>by have h':j=S:=hj;rw[h'];exact HFS.out);have HC5:=oh (HC4.out.plus (F':=F1) m5 (λj hj h=>by have h':j=S:=h;rw[h'] at hj;exact HCS.out hj) (λj hj=>by have h':j=S:=hj;rw[h'];exact HFS.out) (λ_ _ h=>h));have HE5:=oh (HE4.out.mods mF);have HB5:=oh hB5;have HSP5:=oh (HSP4.out.mods m5 (λh=>HSS.out sp (.inl rfl) h) (λh=>HSS.out b2 (.inr rfl) h));have HX5:Hid (zA (λj=>caF c sb P j\/j=S) W0 w5/\W0.heap.size<=W2.heap.size/\W2.heap.size<=w5.heap.size/\zA (λj=>j=S) W2 w5):=oh ⟨HX4.out.1.trans (m5.mono (λj hj=>.inr hj)),HX4.out.2.1,Nat.le_trans HX4.out.2.2.1 m5.size,HX4.out.2.2.2.trans m5⟩;clear m5 hB5 mF HC4 HE4 HB4 HSP4 HX4 HCHO;have HUS:=oh (zOZ HE5.out (P:=P) HC5.out.disk HDR.out.off s m HWD.out.mok (by have:=HWD.out.mgen;have:=HWD.out.gen;omega) HWD.out.mgen HWD.out.mblk HDR.out.b8 HDR.out.s256 HDR.out.s1024 (by rw[HWD.out.mgen];exact HWD.out.map0) (by rw[HWD.out.mgen];exact HWD.out.map1) S HPS.out HFS.out _ _ _ _ _ _ HB5.out);go_wp2_with fail;refine HUS.out.mono ?_;rintro e w6 ⟨uv,a,cc,rfl,hU,hB6,m6⟩;have mF:zA F1 w5 w6:=m6.mono (λj hj=>by have h':j=S:=hj;rw[h'];exact HFS.out);have HC6:=oh (HC5.out.plus (F':=F1) m6 (λj hj h=>by have h':j=S:=h;rw[h'] at hj;exact HCS.out hj) (λj hj=>by have h':j=S:=hj;rw[h'];exact HFS.out) (λ_ _ h=>h));have HE6:=oh (HE5.out.mods mF);have HB6:=oh hB6;have HSP6:=oh (HSP5.out.mods m6 (λh=>HSS.out sp (.inl rfl) h) (λh=>HSS.out b2 (.inr rfl) h));have HX6:Hid (zA (λj=>caF c sb P j\/j=S) W0 w6/\W0.heap.size<=W2.heap.size/\W2.heap.size<=w6.heap.size/\zA (λj=>j=S) W2 w6):=oh ⟨HX5.out.1.trans (m6.mono (λj hj=>.inr hj)),HX5.out.2.1,Nat.le_trans HX5.out.2.2.1 m6.size,HX5.out.2.2.2.trans m6⟩;have HU:=oh hU;obtain⟨ua,uc,rfl, -⟩:=_root_.id hU;obtain⟨N,hN⟩:∃N,N=((yA m).drop 6).length:=⟨_,rfl⟩;have hN256:N<=256:=by
  have h1:=(jC m).1 HWD.out.mok;have h2:=zDd m.used 0 m.blocks h1.2.2.2.2.1 (λn hn=>⟨Nat.zero_le _,h1.2.2.2.2.2 n hn⟩) (Nat.zero_le _);rw[hN,List.length_drop];unfold yA;rw[List.length_map];omega
 rw[<- hN] at HU ⊢;have HN:=oh hN;clear m6 hB6 mF HC5 HE5 HB5 HSP5 HX5 HUS hU hN;go_wp2_with (first
  | (at_builtin;refine yU Tryz.elI5 vW rfl _ _ rfl w6.heap.size (.slice (some ⟨w6.heap.size,0,none⟩) 4 4) (.slice ua N uc) ([2,3,4,5]:List Int) ((yA m).drop 6) rfl rfl (yC.made (cur:=#[.int .i64 2,.int .i64 3,.int .i64 4,.int .i64 5]) (b:=w6.heap.size) (cap:=4) (l:=([2,3,4,5]:List Int)) (sz:=1) (enc:=yK) (F:=λ_=>False) (zH.new w6 _ 3) (Nat.le_refl _) (λf=>f) (by simp) (by simp[maxLen]) rfl rfl vW.len) (HU.out.ext ((zA.refl _ w6).alloc _)) (by rw[<- HN.out];simp only[List.length_cons,List.length_nil];omega) (by simp) (λf=>f) ?_;intro a7 c7 w7 hown hmod hat;rw[<- HN.out] at hown ⊢;simp only[List.length_cons,List.length_nil,Nat.zero_add] at hown ⊢;have HO7:=oh hown;have HM7:Hid (zF w6 w7):=oh (((zA.refl _ w6).alloc _).trans' hmod (λi hi h=>by simp[Value.ownBlock] at h;omega));clear hown hmod hat)
  | fail)
 have hspl:∀k,spF sp b2 k->k<w6.heap.size:=zMO HSP6.out;have HSPL:=oh hspl;have HX7:Hid (zA (λj=>caF c sb P j\/j=S) W0 w7/\zA (λj=>j=S) W2 w7):=oh ⟨HX6.out.1.trans HM7.out.ext,HX6.out.2.2.2.trans HM7.out.ext⟩;have HC7:=oh (HC6.out.plus (F':=F1) HM7.out (λ_ _ h=>h) (λ_ h=>h.elim) (λ_ _ h=>h));have HB7:=oh (HB6.out.ext HM7.out);have HSP7:=oh (HSP6.out.mods HM7.out (λh=>h) (λh=>h));have HE7:Hid (yG (λk=>F1 k\/spF sp b2 k) ad w7):=oh (HE2.out.step (HX7.out.2.mono (λj hj=>by have h':j=S:=hj;rw[h'];exact HFS.out)) (λk hk hn hf=>hf.elim hn (λhs=>by have:=HLO.out k hs;omega)) (λk hf=>hf.elim (λh1=>Nat.lt_of_lt_of_le (HE6.out.lt k h1) HM7.out.size) (λh1=>Nat.lt_of_lt_of_le (hspl k h1) HM7.out.size)));have HROW:Hid (Sl (spF sp b2) w7 1 yK (.slice a7 (4+N) c7) ((vN m).map (λ(i:Nat)=>(i:Int)))):=oh (by
  rw[zFm];exact (HO7.out.blocks (G:=spF sp b2) (λj hj h=>by have h1:=(HO7.out.lt j hj).1;have:=HSPL.out j h;omega)).sl (λ_=>rfl) (by rw[List.length_append,<- HN.out];simp only[List.length_cons,List.length_nil];omega))
 have hlen:((vN m).map (λ(i:Nat)=>(i:Int))).length=4+N:=by rw[zFm,List.length_append,<- HN.out];rfl
 have HLEN:=oh hlen;have HIL:Hid ((vN m).length=4+N):=oh (by rw[<- hlen,List.length_map]);have HAT:Hid (∀k x:Nat,(vN m)[k]? = some x->2<=x/\x<D.blocks/\x ∉ [0,1]++(vN m).take k):=oh (λk x h=>by
  have h1:=zLK HWD.out.mok h;rw[HWD.out.mblk,HWD.out.blk] at h1;exact h1)
 have hSS7:¬ spF sp b2 S:=λh=>HSS.out S h rfl
 have HNS:=oh hSS7;clear hspl hlen hSS7 HE6 HB6 HSP6 HX6 HC6 HO7 HE2;go_loopg [8,57] (4+N) (λr v8 v57 wr=>∃k:Nat,k+r=4+N/\v8=.nilIface/\v57=.int .i64 k/\Hid (zA (spF sp b2) w7 wr/\SpR wr sp b2 (zAz D.blocks ([0,1]++(vN m).take k))))
 case atStart=>exact⟨0,by omega,rfl,by go_num,oh ⟨zA.refl _ _,by rw[List.take_zero,List.append_nil,<- zLJ HDR.out.b8];exact HSP7.out⟩⟩
 case round =>
  obtain⟨k,hk,rfl,rfl,HW⟩:=hrel;have hBr:=HB7.out.mods HW.out.1 HNS.out;by_cases hlt:k<4+N
  .obtain⟨x,hx⟩:∃x,(vN m)[k]? = some x:=⟨_,List.getElem?_eq_getElem (by rw[HIL.out];exact hlt)⟩;obtain⟨a1,a2,a3⟩:=HAT.out k x hx;have hms:=zMP a1 a2 a3;have htk:[0,1]++(vN m).take k++[x]=[0,1]++(vN m).take (k+1):=by
    obtain⟨g1,g2⟩:=List.getElem?_eq_some_iff.1 hx;rw[List.append_assoc,List.take_succ_eq_append_getElem g1,g2]
   rw[htk] at hms;obtain⟨rb,ro,hra,hc⟩:=HROW.out.elemM (k:=k) (by rw[HLEN.out];exact hlt) HW.out.1;have d0:=hc 0 (.int .i64 x) (by
    obtain⟨g1,g2⟩:=List.getElem?_eq_some_iff.1 hx;simp[yK,g2])
   simp only[Nat.add_zero,Nat.mul_one] at d0;subst hra;have MK:=zPT (HE7.out.mods (HW.out.1.mono (λj hj=>.inr hj))) sp b2 _ HW.out.2 (x:Int);rw[hms] at MK;have MK:=oh MK;have s2:=hBr.cell (o:=2) (v:=(.pointer (some ⟨sp,0,none⟩))) rfl;have i1:(0:Int)<=(k:Int):=by omega
   have i2:(k:Int)<((4+N:Nat):Int):=by omega
   clear hc hx a1 a2 a3 hms htk hBr;go_wp2_with fail;refine MK.out.mono ?_;rintro e w8 ⟨ev,rfl,hE,hS8,m8⟩;cases hE
   have H8:Hid (zA (spF sp b2) w7 w8/\SpR w8 sp b2 (zAz D.blocks ([0,1]++(vN m).take (k+1)))):=oh ⟨HW.out.1.trans m8,hS8⟩;clear m8 hS8 d0 s2;go_wp2_with fail;go_roundg (gk-1)
   case measure=>omega
   case rel=>exact⟨k+1,by omega,rfl,by go_num,H8⟩
  .obtain rfl:k=4+N:=by omega
   have e9:[0,1]++(vN m).take (4+N)=m.used:=by
    rw[List.take_of_length_le (by rw[HIL.out];exact Nat.le_refl _)];exact zE7 HWD.out.mok
   have HW9:Hid (zA (spF sp b2) w7 wr/\SpR wr sp b2 (zAz D.blocks m.used)):=oh (by have:=HW.out;rw[e9] at this;exact this);have HBR:=oh hBr;have s6:=hBr.cell (o:=6) (v:=.int .i64 (s.root:Int)) rfl;have s7:=hBr.cell (o:=7) (v:=.int .i64 (s.keys:Int)) rfl;have s9:=hBr.cell (o:=9) (v:=.int .i64 0) rfl;have s10:=hBr.cell (o:=10) (v:=.int .i64 0) rfl;have s11:=hBr.cell (o:=11) (v:=.slice a 0 cc) rfl;have sf:=hBr.frozen;clear hBr e9 HW;go_wp2_with fail;go_region
   obtain⟨W9,hW9⟩:∃W,W=(((wr.setCell ⟨S,9,none⟩ (.int .i64 (s.root:Int))).setCell ⟨S,10,none⟩ (.int .i64 (s.keys:Int))).drew):=⟨_,rfl⟩;have m9:zA (λj=>j=S) wr W9:=by rw[hW9];exact (zA.setCell (F:=λj=>j=S) (zA.setCell (F:=λj=>j=S) (zA.refl _ wr) (p:=⟨S,9,none⟩) (.inr rfl) _) (p:=⟨S,10,none⟩) (.inr rfl) _).drew
   have hB9:zH W9 S (stC d (.pointer (some ⟨c,0,none⟩)) (.pointer (some ⟨sp,0,none⟩)) s 0 (s.root:Int) (s.keys:Int) (.slice a 0 cc) false) 123:=by
    rw[hW9];exact zH.drew (by simpa[stC] using (HBR.out.set 9 (.int .i64 (s.root:Int))).set 10 (.int .i64 (s.keys:Int)))
   rw[<- hW9];have s11:=hB9.cell (o:=11) (v:=.slice a 0 cc) rfl;have HB9:=oh hB9;have HM9:=oh m9;have HSO:=oh (zRJ a cc);clear hW9 m9 hB9 s6 s7 s9 s10 sf HBR;go_wp2_with fail;refine (HSO.out _).mono ?_;rintro e w10 ⟨rfl,rfl⟩;go_wp2_with fail;go_ret2
   have hsw:=HSW.out;have z0:W0.heap.size<=W2.heap.size:=HX2.out.2;have zw:w.heap.size<=W0.heap.size:=HM0.out.size;have m27:zA (λj=>j=S) W2 wr:=HX7.out.2.trans' HW9.out.1 (λi hi h=>by have:=HLO.out i h;omega);have m29:zA (λj=>j=S) W2 W9:=m27.trans HM9.out;have mQ:zA (λj=>(caF c sb P j\/j=S)\/spF sp b2 j) W0 W9:=((HX7.out.1.mono (λj h=>.inl h)).trans (HW9.out.1.mono (λj h=>.inr h))).trans (HM9.out.mono (λj h=>.inl (.inr h)));have mF9:zA (λk=>F1 k\/spF sp b2 k) w7 W9:=(HW9.out.1.mono (λj h=>.inr h)).trans (HM9.out.mono (λj h=>by have h':j=S:=h;rw[h'];exact .inl HFS.out));have hS9:SpR W9 sp b2 (zAz D.blocks m.used):=HW9.out.2.mods HM9.out (λh=>HSS.out sp (.inl rfl) h) (λh=>HSS.out b2 (.inr rfl) h);have hC9:CaR (λk=>F1 k\/spF sp b2 k) W9 d c sb bvs P ⟨D,List.replicate q qM,0⟩:=HC2.out.plus m29 (λj hj h=>by have h':j=S:=h;rw[h'] at hj;exact HCS.out hj) (λj h=>by have h':j=S:=h;rw[h'];exact HFS.out) (λk hk hn hf=>hf.elim hn (λh=>by have:=HLO.out k h;omega));refine⟨S,c,sp,λk=>caF c sb P k\/spF sp b2 k,λk=>F1 k\/spF sp b2 k,rfl,⟨sb,bvs,P,b2,hC9,hS9,λk=>Iff.rfl,HCSP.out,⟨a,cc,HB9.out⟩,λh=>h.elim HCS.out (λh=>HSS.out S h rfl),.inl HFS.out⟩,?_⟩;refine⟨⟨HM0.out.ext.trans' mQ (λi hi h=>?_),λk hk h=>?_,λk h=>?_⟩,λk h=>h.elim (λh=>.inl (HN1.out.sub k h)) .inr,λk h=>.inl (HN1.out.grow k (.inl h)),λk hk h=>?_,HE7.out.mods mF9⟩
   .rcases h with (h|h)|h
    .exact HN1.out.stp.old i (by omega) h
    .omega
    .have:=HLO.out i h;omega
   .rcases h with h|h
    .exact HN1.out.stp.old k (by omega) h
    .have:=HLO.out k h;omega
   .rcases h with h|h
    .exact Nat.lt_of_lt_of_le (HC2.out.bdP k h) m29.size
    .exact zMO hS9 k h
   .rcases h with h|h
    .rcases HN1.out.oldF k (by omega) h with h|h
     .exact h
     .omega
    .have:=HLO.out k h;omega
theorem zMh[zW]{D:zI}{s:yM}{m:vF}(hW:zGd D s m)(hd:d=zGT)(h6:vQ<=6):zGB d (zAz D.blocks m.used):=⟨hd,λi hi=>by
 obtain⟨_,_,_,h,_,_⟩:=(jC m).1 hW.mok;have hb:=hW.dry.b8;rw[zAl _ (by omega),if_pos]
 .exact .inl rfl
 .have:i∈m.used.take 6:=by rw[h];simp;omega
  exact List.mem_of_mem_take this⟩
end
def zDZ(D:zI):Nat->zI
 | 0=>(zD0 D (zCR D) 2).flushed
 | 1=>((zD0 D (zCR D) 2).flushed.wrote 1 (yJ (zAq D) 1)).flushed
 | _=>zEZ D
theorem zOb(D:zI):((zDZ D 0).wrote 1 (yJ (zAq D) 1)).flushed=zDZ D 1/\((zDZ D 1).wrote 0 (yJ (zAq D) 0)).flushed=zDZ D 2:=⟨rfl,rfl⟩
theorem zHw{D:zI}(h:zC7 D):zAa (zCR D)=true:=(zCu h).1.mok
theorem zHx{D:zI}(h:zC7 D):zBP (zAq D)=true:=(zCu h).1.ok
theorem zPt{D:zI}(h:zC7 D):(zCb (zDZ D 0)/\(zDZ D 0).waiting=[]/\(zDZ D 0).blocks=D.blocks/\(zDZ D 0).size=D.size)/\(zCb (zDZ D 1)/\(zDZ D 1).waiting=[]/\(zDZ D 1).blocks=D.blocks/\(zDZ D 1).size=D.size):=by
 obtain⟨h1,h2,h3,_⟩:=zEe h.wet (zHw h) h.b8 h.s256 2 (by omega);have f1:=h1.flushed;have hb:(zDZ D 0).blocks=D.blocks:=h2;have hs:(zDZ D 0).size=D.size:=h3;refine⟨⟨f1.1,f1.2.1,hb,hs⟩,?_⟩;have hw:zCb ((zDZ D 0).wrote 1 (yJ (zAq D) 1)):=zCb.wrote f1.1 (by show 1<(zDZ D 0).blocks;rw[hb];have:=h.b8;omega) (by show _=(zDZ D 0).size;rw[hs,zAV (zHx h)];rfl);have f2:=hw.flushed;exact⟨f2.1,f2.2.1,hb,hs⟩
section
variable {P P' F F':Nat->Prop}{ad:Nat->Addr}{w w':World}{d:Nat}{D:zI}
def zOc(F P:Nat->Prop)(ad:Nat->Addr)(w:World)(d:Nat)(D:zI)(q:Nat)(e:Ending)(w':World):Prop :=
 ∃S c sp P' F',e=.returned (.tuple #[.pointer (some ⟨S,0,none⟩),.nilIface])/\StO F' w' P' S d c sp (zAq D) 0 0 0 ⟨zEZ D,List.replicate q qM,0⟩ (zAz D.blocks [0,1,2,3,4,5])/\zY P P' F F' ad w w'
theorem zMi(hL:yG F ad w)(hP:∀k,P k->F k)(h:jT w P d D)(hD:zC7 D)(q:Nat)(h3:3<=q)(h64:q<=64) :
  Calls Tryz.prog 10 #[.pointer (some ⟨d,0,none⟩),.int .i64 (q:Int)] w (zOc F P ad w d D q):=by
 have HCK:=oh (λop=>zE6 h hD.off op q h3 h64);have HDR:=oh hD;have HQ:=oh (And.intro h3 h64);have HGE:=oh h.geo;have HL:=oh hL;have HP:=oh hP;have HDK:=oh h;have HSV:Hid (qF (zAq D)=.agg #[.int .u64 1,.int .i64 (D.blocks:Int),.int .i64 (D.size:Int),.int .i64 0,.int .i64 0]):=oh rfl;have HMV:Hid (∀uv,zB5 (zCR D) uv=.agg #[.int .u64 1,.int .i64 (D.blocks:Int),uv]):=oh (λ_=>rfl);have HST:=oh (zOb D);have HWT:=oh (zPt hD);clear hL hP h hD h3 h64
 go_enter Tryz.func10, Tryz.ntmps10
 go_wp2_with fail;refine (HCK.out _).mono ?_;rintro e w0 ⟨rfl,rfl⟩;go_wp2_with fail;refine HGE.out.mono ?_;rintro e w1 ⟨rfl,m1⟩;have HM1:=oh m1;clear m1;go_wp2_with fail;obtain⟨X,hX⟩:∃X,X=w1.heap.size:=⟨_,rfl⟩;obtain⟨W3,hW3⟩:∃W,W=(w1.alloc (.cells #[.int .u64 1,.int .i64 (D.blocks:Int),.int .i64 (D.size:Int),.int .i64 0,.int .i64 0] 57)).alloc (.cells #[.int .i64 0,.int .i64 1,.int .i64 2,.int .i64 3,.int .i64 4,.int .i64 5] 3):=⟨_,rfl⟩;have m3:zF w1 W3:=by rw[hW3];exact ((zA.refl _ w1).alloc _).alloc _
 have hB3:zH W3 X #[.int .u64 1,.int .i64 (D.blocks:Int),.int .i64 (D.size:Int),.int .i64 0,.int .i64 0] 57:=by rw[hW3,hX];exact (zH.new w1 _ _).alloc _
 have hR3:zH W3 (X+1) #[.int .i64 0,.int .i64 1,.int .i64 2,.int .i64 3,.int .i64 4,.int .i64 5] 3:=by rw[hW3,hX];exact zR (by simp)
 rw[<- hW3,<- hX];have hXF:¬ F X:=λf=>by have:=HL.out.lt _ f;have:=HM1.out.size;omega
 have hXF1:¬ F (X+1):=λf=>by have:=HL.out.lt _ f;have:=HM1.out.size;omega
 have hU:Sl F W3 1 yK (.slice (some ⟨X+1,0,none⟩) 6 6) (yA (zCR D)):=(yC.made (cur:=#[.int .i64 0,.int .i64 1,.int .i64 2,.int .i64 3,.int .i64 4,.int .i64 5]) (b:=X+1) (base:=X) (cap:=6) (l:=([0,1,2,3,4,5]:List Int)) (sz:=1) (enc:=yK) (F:=F) hR3 (by omega) hXF1 (by simp) (by simp[maxLen]) rfl rfl vW.len).sl (λ_=>rfl) (by simp);have M3:zF w W3:=HM1.out.trans m3;have WM:=zGi (HL.out.mods M3.ext) HP.out (HDK.out.at M3) HDR.out.wet (by rw[HDR.out.wait];simp) (zCR D) (zHw HDR.out) (by show 1<_;omega) _ hU HDR.out.b8 HDR.out.s256 HDR.out.s1024;rw[HMV.out] at WM;have WM:=oh WM;have HN3:=oh (zY.ext HL.out HP.out M3);have HB3:=oh hB3;have HPX:Hid (¬ P X):=oh (λf=>hXF (HP.out X f));clear hW3 hX m3 hB3 hR3 hXF hXF1 hU M3;refine WM.out.mono ?_;rintro e w4 ⟨P4,F4,rfl,h4,n4⟩;have H4:=oh h4;have HN4:=oh (HN3.out.trans n4);have HB4:=oh (n4.blk HB3.out HPX.out);have HPX4:=oh (n4.not HB3.out.lt HPX.out);clear h4 n4 WM HN3 HB3 HPX;go_wp2_with fail;have hmw:=(zEe HDR.out.wet (zHw HDR.out) HDR.out.b8 HDR.out.s256 2 (by omega)).1;refine (jT.flush HN4.out.env HN4.out.sub H4.out hmw.off hmw.lit).mono ?_;rintro e w5 ⟨P5,F5,rfl,h5,n5⟩;have H5:Hid (jT w5 P5 d (zDZ D 0)/\zY P P5 F F5 ad w w5/\zH w5 X #[.int .u64 1,.int .i64 (D.blocks:Int),.int .i64 (D.size:Int),.int .i64 0,.int .i64 0] 57 /\ ¬ P5 X):=oh ⟨h5,HN4.out.trans n5,n5.blk HB4.out HPX4.out,n5.not HB4.out.lt HPX4.out⟩;clear h5 n5 H4 HN4 HB4 HPX4 hmw;go_wp2_with fail;go_loopg [8,9] 2 (λr v8 v9 wr=>∃(k:Nat) (P1 F1:Nat->Prop),k+r=2/\v8=.nilIface/\v9=.int .i64 (1-(k:Int))/\Hid (jT wr P1 d (zDZ D k)/\zY P P1 F F1 ad w wr/\zH wr X #[.int .u64 1,.int .i64 (D.blocks:Int),.int .i64 (D.size:Int),.int .i64 0,.int .i64 0] 57 /\ ¬ P1 X))
 case atStart=>exact⟨0,P5,F5,rfl,rfl,rfl,H5⟩
 case round =>
  clear H5;obtain⟨k,P1,F1,hk,rfl,rfl,HW⟩:=hrel;have x0:=HW.out.2.2.1.cell (o:=0) (v:=.int .u64 1) rfl;have x1:=HW.out.2.2.1.cell (o:=1) (v:=.int .i64 (D.blocks:Int)) rfl;have x2:=HW.out.2.2.1.cell (o:=2) (v:=.int .i64 (D.size:Int)) rfl;have x3:=HW.out.2.2.1.cell (o:=3) (v:=.int .i64 0) rfl;have x4:=HW.out.2.2.1.cell (o:=4) (v:=.int .i64 0) rfl;have hk3:k=0\/k=1\/k=2:=by omega
  rcases hk3 with rfl|rfl|rfl
  .have WS:=zDY HW.out.2.1.env HW.out.2.1.sub HW.out.1 HWT.out.1.1 (by rw[HWT.out.1.2.1];simp) (zAq D) (zHx HDR.out) (by show 1<_;omega) HWT.out.1.2.2.2.symm 1 (by omega) (by rw[HWT.out.1.2.2.1];exact HDR.out.b8);rw[HST.out.1,HSV.out,show ((1:Nat):Int)=1 from rfl] at WS;have WS:=oh WS;rw[show (1:Int)-((0:Nat):Int)=1 from rfl];go_wp2_with fail;refine WS.out.mono ?_;rintro e w7 ⟨P7,F7,rfl,h7,n7⟩;have H7:Hid (jT w7 P7 d (zDZ D 1)/\zY P P7 F F7 ad w w7/\zH w7 X #[.int .u64 1,.int .i64 (D.blocks:Int),.int .i64 (D.size:Int),.int .i64 0,.int .i64 0] 57 /\ ¬ P7 X):=oh ⟨h7,HW.out.2.1.trans n7,n7.blk HW.out.2.2.1 HW.out.2.2.2,n7.not HW.out.2.2.1.lt HW.out.2.2.2⟩;clear h7 n7 x0 x1 x2 x3 x4;go_wp2_with fail;go_roundg 1
   case measure=>omega
   case rel=>exact⟨1,P7,F7,rfl,rfl,rfl,H7⟩
  .have WS:=zDY HW.out.2.1.env HW.out.2.1.sub HW.out.1 HWT.out.2.1 (by rw[HWT.out.2.2.1];simp) (zAq D) (zHx HDR.out) (by show 1<_;omega) HWT.out.2.2.2.2.symm 0 (by omega) (by rw[HWT.out.2.2.2.1];exact HDR.out.b8);rw[HST.out.2,HSV.out,show ((0:Nat):Int)=0 from rfl] at WS;have WS:=oh WS;rw[show (1:Int)-((1:Nat):Int)=0 from rfl];go_wp2_with fail;refine WS.out.mono ?_;rintro e w7 ⟨P7,F7,rfl,h7,n7⟩;have H7:Hid (jT w7 P7 d (zDZ D 2)/\zY P P7 F F7 ad w w7/\zH w7 X #[.int .u64 1,.int .i64 (D.blocks:Int),.int .i64 (D.size:Int),.int .i64 0,.int .i64 0] 57 /\ ¬ P7 X):=oh ⟨h7,HW.out.2.1.trans n7,n7.blk HW.out.2.2.1 HW.out.2.2.2,n7.not HW.out.2.2.1.lt HW.out.2.2.2⟩;clear h7 n7 x0 x1 x2 x3 x4;go_wp2_with fail;go_roundg 0
   case measure=>omega
   case rel=>exact⟨2,P7,F7,rfl,rfl,rfl,H7⟩
  .have hwell:=(zCu HDR.out).1;have MO:=zOa HW.out.2.1.env HW.out.2.1.sub (D:=zEZ D) HW.out.1 hwell.dry (zAq D) (zCR D) hwell q HQ.out.1 HQ.out.2;have MO:=oh MO;rw[show (1:Int)-((2:Nat):Int) = -1 from rfl];clear hwell;go_wp2_with fail;refine MO.out.mono ?_;rintro e w7 ⟨S,c,sp,P7,F7,rfl,h7,n7⟩;have H7:=oh h7;have N7:=oh (HW.out.2.1.trans n7);clear h7 n7 x0 x1 x2 x3 x4;go_wp2_with fail;refine (wrap_nil _ _).mono ?_;rintro e w8 ⟨rfl,rfl⟩;go_wp2_with fail;go_ret2
   exact⟨S,c,sp,P7,F7,rfl,H7.out,N7.out⟩
theorem zMj[zW](hd:d=zGT)(h6:vQ<=6)(hbk:∀id,id<vQ->(zEZ D).look id=zCM id)(hL:yG F ad w)(hP:∀k,P k->F k)(h:jT w P d D)(hD:zC7 D)(q:Nat)(h3:3<=q)(h64:q<=64) :
  Calls Tryz.prog 10 #[.pointer (some ⟨d,0,none⟩),.int .i64 (q:Int)] w λe w'=>∃S c sp P' F',e=.returned (.tuple #[.pointer (some ⟨S,0,none⟩),.nilIface])/\StR F' w' P' S d c sp (zAq D) 0 0 0 (zQk (zCc (zEZ D))) (zAz D.blocks [0,1,2,3,4,5])/\zY P P' F F' ad w w':=by
 obtain⟨r1,r2⟩:=zOJ hbk (zCu hD).1.dry q h3 h64;refine (zMi hL hP h hD q h3 h64).mono ?_;rintro e w' ⟨S,c,sp,P',F',h1,h2,h3⟩;exact⟨S,c,sp,P',F',h1,h2.st r1 r2 (Nat.zero_le _) (zMh (zCu hD).1 hd h6),h3⟩
end
end Go.Proofs.YteabpacpngaoaaaGreatDoor
