import Derived.Test.YtchklfmggpconaaGreatDoorK30
namespace Go.Proofs.YtchklfmggpconaaGreatDoor
open Go.RowKit
attribute [local go_sem ↓] Go.wp_at_zero Go.wp_at_succ
def HalfI(w0 wx:World)(X:Nat)(ks:List ByteArray)(is:List Int):Prop :=
 ∃ka kc ia ic,Ext w0 wx∧w0.heap.size≤X∧Blk wx X #[.bool false,.slice none 0 0,.slice ka ks.length kc,.slice ia is.length ic] 118 ∧ Own (λ_=>False) wx w0.heap.size 9 1 encS (.slice ka ks.length kc) ks∧Own (λ_=>False) wx w0.heap.size 3 1 encI (.slice ia is.length ic) is
section
variable {w0 wz:World}{ks:List ByteArray}{is:List Int}{k i:Nat}{a1 a2:Option Addr}{c1 c2:Nat}
theorem half_new(hk:k=ks.length)(hi:i=is.length)(m:Ext w0 wz)(h1:Own (λ_=>False) wz w0.heap.size 9 1 encS (.slice a1 k c1) ks)(h2:Own (λ_=>False) wz w0.heap.size 3 1 encI (.slice a2 i c2) is) :
  HalfI w0 (wz.alloc (.cells #[.bool false,.slice none 0 0,.slice a1 k c1,.slice a2 i c2] 118)) wz.heap.size ks is:=by
 subst hk hi
 exact⟨_,_,_,_,m.alloc _,m.size,Blk.new _ _ _,h1.ext ((Mods.refl _ _).alloc _),h2.ext ((Mods.refl _ _).alloc _)⟩
theorem half_set{X:Nat}(hk:k=ks.length)(hi:i=is.length)(m:Ext w0 wz)(hX:w0.heap.size≤X)(hx:Blk wz X nodeZc 118)(h1:Own (λ_=>False) wz w0.heap.size 9 1 encS (.slice a1 k c1) ks)(h2:Own (λ_=>False) wz w0.heap.size 3 1 encI (.slice a2 i c2) is) :
  HalfI w0 ((((wz.setCell ⟨X,0,none⟩ (.bool false)).setCell ⟨X,1,none⟩ (.slice none 0 0)).setCell ⟨X,2,none⟩ (.slice a1 k c1)).setCell ⟨X,3,none⟩ (.slice a2 i c2)) X ks is:=by
 subst hk hi
 have mX:=Mods.set4 (F:=λk=>k=X) (Mods.refl _ wz) (R:=X) (.inr rfl) (.bool false) (.slice none 0 0) (.slice a1 ks.length c1) (.slice a2 is.length c2)
 exact⟨_,_,_,_,Mods.set4 m (.inl hX) _ _ _ _,hX,hx.set4 _ _ _ _,h1.mods mX (λg hg=>h1.notB hx (by decide) g hg),h2.mods mX (λg hg=>h2.notB hx (by decide) g hg)⟩
end
section
variable {F:Nat→Prop}{w w':World}
set_option maxRecDepth 100000 in
set_option maxHeartbeats 4000000 in
theorem apartI_any(n:NodeA)(hlf:n.leaf=false)(ve vk vi:Value)(hvk:Sl F w 1 encS vk n.keys)(hvi:Sl F w 1 encI vi n.kids)(a:Nat)(ha:2≤a∧a+1<n.kids.length)(hkl:n.kids.length=n.keys.length+1)(hb:n.kids.length≤100000) :
  Calls Tryz.prog 169 #[.agg #[.bool false,ve,vk,vi],.int .i64 (a:Int)] w (ApartR w (apartA n a)):=by
 have m0:Ext w (((w.alloc (.cells #[.bool false,ve,vk,vi] 118)).alloc (.cells nodeZc 118)).alloc (.cells nodeZc 118)):=(((Mods.refl _ w).alloc _).alloc _).alloc _
 have HB0:=Lib.hid (((Blk.new w #[.bool false,ve,vk,vi] 118).alloc (.cells nodeZc 118)).alloc (.cells nodeZc 118))
 have HR1:Hid (Blk (((w.alloc (.cells #[.bool false,ve,vk,vi] 118)).alloc (.cells nodeZc 118)).alloc (.cells nodeZc 118)) (w.heap.size+1) nodeZc 118):=Lib.hid ((show Blk ((w.alloc (.cells #[.bool false,ve,vk,vi] 118)).alloc (.cells nodeZc 118)) (w.heap.size+1) nodeZc 118 from heap_at (by simp)).alloc _)
 have HR2:Hid (Blk (((w.alloc (.cells #[.bool false,ve,vk,vi] 118)).alloc (.cells nodeZc 118)).alloc (.cells nodeZc 118)) (w.heap.size+1+1) nodeZc 118):=Lib.hid (heap_at (by simp))
 have HM0:=Lib.hid m0
 have HVK:=Lib.hid hvk
 have HVI:=Lib.hid hvi
 obtain⟨ka,kc,rfl,hk1,hk2,hk3,hkk⟩:=hvk
 obtain⟨ia,ic,rfl,hi1,hi2,hi3,_⟩:=hvi
 unfold maxLen at hk2 hi2
 obtain⟨b,hbe⟩:∃b,b=a-1:=⟨_,rfl⟩
 have hb1:b<n.keys.length:=by omega
 obtain⟨kb,koff,hka,hkb,_,hkc⟩:=Sl.at hkk (Mods.refl F w) (λ_ _ h=>h) b hb1
 have hkc0:=hkc 0 (.string n.keys[b]) rfl
 simp only[Nat.mul_one,Nat.add_zero] at hkc0
 have HKC:=Lib.hid hkc0
 have HKA:=Lib.hid hka
 have HAP:Hid (apartA n a=(⟨false,[],n.keys.take b,n.kids.take a⟩,n.keys[b],⟨false,[],n.keys.drop a,n.kids.drop a⟩)):=Lib.hid (by
  unfold apartA
  rw[if_neg (by rw[hlf];simp),← hbe]
  simp[List.getD,hb1])
 have u1:IntKind.i64.wrap ((a:Int)-1)=(b:Int):=by rw[IntWalk.i64_in _ (by omega)];omega
 have HF1:Hid (∀W,Ext w W→Sl F W 1 encS (.slice ka b kc) (n.keys.take b)):=Lib.hid (λW m=>(HVK.out.ext m).pre b (by omega))
 have HF2:Hid (∀W,Ext w W→Sl F W 1 encI (.slice ia a ic) (n.kids.take a)):=Lib.hid (λW m=>(HVI.out.ext m).pre a (by omega))
 have hne1:¬ kc=a:=by omega
 have hne2:¬ ic=a:=by omega
 have HF3:Hid (∀W,Ext w W→Sl F W 1 encS (.slice (ka.map (·.add a)) (n.keys.length-a) (kc-a)) (n.keys.drop a)):=Lib.hid (λW m=>by
  have:=(HVK.out.ext m).tail_ a (by omega)
  rw[if_neg hne1] at this
  simpa only[Nat.mul_one] using this)
 have HF4:Hid (∀W,Ext w W→Sl F W 1 encI (.slice (ia.map (·.add a)) (n.kids.length-a) (ic-a)) (n.kids.drop a)):=Lib.hid (λW m=>by
  have:=(HVI.out.ext m).tail_ a (by omega)
  rw[if_neg hne2] at this
  simpa only[Nat.mul_one] using this)
 have HL1:Hid (b=(n.keys.take b).length∧a=(n.kids.take a).length∧n.keys.length-a=(n.keys.drop a).length∧n.kids.length-a=(n.kids.drop a).length):=Lib.hid ⟨by rw[List.length_take];omega,by rw[List.length_take];omega,by rw[List.length_drop],by rw[List.length_drop]⟩
 have ha1:(a:Int)≤(n.kids.length:Int):=by omega
 have ha2:(a:Int)≤(n.keys.length:Int):=by omega
 have hb2:(0:Int)≤(b:Int):=by omega
 have hs1:(b:Int)≤(kc:Int):=by omega
 have hs2:(a:Int)≤(ic:Int):=by omega
 have hs3:(0:Int)≤(a:Int):=by omega
 have hb3:(b:Int)<(n.keys.length:Int):=by omega
 have n2:=HB0.out.cell (o:=2) rfl
 have n3:=HB0.out.cell (o:=3) rfl
 obtain⟨w0,hw0⟩:∃w0,w0=((w.alloc (.cells #[.bool false,ve,.slice ka n.keys.length kc,.slice ia n.kids.length ic] 118)).alloc (.cells nodeZc 118)).alloc (.cells nodeZc 118):=⟨_,rfl⟩
 rw[← hw0] at HR1 HR2 HM0 n2 n3
 have hw3:w.heap.size+1+1<w0.heap.size:=HR2.out.lt
 have hw4:w.heap.size<w0.heap.size:=by omega
 have HF1:Hid (∀W,Ext w0 W→Sl F W 1 encS (.slice ka b kc) (n.keys.take b)):=Lib.hid (λW m=>HF1.out W (HM0.out.trans m))
 have HF2:Hid (∀W,Ext w0 W→Sl F W 1 encI (.slice ia a ic) (n.kids.take a)):=Lib.hid (λW m=>HF2.out W (HM0.out.trans m))
 have HF3:Hid (∀W,Ext w0 W→Sl F W 1 encS (.slice (ka.map (·.add a)) (n.keys.length-a) (kc-a)) (n.keys.drop a)):=Lib.hid (λW m=>HF3.out W (HM0.out.trans m))
 have HF4:Hid (∀W,Ext w0 W→Sl F W 1 encI (.slice (ia.map (·.add a)) (n.kids.length-a) (ic-a)) (n.kids.drop a)):=Lib.hid (λW m=>HF4.out W (HM0.out.trans m))
 have xm:=(Mods.refl (λ_=>False) w0).drew
 have HBE:=Lib.hid hbe
 have HKL:=Lib.hid hkl
 have hq1:n.keys.length≤100000:=by omega
 have HW0:=Lib.hid hw0
 have HKB:=Lib.hid hkb
 clear m0 hlf hkk hka hkb hkc hkc0 hbe hkl hw0
 go_enter Tryz.func169, Tryz.ntmps169
 go_wp2_with fail
 rw[← HW0.out]
 go_cut [9] (λv9 wx=>∃X,v9=.pointer (some ⟨X,0,none⟩)∧Hid (HalfI w0 wx X (n.keys.take b) (n.kids.take a)))
 case first =>
  have n2b:=λo=>cell_alloc (x:=o) n2
  have n3b:=λo=>cell_alloc (x:=o) n3
  go_region_law
   (first
    | (go_simp;go_at_call 95;refine (laidS_end _ (n.keys.take b) (HF1.out _ xm) (b) HL1.out.1 (by have:=HL1.out.1;omega)).mono ?_;rintro e wz ⟨a1,c1,rfl,hO1,hmz⟩;have n2:=cellE (hmz) n2;have n3:=cellE (hmz) n3;have n2b:=λo=>cell_alloc (x:=o) n2;have n3b:=λo=>cell_alloc (x:=o) n3;(first|have hO2:=hO2.ext (hmz)|skip);have hO1:=hO1.rebase (base':=w0.heap.size) xm.size;(first|(have hx0:=hx0.ext hmz;have y0:=hx0.cell (o:=0) (v:=.bool false) rfl;have y1:=hx0.cell (o:=1) (v:=.slice none 0 0) rfl;have y2:=hx0.cell (o:=2) (v:=.slice none 0 0) rfl;have y3:=hx0.cell (o:=3) (v:=.slice none 0 0) rfl;have yf:=hx0.frozen)|skip);have xm:=xm.trans hmz;have z0:=(Blk.new wz nodeZc 118).cell (o:=0) (v:=.bool false) rfl;have z1:=(Blk.new wz nodeZc 118).cell (o:=1) (v:=.slice none 0 0) rfl;have z2:=(Blk.new wz nodeZc 118).cell (o:=2) (v:=.slice none 0 0) rfl;have z3:=(Blk.new wz nodeZc 118).cell (o:=3) (v:=.slice none 0 0) rfl;have zf:=(Blk.new wz nodeZc 118).frozen)
    | (go_simp;go_at_call 95;refine (laidS_end _ (n.keys.take b) (HF1.out _ (xm.alloc _)) (b) HL1.out.1 (by have:=HL1.out.1;omega)).mono ?_;rintro e wz ⟨a1,c1,rfl,hO1,hmz⟩;have hX0:=xm.size;have hxn:=Nat.ne_of_lt (Nat.lt_of_lt_of_le hw4 hX0);have hxm:=Nat.ne_of_gt (Nat.lt_of_lt_of_le hw4 hX0);(first|have hx0:Blk wz w0.heap.size nodeZc 118:=(Blk.new w0.drew nodeZc 118).ext hmz|have hx0:=(Blk.new _ nodeZc 118).ext hmz);have y0:=hx0.cell (o:=0) (v:=.bool false) rfl;have y1:=hx0.cell (o:=1) (v:=.slice none 0 0) rfl;have y2:=hx0.cell (o:=2) (v:=.slice none 0 0) rfl;have y3:=hx0.cell (o:=3) (v:=.slice none 0 0) rfl;have yf:=hx0.frozen;have n2:=cellE (((Mods.refl _ _).alloc _).trans hmz) n2;have n3:=cellE (((Mods.refl _ _).alloc _).trans hmz) n3;have n2b:=λo=>cell_alloc (x:=o) n2;have n3b:=λo=>cell_alloc (x:=o) n3;(first|have hO2:=hO2.ext (((Mods.refl _ _).alloc _).trans hmz)|skip);have hO1:=hO1.rebase (base':=w0.heap.size) (Nat.le_trans hX0 (by simp));have xm:=(xm.alloc _).trans hmz;have z0:=(Blk.new wz nodeZc 118).cell (o:=0) (v:=.bool false) rfl;have z1:=(Blk.new wz nodeZc 118).cell (o:=1) (v:=.slice none 0 0) rfl;have z2:=(Blk.new wz nodeZc 118).cell (o:=2) (v:=.slice none 0 0) rfl;have z3:=(Blk.new wz nodeZc 118).cell (o:=3) (v:=.slice none 0 0) rfl;have zf:=(Blk.new wz nodeZc 118).frozen)
    | (go_simp;go_at_call 94;refine (laidI_end _ (n.kids.take a) (HF2.out _ xm) (a) HL1.out.2.1 (by have:=HL1.out.2.1;omega)).mono ?_;rintro e wz ⟨a2,c2,rfl,hO2,hmz⟩;have n2:=cellE (hmz) n2;have n3:=cellE (hmz) n3;have n2b:=λo=>cell_alloc (x:=o) n2;have n3b:=λo=>cell_alloc (x:=o) n3;(first|have hO1:=hO1.ext (hmz)|skip);have hO2:=hO2.rebase (base':=w0.heap.size) xm.size;(first|(have hx0:=hx0.ext hmz;have y0:=hx0.cell (o:=0) (v:=.bool false) rfl;have y1:=hx0.cell (o:=1) (v:=.slice none 0 0) rfl;have y2:=hx0.cell (o:=2) (v:=.slice none 0 0) rfl;have y3:=hx0.cell (o:=3) (v:=.slice none 0 0) rfl;have yf:=hx0.frozen)|skip);have xm:=xm.trans hmz;have z0:=(Blk.new wz nodeZc 118).cell (o:=0) (v:=.bool false) rfl;have z1:=(Blk.new wz nodeZc 118).cell (o:=1) (v:=.slice none 0 0) rfl;have z2:=(Blk.new wz nodeZc 118).cell (o:=2) (v:=.slice none 0 0) rfl;have z3:=(Blk.new wz nodeZc 118).cell (o:=3) (v:=.slice none 0 0) rfl;have zf:=(Blk.new wz nodeZc 118).frozen)
    | (go_simp;go_at_call 94;refine (laidI_end _ (n.kids.take a) (HF2.out _ (xm.alloc _)) (a) HL1.out.2.1 (by have:=HL1.out.2.1;omega)).mono ?_;rintro e wz ⟨a2,c2,rfl,hO2,hmz⟩;have hX0:=xm.size;have hxn:=Nat.ne_of_lt (Nat.lt_of_lt_of_le hw4 hX0);have hxm:=Nat.ne_of_gt (Nat.lt_of_lt_of_le hw4 hX0);(first|have hx0:Blk wz w0.heap.size nodeZc 118:=(Blk.new w0.drew nodeZc 118).ext hmz|have hx0:=(Blk.new _ nodeZc 118).ext hmz);have y0:=hx0.cell (o:=0) (v:=.bool false) rfl;have y1:=hx0.cell (o:=1) (v:=.slice none 0 0) rfl;have y2:=hx0.cell (o:=2) (v:=.slice none 0 0) rfl;have y3:=hx0.cell (o:=3) (v:=.slice none 0 0) rfl;have yf:=hx0.frozen;have n2:=cellE (((Mods.refl _ _).alloc _).trans hmz) n2;have n3:=cellE (((Mods.refl _ _).alloc _).trans hmz) n3;have n2b:=λo=>cell_alloc (x:=o) n2;have n3b:=λo=>cell_alloc (x:=o) n3;(first|have hO1:=hO1.ext (((Mods.refl _ _).alloc _).trans hmz)|skip);have hO2:=hO2.rebase (base':=w0.heap.size) (Nat.le_trans hX0 (by simp));have xm:=(xm.alloc _).trans hmz;have z0:=(Blk.new wz nodeZc 118).cell (o:=0) (v:=.bool false) rfl;have z1:=(Blk.new wz nodeZc 118).cell (o:=1) (v:=.slice none 0 0) rfl;have z2:=(Blk.new wz nodeZc 118).cell (o:=2) (v:=.slice none 0 0) rfl;have z3:=(Blk.new wz nodeZc 118).cell (o:=3) (v:=.slice none 0 0) rfl;have zf:=(Blk.new wz nodeZc 118).frozen)
    | fail)
  all_goals
   go_wp2_with fail
   go_meet
   refine⟨_,rfl,Lib.hid ?_⟩
   first
    | (with_reducible exact half_new HL1.out.1 HL1.out.2.1 xm hO1 hO2)
    | (with_reducible exact half_set HL1.out.1 HL1.out.2.1 xm hX0 hx0 hO1 hO2)
    | (with_reducible exact half_set HL1.out.1 HL1.out.2.1 xm (Nat.le_refl _) hx0 hO1 hO2)
 obtain⟨X,rfl,HH1⟩:=hcut
 obtain⟨k1,kc1,i1,ic1,hm1,hX1,hB1,hP1,hQ1⟩:=HH1.out
 have n2:=cellE hm1 n2
 have n3:=cellE hm1 n3
 have HF3:Hid (∀W,Ext wc W→Sl F W 1 encS (.slice (ka.map (·.add a)) (n.keys.length-a) (kc-a)) (n.keys.drop a)):=Lib.hid (λW m=>HF3.out W (hm1.trans m))
 have HF4:Hid (∀W,Ext wc W→Sl F W 1 encI (.slice (ia.map (·.add a)) (n.kids.length-a) (ic-a)) (n.kids.drop a)):=Lib.hid (λW m=>HF4.out W (hm1.trans m))
 have hw5:=hm1.size
 have HMA:=Lib.hid (HM0.out.trans hm1)
 have HR1:=Lib.hid (HR1.out.ext hm1)
 have HR2:=Lib.hid (HR2.out.ext hm1)
 have HKC:=Lib.hid (cellE (HM0.out.trans hm1) HKC.out)
 have HBX:=Lib.hid hB1
 have HP1:=Lib.hid hP1
 have HQ1:=Lib.hid hQ1
 have HLX:Hid (X<wc.heap.size):=Lib.hid hB1.lt
 have xm:=(Mods.refl (λ_=>False) wc).drew
 have hX2:X<wc.heap.size:=hB1.lt
 obtain⟨z0,hz0⟩:∃z0,z0=w0.heap.size:=⟨_,rfl⟩
 rw[← hz0] at hw3 hw4 hX1 hw5
 have HP1:Hid (Own (λ_=>False) wc z0 9 1 encS (.slice k1 (n.keys.take b).length kc1) (n.keys.take b)):=Lib.hid (by rw[hz0];exact HP1.out)
 have HQ1:Hid (Own (λ_=>False) wc z0 3 1 encI (.slice i1 (n.kids.take a).length ic1) (n.kids.take a)):=Lib.hid (by rw[hz0];exact HQ1.out)
 have hw4:w.heap.size<wc.heap.size:=by omega
 clear hm1 hB1 hP1 hQ1 HF1 HF2 HM0 HB0 HW0 hz0 HH1
 obtain⟨w0,rfl⟩:∃x,x=wc:=⟨_,rfl⟩
 go_wp2_with fail
 go_cut [10] (λv9 wx=>∃X,v9=.pointer (some ⟨X,0,none⟩)∧Hid (HalfI w0 wx X (n.keys.drop a) (n.kids.drop a)))
 case first =>
  have n2b:=λo=>cell_alloc (x:=o) n2
  have n3b:=λo=>cell_alloc (x:=o) n3
  go_region_law
   (first
    | (go_simp;go_at_call 95;refine (laidS_beg _ (n.keys.drop a) (HF3.out _ xm) (n.keys.length-a) HL1.out.2.2.1 (by have:=HL1.out.2.2.1;omega)).mono ?_;rintro e wz ⟨a1,c1,rfl,hO1,hmz⟩;have n2:=cellE (hmz) n2;have n3:=cellE (hmz) n3;have n2b:=λo=>cell_alloc (x:=o) n2;have n3b:=λo=>cell_alloc (x:=o) n3;(first|have hO2:=hO2.ext (hmz)|skip);have hO1:=hO1.rebase (base':=w0.heap.size) xm.size;(first|(have hx0:=hx0.ext hmz;have y0:=hx0.cell (o:=0) (v:=.bool false) rfl;have y1:=hx0.cell (o:=1) (v:=.slice none 0 0) rfl;have y2:=hx0.cell (o:=2) (v:=.slice none 0 0) rfl;have y3:=hx0.cell (o:=3) (v:=.slice none 0 0) rfl;have yf:=hx0.frozen)|skip);have xm:=xm.trans hmz;have z0:=(Blk.new wz nodeZc 118).cell (o:=0) (v:=.bool false) rfl;have z1:=(Blk.new wz nodeZc 118).cell (o:=1) (v:=.slice none 0 0) rfl;have z2:=(Blk.new wz nodeZc 118).cell (o:=2) (v:=.slice none 0 0) rfl;have z3:=(Blk.new wz nodeZc 118).cell (o:=3) (v:=.slice none 0 0) rfl;have zf:=(Blk.new wz nodeZc 118).frozen)
    | (go_simp;go_at_call 95;refine (laidS_beg _ (n.keys.drop a) (HF3.out _ (xm.alloc _)) (n.keys.length-a) HL1.out.2.2.1 (by have:=HL1.out.2.2.1;omega)).mono ?_;rintro e wz ⟨a1,c1,rfl,hO1,hmz⟩;have hX0:=xm.size;have hxn:=Nat.ne_of_lt (Nat.lt_of_lt_of_le hw4 hX0);have hxm:=Nat.ne_of_gt (Nat.lt_of_lt_of_le hw4 hX0);(first|have hx0:Blk wz w0.heap.size nodeZc 118:=(Blk.new w0.drew nodeZc 118).ext hmz|have hx0:=(Blk.new _ nodeZc 118).ext hmz);have y0:=hx0.cell (o:=0) (v:=.bool false) rfl;have y1:=hx0.cell (o:=1) (v:=.slice none 0 0) rfl;have y2:=hx0.cell (o:=2) (v:=.slice none 0 0) rfl;have y3:=hx0.cell (o:=3) (v:=.slice none 0 0) rfl;have yf:=hx0.frozen;have n2:=cellE (((Mods.refl _ _).alloc _).trans hmz) n2;have n3:=cellE (((Mods.refl _ _).alloc _).trans hmz) n3;have n2b:=λo=>cell_alloc (x:=o) n2;have n3b:=λo=>cell_alloc (x:=o) n3;(first|have hO2:=hO2.ext (((Mods.refl _ _).alloc _).trans hmz)|skip);have hO1:=hO1.rebase (base':=w0.heap.size) (Nat.le_trans hX0 (by simp));have xm:=(xm.alloc _).trans hmz;have z0:=(Blk.new wz nodeZc 118).cell (o:=0) (v:=.bool false) rfl;have z1:=(Blk.new wz nodeZc 118).cell (o:=1) (v:=.slice none 0 0) rfl;have z2:=(Blk.new wz nodeZc 118).cell (o:=2) (v:=.slice none 0 0) rfl;have z3:=(Blk.new wz nodeZc 118).cell (o:=3) (v:=.slice none 0 0) rfl;have zf:=(Blk.new wz nodeZc 118).frozen)
    | (go_simp;go_at_call 94;refine (laidI_beg _ (n.kids.drop a) (HF4.out _ xm) (n.kids.length-a) HL1.out.2.2.2 (by have:=HL1.out.2.2.2;omega)).mono ?_;rintro e wz ⟨a2,c2,rfl,hO2,hmz⟩;have n2:=cellE (hmz) n2;have n3:=cellE (hmz) n3;have n2b:=λo=>cell_alloc (x:=o) n2;have n3b:=λo=>cell_alloc (x:=o) n3;(first|have hO1:=hO1.ext (hmz)|skip);have hO2:=hO2.rebase (base':=w0.heap.size) xm.size;(first|(have hx0:=hx0.ext hmz;have y0:=hx0.cell (o:=0) (v:=.bool false) rfl;have y1:=hx0.cell (o:=1) (v:=.slice none 0 0) rfl;have y2:=hx0.cell (o:=2) (v:=.slice none 0 0) rfl;have y3:=hx0.cell (o:=3) (v:=.slice none 0 0) rfl;have yf:=hx0.frozen)|skip);have xm:=xm.trans hmz;have z0:=(Blk.new wz nodeZc 118).cell (o:=0) (v:=.bool false) rfl;have z1:=(Blk.new wz nodeZc 118).cell (o:=1) (v:=.slice none 0 0) rfl;have z2:=(Blk.new wz nodeZc 118).cell (o:=2) (v:=.slice none 0 0) rfl;have z3:=(Blk.new wz nodeZc 118).cell (o:=3) (v:=.slice none 0 0) rfl;have zf:=(Blk.new wz nodeZc 118).frozen)
    | (go_simp;go_at_call 94;refine (laidI_beg _ (n.kids.drop a) (HF4.out _ (xm.alloc _)) (n.kids.length-a) HL1.out.2.2.2 (by have:=HL1.out.2.2.2;omega)).mono ?_;rintro e wz ⟨a2,c2,rfl,hO2,hmz⟩;have hX0:=xm.size;have hxn:=Nat.ne_of_lt (Nat.lt_of_lt_of_le hw4 hX0);have hxm:=Nat.ne_of_gt (Nat.lt_of_lt_of_le hw4 hX0);(first|have hx0:Blk wz w0.heap.size nodeZc 118:=(Blk.new w0.drew nodeZc 118).ext hmz|have hx0:=(Blk.new _ nodeZc 118).ext hmz);have y0:=hx0.cell (o:=0) (v:=.bool false) rfl;have y1:=hx0.cell (o:=1) (v:=.slice none 0 0) rfl;have y2:=hx0.cell (o:=2) (v:=.slice none 0 0) rfl;have y3:=hx0.cell (o:=3) (v:=.slice none 0 0) rfl;have yf:=hx0.frozen;have n2:=cellE (((Mods.refl _ _).alloc _).trans hmz) n2;have n3:=cellE (((Mods.refl _ _).alloc _).trans hmz) n3;have n2b:=λo=>cell_alloc (x:=o) n2;have n3b:=λo=>cell_alloc (x:=o) n3;(first|have hO1:=hO1.ext (((Mods.refl _ _).alloc _).trans hmz)|skip);have hO2:=hO2.rebase (base':=w0.heap.size) (Nat.le_trans hX0 (by simp));have xm:=(xm.alloc _).trans hmz;have z0:=(Blk.new wz nodeZc 118).cell (o:=0) (v:=.bool false) rfl;have z1:=(Blk.new wz nodeZc 118).cell (o:=1) (v:=.slice none 0 0) rfl;have z2:=(Blk.new wz nodeZc 118).cell (o:=2) (v:=.slice none 0 0) rfl;have z3:=(Blk.new wz nodeZc 118).cell (o:=3) (v:=.slice none 0 0) rfl;have zf:=(Blk.new wz nodeZc 118).frozen)
    | fail)
  all_goals
   go_wp2_with fail
   go_meet
   refine⟨_,rfl,Lib.hid ?_⟩
   first
    | (with_reducible exact half_new HL1.out.2.2.1 HL1.out.2.2.2 xm hO1 hO2)
    | (with_reducible exact half_set HL1.out.2.2.1 HL1.out.2.2.2 xm hX0 hx0 hO1 hO2)
    | (with_reducible exact half_set HL1.out.2.2.1 HL1.out.2.2.2 xm (Nat.le_refl _) hx0 hO1 hO2)
 obtain⟨Y,rfl,HH2⟩:=hcut
 obtain⟨k2,kc2,i2,ic2,hm2,hY1,hB2,hP2,hQ2⟩:=HH2.out
 have n2:=cellE hm2 n2
 have HBX:=HBX.out.ext hm2
 have hka:=HKA.out
 have hkc0:=cellE hm2 HKC.out
 have hR1:=HR1.out.ext hm2
 have hR2:=HR2.out.ext hm2
 have hkb:=HKB.out
 subst hka
 have p0:=HBX.cell (o:=0) rfl
 have p1:=HBX.cell (o:=1) rfl
 have p2:=HBX.cell (o:=2) rfl
 have p3:=HBX.cell (o:=3) rfl
 have q0:=hB2.cell (o:=0) rfl
 have q1:=hB2.cell (o:=1) rfl
 have q2:=hB2.cell (o:=2) rfl
 have q3:=hB2.cell (o:=3) rfl
 have r0:=hR1.cell (o:=0) rfl
 have r1:=hR1.cell (o:=1) rfl
 have r2:=hR1.cell (o:=2) rfl
 have r3:=hR1.cell (o:=3) rfl
 have rf:=hR1.frozen
 have s0:=hR2.cell (o:=0) rfl
 have s1:=hR2.cell (o:=1) rfl
 have s2:=hR2.cell (o:=2) rfl
 have s3:=hR2.cell (o:=3) rfl
 have sf:=hR2.frozen
 have hg1:X≠w.heap.size+1:=by omega
 have hg2:X≠w.heap.size+1+1:=by omega
 have hg3:Y≠w.heap.size+1:=by omega
 have hg4:Y≠w.heap.size+1+1:=by omega
 have hg5:kb≠w.heap.size+1:=by omega
 have hg6:kb≠w.heap.size+1+1:=by omega
 have HP1:=Lib.hid (HP1.out.ext hm2)
 have HQ1:=Lib.hid (HQ1.out.ext hm2)
 have HP2:=Lib.hid hP2
 have HQ2:=Lib.hid hQ2
 have HMM:=Lib.hid (HMA.out.trans hm2)
 have HRA:=Lib.hid hR1
 have HRB:=Lib.hid hR2
 obtain⟨kp,hkp⟩:∃kp,kp=(n.keys.take b).length:=⟨_,rfl⟩
 obtain⟨ip,hip⟩:∃ip,ip=(n.kids.take a).length:=⟨_,rfl⟩
 obtain⟨kq,hkq⟩:∃kq,kq=(n.keys.drop a).length:=⟨_,rfl⟩
 obtain⟨iq,hiq⟩:∃iq,iq=(n.kids.drop a).length:=⟨_,rfl⟩
 rw[← hkp] at p2 HP1
 rw[← hip] at p3 HQ1
 rw[← hkq] at q2 HP2
 rw[← hiq] at q3 HQ2
 have HWS:Hid (w.heap.size+1+1<z0∧z0≤w0.heap.size):=Lib.hid ⟨hw3,hw5⟩
 clear hm2 hB2 hP2 hQ2 HBX hR1 hR2 HH2 hkp hip hkq hiq xm hw5
 go_wp2_with fail
 go_region
 go_wp2_with fail
 have mA:=Mods.set4 (F:=λk=>k=w.heap.size+1) (Mods.refl _ wc) (R:=w.heap.size+1) (.inr rfl) (.bool false) (.slice none 0 0) (.slice k1 kp kc1) (.slice i1 ip ic1)
 have hA:=HRA.out.set4 (.bool false) (.slice none 0 0) (.slice k1 kp kc1) (.slice i1 ip ic1)
 have hB0:=HRB.out.mods mA (by omega)
 have hB:=hB0.set4 (.bool false) (.slice none 0 0) (.slice k2 kq kc2) (.slice i2 iq ic2)
 have mB:=Mods.set4 (F:=λk=>k=w.heap.size+1+1) (Mods.refl _ ((((wc.setCell ⟨w.heap.size+1,0,none⟩ (.bool false)).setCell ⟨w.heap.size+1,1,none⟩ (.slice none 0 0)).setCell ⟨w.heap.size+1,2,none⟩ (.slice k1 kp kc1)).setCell ⟨w.heap.size+1,3,none⟩ (.slice i1 ip ic1))) (R:=w.heap.size+1+1) (.inr rfl) (.bool false) (.slice none 0 0) (.slice k2 kq kc2) (.slice i2 iq ic2)
 have hA2:=hA.mods mB (by omega)
 have hx:=(Mods.set4 (Mods.set4 HMM.out (R:=w.heap.size+1) (.inl (by omega)) (.bool false) (.slice none 0 0) (.slice k1 kp kc1) (.slice i1 ip ic1)) (R:=w.heap.size+1+1) (.inl (by omega)) (.bool false) (.slice none 0 0) (.slice k2 kq kc2) (.slice i2 iq ic2)).drew
 have hws:=HWS.out
 have e1:∀g,(Value.slice k1 kp kc1).ownBlock=some g→w.heap.size+1+1<g:=λg hg=>by have:=(HP1.out.lt g hg).1;omega
 have e2:∀g,(Value.slice i1 ip ic1).ownBlock=some g→w.heap.size+1+1<g:=λg hg=>by have:=(HQ1.out.lt g hg).1;omega
 have e3:∀g,(Value.slice k2 kq kc2).ownBlock=some g→w.heap.size+1+1<g:=λg hg=>by have:=(HP2.out.lt g hg).1;omega
 have e4:∀g,(Value.slice i2 iq ic2).ownBlock=some g→w.heap.size+1+1<g:=λg hg=>by have:=(HQ2.out.lt g hg).1;omega
 have o1:=((HP1.out.mods mA (λg hg=>by have:=e1 g hg;omega)).mods mB (λg hg=>by have:=e1 g hg;omega)).rebase (base':=w.heap.size) (by omega)
 have o2:=((HQ1.out.mods mA (λg hg=>by have:=e2 g hg;omega)).mods mB (λg hg=>by have:=e2 g hg;omega)).rebase (base':=w.heap.size) (by omega)
 have o3:=((HP2.out.mods mA (λg hg=>by have:=e3 g hg;omega)).mods mB (λg hg=>by have:=e3 g hg;omega)).rebase (base':=w.heap.size) (by omega)
 have o4:=((HQ2.out.mods mA (λg hg=>by have:=e4 g hg;omega)).mods mB (λg hg=>by have:=e4 g hg;omega)).rebase (base':=w.heap.size) (by omega)
 refine bodyPost_ret (results_row_tmp_row rfl _ _ (w.heap.size+1) (w.heap.size+1+1) 118 118 _ _ _ rfl hA2.drew rfl hB.drew rfl Tryz.underlying118 rfl Tryz.nodeSz rfl) rfl ?_
 unfold ApartR
 rw[HAP.out]
 exact⟨_,_,rfl,⟨_,_,_,rfl,Own.nil _ _ _ _ _ _,o1.ext (Mods.refl _ _).drew,o2.ext (Mods.refl _ _).drew⟩,⟨_,_,_,rfl,Own.nil _ _ _ _ _ _,o3.ext (Mods.refl _ _).drew,o4.ext (Mods.refl _ _).drew⟩,hx⟩
end
end Go.Proofs.YtchklfmggpconaaGreatDoor
