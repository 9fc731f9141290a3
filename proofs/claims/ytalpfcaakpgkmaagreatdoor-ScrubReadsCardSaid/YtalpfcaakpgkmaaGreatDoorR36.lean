import Derived.Test.YtalpfcaakpgkmaaGreatDoorR35
import Derived.BigQuiet
namespace Go.Proofs.YtalpfcaakpgkmaaGreatDoor
open Lib renaming hid->oh
set_option maxHeartbeats 4000000
set_option maxRecDepth 100000
open Go.RowKit
attribute [local go_sem ↓] Go.wp_at_zero Go.wp_at_succ
def zOK(w0 wx:World)(X:Nat)(ks:List ByteArray)(is:List Int):Prop :=
 ∃ka kc ia ic,zF w0 wx/\w0.heap.size<=X/\zG wx X #[.bool false,.slice none 0 0,.slice ka ks.length kc,.slice ia is.length ic] 200 /\ yC (λ_=>False) wx w0.heap.size 9 1 vW (.slice ka ks.length kc) ks/\yC (λ_=>False) wx w0.heap.size 3 1 yI (.slice ia is.length ic) is
section
variable {w0 wz:World}{ks:List ByteArray}{is:List Int}{k i:Nat}{a1 a2:Option Addr}{c1 c2:Nat}
theorem zMG(hk:k=ks.length)(hi:i=is.length)(m:zF w0 wz)(h1:yC (λ_=>False) wz w0.heap.size 9 1 vW (.slice a1 k c1) ks)(h2:yC (λ_=>False) wz w0.heap.size 3 1 yI (.slice a2 i c2) is) :
  zOK w0 (wz.alloc (.cells #[.bool false,.slice none 0 0,.slice a1 k c1,.slice a2 i c2] 200)) wz.heap.size ks is:=by
 subst hk hi;exact⟨_,_,_,_,m.alloc _,m.size,zG.new _ _ _,h1.ext (zr.alloc _),h2.ext (zr.alloc _)⟩
theorem zGN{X:Nat}(hk:k=ks.length)(hi:i=is.length)(m:zF w0 wz)(hX:w0.heap.size<=X)(hx:zG wz X zT 200)(h1:yC (λ_=>False) wz w0.heap.size 9 1 vW (.slice a1 k c1) ks)(h2:yC (λ_=>False) wz w0.heap.size 3 1 yI (.slice a2 i c2) is) :
  zOK w0 ((((wz.setCell ⟨X,0,none⟩ (.bool false)).setCell ⟨X,1,none⟩ (.slice none 0 0)).setCell ⟨X,2,none⟩ (.slice a1 k c1)).setCell ⟨X,3,none⟩ (.slice a2 i c2)) X ks is:=by
 subst hk hi;have mX:=zA.set4 (F:=λk=>k=X) (zss wz) (R:=X) (.inr rfl) (.bool false) (.slice none 0 0) (.slice a1 ks.length c1) (.slice a2 is.length c2);exact⟨_,_,_,_,zA.set4 m (.inl hX) _ _ _ _,hX,hx.set4 _ _ _ _,h1.mods mX (λg hg=>h1.notB hx (by decide) g hg),h2.mods mX (λg hg=>h2.notB hx (by decide) g hg)⟩
end
section
variable {F:NP}{w w':World}
theorem zNS(n:zI)(Ap:n.leaf=false)(ve vk vi:Value)(Am:Sl F w 1 vW vk n.keys)(An:Sl F w 1 yI vi n.kids)(a:Nat)(ha:2<=a/\a+1<n.kids.length)(C7:n.kids.length=n.keys.length+1)(hb:n.kids.length<=100000) :
  Calls Tryz.prog 319 #[.agg #[.bool false,ve,vk,vi],.int .i64 (a:Int)] w (zGm w (zW n a)):=by
 have m0:zF w (((w.alloc (.cells #[.bool false,ve,vk,vi] 200)).alloc (.cells zT 200)).alloc (.cells zT 200)):=(((zss w).alloc _).alloc _).alloc _;have A8:=oh (((zG.new w #[.bool false,ve,vk,vi] 200).alloc (.cells zT 200)).alloc (.cells zT 200));have Aq:Hid (zG (((w.alloc (.cells #[.bool false,ve,vk,vi] 200)).alloc (.cells zT 200)).alloc (.cells zT 200)) (w.heap.size+1) zT 200):=oh ((show zG ((w.alloc (.cells #[.bool false,ve,vk,vi] 200)).alloc (.cells zT 200)) (w.heap.size+1) zT 200 from zS (by simp)).alloc _);have Aj:Hid (zG (((w.alloc (.cells #[.bool false,ve,vk,vi] 200)).alloc (.cells zT 200)).alloc (.cells zT 200)) (w.heap.size+1+1) zT 200):=oh (zS (by simp));have Aa:=oh m0;have Bb:=oh Am;have Bc:=oh An;obtain⟨ka,kc,rfl,Dk,Cv,Dl,C8⟩:=Am;obtain⟨ia,ic,rfl,Cw,Bk,Cx,_⟩:=An;unfold maxLen at Cv Bk;obtain⟨b,Bl⟩:∃b,b=a-1:=⟨_,rfl⟩;have Az:b<n.keys.length:=by omega
 obtain⟨kb,koff,Bd,Bm,_,C9⟩:=Sl.at C8 (zA.refl F w) (λ_ _ h=>h) b Az;have Ak:=C9 0 (.string n.keys[b]) rfl;simp only[wC,uT] at Ak;have Bn:=oh Ak;have Cy:=oh Bd;have Be:Hid (zW n a=(⟨false,[],n.keys.take b,n.kids.take a⟩,n.keys[b],⟨false,[],n.keys.drop a,n.kids.drop a⟩)):=oh (by
  unfold zW;rw[if_neg (by rw[Ap];simp),<- Bl];simp[List.getD,Az])
 have u1:IntKind.i64.wrap ((a:Int)-1)=(b:Int):=by rw[IntWalk.i64_in _ (by omega)];omega
 have B4:Hid (∀W,zF w W->Sl F W 1 vW (.slice ka b kc) (n.keys.take b)):=oh (λW m=>(Bb.out.ext m).pre b (by omega));have B5:Hid (∀W,zF w W->Sl F W 1 yI (.slice ia a ic) (n.kids.take a)):=oh (λW m=>(Bc.out.ext m).pre a (by omega));have Bo:¬ kc=a:=by omega
 have Bp:¬ ic=a:=by omega
 have B0:Hid (∀W,zF w W->Sl F W 1 vW (.slice (ka.map (·.add a)) (n.keys.length-a) (kc-a)) (n.keys.drop a)):=oh (λW m=>by
  have:=(Bb.out.ext m).tail_ a (by omega);rw[if_neg Bo] at this;simpa only[wC] using this)
 have B1:Hid (∀W,zF w W->Sl F W 1 yI (.slice (ia.map (·.add a)) (n.kids.length-a) (ic-a)) (n.kids.drop a)):=oh (λW m=>by
  have:=(Bc.out.ext m).tail_ a (by omega);rw[if_neg Bp] at this;simpa only[wC] using this)
 have A2:Hid (b=(n.keys.take b).length/\a=(n.kids.take a).length/\n.keys.length-a=(n.keys.drop a).length/\n.kids.length-a=(n.kids.drop a).length):=oh ⟨by rw[wB];omega,by rw[wB];omega,by rw[wN],by rw[wN]⟩;have Dm:(a:Int)<=(n.kids.length:Int):=by omega
 have Dn:(a:Int)<=(n.keys.length:Int):=by omega
 have Bf:(0:Int)<=(b:Int):=by omega
 have Do:(b:Int)<=(kc:Int):=by omega
 have Dp:(a:Int)<=(ic:Int):=by omega
 have Dq:(0:Int)<=(a:Int):=by omega
 have Ca:(b:Int)<(n.keys.length:Int):=by omega
 have n2:=A8.out.k 2 rfl;have n3:=A8.out.k 3 rfl;obtain⟨w0,Ah⟩:∃w0,w0=((w.alloc (.cells #[.bool false,ve,.slice ka n.keys.length kc,.slice ia n.kids.length ic] 200)).alloc (.cells zT 200)).alloc (.cells zT 200):=⟨_,rfl⟩;rw[<- Ah] at Aq Aj Aa n2 n3;have Ab:w.heap.size+1+1<w0.heap.size:=Aj.out.lt;have Ai:w.heap.size<w0.heap.size:=by omega
 have B4:Hid (∀W,zF w0 W->Sl F W 1 vW (.slice ka b kc) (n.keys.take b)):=oh (λW m=>B4.out W (Aa.out.trans m));have B5:Hid (∀W,zF w0 W->Sl F W 1 yI (.slice ia a ic) (n.kids.take a)):=oh (λW m=>B5.out W (Aa.out.trans m));have B0:Hid (∀W,zF w0 W->Sl F W 1 vW (.slice (ka.map (·.add a)) (n.keys.length-a) (kc-a)) (n.keys.drop a)):=oh (λW m=>B0.out W (Aa.out.trans m));have B1:Hid (∀W,zF w0 W->Sl F W 1 yI (.slice (ia.map (·.add a)) (n.kids.length-a) (ic-a)) (n.kids.drop a)):=oh (λW m=>B1.out W (Aa.out.trans m));have xm:=(zA.refl (λ_=>False) w0).drew;have Dr:=oh Bl;have Ds:=oh C7;have Cz:n.keys.length<=100000:=by omega
 have Bg:=oh Ah;have D0:=oh Bm;clear m0 Ap C8 Bd Bm C9 Ak Bl C7 Ah
 go_enter Tryz.func319, Tryz.ntmps319
 go_wp2_with fail;rw[<- Bg.out];go_cut [9] (λv9 wx=>∃X,v9=.pointer (some ⟨X,0,none⟩)/\Hid (zOK w0 wx X (n.keys.take b) (n.kids.take a)))
 case first =>
  have n2b:=λo=>zR (x:=o) n2
  have n3b:=λo=>zR (x:=o) n3
  go_region_law
   (first
    | (go_simp;go_at_call 230;refine (zJn _ (n.keys.take b) (B4.out _ xm) (b) A2.out.1 (by have:=A2.out.1;omega)).mono ?_;rintro e wz ⟨a1,c1,rfl,A3,A0⟩;have n2:=zE (A0) n2;have n3:=zE (A0) n3;have n2b:=λo=>zR (x:=o) n2;have n3b:=λo=>zR (x:=o) n3;(first|have A4:=A4.ext (A0)|skip);have A3:=A3.rebase (base':=w0.heap.size) xm.size;(first|(have A1:=A1.ext A0;have y0:=A1.d 0 (.bool false) rfl;have y1:=A1.d 1 (.slice none 0 0) rfl;have y2:=A1.d 2 (.slice none 0 0) rfl;have y3:=A1.d 3 (.slice none 0 0) rfl;have yf:=A1.frozen)|skip);have xm:=xm.trans A0;have z0:=(zG.new wz zT 200).d 0 (.bool false) rfl;have z1:=(zG.new wz zT 200).d 1 (.slice none 0 0) rfl;have z2:=(zG.new wz zT 200).d 2 (.slice none 0 0) rfl;have z3:=(zG.new wz zT 200).d 3 (.slice none 0 0) rfl;have zf:=(zG.new wz zT 200).frozen)
    | (go_simp;go_at_call 230;refine (zJn _ (n.keys.take b) (B4.out _ (xm.alloc _)) (b) A2.out.1 (by have:=A2.out.1;omega)).mono ?_;rintro e wz ⟨a1,c1,rfl,A3,A0⟩;have A7:=xm.size;have Bq:=Nat.ne_of_lt (uF Ai A7);have Br:=Nat.ne_of_gt (uF Ai A7);(first|have A1:zG wz w0.heap.size zT 200:=(zG.new w0.drew zT 200).ext A0|have A1:=(zG.new _ zT 200).ext A0);have y0:=A1.d 0 (.bool false) rfl;have y1:=A1.d 1 (.slice none 0 0) rfl;have y2:=A1.d 2 (.slice none 0 0) rfl;have y3:=A1.d 3 (.slice none 0 0) rfl;have yf:=A1.frozen;have n2:=zE ((zr.alloc _).trans A0) n2;have n3:=zE ((zr.alloc _).trans A0) n3;have n2b:=λo=>zR (x:=o) n2;have n3b:=λo=>zR (x:=o) n3;(first|have A4:=A4.ext ((zr.alloc _).trans A0)|skip);have A3:=A3.rebase (base':=w0.heap.size) (uP A7 (by simp));have xm:=(xm.alloc _).trans A0;have z0:=(zG.new wz zT 200).d 0 (.bool false) rfl;have z1:=(zG.new wz zT 200).d 1 (.slice none 0 0) rfl;have z2:=(zG.new wz zT 200).d 2 (.slice none 0 0) rfl;have z3:=(zG.new wz zT 200).d 3 (.slice none 0 0) rfl;have zf:=(zG.new wz zT 200).frozen)
    | (go_simp;go_at_call 229;refine (zJp _ (n.kids.take a) (B5.out _ xm) (a) A2.out.2.1 (by have:=A2.out.2.1;omega)).mono ?_;rintro e wz ⟨a2,c2,rfl,A4,A0⟩;have n2:=zE (A0) n2;have n3:=zE (A0) n3;have n2b:=λo=>zR (x:=o) n2;have n3b:=λo=>zR (x:=o) n3;(first|have A3:=A3.ext (A0)|skip);have A4:=A4.rebase (base':=w0.heap.size) xm.size;(first|(have A1:=A1.ext A0;have y0:=A1.d 0 (.bool false) rfl;have y1:=A1.d 1 (.slice none 0 0) rfl;have y2:=A1.d 2 (.slice none 0 0) rfl;have y3:=A1.d 3 (.slice none 0 0) rfl;have yf:=A1.frozen)|skip);have xm:=xm.trans A0;have z0:=(zG.new wz zT 200).d 0 (.bool false) rfl;have z1:=(zG.new wz zT 200).d 1 (.slice none 0 0) rfl;have z2:=(zG.new wz zT 200).d 2 (.slice none 0 0) rfl;have z3:=(zG.new wz zT 200).d 3 (.slice none 0 0) rfl;have zf:=(zG.new wz zT 200).frozen)
    | (go_simp;go_at_call 229;refine (zJp _ (n.kids.take a) (B5.out _ (xm.alloc _)) (a) A2.out.2.1 (by have:=A2.out.2.1;omega)).mono ?_;rintro e wz ⟨a2,c2,rfl,A4,A0⟩;have A7:=xm.size;have Bq:=Nat.ne_of_lt (uF Ai A7);have Br:=Nat.ne_of_gt (uF Ai A7);(first|have A1:zG wz w0.heap.size zT 200:=(zG.new w0.drew zT 200).ext A0|have A1:=(zG.new _ zT 200).ext A0);have y0:=A1.d 0 (.bool false) rfl;have y1:=A1.d 1 (.slice none 0 0) rfl;have y2:=A1.d 2 (.slice none 0 0) rfl;have y3:=A1.d 3 (.slice none 0 0) rfl;have yf:=A1.frozen;have n2:=zE ((zr.alloc _).trans A0) n2;have n3:=zE ((zr.alloc _).trans A0) n3;have n2b:=λo=>zR (x:=o) n2;have n3b:=λo=>zR (x:=o) n3;(first|have A3:=A3.ext ((zr.alloc _).trans A0)|skip);have A4:=A4.rebase (base':=w0.heap.size) (uP A7 (by simp));have xm:=(xm.alloc _).trans A0;have z0:=(zG.new wz zT 200).d 0 (.bool false) rfl;have z1:=(zG.new wz zT 200).d 1 (.slice none 0 0) rfl;have z2:=(zG.new wz zT 200).d 2 (.slice none 0 0) rfl;have z3:=(zG.new wz zT 200).d 3 (.slice none 0 0) rfl;have zf:=(zG.new wz zT 200).frozen)
    | fail)
  all_goals
   go_wp2_with fail;go_meet;refine⟨_,rfl,oh ?_⟩;first
    | (with_reducible exact zMG A2.out.1 A2.out.2.1 xm A3 A4)
    | (with_reducible exact zGN A2.out.1 A2.out.2.1 xm A7 A1 A3 A4)
    | (with_reducible exact zGN A2.out.1 A2.out.2.1 xm (uD _) A1 A3 A4)
 obtain⟨X,rfl,Cb⟩:=hcut;obtain⟨k1,kc1,i1,ic1,Ac,D1,Bh,Cc,Cd⟩:=Cb.out;have n2:=zE Ac n2;have n3:=zE Ac n3;have B0:Hid (∀W,zF wc W->Sl F W 1 vW (.slice (ka.map (·.add a)) (n.keys.length-a) (kc-a)) (n.keys.drop a)):=oh (λW m=>B0.out W (Ac.trans m));have B1:Hid (∀W,zF wc W->Sl F W 1 yI (.slice (ia.map (·.add a)) (n.kids.length-a) (ic-a)) (n.kids.drop a)):=oh (λW m=>B1.out W (Ac.trans m));have Bs:=Ac.size;have D2:=oh (Aa.out.trans Ac);have Aq:=oh (Aq.out.ext Ac);have Aj:=oh (Aj.out.ext Ac);have Bn:=oh (zE (Aa.out.trans Ac) Bn.out);have Ar:=oh Bh;have As:=oh Cc;have At:=oh Cd;have Dt:Hid (X<wc.heap.size):=oh Bh.lt;have xm:=(zA.refl (λ_=>False) wc).drew;have Du:X<wc.heap.size:=Bh.lt;obtain⟨z0,Au⟩:∃z0,z0=w0.heap.size:=⟨_,rfl⟩;rw[<- Au] at Ab Ai D1 Bs;have As:Hid (yC (λ_=>False) wc z0 9 1 vW (.slice k1 (n.keys.take b).length kc1) (n.keys.take b)):=oh (by rw[Au];exact As.out);have At:Hid (yC (λ_=>False) wc z0 3 1 yI (.slice i1 (n.kids.take a).length ic1) (n.kids.take a)):=oh (by rw[Au];exact At.out);have Ai:w.heap.size<wc.heap.size:=by omega
 clear Ac Bh Cc Cd B4 B5 Aa A8 Bg Au Cb;obtain⟨w0,rfl⟩:∃x,x=wc:=⟨_,rfl⟩;go_wp2_with fail;go_cut [10] (λv9 wx=>∃X,v9=.pointer (some ⟨X,0,none⟩)/\Hid (zOK w0 wx X (n.keys.drop a) (n.kids.drop a)))
 case first =>
  have n2b:=λo=>zR (x:=o) n2
  have n3b:=λo=>zR (x:=o) n3
  go_region_law
   (first
    | (go_simp;go_at_call 230;refine (zJo _ (n.keys.drop a) (B0.out _ xm) (n.keys.length-a) A2.out.2.2.1 (by have:=A2.out.2.2.1;omega)).mono ?_;rintro e wz ⟨a1,c1,rfl,A3,A0⟩;have n2:=zE (A0) n2;have n3:=zE (A0) n3;have n2b:=λo=>zR (x:=o) n2;have n3b:=λo=>zR (x:=o) n3;(first|have A4:=A4.ext (A0)|skip);have A3:=A3.rebase (base':=w0.heap.size) xm.size;(first|(have A1:=A1.ext A0;have y0:=A1.d 0 (.bool false) rfl;have y1:=A1.d 1 (.slice none 0 0) rfl;have y2:=A1.d 2 (.slice none 0 0) rfl;have y3:=A1.d 3 (.slice none 0 0) rfl;have yf:=A1.frozen)|skip);have xm:=xm.trans A0;have z0:=(zG.new wz zT 200).d 0 (.bool false) rfl;have z1:=(zG.new wz zT 200).d 1 (.slice none 0 0) rfl;have z2:=(zG.new wz zT 200).d 2 (.slice none 0 0) rfl;have z3:=(zG.new wz zT 200).d 3 (.slice none 0 0) rfl;have zf:=(zG.new wz zT 200).frozen)
    | (go_simp;go_at_call 230;refine (zJo _ (n.keys.drop a) (B0.out _ (xm.alloc _)) (n.keys.length-a) A2.out.2.2.1 (by have:=A2.out.2.2.1;omega)).mono ?_;rintro e wz ⟨a1,c1,rfl,A3,A0⟩;have A7:=xm.size;have Bq:=Nat.ne_of_lt (uF Ai A7);have Br:=Nat.ne_of_gt (uF Ai A7);(first|have A1:zG wz w0.heap.size zT 200:=(zG.new w0.drew zT 200).ext A0|have A1:=(zG.new _ zT 200).ext A0);have y0:=A1.d 0 (.bool false) rfl;have y1:=A1.d 1 (.slice none 0 0) rfl;have y2:=A1.d 2 (.slice none 0 0) rfl;have y3:=A1.d 3 (.slice none 0 0) rfl;have yf:=A1.frozen;have n2:=zE ((zr.alloc _).trans A0) n2;have n3:=zE ((zr.alloc _).trans A0) n3;have n2b:=λo=>zR (x:=o) n2;have n3b:=λo=>zR (x:=o) n3;(first|have A4:=A4.ext ((zr.alloc _).trans A0)|skip);have A3:=A3.rebase (base':=w0.heap.size) (uP A7 (by simp));have xm:=(xm.alloc _).trans A0;have z0:=(zG.new wz zT 200).d 0 (.bool false) rfl;have z1:=(zG.new wz zT 200).d 1 (.slice none 0 0) rfl;have z2:=(zG.new wz zT 200).d 2 (.slice none 0 0) rfl;have z3:=(zG.new wz zT 200).d 3 (.slice none 0 0) rfl;have zf:=(zG.new wz zT 200).frozen)
    | (go_simp;go_at_call 229;refine (zJq _ (n.kids.drop a) (B1.out _ xm) (n.kids.length-a) A2.out.2.2.2 (by have:=A2.out.2.2.2;omega)).mono ?_;rintro e wz ⟨a2,c2,rfl,A4,A0⟩;have n2:=zE (A0) n2;have n3:=zE (A0) n3;have n2b:=λo=>zR (x:=o) n2;have n3b:=λo=>zR (x:=o) n3;(first|have A3:=A3.ext (A0)|skip);have A4:=A4.rebase (base':=w0.heap.size) xm.size;(first|(have A1:=A1.ext A0;have y0:=A1.d 0 (.bool false) rfl;have y1:=A1.d 1 (.slice none 0 0) rfl;have y2:=A1.d 2 (.slice none 0 0) rfl;have y3:=A1.d 3 (.slice none 0 0) rfl;have yf:=A1.frozen)|skip);have xm:=xm.trans A0;have z0:=(zG.new wz zT 200).d 0 (.bool false) rfl;have z1:=(zG.new wz zT 200).d 1 (.slice none 0 0) rfl;have z2:=(zG.new wz zT 200).d 2 (.slice none 0 0) rfl;have z3:=(zG.new wz zT 200).d 3 (.slice none 0 0) rfl;have zf:=(zG.new wz zT 200).frozen)
    | (go_simp;go_at_call 229;refine (zJq _ (n.kids.drop a) (B1.out _ (xm.alloc _)) (n.kids.length-a) A2.out.2.2.2 (by have:=A2.out.2.2.2;omega)).mono ?_;rintro e wz ⟨a2,c2,rfl,A4,A0⟩;have A7:=xm.size;have Bq:=Nat.ne_of_lt (uF Ai A7);have Br:=Nat.ne_of_gt (uF Ai A7);(first|have A1:zG wz w0.heap.size zT 200:=(zG.new w0.drew zT 200).ext A0|have A1:=(zG.new _ zT 200).ext A0);have y0:=A1.d 0 (.bool false) rfl;have y1:=A1.d 1 (.slice none 0 0) rfl;have y2:=A1.d 2 (.slice none 0 0) rfl;have y3:=A1.d 3 (.slice none 0 0) rfl;have yf:=A1.frozen;have n2:=zE ((zr.alloc _).trans A0) n2;have n3:=zE ((zr.alloc _).trans A0) n3;have n2b:=λo=>zR (x:=o) n2;have n3b:=λo=>zR (x:=o) n3;(first|have A3:=A3.ext ((zr.alloc _).trans A0)|skip);have A4:=A4.rebase (base':=w0.heap.size) (uP A7 (by simp));have xm:=(xm.alloc _).trans A0;have z0:=(zG.new wz zT 200).d 0 (.bool false) rfl;have z1:=(zG.new wz zT 200).d 1 (.slice none 0 0) rfl;have z2:=(zG.new wz zT 200).d 2 (.slice none 0 0) rfl;have z3:=(zG.new wz zT 200).d 3 (.slice none 0 0) rfl;have zf:=(zG.new wz zT 200).frozen)
    | fail)
  all_goals
   go_wp2_with fail;go_meet;refine⟨_,rfl,oh ?_⟩;first
    | (with_reducible exact zMG A2.out.2.2.1 A2.out.2.2.2 xm A3 A4)
    | (with_reducible exact zGN A2.out.2.2.1 A2.out.2.2.2 xm A7 A1 A3 A4)
    | (with_reducible exact zGN A2.out.2.2.1 A2.out.2.2.2 xm (uD _) A1 A3 A4)
 obtain⟨Y,rfl,Ce⟩:=hcut;obtain⟨k2,kc2,i2,ic2,A9,Dv,B6,Cf,Cg⟩:=Ce.out;have n2:=zE A9 n2;have Ar:=Ar.out.ext A9;have Bd:=Cy.out;have Ak:=zE A9 Bn.out;have A5:=Aq.out.ext A9;have A6:=Aj.out.ext A9;have Bm:=D0.out;subst Bd;have p0:=Ar.k 0 rfl;have p1:=Ar.k 1 rfl;have p2:=Ar.k 2 rfl;have p3:=Ar.k 3 rfl;have q0:=B6.k 0 rfl;have q1:=B6.k 1 rfl;have q2:=B6.k 2 rfl;have q3:=B6.k 3 rfl;have r0:=A5.k 0 rfl;have r1:=A5.k 1 rfl;have r2:=A5.k 2 rfl;have r3:=A5.k 3 rfl;have rf:=A5.frozen;have s0:=A6.k 0 rfl;have s1:=A6.k 1 rfl;have s2:=A6.k 2 rfl;have s3:=A6.k 3 rfl;have sf:=A6.frozen;have Dw:X≠w.heap.size+1:=by omega
 have Dx:X≠w.heap.size+1+1:=by omega
 have Dy:Y≠w.heap.size+1:=by omega
 have Dz:Y≠w.heap.size+1+1:=by omega
 have E0:kb≠w.heap.size+1:=by omega
 have E1:kb≠w.heap.size+1+1:=by omega
 have As:=oh (As.out.ext A9);have At:=oh (At.out.ext A9);have Bt:=oh Cf;have Bu:=oh Cg;have Bv:=oh (D2.out.trans A9);have Bw:=oh A5;have Bx:=oh A6;obtain⟨kp,Ch⟩:∃kp,kp=(n.keys.take b).length:=⟨_,rfl⟩;obtain⟨ip,Ci⟩:∃ip,ip=(n.kids.take a).length:=⟨_,rfl⟩;obtain⟨kq,Cj⟩:∃kq,kq=(n.keys.drop a).length:=⟨_,rfl⟩;obtain⟨iq,Ck⟩:∃iq,iq=(n.kids.drop a).length:=⟨_,rfl⟩;rw[<- Ch] at p2 As;rw[<- Ci] at p3 At;rw[<- Cj] at q2 Bt;rw[<- Ck] at q3 Bu;have D3:Hid (w.heap.size+1+1<z0/\z0<=w0.heap.size):=oh ⟨Ab,Bs⟩;clear A9 B6 Cf Cg Ar A5 A6 Ce Ch Ci Cj Ck xm Bs;go_wp2_with fail;go_region
 go_wp2_with fail;have mA:=zA.set4 (F:=λk=>k=w.heap.size+1) (zss wc) (R:=w.heap.size+1) (.inr rfl) (.bool false) (.slice none 0 0) (.slice k1 kp kc1) (.slice i1 ip ic1);have hA:=Bw.out.set4 (.bool false) (.slice none 0 0) (.slice k1 kp kc1) (.slice i1 ip ic1);have By:=Bx.out.mods mA (by omega);have hB:=By.set4 (.bool false) (.slice none 0 0) (.slice k2 kq kc2) (.slice i2 iq ic2);have mB:=zA.set4 (F:=λk=>k=w.heap.size+1+1) (zA.refl _ ((((wc.setCell ⟨w.heap.size+1,0,none⟩ (.bool false)).setCell ⟨w.heap.size+1,1,none⟩ (.slice none 0 0)).setCell ⟨w.heap.size+1,2,none⟩ (.slice k1 kp kc1)).setCell ⟨w.heap.size+1,3,none⟩ (.slice i1 ip ic1))) (R:=w.heap.size+1+1) (.inr rfl) (.bool false) (.slice none 0 0) (.slice k2 kq kc2) (.slice i2 iq ic2);have Bz:=hA.mods mB (by omega);have hx:=(zA.set4 (zA.set4 Bv.out (R:=w.heap.size+1) (.inl (by omega)) (.bool false) (.slice none 0 0) (.slice k1 kp kc1) (.slice i1 ip ic1)) (R:=w.heap.size+1+1) (.inl (by omega)) (.bool false) (.slice none 0 0) (.slice k2 kq kc2) (.slice i2 iq ic2)).drew;have E2:=D3.out;have e1:∀g,(Value.slice k1 kp kc1).ownBlock=some g->w.heap.size+1+1<g:=λg hg=>by have:=(As.out.lt g hg).1;omega
 have e2:∀g,(Value.slice i1 ip ic1).ownBlock=some g->w.heap.size+1+1<g:=λg hg=>by have:=(At.out.lt g hg).1;omega
 have e3:∀g,(Value.slice k2 kq kc2).ownBlock=some g->w.heap.size+1+1<g:=λg hg=>by have:=(Bt.out.lt g hg).1;omega
 have e4:∀g,(Value.slice i2 iq ic2).ownBlock=some g->w.heap.size+1+1<g:=λg hg=>by have:=(Bu.out.lt g hg).1;omega
 have o1:=((As.out.mods mA (λg hg=>by have:=e1 g hg;omega)).mods mB (λg hg=>by have:=e1 g hg;omega)).rebase (base':=w.heap.size) (by omega);have o2:=((At.out.mods mA (λg hg=>by have:=e2 g hg;omega)).mods mB (λg hg=>by have:=e2 g hg;omega)).rebase (base':=w.heap.size) (by omega);have o3:=((Bt.out.mods mA (λg hg=>by have:=e3 g hg;omega)).mods mB (λg hg=>by have:=e3 g hg;omega)).rebase (base':=w.heap.size) (by omega);have o4:=((Bu.out.mods mA (λg hg=>by have:=e4 g hg;omega)).mods mB (λg hg=>by have:=e4 g hg;omega)).rebase (base':=w.heap.size) (by omega);refine bodyPost_ret (zCz rfl _ _ (w.heap.size+1) (w.heap.size+1+1) 200 200 _ _ _ rfl Bz.drew rfl hB.drew rfl Tryz.underlying200 rfl Tryz.nodeSz rfl) rfl ?_;unfold zGm;rw[Be.out];exact⟨_,_,rfl,⟨_,_,_,rfl,yC.nil _ _ _ _ _ _,o1.ext zr.drew,o2.ext zr.drew⟩,⟨_,_,_,rfl,yC.nil _ _ _ _ _ _,o3.ext zr.drew,o4.ext zr.drew⟩,hx⟩
end
def zTM(w:World)(n:zI)(e:Ending)(w':World):Prop :=
 zF w w'/\((∃x va vb,zEa n=some x/\e=.returned (.tuple #[va,.string x.2.1,vb,.bool true])/\zMD w' w.heap.size va x.1/\zMD w' w.heap.size vb x.2.2) \/
  (zEa n=none/\e=.returned (.tuple #[.agg zT,.string ⟨#[]⟩,.agg zT,.bool false])))
section
variable {F:NP}{ad:Nat->Addr}{w w':World}
theorem zPR(n:zI)(hf:zBB n)(ve vk vi:Value)(B7:Sl F w 4 zAQ ve n.entries)(Am:Sl F w 1 vW vk n.keys)(An:Sl F w 1 yI vi n.kids)(a:Nat)(hp:zBV n a)(Az:n.entries.length<=100000)(Bf:n.kids.length<=100000)(b:Bool)(hb:n.leaf=b) :
  Calls Tryz.prog 319 #[.agg #[.bool b,ve,vk,vi],.int .i64 (a:Int)] w (zGm w (zW n a)):=by
 subst hb;cases hl:n.leaf with
 | true=>exact zNP n hl ve vk vi B7 a (hp.leaf hl) Az
 | false =>
  have:n.kids.length=n.keys.length+1:=by unfold zBB at hf;rw[if_neg (by rw[hl];simp)] at hf;exact hf.2
  exact zNS n hl ve vk vi Am An a (hp.inner hl) this Bf
theorem zOL(n:zI){base:Nat}{v:Value}(h:zMD w base v n)(h1:n.entries.length<=100000)(h2:n.keys.length<=100000)(hb:zH n<=100000)(W:World)(m:zF w W) :
  Calls Tryz.prog 293 #[v] W λe w'=>e=.returned (.int .i64 (zH n))/\zF W w':=by
 obtain⟨ve,vk,vi,rfl,o1,o2,o3⟩:=h;exact zHz (F:=λ_=>False) (vi:=vi) n ve vk W ((o1.ext m).sl zBl.len (by omega)) ((o2.ext m).sl zBm.len (by omega)) (by omega)
end
theorem zPS{n:zI}(hr:zO n=true)(hm:0<jT n):zEa n=some (zW n (vD (zA0 n) (vJ n) (vJ n) (jT n))):=by
 unfold zEa;rw[if_pos ⟨hr,hm⟩]
theorem zPT{n:zI}(h:¬ (zO n=true/\0<jT n)):zEa n=none:=by
 unfold zEa;rw[if_neg h]
theorem zNT(n:zI)(a:Nat):(zW n a).1.entries.length<=n.entries.length/\(zW n a).1.keys.length<=n.keys.length/\(zW n a).2.2.entries.length<=n.entries.length/\(zW n a).2.2.keys.length<=n.keys.length:=by
 unfold zW;split <;> simp only[wB,wN,uL] <;> omega
section
variable {F:NP}{ad:Nat->Addr}{w w':World}
theorem zRr(hL:yH F ad w)(n:zI)(ve vk vi:Value)(B7:Sl F w 4 zAQ ve n.entries)(Am:Sl F w 1 vW vk n.keys)(An:Sl F w 1 yI vi n.kids)(B8:zO n=true->(yE n).length<=100000)(Az:n.entries.length<=100000)(Bf:n.kids.length<=100000)(E3:n.keys.length<=100000) :
  Calls Tryz.prog 289 #[.agg #[.bool n.leaf,ve,vk,vi]] w (zTM w n):=by
 have Cl:=oh (λW (m:zF w W)=>zFS (hL.mods m.ext) n ve vk vi (B7.ext m) (Am.ext m) (An.ext m));have D4:=oh B7;have Bb:=oh Am;have Bc:=oh An;obtain⟨ea,ec,rfl,E4,D5,E5,_⟩:=B7;obtain⟨ka,kc,rfl,_,_,_,_⟩:=Am;obtain⟨ia,ic,rfl,Cw,Bk,Cx,_⟩:=An;unfold maxLen at D5 Bk;obtain⟨fr,C0⟩:∃fr,fr=vJ n:=⟨_,rfl⟩;obtain⟨M,hM⟩:∃M,M=jT n:=⟨_,rfl⟩;have C1:=oh C0;have HM:=oh hM;have C2:=oh B8;obtain⟨lf,Ap⟩:∃lf,n.leaf=lf:=⟨_,rfl⟩;rw[Ap] at Cl ⊢;have D6:=oh Ap;obtain⟨w0,Ah⟩:∃w0,w0=((w.alloc (.cells #[.bool lf,.slice ea n.entries.length ec,.slice ka n.keys.length kc,.slice ia n.kids.length ic] 200)).alloc (.cells zT 200)).alloc (.cells zT 200):=⟨_,rfl⟩;have Aa:Hid (zF w w0):=oh (by rw[Ah];exact (((zss w).alloc _).alloc _).alloc _);have A8:Hid (zG w0 w.heap.size #[.bool lf,.slice ea n.entries.length ec,.slice ka n.keys.length kc,.slice ia n.kids.length ic] 200):=oh (by rw[Ah];exact ((zG.new w _ _).alloc _).alloc _);have Aq:Hid (zG w0 (w.heap.size+1) zT 200):=oh (by rw[Ah];exact (show zG ((w.alloc _).alloc (.cells zT 200)) (w.heap.size+1) zT 200 from zS (by simp)).alloc _);have Aj:Hid (zG w0 (w.heap.size+1+1) zT 200):=oh (by rw[Ah];exact zS (by simp));have B2:Hid ((lf=true->fr=1/\M=n.entries.length-1)/\(lf=false->fr=2/\M=n.kids.length-3)):=oh (by
  rw[C0,hM];unfold vJ jT;rw[Ap];exact⟨λh=>by rw[h];exact⟨rfl,rfl⟩,λh=>by rw[h];exact⟨rfl,rfl⟩⟩)
 have b0:=A8.out.k 0 rfl;have b1:=A8.out.k 1 rfl;have b2:=A8.out.k 2 rfl;have b3:=A8.out.k 3 rfl;have u1:IntKind.i64.wrap ((n.entries.length:Int)-1)=(n.entries.length:Int)-1:=by rw[IntWalk.i64_in _ (by omega)]
 have u2:IntKind.i64.wrap ((n.kids.length:Int)-2)=(n.kids.length:Int)-2:=by rw[IntWalk.i64_in _ (by omega)]
 have Bg:=oh Ah;clear C0 hM B8 hL Ap Ah;obtain⟨T,hT⟩:∃T:Int,(M=0->T<(fr:Int))/\(0<M->T=(fr:Int)+(M:Int)-1)/\T=(if lf=true then (n.entries.length:Int)-1 else (n.kids.length:Int)-2):=⟨_,by
  have:=B2.out;cases lf
  .obtain⟨h1,h2⟩:=this.2 rfl;simp only[wI,tX];omega
  .obtain⟨h1,h2⟩:=this.1 rfl;simp only[tU];omega,by
  have:=B2.out;cases lf
  .obtain⟨h1,h2⟩:=this.2 rfl;simp only[wI,tX];omega
  .obtain⟨h1,h2⟩:=this.1 rfl;simp only[tU];omega,rfl⟩
 have HT:=oh hT;clear hT
 go_enter Tryz.func289, Tryz.ntmps289
 go_wp2_with fail;rw[<- Bg.out];go_quiet (fail)
 go_upto_if 24 with fail
 go_cut [6,7] (λv6 v7 wx=>v6=.int .i64 (fr:Int)/\v7=.int .i64 T/\Hid (zF w0 wx))
 case first =>
  cases lf
  .have B9:=HT.out.2.2;have HF:=B2.out.2 rfl;simp only[wI,tX] at B9;go_wp2_with fail;go_quiet (fail)
   go_wp2_with fail;go_meet;exact⟨by rw[HF.1];rfl,by rw[B9],oh ((zr.drewN _).drewN _)⟩
  .have B9:=HT.out.2.2;have HF:=B2.out.1 rfl;simp only[tU] at B9;go_wp2_with fail;go_meet;exact⟨by rw[HF.1];rfl,by rw[B9],oh (zr.drewN _)⟩
 obtain⟨rfl,rfl,HX⟩:=hcut;have b0:=(A8.out.ext HX.out).k 0 rfl;have b1:=(A8.out.ext HX.out).k 1 rfl;have b2:=(A8.out.ext HX.out).k 2 rfl;have b3:=(A8.out.ext HX.out).k 3 rfl;go_wp2_with fail;refine (Cl.out _ (Aa.out.trans HX.out)).mono ?_;rintro e w1 ⟨ev,rfl,hE,Ac⟩;have Bi:=oh (HX.out.trans Ac);have A5:=Aq.out.ext Bi.out;have A6:=Aj.out.ext Bi.out;clear Ac b0 b1 b2 b3;by_cases hcut:zO n=true/\0<M
 .obtain⟨hr,Cm⟩:=hcut;have B3:ev=.nilIface:=by
   have:zCN n=none:=by unfold zCN;rw[if_pos hr]
   rw[this] at hE;exact hE
  subst B3;have HR:=oh hr;have Ad:=vB hr;have Cn:=oh Ad;have D7:Hid (zH n<=100000):=oh (by rw[zA3 Ad];have:=C2.out hr;omega);have hT:=HT.out.2.1 Cm;have D8:fr<=2:=by
   have:=B2.out;cases lf
   .have:=(this.2 rfl).1;omega
   .have:=(this.1 rfl).1;omega
  have E6:M<=100000:=by
   have:=B2.out;cases lf
   .have:=(this.2 rfl).2;omega
   .have:=(this.1 rfl).2;omega
  have D9:(fr:Int)<=T:=by omega
  have Co:Hid (∀p,fr<=p->p<fr+M->zBV n p):=oh (λp h1 h2=>zLz (by rw[<- C1.out];exact h1) (by rw[<- C1.out,<- HM.out];exact h2));have Da:Hid (∀p,zBV n p->zH (zW n p).1<=100000/\zH (zW n p).2.2<=100000/\2<=zH (zW n p).1/\2<=zH (zW n p).2.2):=oh (λp _=>by
   have:=zKn (n:=n) (a:=p);have:=D7.out;have:=zIX (zW n p).1;have:=zIX (zW n p).2.2;omega)
  have Be:Hid (∀W,zF w0 W->∀p,zBV n p -> Calls Tryz.prog 319 #[.agg #[.bool lf,.slice ea n.entries.length ec,.slice ka n.keys.length kc,.slice ia n.kids.length ic],.int .i64 (p:Int)] W (zGm W (zW n p))):=oh (λW m p hp =>
   zPR n Cn.out _ _ _ (D4.out.ext (Aa.out.trans m)) (Bb.out.ext (Aa.out.trans m)) (Bc.out.ext (Aa.out.trans m)) p hp Az Bf lf D6.out)
  clear hE hr Ad A5 A6;go_wp2_with fail;go_loopg [8,9,10] M (λm v8 v9 v10 wr=>∃(j b:Nat) (z:Int),j+m=M/\v10=.int .i64 (((fr+j:Nat):Int))/\v8=.int .i64 (b:Int)/\v9=.int .i64 z/\fr<=b/\b<fr+M/\z<=100000/\Hid ((j=0->z = -1/\b=fr)/\(0<j->z=(zA0 n b:Int))/\vD (zA0 n) b (fr+j) m=vD (zA0 n) fr fr M)/\Hid (zF w0 wr))
  case atStart=>exact⟨0,fr, -1,by omega,rfl,rfl,rfl,by omega,by omega,by omega,oh ⟨λ_=>⟨rfl,rfl⟩,λh=>by omega,rfl⟩,Bi⟩
  case round =>
   obtain⟨j,b,z,E7,rfl,rfl,rfl,Ca,Db,hz,HQ,Al⟩:=hrel;have b0:=(A8.out.ext Al.out).k 0 rfl;have b1:=(A8.out.ext Al.out).k 1 rfl;have b2:=(A8.out.ext Al.out).k 2 rfl;have b3:=(A8.out.ext Al.out).k 3 rfl;by_cases E8:j<M
   .have hp:=Co.out (fr+j) (by omega) (by omega);have Dc:((fr+j:Nat):Int)<=T:=by omega
    go_wp2_with fail;refine (Be.out _ Al.out (fr+j) hp).mono ?_;have Ae:=Da.out _ hp;have Av:=zDu Cn.out hp;have C3:=zNT n (fr+j);generalize zW n (fr+j)=x at Ae Av C3
    obtain⟨A,kx,B⟩:=x;rintro e w2 ⟨va,vb,rfl,hA,hB,A9⟩;simp only at hA hB Ae Av C3;have Aw:=λW (m:zF w2 W)=>zOL A hA (by omega) (by omega) Ae.1 W m
    have Ax:=λW (m:zF w2 W)=>zOL B hB (by omega) (by omega) Ae.2.1 W m
    obtain⟨e1,k1,i1,rfl,oe1,ok1,oi1⟩:=hA;obtain⟨e2,k2,i2,rfl,oe2,ok2,oi2⟩:=hB;obtain⟨ea1,ec1,rfl,_,_⟩:=oe1.form;obtain⟨ka1,kc1,rfl,_,_⟩:=ok1.form;obtain⟨ia1,ic1,rfl,_,_⟩:=oi1.form;obtain⟨ea2,ec2,rfl,_,_⟩:=oe2.form;obtain⟨ka2,kc2,rfl,_,_⟩:=ok2.form;obtain⟨ia2,ic2,rfl,_,_⟩:=oi2.form;obtain⟨wa,Cp⟩:∃wa,wa=zH A:=⟨_,rfl⟩;obtain⟨wb,Cq⟩:∃wb,wb=zH B:=⟨_,rfl⟩;rw[<- Cp] at Aw Ae Av;rw[<- Cq] at Ax Ae Av;have Dd:=oh Aw;have De:=oh Ax;obtain⟨D,hD⟩:∃D:Int,D=(zA0 n (fr+j):Int):=⟨_,rfl⟩;rw[<- hD] at Av;have HD:=oh hD;have Cz:=Ae.1;have E9:=Ae.2.1;have Ea:=Ae.2.2.1;have Eb:=Ae.2.2.2;have Ay:=oh Av;obtain⟨w3,Ab⟩:∃w3,w3=(w2.alloc (.cells #[.bool A.leaf,.slice ea1 A.entries.length ec1,.slice ka1 A.keys.length kc1,.slice ia1 A.kids.length ic1] 200)).alloc (.cells #[.bool B.leaf,.slice ea2 B.entries.length ec2,.slice ka2 B.keys.length kc2,.slice ia2 B.kids.length ic2] 200):=⟨_,rfl⟩;have C4:Hid (zF w2 w3):=oh (by rw[Ab];exact (zr.alloc _).alloc _);have Af:zG w3 w2.heap.size #[.bool A.leaf,.slice ea1 A.entries.length ec1,.slice ka1 A.keys.length kc1,.slice ia1 A.kids.length ic1] 200:=by rw[Ab];exact (zG.new w2 _ _).alloc _
    have Ag:zG w3 (w2.heap.size+1) #[.bool B.leaf,.slice ea2 B.entries.length ec2,.slice ka2 B.keys.length kc2,.slice ia2 B.kids.length ic2] 200:=by rw[Ab];exact zS (by simp)
    have p0:=Af.k 0 rfl;have p1:=Af.k 1 rfl;have p2:=Af.k 2 rfl;have p3:=Af.k 3 rfl;have q0:=Ag.k 0 rfl;have q1:=Ag.k 1 rfl;have q2:=Ag.k 2 rfl;have q3:=Ag.k 3 rfl;have C5:=oh (Al.out.trans (A9.trans C4.out));have C6:=oh Ab;have xm:=(zA.refl (λ_=>False) w3).drew;have u3:IntKind.i64.wrap (wa-wb)=wa-wb:=by rw[IntWalk.i64_in _ (by omega)]
    clear Aw Ax Cp Cq Ae Av C3 Ab Af Ag A9 oe1 ok1 oi1 oe2 ok2 oi2 hD;go_wp2_with fail;rw[<- C6.out];go_cut [14] (λv14 wx=>v14=.int .i64 (wa-wb)/\Hid (zF w3 wx))
    case first =>
     go_region_held3 (λw'=>w'.cell? ⟨w2.heap.size,0,none⟩=some (.bool A.leaf)/\w'.cell? ⟨w2.heap.size,1,none⟩=some (.slice ea1 A.entries.length ec1)/\w'.cell? ⟨w2.heap.size,2,none⟩=some (.slice ka1 A.keys.length kc1)/\w'.cell? ⟨w2.heap.size,3,none⟩=some (.slice ia1 A.kids.length ic1) /\
       w'.cell? ⟨w2.heap.size+1,0,none⟩=some (.bool B.leaf)/\w'.cell? ⟨w2.heap.size+1,1,none⟩=some (.slice ea2 B.entries.length ec2)/\w'.cell? ⟨w2.heap.size+1,2,none⟩=some (.slice ka2 B.keys.length kc2)/\w'.cell? ⟨w2.heap.size+1,3,none⟩=some (.slice ia2 B.kids.length ic2))
      (first|(with_reducible exact⟨p0,p1,p2,p3,q0,q1,q2,q3⟩)|go_keep)
      (first
       | (go_at_call 293;(with_reducible refine (Dd.out _ (C4.out.trans xm)).mono ?_);rintro e wz ⟨rfl,A0⟩;have p0:=zE A0 p0;have p1:=zE A0 p1;have p2:=zE A0 p2;have p3:=zE A0 p3;have q0:=zE A0 q0;have q1:=zE A0 q1;have q2:=zE A0 q2;have q3:=zE A0 q3;have xm:=xm.trans A0)
       | (go_at_call 293;(with_reducible refine (De.out _ (C4.out.trans xm)).mono ?_);rintro e wz ⟨rfl,A0⟩;have p0:=zE A0 p0;have p1:=zE A0 p1;have p2:=zE A0 p2;have p3:=zE A0 p3;have q0:=zE A0 q0;have q1:=zE A0 q1;have q2:=zE A0 q2;have q3:=zE A0 q3;have xm:=xm.trans A0)
       | fail)
     all_goals
      go_wp2_with fail;go_meet;exact⟨rfl,oh xm⟩
    obtain⟨rfl,Ba⟩:=hcut;have Ba:=oh (C5.out.trans Ba.out);clear xm p0 p1 p2 p3 q0 q1 q2 q3;go_upto_if 59 with fail
    go_cut [14] (λv14 wx=>v14=.int .i64 D/\Hid (wx=wc))
    case first =>
     by_cases hd:wa-wb<0
     .go_wp2_with fail;go_meet;exact⟨by have:=Ay.out;rw[if_pos hd] at this;rw[this],oh rfl⟩
     .go_wp2_with fail;go_meet;exact⟨by have:=Ay.out;rw[if_neg (by omega)] at this;rw[this],oh rfl⟩
    obtain⟨rfl,HE⟩:=hcut;obtain rfl:=HE.out;have Df:0<=D/\D<=100000:=by have:=Ay.out;split at this <;> omega
    obtain⟨Dg,Dh⟩:=Df;obtain⟨m,rfl⟩:∃m,gk=m+1:=⟨gk-1,by omega⟩;by_cases Au:z<0
    .have HJ:Hid (j=0/\b=fr):=oh (by
      obtain⟨h1,h2,_⟩:=HQ.out;rcases tV j with h|h
      .exact⟨h,(h1 h).2⟩
      .have:=h2 h;omega)
     go_wp2_with fail;go_roundg m
     case measure=>omega
     case rel=>exact⟨j+1,fr+j,D,by omega,by go_num,by go_num,rfl,by omega,by omega,by omega,oh ⟨λh=>by omega,λ_=>HD.out,by
      have:=HQ.out.2.2;rw[HJ.out.2,HJ.out.1,uT,zI6] at this;rw[HJ.out.1,uT,wG];exact this⟩,Ba⟩
    .have Di:0<j:=by
      rcases tV j with h|h
      .have:=(HQ.out.1 h).1;omega
      .exact h
     have HZ:Hid (z=(zA0 n b:Int)):=oh (HQ.out.2.1 Di);by_cases Ec:D<z
     .go_wp2_with fail;go_roundg m
      case measure=>omega
      case rel=>exact⟨j+1,fr+j,D,by omega,by go_num,by go_num,rfl,by omega,by omega,by omega,oh ⟨λh=>by omega,λ_=>HD.out,by
       have:=HQ.out.2.2;rw[vD,if_pos (by have:=HD.out;have:=HZ.out;omega)] at this;exact this⟩,Ba⟩
     .go_wp2_with fail;go_roundg m
      case measure=>omega
      case rel=>exact⟨j+1,b,z,by omega,by go_num,rfl,rfl,by omega,by omega,by omega,oh ⟨λh=>by omega,λ_=>HZ.out,by
       have:=HQ.out.2.2;rw[vD,if_neg (by have:=HD.out;have:=HZ.out;omega)] at this;exact this⟩,Ba⟩
   .have Dc:¬ ((fr+j:Nat):Int)<=T:=by omega
    have hp:=Co.out b Ca Db;go_wp2_with fail;refine (Be.out _ Al.out b hp).mono ?_;have Cr:Hid (zEa n=some (zW n b)):=oh (by
     rw[zPS HR.out (by rw[<- HM.out];exact Cm),<- C1.out,<- HM.out,<- HQ.out.2.2,show gk=0 by omega,vD])
    generalize zW n b=x at Cr
    obtain⟨A,kx,B⟩:=x;rintro e w2 ⟨va,vb,rfl,hA,hB,A9⟩;simp only at hA hB;obtain⟨e1,k1,i1,rfl,oe1,ok1,oi1⟩:=hA;obtain⟨e2,k2,i2,rfl,oe2,ok2,oi2⟩:=hB;obtain⟨ea1,ec1,rfl,_,_⟩:=oe1.form;obtain⟨ka1,kc1,rfl,_,_⟩:=ok1.form;obtain⟨ia1,ic1,rfl,_,_⟩:=oi1.form;obtain⟨ea2,ec2,rfl,_,_⟩:=oe2.form;obtain⟨ka2,kc2,rfl,_,_⟩:=ok2.form;obtain⟨ia2,ic2,rfl,_,_⟩:=oi2.form;obtain⟨w3,Ab⟩:∃w3,w3=(w2.alloc (.cells #[.bool A.leaf,.slice ea1 A.entries.length ec1,.slice ka1 A.keys.length kc1,.slice ia1 A.kids.length ic1] 200)).alloc (.cells #[.bool B.leaf,.slice ea2 B.entries.length ec2,.slice ka2 B.keys.length kc2,.slice ia2 B.kids.length ic2] 200):=⟨_,rfl⟩;have Ao:zF w2 w3:=by rw[Ab];exact (zr.alloc _).alloc _
    have Af:zG w3 w2.heap.size #[.bool A.leaf,.slice ea1 A.entries.length ec1,.slice ka1 A.keys.length kc1,.slice ia1 A.kids.length ic1] 200:=by rw[Ab];exact (zG.new w2 _ _).alloc _
    have Ag:zG w3 (w2.heap.size+1) #[.bool B.leaf,.slice ea2 B.entries.length ec2,.slice ka2 B.keys.length kc2,.slice ia2 B.kids.length ic2] 200:=by rw[Ab];exact zS (by simp)
    have Bj:=Al.out.trans (A9.trans Ao);have Bv:=oh (Aa.out.trans Bj);have A5:=Aq.out.ext Bj;have A6:=Aj.out.ext Bj;have o1:=oe1.ext Ao;have o2:=ok1.ext Ao;have o3:=oi1.ext Ao;have o4:=oe2.ext Ao;have o5:=ok2.ext Ao;have o6:=oi2.ext Ao;have p0:=Af.k 0 rfl;have p1:=Af.k 1 rfl;have p2:=Af.k 2 rfl;have p3:=Af.k 3 rfl;have q0:=Ag.k 0 rfl;have q1:=Ag.k 1 rfl;have q2:=Ag.k 2 rfl;have q3:=Ag.k 3 rfl;have r0:=A5.k 0 rfl;have r1:=A5.k 1 rfl;have r2:=A5.k 2 rfl;have r3:=A5.k 3 rfl;have rf:=A5.frozen;have s0:=A6.k 0 rfl;have s1:=A6.k 1 rfl;have s2:=A6.k 2 rfl;have s3:=A6.k 3 rfl;have sf:=A6.frozen;have Au:w.heap.size+1+1<w0.heap.size:=Aj.out.lt;have Ed:w.heap.size+1+1<wr.heap.size:=uF Au Al.out.size;have Ee:wr.heap.size<=w2.heap.size:=A9.size;have Ef:w2.heap.size≠w.heap.size+1:=by omega
    have Eg:w2.heap.size≠w.heap.size+1+1:=by omega
    have Eh:w2.heap.size+1≠w.heap.size+1:=by omega
    have Ei:w2.heap.size+1≠w.heap.size+1+1:=by omega
    have Bw:=oh A5;have Bx:=oh A6;have HO:=oh (And.intro o1 (And.intro o2 (And.intro o3 (And.intro o4 (And.intro o5 o6)))));have C6:=oh Ab;clear A5 A6 Af Ag A9 Ao Bj o1 o2 o3 o4 o5 o6 oe1 ok1 oi1 oe2 ok2 oi2 Ab;go_wp2_with fail;rw[<- C6.out];go_region
    go_wp2_with fail;have mA:=zA.set4 (F:=λk=>k=w.heap.size+1) (zss w3) (R:=w.heap.size+1) (.inr rfl) (.bool A.leaf) (.slice ea1 A.entries.length ec1) (.slice ka1 A.keys.length kc1) (.slice ia1 A.kids.length ic1);have hA:=Bw.out.set4 (.bool A.leaf) (.slice ea1 A.entries.length ec1) (.slice ka1 A.keys.length kc1) (.slice ia1 A.kids.length ic1);have By:=Bx.out.mods mA (by omega);have hB:=By.set4 (.bool B.leaf) (.slice ea2 B.entries.length ec2) (.slice ka2 B.keys.length kc2) (.slice ia2 B.kids.length ic2);have mB:=zA.set4 (F:=λk=>k=w.heap.size+1+1) (zA.refl _ ((((w3.setCell ⟨w.heap.size+1,0,none⟩ (.bool A.leaf)).setCell ⟨w.heap.size+1,1,none⟩ (.slice ea1 A.entries.length ec1)).setCell ⟨w.heap.size+1,2,none⟩ (.slice ka1 A.keys.length kc1)).setCell ⟨w.heap.size+1,3,none⟩ (.slice ia1 A.kids.length ic1))) (R:=w.heap.size+1+1) (.inr rfl) (.bool B.leaf) (.slice ea2 B.entries.length ec2) (.slice ka2 B.keys.length kc2) (.slice ia2 B.kids.length ic2);have Bz:=hA.mods mB (by omega);have hx:=(zA.set4 (zA.set4 Bv.out (R:=w.heap.size+1) (.inl (by omega)) (.bool A.leaf) (.slice ea1 A.entries.length ec1) (.slice ka1 A.keys.length kc1) (.slice ia1 A.kids.length ic1)) (R:=w.heap.size+1+1) (.inl (by omega)) (.bool B.leaf) (.slice ea2 B.entries.length ec2) (.slice ka2 B.keys.length kc2) (.slice ia2 B.kids.length ic2)).drew;obtain⟨o1,o2,o3,o4,o5,o6⟩:=HO.out;have f1:=λg hg=>(o1.lt g hg).1
    have f2:=λg hg=>(o2.lt g hg).1
    have f3:=λg hg=>(o3.lt g hg).1
    have f4:=λg hg=>(o4.lt g hg).1
    have f5:=λg hg=>(o5.lt g hg).1
    have f6:=λg hg=>(o6.lt g hg).1
    have o1:=(((o1.mods mA (λg hg=>by have:=f1 g hg;omega)).mods mB (λg hg=>by have:=f1 g hg;omega)).rebase (base':=w.heap.size) (by omega)).ext zr.drew;have o2:=(((o2.mods mA (λg hg=>by have:=f2 g hg;omega)).mods mB (λg hg=>by have:=f2 g hg;omega)).rebase (base':=w.heap.size) (by omega)).ext zr.drew;have o3:=(((o3.mods mA (λg hg=>by have:=f3 g hg;omega)).mods mB (λg hg=>by have:=f3 g hg;omega)).rebase (base':=w.heap.size) (by omega)).ext zr.drew;have o4:=(((o4.mods mA (λg hg=>by have:=f4 g hg;omega)).mods mB (λg hg=>by have:=f4 g hg;omega)).rebase (base':=w.heap.size) (by omega)).ext zr.drew;have o5:=(((o5.mods mA (λg hg=>by have:=f5 g hg;omega)).mods mB (λg hg=>by have:=f5 g hg;omega)).rebase (base':=w.heap.size) (by omega)).ext zr.drew;have o6:=(((o6.mods mA (λg hg=>by have:=f6 g hg;omega)).mods mB (λg hg=>by have:=f6 g hg;omega)).rebase (base':=w.heap.size) (by omega)).ext zr.drew;refine bodyPost_ret (zAr rfl _ _ (w.heap.size+1) (w.heap.size+1+1) 200 200 _ _ _ rfl Bz.drew rfl hB.drew rfl Tryz.underlying200 rfl Tryz.nodeSz rfl) rfl ?_;exact⟨hx,.inl ⟨_,_,_,Cr.out,rfl,⟨_,_,_,rfl,o1,o2,o3⟩,⟨_,_,_,rfl,o4,o5,o6⟩⟩⟩
 .have HN:Hid (zEa n=none):=oh (zPT (by rw[<- HM.out];exact hcut));have r0:=A5.k 0 rfl;have r1:=A5.k 1 rfl;have r2:=A5.k 2 rfl;have r3:=A5.k 3 rfl;have rf:=A5.frozen;have s0:=A6.k 0 rfl;have s1:=A6.k 1 rfl;have s2:=A6.k 2 rfl;have s3:=A6.k 3 rfl;have sf:=A6.frozen;have hA:=A5.set4 (.bool false) (.slice none 0 0) (.slice none 0 0) (.slice none 0 0);have mA:=zA.set4 (F:=λk=>k=w.heap.size+1) (zss w1) (R:=w.heap.size+1) (.inr rfl) (.bool false) (.slice none 0 0) (.slice none 0 0) (.slice none 0 0);have hB:=(A6.mods mA (by omega)).set4 (.bool false) (.slice none 0 0) (.slice none 0 0) (.slice none 0 0);have mB:=zA.set4 (F:=λk=>k=w.heap.size+1+1) (zA.refl _ ((((w1.setCell ⟨w.heap.size+1,0,none⟩ (.bool false)).setCell ⟨w.heap.size+1,1,none⟩ (.slice none 0 0)).setCell ⟨w.heap.size+1,2,none⟩ (.slice none 0 0)).setCell ⟨w.heap.size+1,3,none⟩ (.slice none 0 0))) (R:=w.heap.size+1+1) (.inr rfl) (.bool false) (.slice none 0 0) (.slice none 0 0) (.slice none 0 0);have Cs:=oh (hA.mods mB (by omega));have Ct:=oh hB;have Cu:=oh (zA.set4 (zA.set4 (Aa.out.trans Bi.out) (R:=w.heap.size+1) (.inl (by omega)) (.bool false) (.slice none 0 0) (.slice none 0 0) (.slice none 0 0)) (R:=w.heap.size+1+1) (.inl (by omega)) (.bool false) (.slice none 0 0) (.slice none 0 0) (.slice none 0 0));clear A5 A6 hA mA hB mB;by_cases hr:zO n=true
  .have B3:ev=.nilIface:=by
    have:zCN n=none:=by unfold zCN;rw[if_pos hr]
    rw[this] at hE;exact hE
   subst B3;have Dj:M=0:=by
    rcases tV M with h|h
    .exact h
    .exact absurd ⟨hr,h⟩ hcut
   have D9:=HT.out.1 Dj;clear hE hcut hr;go_wp2_with fail;refine bodyPost_ret (zAr rfl _ _ (w.heap.size+1) (w.heap.size+1+1) 200 200 _ _ _ rfl Cs.out rfl Ct.out rfl Tryz.underlying200 rfl Tryz.nodeSz rfl) rfl ?_;exact⟨Cu.out,.inr ⟨HN.out,rfl⟩⟩
  .have B3:zCN n=some ([-1],1):=by unfold zCN;rw[if_neg hr]
   rw[B3] at hE;obtain⟨fb,rfl,_⟩:=hE;clear hcut hr B3;go_wp2_with fail;refine bodyPost_ret (zAr rfl _ _ (w.heap.size+1) (w.heap.size+1+1) 200 200 _ _ _ rfl Cs.out rfl Ct.out rfl Tryz.underlying200 rfl Tryz.nodeSz rfl) rfl ?_;exact⟨Cu.out,.inr ⟨HN.out,rfl⟩⟩
end
end Go.Proofs.YtalpfcaakpgkmaaGreatDoor
