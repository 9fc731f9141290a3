import Derived.Test.YteabpacpngaoaaaGreatDoorS04
import Derived.Test.YteabpacpngaoaaaGreatDoorS08
import Derived.Test.YteabpacpngaoaaaGreatDoorS10
namespace Go.Proofs.YteabpacpngaoaaaGreatDoor
open Lib renaming hid->oh
set_option maxHeartbeats 8000000
set_option maxRecDepth 100000
section
open Go.RowKit Go.Maps
attribute [local go_sem ↓] Go.wp_at_zero Go.wp_at_succ
section
variable {F:Nat->Prop}{ad:Nat->Addr}{w0 w w' wr:World}{kb mb d:Nat}{s:SupA}{m:MapA}{g:Int}{A:zA}{fv iv lv:Value}{P:Nat->Prop}{D:DiskA}
theorem zAd(hL:Env F ad w)(h:zO D s m)(bv:Value)(i:Nat)(hi:i<2)(hb:Sl F w 1 encB bv (D.lasting.getD i []))(hl:(D.lasting.getD i []).length=D.size) :
  Calls Tryz.prog 120 #[bv,.int .i64 (i:Int)] w λe w'=>((zC D i=false/\e=.returned (.tuple #[superV s,.nilIface]))\/(zC D i=true/\∃f,e=.returned (.tuple #[superV sup0,faultV f])))/\Ext w w':=by
 have Ac:=h.lim;refine (supOpen_any hL bv _ hb (by omega) (by omega) i hi (h.none hi)).mono ?_;rintro e w' ⟨ev,rfl,hE,hm⟩;rw[h.openS hi] at hE ⊢;refine⟨?_,hm⟩;cases hs:zC D i with
 | false =>
  rw[hs] at hE;cases hE
  exact .inl ⟨rfl,rfl⟩
 | true =>
  rw[hs] at hE;obtain⟨f,rfl, -⟩:=hE;exact .inr ⟨rfl,f,rfl⟩
def yL(ad:Nat->Addr)(D:DiskA)(s:SupA):Prop:=∀(F:Nat->Prop) (w:World) (av bv:Value),Env F ad w->Sl F w 1 encB av (D.lasting.getD 0 [])->Sl F w 1 encB bv (D.lasting.getD 1 [])->(D.lasting.getD 0 []).length=D.size->(D.lasting.getD 1 []).length=D.size ->
  Calls Tryz.prog 119 #[av,bv] w λe w'=>∃j:Int,e=.returned (.tuple #[superV s,.int .i64 j,.nilIface])/\Ext w w'
theorem vL(h:zO D s m)(e0:zC D 0=false)(e1:zC D 1=false):yL ad D s:=by
 intro F w av bv hL ha hb Cp Cq;have Ac:=h.lim;have h0:=h.openS (i:=0) (by omega);have h1:=h.openS (i:=1) (by omega);have n0:=h.none (i:=0) (by omega);have n1:=h.none (i:=1) (by omega);obtain⟨sg,sb,sz,sr,sk⟩:=s;rw[e0,if_neg (by simp)] at h0;rw[e1,if_neg (by simp)] at h1;refine (supChoose_both0 hL av bv _ _ ha hb (by omega) (by omega) (by omega) (by omega) n0 n1 h0 h1 (uA _)).mono ?_;rintro e w' ⟨ev,rfl,hE,hm⟩;cases hE
 exact⟨0,rfl,hm⟩
theorem zAe(hL:Env F ad w)(h:zO D s m)(bv:Value)(k:Nat)(hk:k<2)(hb:Sl F w 1 encB bv (D.lasting.getD (place s.gen k) []))(hl:(D.lasting.getD (place s.gen k) []).length=D.size) :
  Calls Tryz.prog 175 #[bv,.int .i64 (place s.gen k:Int),.int .u64 (s.gen:Int),.int .i64 (s.blocks:Int)] w λe w'=>∃(mg mb:Int) (ua:Option Addr) (un uc:Nat) (ev:Value),e=.returned (.tuple #[.agg #[.int .u64 mg,.int .i64 mb,.slice ua un uc],ev])/\((zC D (place s.gen k)=false/\ev=.nilIface)\/(zC D (place s.gen k)=true/\∃f,ev=faultV f))/\Ext w w':=by
 have Ac:=h.lim;have hg:=h.gen;have hp:place s.gen k<6:=by unfold place;omega
 cases hs:zC D (place s.gen k) with
 | true =>
  refine (qP hL (place s.gen k) s.gen s.blocks hp bv _ hb (by omega) (by omega) (yA.1 hs)).mono ?_;rintro e w' ⟨f,rfl,hm⟩;exact⟨0,0,none,0,0,_,rfl,.inr ⟨rfl,f,rfl⟩,hm⟩
 | false =>
  have hr:D.lasting.getD (place s.gen k) []=mapBlk m (place s.gen k) D.size:=by
   rcases h.map k hk with h|h
   .rw[hs] at h;cases h
   .exact h
  rw[hr] at hb;have By:isPlace m.gen (place s.gen k)=true:=by
   rw[h.mgen];rcases (show k=0\/k=1 by omega) with rfl|rfl
   .exact jY _
   .exact jZ _
  have hc:=mapOpen_ok hL m h.mok (by rw[h.mgen];omega) (place s.gen k) D.size By (by omega) (by omega) bv hb;rw[h.mgen,h.mblk] at hc;refine hc.mono ?_;rintro e w' ⟨uv,rfl,ho,_,hm⟩;obtain⟨ua,uc,rfl, -⟩:=ho.form;exact⟨_,_,ua,_,uc,_,rfl,.inl ⟨rfl,rfl⟩,hm⟩
theorem zQ.headed(h:zQ w0 w kb mb d s g A fv iv lv)(G b z r k:Nat):zQ w0 ((((((w.setCell ⟨kb,1,none⟩ (.int .u64 (G:Int))).setCell ⟨kb,2,none⟩ (.int .i64 (b:Int))).setCell ⟨kb,3,none⟩ (.int .i64 (z:Int))).setCell ⟨kb,4,none⟩ (.int .i64 (r:Int))).setCell ⟨kb,5,none⟩ (.int .i64 (k:Int))).setCell ⟨kb,7,none⟩ (.int .u64 (G:Int))).drew kb mb d ⟨G,b,z,r,k⟩ (G:Int) A fv iv lv /\
  zJ kb mb fv iv lv fv iv lv w ((((((w.setCell ⟨kb,1,none⟩ (.int .u64 (G:Int))).setCell ⟨kb,2,none⟩ (.int .i64 (b:Int))).setCell ⟨kb,3,none⟩ (.int .i64 (z:Int))).setCell ⟨kb,4,none⟩ (.int .i64 (r:Int))).setCell ⟨kb,5,none⟩ (.int .i64 (k:Int))).setCell ⟨kb,7,none⟩ (.int .u64 (G:Int))).drew:=by
 obtain⟨W,hW⟩:∃W,W=((((((w.setCell ⟨kb,1,none⟩ (.int .u64 (G:Int))).setCell ⟨kb,2,none⟩ (.int .i64 (b:Int))).setCell ⟨kb,3,none⟩ (.int .i64 (z:Int))).setCell ⟨kb,4,none⟩ (.int .i64 (r:Int))).setCell ⟨kb,5,none⟩ (.int .i64 (k:Int))).setCell ⟨kb,7,none⟩ (.int .u64 (G:Int))).drew:=⟨_,rfl⟩;have m:Mods (λk=>k=kb) w W:=by
  rw[hW];exact (Mods.setCell (F:=λj=>j=kb) (Mods.setCell (F:=λj=>j=kb) (Mods.setCell (F:=λj=>j=kb) (Mods.setCell (F:=λj=>j=kb) (Mods.setCell (F:=λj=>j=kb) (Mods.setCell (F:=λj=>j=kb) (Mods.refl _ w) (p:=⟨kb,1,none⟩) (.inr rfl) _) (p:=⟨kb,2,none⟩) (.inr rfl) _) (p:=⟨kb,3,none⟩) (.inr rfl) _) (p:=⟨kb,4,none⟩) (.inr rfl) _) (p:=⟨kb,5,none⟩) (.inr rfl) _) (p:=⟨kb,7,none⟩) (.inr rfl) _).drew
 have hB:Blk W kb (lkC d mb ⟨G,b,z,r,k⟩ (G:Int) A fv iv lv) 135:=by
  rw[hW];exact Blk.drew (by simpa[lkC] using (((((h.blk.set 1 (.int .u64 (G:Int))).set 2 (.int .i64 (b:Int))).set 3 (.int .i64 (z:Int))).set 4 (.int .i64 (r:Int))).set 5 (.int .i64 (k:Int))).set 7 (.int .u64 (G:Int)))
 rw[<- hW];exact⟨⟨h.ext.trans' m (λi hi e=>by have:=h.new.1;omega),h.new,hB,h.seen.mods m (λe=>h.off e.symm),h.rf.mods m (λg hg e=>Own.notB h.rf h.blk (by decide) g hg e),h.ri.mods m (λg hg e=>Own.notB h.ri h.blk (by decide) g hg e),h.rl.mods m (λg hg e=>Own.notB h.rl h.blk (by decide) g hg e),h.few⟩,m.mono (λk e=>.inl e),λ_ h=>.inl h⟩
theorem Sl.lenE{α:Type}{sz:Nat}{enc:α->List Value}{a:Option Addr}{n c:Nat}{l:List α}(h:Sl F w sz enc (.slice a n c) l):l.length=n:=by
 obtain⟨_,_,he,_⟩:=h;injection he with _ he;exact he.symm
abbrev jR(z:Nat)(x:Option Addr × Nat):Value:=.slice x.1 z x.2
structure jS(w0 w wr:World)(kb mb d:Nat)(D:DiskA)(s:SupA)(fv iv lv:Value)(R R7:Nat)(cs:Array Value)(G:Nat->Option Addr × Nat)(l:List (Int × Int))(fv1 iv1 lv1:Value):Prop where
 st:zQ w0 wr kb mb d s (s.gen:Int) (zA.hd l) fv1 iv1 lv1
 go:zJ kb mb fv iv lv fv1 iv1 lv1 w wr
 rb:Blk wr R cs 279
 rn:¬ qH kb mb fv1 iv1 lv1 R
 sb:Blk wr R7 #[.int .u64 (s.gen:Int),.int .i64 (s.blocks:Int),.int .i64 (s.size:Int),.int .i64 (s.root:Int),.int .i64 (s.keys:Int)] 57
 sn:¬ qH kb mb fv1 iv1 lv1 R7
 cs:∀j,j<6->cs[j]? = some (jR D.size (G j))/\Sl (qH kb mb fv1 iv1 lv1) wr 1 encB (jR D.size (G j)) (D.lasting.getD j [])
theorem jS.nxt{w2:World}{R R7:Nat}{cs:Array Value}{G:Nat->Option Addr × Nat}{l l2:List (Int × Int)}{fv1 iv1 lv1 fv2 iv2 lv2:Value}(h:jS w0 w wr kb mb d D s fv iv lv R R7 cs G l fv1 iv1 lv1)(h2:zQ w0 w2 kb mb d s (s.gen:Int) (zA.hd l2) fv2 iv2 lv2)(g2:zJ kb mb fv1 iv1 lv1 fv2 iv2 lv2 wr w2):jS w0 w w2 kb mb d D s fv iv lv R R7 cs G l2 fv2 iv2 lv2 :=
 ⟨h2,h.go.trans g2,(g2.blk h.rb h.rn).1,(g2.blk h.rb h.rn).2,(g2.blk h.sb h.sn).1,(g2.blk h.sb h.sn).2,λj hj=>⟨(h.cs j hj).1,g2.sl (h.cs j hj).2⟩⟩
theorem jS.ext{w2:World}{R R7:Nat}{cs:Array Value}{G:Nat->Option Addr × Nat}{l:List (Int × Int)}{fv1 iv1 lv1:Value}(h:jS w0 w wr kb mb d D s fv iv lv R R7 cs G l fv1 iv1 lv1)(m:Ext wr w2):jS w0 w w2 kb mb d D s fv iv lv R R7 cs G l fv1 iv1 lv1:=h.nxt (h.st.at m) (zJ.ext m)
theorem zA3(hL:Env NoB ad w0)(hD:DkS w0 P d D)(hH:zO D s m)(hC:yL ad D s)(h:zQ w0 w kb mb d sup0 0 (zA.hd []) fv iv lv) :
  Calls Tryz.prog 110 #[.pointer (some ⟨kb,0,none⟩)] w λe w'=>e=.returned .nilIface/\zBM w0 kb mb d s (s.gen:Int) fv iv lv w (zA.hd (yG D s.gen)) w':=by
 have HL:=oh hL;have HD:=oh hD;have HH:=oh hH;have At:=oh hC;have H:=oh h;obtain⟨z8,z256,z3,z4⟩:=hH.lim;obtain⟨DZ,Bb⟩:∃n,n=D.size:=⟨_,rfl⟩;have A6:=oh Bb;have m0:Ext w (w.alloc (.cells #[.slice none 0 0,.slice none 0 0,.slice none 0 0,.slice none 0 0,.slice none 0 0,.slice none 0 0] 279)):=(Mods.refl _ w).alloc _;have Au:=oh m0;have Bc:=oh (Blk.new w #[.slice none 0 0,.slice none 0 0,.slice none 0 0,.slice none 0 0,.slice none 0 0,.slice none 0 0] 279);obtain⟨R,hR⟩:∃R,R=w.heap.size:=⟨_,rfl⟩;have Cr:R≠kb:=λe=>by have:=h.blk.lt;omega
 have Bz:Hid (¬ qH kb mb fv iv lv R):=oh (λhb=>by have:=(h.lt _ hb).2;omega);have Av:Hid (R=w.heap.size):=oh hR;rw[<- hR] at Bc;clear hL hD hH hC h m0 Bb
 go_enter Tryz.func110, Tryz.ntmps110
 go_wp2_with fail;rw[<- hR];clear hR;go_loopg [17] 6 (λq v17 wr=>∃(k:Nat) (G:Nat->Option Addr × Nat) (cs:Array Value),k+q=6/\v17=.int .i64 (k:Int)/\Hid (Ext w wr/\Blk wr R cs 279 /\ (∀j,j<k->cs[j]? = some (jR DZ (G j))/\Sl (plusR (qH kb mb fv iv lv) R) wr 1 encB (jR DZ (G j)) (D.lasting.getD j []))/\∀j,k<=j->j<6->cs[j]? = some (.slice none 0 0)))
 case atStart=>exact⟨0,λ_=>(none,0),_,by omega,rfl,oh ⟨Au.out,Bc.out,λj hj=>by omega,λj _ hj=>by
  match j,hj with
  | 0,_=>rfl
  | 1,_=>rfl
  | 2,_=>rfl
  | 3,_=>rfl
  | 4,_=>rfl
  | 5,_=>rfl⟩⟩
 case round =>
  obtain⟨k,G,cs,hk,rfl,HQ⟩:=hrel;by_cases Ad:k<6
  .have i0:(0:Int)<=(k:Int):=by omega
   have i6:(k:Int)<6:=by omega
   have c0:=(H.out.at HQ.out.1).blk.cell (o:=0) (v:=.pointer (some ⟨d,0,none⟩)) rfl;have C0:=oh (DkS.lasting ((H.out.at HQ.out.1).envX HL.out (X:=R) (by have:=Av.out;have:=H.out.ext.size;omega) HQ.out.2.1.lt) (HD.out.at (H.out.ext.trans HQ.out.1)) k (by omega));go_wp2_with fail;refine C0.out.mono ?_;rintro e w2 ⟨v,rfl,An,Ae,hm⟩;obtain⟨va,vc,rfl, -⟩:=id An;rw[Ae,<- A6.out] at An ⊢;have C1:=oh An;have C2:=oh (HQ.out.1.trans hm);have HM2':=oh hm;have Ao:=HQ.out.2.1.ext hm;have C3:=oh Ao;have r0:=Ao.cell (o:=k) (v:=.slice none 0 0) (HQ.out.2.2.2 k (uA _) Ad);have rf:=Ao.frozen;clear An Ae hm Ao c0;go_wp2_with fail;go_roundg (gk-1)
   case measure=>omega
   case rel =>
    have C4:k<cs.size:=(Array.getElem?_eq_some_iff.1 (HQ.out.2.2.2 k (uA _) Ad)).1;have m3:Mods (λj=>j=R) w2 (w2.setCell ⟨R,k,none⟩ (.slice va DZ vc)):=Mods.setCell (F:=λj=>j=R) (Mods.refl _ w2) (p:=⟨R,k,none⟩) (.inr rfl) _;refine⟨k+1,λj=>if j=k then (va,vc) else G j,cs.setIfInBounds k (.slice va DZ vc),by omega,by go_num,oh ⟨C2.out.trans' m3 (λi hi e=>by have:=Av.out;omega),C3.out.set k _,λj hj=>?_,λj hj C5=>?_⟩⟩
    .by_cases e:j=k
     .subst e;refine⟨by simp[C4],?_⟩;simp only[if_true];exact C1.out.mods (m3.mono (λi e=>.inr e))
     .obtain⟨q1,q2⟩:=HQ.out.2.2.1 j (by omega);refine⟨?_,?_⟩
      .simp only[if_neg e];rw[<- q1,uP (λe'=>e e'.symm)]
      .simp only[if_neg e];exact (q2.ext HM2'.out).mods (m3.mono (λi e=>.inr e))
    .rw[uP (by omega)];exact HQ.out.2.2.2 j (by omega) C5
  .obtain rfl:k=6:=by omega
   obtain⟨p0,q0⟩:=HQ.out.2.2.1 0 (by omega);obtain⟨p1,q1⟩:=HQ.out.2.2.1 1 (by omega);have r0:=HQ.out.2.1.cell p0;have r1:=HQ.out.2.1.cell p1;have HE:=oh ((H.out.at HQ.out.1).envX HL.out (X:=R) (by have:=Av.out;have:=H.out.ext.size;omega) HQ.out.2.1.lt);have Bd:=oh (At.out _ _ _ _ HE.out q0 q1 (q0.lenE.trans A6.out) (q1.lenE.trans A6.out));have HW:=oh HQ.out.1;have C6:=oh HQ.out.2.1;have C7:=oh HQ.out.2.2.1;clear p0 p1 q0 q1 HQ;go_wp2_with fail;refine Bd.out.mono ?_;rintro e w5 ⟨j5,rfl,Aw⟩;have Be:Hid (superV s=.agg #[.int .u64 (s.gen:Int),.int .i64 (s.blocks:Int),.int .i64 (s.size:Int),.int .i64 (s.root:Int),.int .i64 (s.keys:Int)]):=oh rfl;rw[Be.out];obtain⟨W6,Ap⟩:∃W,W=w5.alloc (.cells #[.int .u64 (s.gen:Int),.int .i64 (s.blocks:Int),.int .i64 (s.size:Int),.int .i64 (s.root:Int),.int .i64 (s.keys:Int)] 57):=⟨_,rfl⟩;obtain⟨R7,Ax⟩:∃R,R=w5.heap.size:=⟨_,rfl⟩;have m6:Ext wr W6:=by rw[Ap];exact Aw.alloc _
   have Bf:Blk W6 R7 #[.int .u64 (s.gen:Int),.int .i64 (s.blocks:Int),.int .i64 (s.size:Int),.int .i64 (s.root:Int),.int .i64 (s.keys:Int)] 57:=by rw[Ap,Ax];exact Blk.new w5 _ _
   have Ay:=oh Bf;have Aq:=oh m6;have C8:Hid (¬ qH kb mb fv iv lv R7):=oh (λhb=>by have:=((H.out.at HW.out).lt _ hb).2;have:=Aw.size;omega);clear r0 r1 Aw m6 Bf;go_wp2_with fail;rw[<- Ap,<- Ax];have A0:=oh (λW (m:Ext W6 W)=>(⟨((H.out.at (HW.out.trans Aq.out)).at m).blk.cell rfl,(Ay.out.ext m).cell rfl,(Ay.out.ext m).cell rfl⟩:W.cell? ⟨kb,0,none⟩=some (.pointer (some ⟨d,0,none⟩))/\W.cell? ⟨R7,1,none⟩=some (.int .i64 (s.blocks:Int))/\W.cell? ⟨R7,2,none⟩=some (.int .i64 (s.size:Int))));have zd:=A0.out _ (Mods.refl _ W6).drew;have C9:Hid (∀W,DkS W P d D -> Calls Tryz.prog 45 #[.pointer (some ⟨d,0,none⟩)] W λe w'=>e=.returned (.agg #[.int .i64 (s.blocks:Int),.int .i64 (s.size:Int)])/\Ext W w'):=oh (λW m=>by have:=m.geo;rw[<- HH.out.blk,<- HH.out.siz] at this;exact this);have Ca:=oh (HD.out.at (H.out.ext.trans (HW.out.trans Aq.out)));have eqg:∀(a b c d:Int) (w:World),(Op.equalIn 10000 24 (.agg #[.int .i64 a,.int .i64 b]) (.agg #[.int .i64 c,.int .i64 d])).run Tryz.prog w=.ok (decide (a=c) && decide (b=d)) w:=λa b c d w=>Tryz.eqGeo 9998 a b c d w
   clear Ap Ax;go_region_held3 (λw'=>w'.cell? ⟨kb,0,none⟩=some (.pointer (some ⟨d,0,none⟩))/\w'.cell? ⟨R7,1,none⟩=some (.int .i64 (s.blocks:Int))/\w'.cell? ⟨R7,2,none⟩=some (.int .i64 (s.size:Int)))
    (first|(with_reducible exact zd)|(with_reducible exact z5)|fail)
    (first
     | (go_at_call 45;(with_reducible refine (C9.out _ (Ca.out.at (Mods.refl _ W6).drew)).mono ?_);rintro e w7 ⟨rfl,m7⟩;have xw7:=(Mods.refl _ W6).drew.trans m7;have z5:=A0.out _ xw7)
     | fail)
   have A5:=oh (H.out.at ((HW.out.trans Aq.out).trans xw7));have A7:=Ay.out.ext xw7;have Cb:=oh A7;have Az:=oh (Aq.out.trans xw7);have s0:=A7.cell (o:=0) (v:=.int .u64 (s.gen:Int)) rfl;have s1:=A7.cell (o:=1) (v:=.int .i64 (s.blocks:Int)) rfl;have s2:=A7.cell (o:=2) (v:=.int .i64 (s.size:Int)) rfl;have s3:=A7.cell (o:=3) (v:=.int .i64 (s.root:Int)) rfl;have s4:=A7.cell (o:=4) (v:=.int .i64 (s.keys:Int)) rfl;have k1:=A5.out.blk.cell (o:=1) (v:=.int .u64 0) rfl;have k2:=A5.out.blk.cell (o:=2) (v:=.int .i64 0) rfl;have k3:=A5.out.blk.cell (o:=3) (v:=.int .i64 0) rfl;have k4:=A5.out.blk.cell (o:=4) (v:=.int .i64 0) rfl;have k5:=A5.out.blk.cell (o:=5) (v:=.int .i64 0) rfl;have k7:=A5.out.blk.cell (o:=7) (v:=.int .u64 0) rfl;have kf:=A5.out.blk.frozen;clear zd z5 xw7 m7 A7;go_wp2_with fail;go_region
   obtain⟨h8,g8⟩:=A5.out.headed s.gen s.blocks s.size s.root s.keys;obtain⟨W8,Bg⟩:∃W,W=((((((w7.setCell ⟨kb,1,none⟩ (.int .u64 (s.gen:Int))).setCell ⟨kb,2,none⟩ (.int .i64 (s.blocks:Int))).setCell ⟨kb,3,none⟩ (.int .i64 (s.size:Int))).setCell ⟨kb,4,none⟩ (.int .i64 (s.root:Int))).setCell ⟨kb,5,none⟩ (.int .i64 (s.keys:Int))).setCell ⟨kb,7,none⟩ (.int .u64 (s.gen:Int))).drew:=⟨_,rfl⟩;rw[<- Bg] at h8 g8 ⊢;have Cc:Hid (jS w0 w W8 kb mb d D s fv iv lv R R7 cs G [] fv iv lv):=oh (by
    have Ar:=g8.blk ((C6.out.ext Az.out)) Bz.out;have A3:=g8.blk Cb.out C8.out;refine⟨h8,(zJ.ext (HW.out.trans Az.out)).trans g8,Ar.1,Ar.2,A3.1,A3.2,λj hj=>?_⟩;obtain⟨e1,e2⟩:=C7.out j hj;rw[A6.out] at e1 e2;exact⟨e1,g8.sl ((e2.anti (λ_ _ hb=>.inl hb)).ext Az.out)⟩)
   have eqs:∀(w:World),(Op.equalIn 10000 57 (.agg #[.int .u64 (s.gen:Int),.int .i64 (s.blocks:Int),.int .i64 (s.size:Int),.int .i64 (s.root:Int),.int .i64 (s.keys:Int)]) (.agg #[.int .u64 (s.gen:Int),.int .i64 (s.blocks:Int),.int .i64 (s.size:Int),.int .i64 (s.root:Int),.int .i64 (s.keys:Int)])).run Tryz.prog w=.ok true w:=λw=>Tryz.eqSuper 9997 _ _ _ _ _ w
   clear h8 g8 Bg s0 s1 s2 s3 s4 k1 k2 k3 k4 k5 k7 kf Bd HE;go_wp2_with fail;go_loopg [68] 2 (λq v68 wr=>∃(k:Nat) (fv1 iv1 lv1:Value),k+q=2/\v68=.int .i64 (k:Int)/\Hid (jS w0 w wr kb mb d D s fv iv lv R R7 cs G (qF D k) fv1 iv1 lv1))
   case atStart=>exact⟨0,fv,iv,lv,rfl,rfl,oh Cc.out⟩
   case round =>
    obtain⟨k,fv1,iv1,lv1,hk,rfl,HQ⟩:=hrel;by_cases Ad:k<2
    .obtain⟨e1,e2⟩:=HQ.out.cs k (by omega);have r0:=HQ.out.rb.cell e1;have i0:(0:Int)<=(k:Int):=by omega
     have i6:(k:Int)<6:=by omega
     have i2:(k:Int)<2:=by omega
     have Aa:=oh (zAd (HQ.out.st.env HL.out) HH.out _ k Ad e2 e2.lenE);have Ab:=oh (yJ D k);rw[<- A6.out] at r0 Aa;clear e1 e2;go_wp2_with fail;refine Aa.out.mono ?_;rintro e w9 ⟨⟨hs,rfl⟩|⟨hs,f,rfl⟩,A8⟩
     .rw[Be.out];have m10:Ext wr (w9.alloc (.cells #[.int .u64 (s.gen:Int),.int .i64 (s.blocks:Int),.int .i64 (s.size:Int),.int .i64 (s.root:Int),.int .i64 (s.keys:Int)] 57)):=A8.alloc _;have HN:=oh (HQ.out.ext m10);have A3:=HN.out.sb;have s0:=A3.cell (o:=0) (v:=.int .u64 (s.gen:Int)) rfl;have s1:=A3.cell (o:=1) (v:=.int .i64 (s.blocks:Int)) rfl;have s2:=A3.cell (o:=2) (v:=.int .i64 (s.size:Int)) rfl;have s3:=A3.cell (o:=3) (v:=.int .i64 (s.root:Int)) rfl;have s4:=A3.cell (o:=4) (v:=.int .i64 (s.keys:Int)) rfl;have A4:Hid (qF D (k+1)=qF D k):=oh (by rw[Ab.out,hs];simp);clear A8 m10 A3 hs r0;go_wp2_with fail;go_roundg (gk-1)
      case measure=>omega
      case rel=>exact⟨k+1,fv1,iv1,lv1,by omega,by go_num,oh (by rw[A4.out];exact HN.out)⟩
     .have B0:Hid (superV sup0=.agg #[.int .u64 0,.int .i64 0,.int .i64 0,.int .i64 0,.int .i64 0]):=oh rfl;rw[B0.out];have m10:Ext wr (w9.alloc (.cells #[.int .u64 0,.int .i64 0,.int .i64 0,.int .i64 0,.int .i64 0] 57)):=A8.alloc _;have HN:=oh (HQ.out.ext m10);have B1:=vJ D (k+1);have A4:Hid (qF D (k+1)=qF D k++[((k:Int),1)]):=oh (by rw[Ab.out,hs];simp);have Af:=oh (zS HN.out.st (k:Int) 1 (by rw[zA.hd_find _ _ _ (by decide),<- A4.out];exact zA.hd_few (by omega)));rw[zA.hd_find _ _ _ (by decide),<- A4.out] at Af;unfold faultV;clear A8 m10 hs r0 B1;go_wp2_with fail;refine Af.out.mono ?_;rintro e w11 ⟨rfl,fv11,Ag,g11⟩;have A9:=oh (HN.out.nxt Ag g11);clear Ag g11;go_wp2_with fail;go_roundg (gk-1)
      case measure=>omega
      case rel=>exact⟨k+1,fv11,iv1,lv1,by omega,by go_num,oh A9.out⟩
    .obtain rfl:k=2:=by omega
     have s0:=HQ.out.sb.cell (o:=0) (v:=.int .u64 (s.gen:Int)) rfl;have Cd:=oh (λw'=>places_any s.gen (by have:=HH.out.gen;omega) w');go_wp2_with fail;refine (Cd.out _).mono ?_;rintro e w9 ⟨rfl,A8⟩;have Ce:Hid (placesV s.gen=.agg #[.int .i64 (place s.gen 0:Int),.int .i64 (place s.gen 1:Int)]):=oh rfl;rw[Ce.out];have Bh:Hid (∀k:Nat,k<2->∀w,(Instr.index 161 (.agg #[.int .i64 (place s.gen 0:Int),.int .i64 (place s.gen 1:Int)]) (.int .i64 (k:Int))).run Tryz.prog w=.ok (.int .i64 (place s.gen k:Int)) w):=oh (λk hk w=>by
      rcases (show k=0\/k=1 by omega) with rfl|rfl
      .exact Tryz.idx2_0 _ _ w
      .exact Tryz.idx2_1 _ _ w)
     have Cf:=oh (HQ.out.ext A8);obtain⟨P0,Bi⟩:∃p,p=place s.gen 0:=⟨_,rfl⟩;obtain⟨P1,Bj⟩:∃p,p=place s.gen 1:=⟨_,rfl⟩;rw[<- Bi,<- Bj] at Bh ⊢;clear Bi Bj A8 s0;go_wp2_with fail;go_loopg [93] 2 (λq v93 wr=>∃(k:Nat) (fv1 iv1 lv1:Value),k+q=2/\v93=.int .i64 (k:Int)/\Hid (jS w0 w wr kb mb d D s fv iv lv R R7 cs G (qF D 2++vA D s.gen k) fv1 iv1 lv1))
     case atStart=>exact⟨0,fv1,iv1,lv1,rfl,rfl,oh (by have e:vA D s.gen 0=[]:=rfl;rw[e,List.append_nil];exact Cf.out)⟩
     case round =>
      obtain⟨k,fv2,iv2,lv2,Cs,rfl,A1⟩:=hrel;by_cases Ah:k<2
      .have Bk:=Bh.out k Ah;obtain⟨pk,Ai⟩:∃p,p=place s.gen k:=⟨_,rfl⟩;have B2:=oh Ai;have Cg:pk<6:=by rw[Ai];unfold place;omega
       rw[<- Ai] at Bk;obtain⟨e1,e2⟩:=A1.out.cs pk Cg;have i0:(0:Int)<=(pk:Int):=by omega
       have i6:(pk:Int)<6:=by omega
       have i2:(k:Int)<2:=by omega
       have i20:(0:Int)<=(k:Int):=by omega
       have Aa:=oh (λW (m:Ext wr W)=>zAe ((A1.out.st.at m).env HL.out) HH.out (jR D.size (G pk)) k Ah (by rw[<- B2.out];exact e2.ext m) (by rw[<- B2.out];exact e2.lenE));rw[<- Ai,<- A6.out] at Aa;have A0:=oh (λW (m:Ext wr W)=>(⟨(A1.out.rb.ext m).cell e1,(A1.out.sb.ext m).cell rfl,(A1.out.sb.ext m).cell rfl⟩:W.cell? ⟨R,pk,none⟩=some (jR D.size (G pk))/\W.cell? ⟨R7,0,none⟩=some (.int .u64 (s.gen:Int))/\W.cell? ⟨R7,1,none⟩=some (.int .i64 (s.blocks:Int))));rw[<- A6.out] at A0;have zd:=A0.out _ (Mods.refl _ wr).drew;have za:=A0.out _ ((Mods.refl _ wr).alloc (.cells #[.int .u64 0,.int .i64 0,.slice none 0 0] 106)).drew;have n1:R≠wr.heap.size:=λe=>by have:=A1.out.rb.lt;omega
       have n2:R7≠wr.heap.size:=λe=>by have:=A1.out.sb.lt;omega
       clear Ai e1 e2;go_wp2_with fail;go_region_held3 (λw'=>w'.cell? ⟨R,pk,none⟩=some (jR DZ (G pk))/\w'.cell? ⟨R7,0,none⟩=some (.int .u64 (s.gen:Int))/\w'.cell? ⟨R7,1,none⟩=some (.int .i64 (s.blocks:Int)))
        (first|(with_reducible exact zd)|(with_reducible exact z5)|(with_reducible exact z7)|(with_reducible exact z6)|(with_reducible exact za)|fail)
        (first
         | (go_at_call 175;((with_reducible refine (Aa.out _ (Mods.refl _ wr).drew).mono ?_);rintro e w9 ⟨mgx,mbx,ua,un,uc,ev,rfl,Bl,m9⟩;have x9:=(Mods.refl _ wr).drew.trans m9;have z5:=A0.out _ x9;have z7:=A0.out _ (x9.alloc (.cells #[.int .u64 0,.int .i64 0,.slice none 0 0] 106));have hB:Blk (w9.alloc (.cells #[.int .u64 0,.int .i64 0,.slice none 0 0] 106)) w9.heap.size #[.int .u64 0,.int .i64 0,.slice none 0 0] 106:=Blk.new w9 _ _;have b0:=hB.cell (o:=0) (v:=.int .u64 0) rfl;have b1:=hB.cell (o:=1) (v:=.int .i64 0) rfl;have b2:=hB.cell (o:=2) (v:=.slice none 0 0) rfl;have bf:=hB.frozen;have lo:wr.heap.size<=w9.heap.size:=x9.size;have z6:=A0.out _ (x9.alloc (.cells #[.int .u64 mgx,.int .i64 mbx,.slice ua un uc] 106));have Bm:∃w3,w3=w9.alloc (.cells #[.int .u64 mgx,.int .i64 mbx,.slice ua un uc] 106)/\Ext wr w3:=⟨_,rfl,x9.alloc _⟩))
         | (go_at_call 175;((with_reducible refine (Aa.out _ ((Mods.refl _ wr).alloc (.cells #[.int .u64 0,.int .i64 0,.slice none 0 0] 106)).drew).mono ?_);rintro e w9 ⟨mgx,mbx,ua,un,uc,ev,rfl,Bl,m9⟩;have x9:=((Mods.refl _ wr).alloc (.cells #[.int .u64 0,.int .i64 0,.slice none 0 0] 106)).drew.trans m9;have z5:=A0.out _ x9;have z7:=z5;have hB:Blk w9 wr.heap.size #[.int .u64 0,.int .i64 0,.slice none 0 0] 106:=Blk.ext (w:=(wr.alloc (.cells #[.int .u64 0,.int .i64 0,.slice none 0 0] 106)).drew) (Blk.new wr _ _) m9;have b0:=hB.cell (o:=0) (v:=.int .u64 0) rfl;have b1:=hB.cell (o:=1) (v:=.int .i64 0) rfl;have b2:=hB.cell (o:=2) (v:=.slice none 0 0) rfl;have bf:=hB.frozen;have lo:wr.heap.size<=wr.heap.size:=uA _;have z6:=A0.out _ (Mods.set3 (F:=λ_=>False) x9 (R:=wr.heap.size) (.inl lo) (.int .u64 mgx) (.int .i64 mbx) (.slice ua un uc));have Bm:∃w3,w3=((w9.setCell ⟨wr.heap.size,0,none⟩ (.int .u64 mgx)).setCell ⟨wr.heap.size,1,none⟩ (.int .i64 mbx)).setCell ⟨wr.heap.size,2,none⟩ (.slice ua un uc)/\Ext wr w3:=⟨_,rfl,Mods.set3 (F:=λ_=>False) x9 (R:=wr.heap.size) (.inl lo) (.int .u64 mgx) (.int .i64 mbx) (.slice ua un uc)⟩))
         | fail)
       all_goals
        obtain⟨w3,Bn,Bo⟩:=Bm;rw[<- Bn];have HN:=oh (A1.out.ext Bo);have Ab:=oh (yK D s.gen k);rw[<- B2.out] at Ab;clear Bn Bo zd za z5 z7 z6 x9 m9 hB b0 b1 b2 bf lo n1 n2 Bk;rcases Bl with ⟨hs,rfl⟩|⟨hs,f,rfl⟩
        .have A4:Hid (vA D s.gen (k+1)=vA D s.gen k):=oh (by rw[Ab.out,hs];simp);clear hs;go_wp2_with fail;go_roundg (gk-1)
         case measure=>omega
         case rel=>exact⟨k+1,fv2,iv2,lv2,by omega,by go_num,oh (by rw[A4.out];exact HN.out)⟩
        .have B1:=zAF D s.gen (k+1);have B3:=vJ D 2;have A4:Hid (qF D 2++vA D s.gen (k+1)=qF D 2++vA D s.gen k++[((pk:Int),2)]):=oh (by rw[Ab.out,hs,uS];simp);have Af:=oh (zS HN.out.st (pk:Int) 2 (by rw[zA.hd_find _ _ _ (by decide),<- A4.out];exact zA.hd_few (by rw[uC];omega)));rw[zA.hd_find _ _ _ (by decide),<- A4.out] at Af;unfold faultV;clear hs B1 B3;go_wp2_with fail;refine Af.out.mono ?_;rintro e w11 ⟨rfl,fv11,Ag,g11⟩;have A9:=oh (HN.out.nxt Ag g11);clear Ag g11;go_wp2_with fail;go_roundg (gk-1)
         case measure=>omega
         case rel=>exact⟨k+1,fv11,iv2,lv2,by omega,by go_num,oh A9.out⟩
      .obtain rfl:k=2:=by omega
       go_wp2_with fail;go_ret;exact⟨rfl,fv2,iv2,lv2,A1.out.st,A1.out.go⟩
end
def yE(D:DiskA)(s:SupA):zA:=if s.root=0 then zA.hd (yG D s.gen) else zH (zP D) s.gen s.size 16 (s.root:Int) (zA.hd (yG D s.gen))
theorem Blk.set7{w:World}{R:Nat}{t:TypeId}{a0 a1 a2 a3 a4 a5 a6:Value}(h:Blk w R #[a0,a1,a2,a3,a4,a5,a6] t)(v0 v1 v2 v3 v4 v5 v6:Value) :
  Blk (((((((w.setCell ⟨R,0,none⟩ v0).setCell ⟨R,1,none⟩ v1).setCell ⟨R,2,none⟩ v2).setCell ⟨R,3,none⟩ v3).setCell ⟨R,4,none⟩ v4).setCell ⟨R,5,none⟩ v5).setCell ⟨R,6,none⟩ v6) R #[v0,v1,v2,v3,v4,v5,v6] t:=by
 simpa using ((((((h.set 0 v0).set 1 v1).set 2 v2).set 3 v3).set 4 v4).set 5 v5).set 6 v6
theorem Mods.set7{F:Nat->Prop}{w w':World}(m:Mods F w w'){R:Nat}(hR:w.heap.size<=R\/F R)(v0 v1 v2 v3 v4 v5 v6:Value) :
  Mods F w (((((((w'.setCell ⟨R,0,none⟩ v0).setCell ⟨R,1,none⟩ v1).setCell ⟨R,2,none⟩ v2).setCell ⟨R,3,none⟩ v3).setCell ⟨R,4,none⟩ v4).setCell ⟨R,5,none⟩ v5).setCell ⟨R,6,none⟩ v6) :=
 ((((((m.setCell (p:=⟨R,0,none⟩) hR v0).setCell (p:=⟨R,1,none⟩) hR v1).setCell (p:=⟨R,2,none⟩) hR v2).setCell (p:=⟨R,3,none⟩) hR v3).setCell (p:=⟨R,4,none⟩) hR v4).setCell (p:=⟨R,5,none⟩) hR v5).setCell (p:=⟨R,6,none⟩) hR v6
section
variable {ad:Nat->Addr}{w0 w w':World}{kb mb d:Nat}{s:SupA}{m:MapA}{g:Int}{A:zA}{fv iv lv:Value}{P:Nat->Prop}{D:DiskA}
theorem vM(hL:Env NoB ad w0)(hD:DkS w0 P d D)(hz:256<=s.size/\s.size<=1024):∀f,jQ w0 kb mb d s g D f
 | 0=>qV hL hD hz 0 (λ_ h=>by cases h)
 | f+1=>qV hL hD hz (f+1) (λ_ h=>by cases h;exact vM hL hD hz f)
theorem zQ.made(w:World)(d:Nat):zQ w ((w.alloc (.map #[] 0)).alloc (.cells #[.pointer (some ⟨d,0,none⟩),.int .u64 0,.int .i64 0,.int .i64 0,.int .i64 0,.int .i64 0,.map (some w.heap.size),.int .u64 0,.slice none 0 0,.int .i64 0,.slice none 0 0,.int .i64 0,.slice none 0 0,.bool false] 135)) (w.heap.size+1) w.heap.size d sup0 0 (zA.hd []) (.slice none 0 0) (.slice none 0 0) (.slice none 0 0) :=
 ⟨((Mods.refl _ w).alloc _).alloc _,⟨by omega,by omega⟩,heap_at (by simp),(zV.made w).mods ((Mods.refl (λ_=>False) _).alloc _) (λf=>f),Own.nil _ _ _ _ _ _,Own.nil _ _ _ _ _ _,Own.nil _ _ _ _ _ _,zA.hd_few (by simp)⟩
theorem jH(hL:Env NoB ad w)(hD:DkS w P d D)(ho:D.off=false)(hH:zO D s m)(hC:yL ad D s)(hf:(yE D s).few) :
  Calls Tryz.prog 65 #[.pointer (some ⟨d,0,none⟩)] w λe w'=>∃kb mb fv iv lv,e=.returned (.tuple #[.pointer (some ⟨kb,0,none⟩),.nilIface])/\zQ w w' kb mb d s (s.gen:Int) (yE D s) fv iv lv:=by
 have HO:=oh hD.off;rw[ho] at HO;have HL:=oh hL;have HD:=oh hD;have HH:=oh hH;have At:=oh hC;have HF:=oh hf;have Ct:=@run_makeMap Tryz.prog;have Ch:=oh (zQ.made w d);obtain⟨z8,z256,z3,z4⟩:=hH.lim;have hz:=hH.siz;have HZ:Hid (256<=s.size/\s.size<=1024):=oh (by omega);have Ci:s.root<=2147483647:=by
  obtain⟨a1,a2,a3,a4,a5,a6,a7⟩:=(supOk_iff s).1 hH.ok;omega
 have Cj:Hid (qD (s.root:Int)):=oh ((Lit.wf_int_iff .i64 _).2 (by simp[IntKind.min,IntKind.max,IntKind.signed,IntKind.bits];omega));clear hL hD ho hH hC hf hz Ci
 go_enter Tryz.func65, Tryz.ntmps65
 go_wp2_with fail;refine HO.out.mono ?_;rintro e w1 ⟨rfl,rfl⟩;go_wp2_with fail;refine (zA3 HL.out HD.out HH.out At.out Ch.out).mono ?_;rintro e w2 ⟨rfl,fv,iv,lv,h2, -⟩;have H2:=oh h2;have k4:=h2.blk.cell (o:=4) (v:=.int .i64 (s.root:Int)) rfl;clear h2;by_cases hr:s.root=0
 .have Ar:((s.root:Int) != 0)=false:=by rw[hr];rfl
  have HA:Hid (yE D s=zA.hd (yG D s.gen)):=oh (by unfold yE;rw[if_pos hr]);clear hr;go_wp2_with fail;go_ret2
  rw[HA.out];exact⟨_,_,fv,iv,lv,rfl,H2.out⟩
 .have Ar:((s.root:Int) != 0)=true:=bne_iff_ne.2 (by omega);have HA:Hid (yE D s=zH (zP D) s.gen s.size 16 (s.root:Int) (zA.hd (yG D s.gen))):=oh (by unfold yE;rw[if_neg hr]);have HN:=oh (vM HL.out HD.out HZ.out 16 _ _ _ _ _ (s.root:Int) 1 H2.out Cj.out (by omega) (by rw[<- HA.out];exact HF.out));clear hr;go_wp2_with fail;refine HN.out.mono ?_;rintro e w3 ⟨rfl,fv3,iv3,lv3,h3, -⟩;have H3:=oh h3;clear h3;go_wp2_with fail;go_ret2
  rw[HA.out];exact⟨_,_,fv3,iv3,lv3,rfl,H3.out⟩
def zBw(w:World)(g:Int)(A:zA)(e:Ending)(w':World):Prop :=
 ∃fa fc ia ic la lc,e=.returned (.tuple #[.agg #[.int .u64 g,.slice fa A.finds.length fc,.int .i64 (A.ids.length:Int),.slice ia A.ids.length ic,.int .i64 (A.keys:Int),.slice la A.lost.length lc,.bool A.blind],.nilIface]) /\
  Own (λ_=>False) w' w.heap.size 137 2 zBL (.slice fa A.finds.length fc) A.finds/\Own (λ_=>False) w' w.heap.size 3 1 encI (.slice ia A.ids.length ic) A.ids/\Own (λ_=>False) w' w.heap.size 9 1 encS (.slice la A.lost.length lc) A.lost/\Ext w w'
theorem Tryz.repSz:(Tryz.prog.info? 71).map (·.size)=some 7:=by kernel_rfl
theorem vN(hL:Env NoB ad w)(hD:DkS w P d D)(ho:D.off=false)(hH:zO D s m)(hC:yL ad D s)(hf:(yE D s).few) :
  Calls Tryz.prog 25 #[.pointer (some ⟨d,0,none⟩)] w (zBw w (s.gen:Int) (yE D s)):=by
 obtain⟨w1,Aj⟩:∃W,W=w.alloc (.cells #[.int .u64 0,.slice none 0 0,.int .i64 0,.slice none 0 0,.int .i64 0,.slice none 0 0,.bool false] 71):=⟨_,rfl⟩;have m1:Ext w w1:=by rw[Aj];exact (Mods.refl _ w).alloc _
 have B4:Blk w1 w.heap.size #[.int .u64 0,.slice none 0 0,.int .i64 0,.slice none 0 0,.int .i64 0,.slice none 0 0,.bool false] 71:=by rw[Aj];exact Blk.new w _ _
 have Ak:=oh (jH (hL.mods m1.ext) (hD.at m1) ho hH hC hf);obtain⟨R,hR⟩:∃R,R=w.heap.size:=⟨_,rfl⟩;rw[<- hR] at B4;have Bp:=oh m1;have Al:=oh B4;have HR:=oh hR;have Cu:=oh Aj;clear hL hD ho hH hC hf m1 B4
 go_enter Tryz.func25, Tryz.ntmps25
 go_wp2_with fail;rw[<- Aj,<- hR];refine Ak.out.mono ?_;rintro e w2 ⟨kb,mb,fv,iv,lv,rfl,h2⟩;obtain⟨fa,fc,rfl, -⟩:=h2.rf.form;obtain⟨ia,ic,rfl, -⟩:=h2.ri.form;obtain⟨la,lc,rfl, -⟩:=h2.rl.form;obtain⟨A,hA⟩:∃A,A=yE D s:=⟨_,rfl⟩;have HA:=oh hA;rw[<- hA] at h2 ⊢;have H2:=oh h2;have A2:=Al.out.ext h2.ext;have Ck:=oh A2;have k7:=h2.blk.cell (o:=7) (v:=.int .u64 (s.gen:Int)) rfl;have k8:=h2.blk.cell (o:=8) (v:=.slice fa A.finds.length fc) rfl;have k9:=h2.blk.cell (o:=9) (v:=.int .i64 (A.ids.length:Int)) rfl;have k10:=h2.blk.cell (o:=10) (v:=.slice ia A.ids.length ic) rfl;have k11:=h2.blk.cell (o:=11) (v:=.int .i64 (A.keys:Int)) rfl;have k12:=h2.blk.cell (o:=12) (v:=.slice la A.lost.length lc) rfl;have k13:=h2.blk.cell (o:=13) (v:=.bool A.blind) rfl;have r0:=A2.cell (o:=0) (v:=.int .u64 0) rfl;have r1:=A2.cell (o:=1) (v:=.slice none 0 0) rfl;have r2:=A2.cell (o:=2) (v:=.int .i64 0) rfl;have r3:=A2.cell (o:=3) (v:=.slice none 0 0) rfl;have r4:=A2.cell (o:=4) (v:=.int .i64 0) rfl;have r5:=A2.cell (o:=5) (v:=.slice none 0 0) rfl;have r6:=A2.cell (o:=6) (v:=.bool false) rfl;have rf:=A2.frozen;clear h2 A2 hA hR Aj;go_wp2_with fail;have m3:=Mods.set7 (F:=λk=>k=R) (Mods.refl _ w2) (R:=R) (.inr rfl) (.int .u64 (s.gen:Int)) (.slice fa A.finds.length fc) (.int .i64 (A.ids.length:Int)) (.slice ia A.ids.length ic) (.int .i64 (A.keys:Int)) (.slice la A.lost.length lc) (.bool A.blind);refine bodyPost_ret (results_row_tmp rfl _ _ R 71 #[.int .u64 (s.gen:Int),.slice fa A.finds.length fc,.int .i64 (A.ids.length:Int),.slice ia A.ids.length ic,.int .i64 (A.keys:Int),.slice la A.lost.length lc,.bool A.blind] _ rfl (Ck.out.set7 _ _ _ _ _ _ _) Tryz.underlying71 rfl Tryz.repSz) rfl ?_;have hz:w.heap.size<=w1.heap.size:=Bp.out.size;have Cv:=HR.out;have Ad:∀{v:Value} {g:Nat},w1.heap.size<=g->g≠R:=λhg e=>by have:=Al.out.lt;omega
 rw[<- HA.out];refine⟨fa,fc,ia,ic,la,lc,rfl,(H2.out.rf.mods m3 (λg hg e=>?_)).rebase hz,(H2.out.ri.mods m3 (λg hg e=>?_)).rebase hz,(H2.out.rl.mods m3 (λg hg e=>?_)).rebase hz,(Bp.out.trans H2.out.ext).trans' m3 (λi hi e=>by have e:i=R:=e;omega)⟩
 .have:=(H2.out.rf.lt g hg).1;have:=Al.out.lt;omega
 .have:=(H2.out.ri.lt g hg).1;have:=Al.out.lt;omega
 .have:=(H2.out.rl.lt g hg).1;have:=Al.out.lt;omega
end
end
section
open Go.RowKit
attribute [local go_sem ↓] Go.wp_at_zero Go.wp_at_succ
theorem Tryz.eqFind(n:Nat)(a b c d:Int)(w:World):(Op.equalIn (n+2) 137 (.agg #[.int .i64 a,.int .i64 b]) (.agg #[.int .i64 c,.int .i64 d])).run Tryz.prog w=.ok (decide (a=c) && decide (b=d)) w:=by
 have u3:=Tryz.underlying3;have a3:=Tryz.isAgg3;have z3:=Tryz.sizeOf3;have hS:Tryz.prog.underlying 137 = some (.struct (Tryz.prog.fieldsOf 137)):=by kernel_rfl
 have hp:Tryz.prog.stoodInHeld 137 = false:=by kernel_rfl
 rw[run_equalIn_agg w (n+1) 137 _ _ hS hp];simp only[Program.fieldsOf,Tryz.underlying137];go_simp;by_cases h1:a=c <;> by_cases h2:b=d <;> simp[h1,h2]
section
variable {D:DiskA}{s:SupA}{m:MapA}{dd:Nat}{ps:List PairS}{pgs:List Nat}{i bit mask:Nat}
theorem qJ(h:Spo D s m dd ps pgs):yE D s=(zA.hd (yG D s.gen)).add (iL pgs) ps.length:=by
 unfold yE;rcases h.look (zA.hd (yG D s.gen)) rfl with ⟨h1,h2,h3⟩|⟨h1,h2⟩
 .rw[if_pos h1,h2,h3];exact (zA.add_nil _).symm
 .rw[if_neg h1,h2]
theorem zAp(h:Spo D s m dd ps pgs)(hp:ps.length<=1000):(yE D s).few:=by
 rw[qJ h];have h1:=(h.td.few h.dry.b256).1;have h2:=zA1 D s.gen;refine⟨?_,?_,?_,?_,?_⟩
 .show ([]++iL pgs).length<=1000;simp[iL];omega
 .show (yG D s.gen).length<=1000;omega
 .show ([]++iL pgs).length<=1000;simp[iL];omega
 .show ([]:List ByteArray).length<=100000;simp
 .show 0+ps.length<=1000000;omega
end
def qG:List PairS:=[(⟨#[97]⟩,⟨#[120]⟩)]
theorem zB1:keyB ⟨#[97]⟩=true:=by decide +kernel
theorem zBg:(zK qG (min qG.length 20)).1.length=1/\(zK qG (min qG.length 20)).2=1:=by
 have e:min qG.length 20=0+1:=rfl;rw[e,jF (x:=(⟨#[97]⟩,⟨#[120]⟩)) rfl zB1];exact⟨rfl,rfl⟩
section
variable {F P:Nat->Prop}{ad:Nat->Addr}{w w':World}{d:Nat}{D:DiskA}
theorem DkS.hit(hL:Env F ad w)(hP:∀k,P k->F k)(h:DkS w P d D)(i bit mask:Nat)(hi:i<D.blocks)(hb:bit<8 * D.size)(hm:mask<4294967296) :
  Calls Tryz.prog 36 #[.pointer (some ⟨d,0,none⟩),.int .i64 (i:Int),.int .i64 (bit:Int),.int .u32 (mask:Int)] w (DkDone F P ad w d (zT D i bit mask)):=by
 obtain⟨bl,gs,ws,wv,kv,h1,h2⟩:=h;exact jL hL hP h1 h2 i bit mask hi hb hm
theorem qW(hL:Env NoB ad w) : Calls Tryz.prog 27 #[] w λe w'=>e=.returned (.bool true)/\Ext w w':=by
 have m0:Ext w (w.alloc (.cells #[.string ⟨#[97]⟩,.string ⟨#[120]⟩] 38)):=(Mods.refl _ w).alloc _;have HS:Hid (Sl NoB (w.alloc (.cells #[.string ⟨#[97]⟩,.string ⟨#[120]⟩] 38)) 2 encP (.slice (some ⟨w.heap.size,0,none⟩) 1 1) qG):=oh (Sl.one (x:=((⟨#[97]⟩,⟨#[120]⟩):PairS)) (heap_at rfl) (λf=>f));have HL:=oh (hL.mods m0.ext);have Au:=oh m0;clear hL m0
 go_enter Tryz.func27, Tryz.ntmps27
 go_wp2_with fail;refine (vH HL.out _ qG HS.out).mono ?_;rintro e w1 ⟨d,D,Pd,F,s,m,dd,pgs,wa,wc,rfl,hD,hC,Bq,Br,B5, -, -,hN, -⟩;rw[zBg.2] at B5;have B6:=oh zBg.1;obtain⟨ps,Bs⟩:∃ps,ps=(zK qG (min qG.length 20)).1:=⟨_,rfl⟩;rw[<- Bs] at hC B6 ⊢;have HC:=oh hC;have HN:=oh hN;have HB:=oh (And.intro Bq (And.intro Br B5));have B7:=oh (DkS.hit hN.env hN.sub hD 2 100 1 (by omega) (by omega) (by omega));rw[show ((2:Nat):Int)=2 from rfl,show ((100:Nat):Int)=100 from rfl,show ((1:Nat):Int)=1 from rfl] at B7;clear hD hC Bq Br B5 hN Bs;go_wp2_with fail;refine B7.out.mono ?_;rintro e w2 ⟨P2,F2,rfl,Bt,As⟩;obtain⟨b1,b2,b3⟩:=HB.out;have Cl:Hid (Ext (w.alloc (.cells #[.string ⟨#[97]⟩,.string ⟨#[120]⟩] 38)) w2):=oh ((HN.out.trans As).stp.mods);have B8:place s.gen 0=2:=by rw[b3];rfl
 have B9:place s.gen 1=3:=by rw[b3];rfl
 have Bu:2 ∉ pgs:=λh=>by have:=HC.out.hi 2 h;omega
 have hS:=HC.out.hit_spo (i:=2) (bit:=100) (mask:=1) (by omega) (by omega) (by omega) Bu;obtain⟨q1,q2,q3⟩:=HC.out.shut;have a0:zC (zT D 2 100 1) 0=false:=by rw[zM D (by omega)];exact q1 0 (by omega)
 have a1:zC (zT D 2 100 1) 1=false:=by rw[zM D (by omega)];exact q1 1 (by omega)
 have Bv:yG (zT D 2 100 1) s.gen=[(2,2)]:=by
  have a2:zC (zT D 2 100 1) 2=true:=zAG (by rw[HC.out.well.dry.lenL];omega) (by rw[<- B8];exact q2 0 (by omega)) (by rw[HC.out.well.dry.last,HC.out.well.dry.len 2 (by omega),b2];omega) rfl;have a3:zC (zT D 2 100 1) 3=false:=by rw[zM D (by omega)];rw[<- B9];exact q2 1 (by omega)
  unfold yG;rw[yJ,yJ,yK,yK,B8,B9,a0,a1,a2,a3];rfl
 have Ba:=qJ hS;rw[Bv,B6.out] at Ba;have Ak:=oh (vN ((HN.out.trans As).env.anti (Q:=NoB) (λ_ h=>h.elim)) Bt (by show D.off=false;exact HC.out.well.dry.off) hS.head (vL hS.head a0 a1) (zAp hS (by rw[B6.out];omega)));rw[Ba] at Ak;obtain⟨A,hA⟩:∃A,A=(zA.hd [(2,2)]).add (iL pgs) 1:=⟨_,rfl⟩;rw[<- hA] at Ak;have Cm:A.finds=[(2,2)]:=by rw[hA];rfl
 have Cn:A.keys=1:=by rw[hA];rfl
 have Cw:=oh (((HN.out.trans As).env.anti (Q:=NoB) (λ_ h=>h.elim)));clear a0 a1 Bt As B8 B9 Bu hS q1 q2 q3 Bv Ba hA b1 b2 b3 B7;go_wp2_with fail;refine Ak.out.mono ?_;rintro e w3 ⟨fa,fc,ia,ic,la,lc,rfl,Bw, -, -,Bx⟩;rw[Cm,Cn] at *;obtain⟨qb,qoff,rfl, -,Am⟩:=(Bw.sl (λ_=>rfl) (by simp)).elemF (k:=0) (by simp);have m4:Ext w3 (w3.alloc (.cells #[.int .u64 (s.gen:Int),.slice (some ⟨qb,qoff,none⟩) 1 fc,.int .i64 (A.ids.length:Int),.slice ia A.ids.length ic,.int .i64 1,.slice la A.lost.length lc,.bool A.blind] 71)):=(Mods.refl _ w3).alloc _;have c0:=(m4.cell (cell_lt (Am 0 _ rfl)) (λf=>f)).trans (Am 0 (.int .i64 2) rfl);have c1:=(m4.cell (cell_lt (Am 1 _ rfl)) (λf=>f)).trans (Am 1 (.int .i64 2) rfl);simp only[Nat.zero_mul,wJ] at c0 c1;have eqf:∀(a b c d:Int) (w:World),(Op.equalIn 10000 137 (.agg #[.int .i64 a,.int .i64 b]) (.agg #[.int .i64 c,.int .i64 d])).run Tryz.prog w=.ok (decide (a=c) && decide (b=d)) w:=λa b c d w=>Tryz.eqFind 9998 a b c d w
 have Co:=oh (((Au.out.trans Cl.out).trans Bx).trans m4);clear Bw Am Bx m4;go_wp2_with fail;go_ret;exact⟨rfl,Co.out⟩
end
end
end Go.Proofs.YteabpacpngaoaaaGreatDoor
