import Derived.Test.YteabpacpngaoaaaGreatDoorC54
import Derived.Test.YteabpacpngaoaaaGreatDoorC58
import Derived.Test.YteabpacpngaoaaaGreatDoorC60
namespace Go.Proofs.YteabpacpngaoaaaGreatDoor
open Lib renaming hid->oh
set_option maxHeartbeats 8000000
set_option maxRecDepth 100000
section
open Go.RowKit Go.Maps
attribute [local go_sem ↓] Go.wp_at_zero Go.wp_at_succ
section
variable {F:Nat->Prop}{ad:Nat->Addr}{w0 w w' wr:World}{kb mb d:Nat}{s:yM}{m:vF}{g:Int}{A:yQ}{fv iv lv:Value}{P:Nat->Prop}{D:zI}
theorem zNC(hL:yG F ad w)(h:zBt D s m)(bv:Value)(i:Nat)(hi:i<2)(hb:Sl F w 1 zZ bv (D.lasting.getD i []))(hl:(D.lasting.getD i []).length=D.size) :
  Calls Tryz.prog 120 #[bv,.int .i64 (i:Int)] w λe w'=>((yX D i=false/\e=.returned (.tuple #[qF s,.nilIface]))\/(yX D i=true/\∃f,e=.returned (.tuple #[qF sup0,zL f])))/\zF w w':=by
 have hlim:=h.lim;refine (zBD hL bv _ hb (by omega) (by omega) i hi (h.none hi)).mono ?_;rintro e w' ⟨ev,rfl,hE,hm⟩;rw[h.openS hi] at hE ⊢;refine⟨?_,hm⟩;cases hs:yX D i with
 | false =>
  rw[hs] at hE;cases hE
  exact .inl ⟨rfl,rfl⟩
 | true =>
  rw[hs] at hE;obtain⟨f,rfl, -⟩:=hE;exact .inr ⟨rfl,f,rfl⟩
def zDj(ad:Nat->Addr)(D:zI)(s:yM):Prop:=∀(F:Nat->Prop) (w:World) (av bv:Value),yG F ad w->Sl F w 1 zZ av (D.lasting.getD 0 [])->Sl F w 1 zZ bv (D.lasting.getD 1 [])->(D.lasting.getD 0 []).length=D.size->(D.lasting.getD 1 []).length=D.size ->
  Calls Tryz.prog 119 #[av,bv] w λe w'=>∃j:Int,e=.returned (.tuple #[qF s,.int .i64 j,.nilIface])/\zF w w'
theorem zIO(h:zBt D s m)(e0:yX D 0=false)(e1:yX D 1=false):zDj ad D s:=by
 intro F w av bv hL ha hb hl0 hl1;have hlim:=h.lim;have h0:=h.openS (i:=0) (by omega);have h1:=h.openS (i:=1) (by omega);have n0:=h.none (i:=0) (by omega);have n1:=h.none (i:=1) (by omega);obtain⟨sg,sb,sz,sr,sk⟩:=s;rw[e0,if_neg (by simp)] at h0;rw[e1,if_neg (by simp)] at h1;refine (zED hL av bv _ _ ha hb (by omega) (by omega) (by omega) (by omega) n0 n1 h0 h1 (Nat.le_refl _)).mono ?_;rintro e w' ⟨ev,rfl,hE,hm⟩;cases hE
 exact⟨0,rfl,hm⟩
theorem zND(hL:yG F ad w)(h:zBt D s m)(bv:Value)(k:Nat)(hk:k<2)(hb:Sl F w 1 zZ bv (D.lasting.getD (place s.gen k) []))(hl:(D.lasting.getD (place s.gen k) []).length=D.size) :
  Calls Tryz.prog 175 #[bv,.int .i64 (place s.gen k:Int),.int .u64 (s.gen:Int),.int .i64 (s.blocks:Int)] w λe w'=>∃(mg mb:Int) (ua:Option Addr) (un uc:Nat) (ev:Value),e=.returned (.tuple #[.agg #[.int .u64 mg,.int .i64 mb,.slice ua un uc],ev])/\((yX D (place s.gen k)=false/\ev=.nilIface)\/(yX D (place s.gen k)=true/\∃f,ev=zL f))/\zF w w':=by
 have hlim:=h.lim;have hg:=h.gen;have hp:place s.gen k<6:=by unfold place;omega
 cases hs:yX D (place s.gen k) with
 | true =>
  refine (zGt hL (place s.gen k) s.gen s.blocks hp bv _ hb (by omega) (by omega) (zCx.1 hs)).mono ?_;rintro e w' ⟨f,rfl,hm⟩;exact⟨0,0,none,0,0,_,rfl,.inr ⟨rfl,f,rfl⟩,hm⟩
 | false =>
  have hr:D.lasting.getD (place s.gen k) []=yF m (place s.gen k) D.size:=by
   rcases h.map k hk with h|h
   .rw[hs] at h;cases h
   .exact h
  rw[hr] at hb;have hpl:jX m.gen (place s.gen k)=true:=by
   rw[h.mgen];rcases (show k=0\/k=1 by omega) with rfl|rfl
   .exact zLi _
   .exact zLj _
  have hc:=zDz hL m h.mok (by rw[h.mgen];omega) (place s.gen k) D.size hpl (by omega) (by omega) bv hb;rw[h.mgen,h.mblk] at hc;refine hc.mono ?_;rintro e w' ⟨uv,rfl,ho,_,hm⟩;obtain⟨ua,uc,rfl, -⟩:=ho.form;exact⟨_,_,ua,_,uc,_,rfl,.inl ⟨rfl,rfl⟩,hm⟩
theorem LkS.headed(h:LkS w0 w kb mb d s g A fv iv lv)(G b z r k:Nat):LkS w0 ((((((w.setCell ⟨kb,1,none⟩ (.int .u64 (G:Int))).setCell ⟨kb,2,none⟩ (.int .i64 (b:Int))).setCell ⟨kb,3,none⟩ (.int .i64 (z:Int))).setCell ⟨kb,4,none⟩ (.int .i64 (r:Int))).setCell ⟨kb,5,none⟩ (.int .i64 (k:Int))).setCell ⟨kb,7,none⟩ (.int .u64 (G:Int))).drew kb mb d ⟨G,b,z,r,k⟩ (G:Int) A fv iv lv /\
  zAA kb mb fv iv lv fv iv lv w ((((((w.setCell ⟨kb,1,none⟩ (.int .u64 (G:Int))).setCell ⟨kb,2,none⟩ (.int .i64 (b:Int))).setCell ⟨kb,3,none⟩ (.int .i64 (z:Int))).setCell ⟨kb,4,none⟩ (.int .i64 (r:Int))).setCell ⟨kb,5,none⟩ (.int .i64 (k:Int))).setCell ⟨kb,7,none⟩ (.int .u64 (G:Int))).drew:=by
 obtain⟨W,hW⟩:∃W,W=((((((w.setCell ⟨kb,1,none⟩ (.int .u64 (G:Int))).setCell ⟨kb,2,none⟩ (.int .i64 (b:Int))).setCell ⟨kb,3,none⟩ (.int .i64 (z:Int))).setCell ⟨kb,4,none⟩ (.int .i64 (r:Int))).setCell ⟨kb,5,none⟩ (.int .i64 (k:Int))).setCell ⟨kb,7,none⟩ (.int .u64 (G:Int))).drew:=⟨_,rfl⟩;have m:zA (λk=>k=kb) w W:=by
  rw[hW];exact (zA.setCell (F:=λj=>j=kb) (zA.setCell (F:=λj=>j=kb) (zA.setCell (F:=λj=>j=kb) (zA.setCell (F:=λj=>j=kb) (zA.setCell (F:=λj=>j=kb) (zA.setCell (F:=λj=>j=kb) (zA.refl _ w) (p:=⟨kb,1,none⟩) (.inr rfl) _) (p:=⟨kb,2,none⟩) (.inr rfl) _) (p:=⟨kb,3,none⟩) (.inr rfl) _) (p:=⟨kb,4,none⟩) (.inr rfl) _) (p:=⟨kb,5,none⟩) (.inr rfl) _) (p:=⟨kb,7,none⟩) (.inr rfl) _).drew
 have hB:zH W kb (lkC d mb ⟨G,b,z,r,k⟩ (G:Int) A fv iv lv) 135:=by
  rw[hW];exact zH.drew (by simpa[lkC] using (((((h.blk.set 1 (.int .u64 (G:Int))).set 2 (.int .i64 (b:Int))).set 3 (.int .i64 (z:Int))).set 4 (.int .i64 (r:Int))).set 5 (.int .i64 (k:Int))).set 7 (.int .u64 (G:Int)))
 rw[<- hW];exact⟨⟨h.ext.trans' m (λi hi e=>by have:=h.new.1;omega),h.new,hB,h.seen.mods m (λe=>h.off e.symm),h.rf.mods m (λg hg e=>yC.notB h.rf h.blk (by decide) g hg e),h.ri.mods m (λg hg e=>yC.notB h.ri h.blk (by decide) g hg e),h.rl.mods m (λg hg e=>yC.notB h.rl h.blk (by decide) g hg e),h.few⟩,m.mono (λk e=>.inl e),λ_ h=>.inl h⟩
theorem Sl.lenE{α:Type}{sz:Nat}{enc:α->List Value}{a:Option Addr}{n c:Nat}{l:List α}(h:Sl F w sz enc (.slice a n c) l):l.length=n:=by
 obtain⟨_,_,he,_⟩:=h;injection he with _ he;exact he.symm
abbrev zKQ(z:Nat)(x:Option Addr × Nat):Value:=.slice x.1 z x.2
structure zKR(w0 w wr:World)(kb mb d:Nat)(D:zI)(s:yM)(fv iv lv:Value)(R R7:Nat)(cs:Array Value)(G:Nat->Option Addr × Nat)(l:List (Int × Int))(fv1 iv1 lv1:Value):Prop where
 st:LkS w0 wr kb mb d s (s.gen:Int) (yQ.hd l) fv1 iv1 lv1
 go:zAA kb mb fv iv lv fv1 iv1 lv1 w wr
 rb:zH wr R cs 279
 rn:¬ LkB kb mb fv1 iv1 lv1 R
 sb:zH wr R7 #[.int .u64 (s.gen:Int),.int .i64 (s.blocks:Int),.int .i64 (s.size:Int),.int .i64 (s.root:Int),.int .i64 (s.keys:Int)] 57
 sn:¬ LkB kb mb fv1 iv1 lv1 R7
 cs:∀j,j<6->cs[j]? = some (zKQ D.size (G j))/\Sl (LkB kb mb fv1 iv1 lv1) wr 1 zZ (zKQ D.size (G j)) (D.lasting.getD j [])
theorem zKR.nxt{w2:World}{R R7:Nat}{cs:Array Value}{G:Nat->Option Addr × Nat}{l l2:List (Int × Int)}{fv1 iv1 lv1 fv2 iv2 lv2:Value}(h:zKR w0 w wr kb mb d D s fv iv lv R R7 cs G l fv1 iv1 lv1)(h2:LkS w0 w2 kb mb d s (s.gen:Int) (yQ.hd l2) fv2 iv2 lv2)(g2:zAA kb mb fv1 iv1 lv1 fv2 iv2 lv2 wr w2):zKR w0 w w2 kb mb d D s fv iv lv R R7 cs G l2 fv2 iv2 lv2 :=
 ⟨h2,h.go.trans g2,(g2.blk h.rb h.rn).1,(g2.blk h.rb h.rn).2,(g2.blk h.sb h.sn).1,(g2.blk h.sb h.sn).2,λj hj=>⟨(h.cs j hj).1,g2.sl (h.cs j hj).2⟩⟩
theorem zKR.ext{w2:World}{R R7:Nat}{cs:Array Value}{G:Nat->Option Addr × Nat}{l:List (Int × Int)}{fv1 iv1 lv1:Value}(h:zKR w0 w wr kb mb d D s fv iv lv R R7 cs G l fv1 iv1 lv1)(m:zF wr w2):zKR w0 w w2 kb mb d D s fv iv lv R R7 cs G l fv1 iv1 lv1:=h.nxt (h.st.at m) (zAA.ext m)
theorem zO3(hL:yG NoB ad w0)(hD:jT w0 P d D)(hH:zBt D s m)(hC:zDj ad D s)(h:LkS w0 w kb mb d sup0 0 (yQ.hd []) fv iv lv) :
  Calls Tryz.prog 110 #[.pointer (some ⟨kb,0,none⟩)] w λe w'=>e=.returned .nilIface/\zQP w0 kb mb d s (s.gen:Int) fv iv lv w (yQ.hd (zDQ D s.gen)) w':=by
 have HL:=oh hL;have HD:=oh hD;have HH:=oh hH;have HCO:=oh hC;have H:=oh h;obtain⟨z8,zOI,z3,z4⟩:=hH.lim;obtain⟨DZ,hDZ⟩:∃n,n=D.size:=⟨_,rfl⟩;have HDZ:=oh hDZ;have m0:zF w (w.alloc (.cells #[.slice none 0 0,.slice none 0 0,.slice none 0 0,.slice none 0 0,.slice none 0 0,.slice none 0 0] 279)):=(zA.refl _ w).alloc _;have HM0:=oh m0;have HB0:=oh (zH.new w #[.slice none 0 0,.slice none 0 0,.slice none 0 0,.slice none 0 0,.slice none 0 0,.slice none 0 0] 279);obtain⟨R,hR⟩:∃R,R=w.heap.size:=⟨_,rfl⟩;have hRk:R≠kb:=λe=>by have:=h.blk.lt;omega
 have HRB:Hid (¬ LkB kb mb fv iv lv R):=oh (λhb=>by have:=(h.lt _ hb).2;omega);have HRS:Hid (R=w.heap.size):=oh hR;rw[<- hR] at HB0;clear hL hD hH hC h m0 hDZ
 go_enter Tryz.func110, Tryz.ntmps110
 go_wp2_with fail;rw[<- hR];clear hR;go_loopg [17] 6 (λq v17 wr=>∃(k:Nat) (G:Nat->Option Addr × Nat) (cs:Array Value),k+q=6/\v17=.int .i64 (k:Int)/\Hid (zF w wr/\zH wr R cs 279 /\ (∀j,j<k->cs[j]? = some (zKQ DZ (G j))/\Sl (qE (LkB kb mb fv iv lv) R) wr 1 zZ (zKQ DZ (G j)) (D.lasting.getD j []))/\∀j,k<=j->j<6->cs[j]? = some (.slice none 0 0)))
 case atStart=>exact⟨0,λ_=>(none,0),_,by omega,rfl,oh ⟨HM0.out,HB0.out,λj hj=>by omega,λj _ hj=>by
  match j,hj with
  | 0,_=>rfl
  | 1,_=>rfl
  | 2,_=>rfl
  | 3,_=>rfl
  | 4,_=>rfl
  | 5,_=>rfl⟩⟩
 case round =>
  obtain⟨k,G,cs,hk,rfl,HQ⟩:=hrel;by_cases hlt:k<6
  .have i0:(0:Int)<=(k:Int):=by omega
   have i6:(k:Int)<6:=by omega
   have c0:=(H.out.at HQ.out.1).blk.cell (o:=0) (v:=.pointer (some ⟨d,0,none⟩)) rfl;have HLA:=oh (jT.lasting ((H.out.at HQ.out.1).envX HL.out (X:=R) (by have:=HRS.out;have:=H.out.ext.size;omega) HQ.out.2.1.lt) (HD.out.at (H.out.ext.trans HQ.out.1)) k (by omega));go_wp2_with fail;refine HLA.out.mono ?_;rintro e w2 ⟨v,rfl,hsl,hlen,hm⟩;obtain⟨va,vc,rfl, -⟩:=id hsl;rw[hlen,<- HDZ.out] at hsl ⊢;have HSL:=oh hsl;have HM2:=oh (HQ.out.1.trans hm);have HM2':=oh hm;have hB2:=HQ.out.2.1.ext hm;have HB2:=oh hB2;have r0:=hB2.cell (o:=k) (v:=.slice none 0 0) (HQ.out.2.2.2 k (Nat.le_refl _) hlt);have rf:=hB2.frozen;clear hsl hlen hm hB2 c0;go_wp2_with fail;go_roundg (gk-1)
   case measure=>omega
   case rel =>
    have hcs:k<cs.size:=(Array.getElem?_eq_some_iff.1 (HQ.out.2.2.2 k (Nat.le_refl _) hlt)).1;have m3:zA (λj=>j=R) w2 (w2.setCell ⟨R,k,none⟩ (.slice va DZ vc)):=zA.setCell (F:=λj=>j=R) (zA.refl _ w2) (p:=⟨R,k,none⟩) (.inr rfl) _;refine⟨k+1,λj=>if j=k then (va,vc) else G j,cs.setIfInBounds k (.slice va DZ vc),by omega,by go_num,oh ⟨HM2.out.trans' m3 (λi hi e=>by have:=HRS.out;omega),HB2.out.set k _,λj hj=>?_,λj hj hj6=>?_⟩⟩
    .by_cases e:j=k
     .subst e;refine⟨by simp[hcs],?_⟩;simp only[if_true];exact HSL.out.mods (m3.mono (λi e=>.inr e))
     .obtain⟨q1,q2⟩:=HQ.out.2.2.1 j (by omega);refine⟨?_,?_⟩
      .simp only[if_neg e];rw[<- q1,Array.getElem?_setIfInBounds_ne (λe'=>e e'.symm)]
      .simp only[if_neg e];exact (q2.ext HM2'.out).mods (m3.mono (λi e=>.inr e))
    .rw[Array.getElem?_setIfInBounds_ne (by omega)];exact HQ.out.2.2.2 j (by omega) hj6
  .obtain rfl:k=6:=by omega
   obtain⟨p0,q0⟩:=HQ.out.2.2.1 0 (by omega);obtain⟨p1,q1⟩:=HQ.out.2.2.1 1 (by omega);have r0:=HQ.out.2.1.cell p0;have r1:=HQ.out.2.1.cell p1;have HE:=oh ((H.out.at HQ.out.1).envX HL.out (X:=R) (by have:=HRS.out;have:=H.out.ext.size;omega) HQ.out.2.1.lt);have HCH:=oh (HCO.out _ _ _ _ HE.out q0 q1 (q0.lenE.trans HDZ.out) (q1.lenE.trans HDZ.out));have HW:=oh HQ.out.1;have HCB:=oh HQ.out.2.1;have HCS:=oh HQ.out.2.2.1;clear p0 p1 q0 q1 HQ;go_wp2_with fail;refine HCH.out.mono ?_;rintro e w5 ⟨j5,rfl,hm5⟩;have HSV:Hid (qF s=.agg #[.int .u64 (s.gen:Int),.int .i64 (s.blocks:Int),.int .i64 (s.size:Int),.int .i64 (s.root:Int),.int .i64 (s.keys:Int)]):=oh rfl;rw[HSV.out];obtain⟨W6,hW6⟩:∃W,W=w5.alloc (.cells #[.int .u64 (s.gen:Int),.int .i64 (s.blocks:Int),.int .i64 (s.size:Int),.int .i64 (s.root:Int),.int .i64 (s.keys:Int)] 57):=⟨_,rfl⟩;obtain⟨R7,hR7⟩:∃R,R=w5.heap.size:=⟨_,rfl⟩;have m6:zF wr W6:=by rw[hW6];exact hm5.alloc _
   have hS6:zH W6 R7 #[.int .u64 (s.gen:Int),.int .i64 (s.blocks:Int),.int .i64 (s.size:Int),.int .i64 (s.root:Int),.int .i64 (s.keys:Int)] 57:=by rw[hW6,hR7];exact zH.new w5 _ _
   have HS6:=oh hS6;have HM6:=oh m6;have HR7:Hid (¬ LkB kb mb fv iv lv R7):=oh (λhb=>by have:=((H.out.at HW.out).lt _ hb).2;have:=hm5.size;omega);clear r0 r1 hm5 m6 hS6;go_wp2_with fail;rw[<- hW6,<- hR7];have HSX:=oh (λW (m:zF W6 W)=>(⟨((H.out.at (HW.out.trans HM6.out)).at m).blk.cell rfl,(HS6.out.ext m).cell rfl,(HS6.out.ext m).cell rfl⟩:W.cell? ⟨kb,0,none⟩=some (.pointer (some ⟨d,0,none⟩))/\W.cell? ⟨R7,1,none⟩=some (.int .i64 (s.blocks:Int))/\W.cell? ⟨R7,2,none⟩=some (.int .i64 (s.size:Int))));have zd:=HSX.out _ (zA.refl _ W6).drew;have HGE:Hid (∀W,jT W P d D -> Calls Tryz.prog 45 #[.pointer (some ⟨d,0,none⟩)] W λe w'=>e=.returned (.agg #[.int .i64 (s.blocks:Int),.int .i64 (s.size:Int)])/\zF W w'):=oh (λW m=>by have:=m.geo;rw[<- HH.out.blk,<- HH.out.siz] at this;exact this);have HD6:=oh (HD.out.at (H.out.ext.trans (HW.out.trans HM6.out)));have eqg:∀(a b c d:Int) (w:World),(Op.equalIn 10000 24 (.agg #[.int .i64 a,.int .i64 b]) (.agg #[.int .i64 c,.int .i64 d])).run Tryz.prog w=.ok (decide (a=c) && decide (b=d)) w:=λa b c d w=>Tryz.eqGeo 9998 a b c d w
   clear hW6 hR7;go_region_held3 (λw'=>w'.cell? ⟨kb,0,none⟩=some (.pointer (some ⟨d,0,none⟩))/\w'.cell? ⟨R7,1,none⟩=some (.int .i64 (s.blocks:Int))/\w'.cell? ⟨R7,2,none⟩=some (.int .i64 (s.size:Int)))
    (first|(with_reducible exact zd)|(with_reducible exact z5)|fail)
    (first
     | (go_at_call 45;(with_reducible refine (HGE.out _ (HD6.out.at (zA.refl _ W6).drew)).mono ?_);rintro e w7 ⟨rfl,m7⟩;have xw7:=(zA.refl _ W6).drew.trans m7;have z5:=HSX.out _ xw7)
     | fail)
   have HK7:=oh (H.out.at ((HW.out.trans HM6.out).trans xw7));have hS7:=HS6.out.ext xw7;have HS7:=oh hS7;have HX7:=oh (HM6.out.trans xw7);have s0:=hS7.cell (o:=0) (v:=.int .u64 (s.gen:Int)) rfl;have s1:=hS7.cell (o:=1) (v:=.int .i64 (s.blocks:Int)) rfl;have s2:=hS7.cell (o:=2) (v:=.int .i64 (s.size:Int)) rfl;have s3:=hS7.cell (o:=3) (v:=.int .i64 (s.root:Int)) rfl;have s4:=hS7.cell (o:=4) (v:=.int .i64 (s.keys:Int)) rfl;have k1:=HK7.out.blk.cell (o:=1) (v:=.int .u64 0) rfl;have k2:=HK7.out.blk.cell (o:=2) (v:=.int .i64 0) rfl;have k3:=HK7.out.blk.cell (o:=3) (v:=.int .i64 0) rfl;have k4:=HK7.out.blk.cell (o:=4) (v:=.int .i64 0) rfl;have k5:=HK7.out.blk.cell (o:=5) (v:=.int .i64 0) rfl;have k7:=HK7.out.blk.cell (o:=7) (v:=.int .u64 0) rfl;have kf:=HK7.out.blk.frozen;clear zd z5 xw7 m7 hS7;go_wp2_with fail;go_region
   obtain⟨h8,g8⟩:=HK7.out.headed s.gen s.blocks s.size s.root s.keys;obtain⟨W8,hW8⟩:∃W,W=((((((w7.setCell ⟨kb,1,none⟩ (.int .u64 (s.gen:Int))).setCell ⟨kb,2,none⟩ (.int .i64 (s.blocks:Int))).setCell ⟨kb,3,none⟩ (.int .i64 (s.size:Int))).setCell ⟨kb,4,none⟩ (.int .i64 (s.root:Int))).setCell ⟨kb,5,none⟩ (.int .i64 (s.keys:Int))).setCell ⟨kb,7,none⟩ (.int .u64 (s.gen:Int))).drew:=⟨_,rfl⟩;rw[<- hW8] at h8 g8 ⊢;have HS8:Hid (zKR w0 w W8 kb mb d D s fv iv lv R R7 cs G [] fv iv lv):=oh (by
    have hrb:=g8.blk ((HCB.out.ext HX7.out)) HRB.out;have hsb:=g8.blk HS7.out HR7.out;refine⟨h8,(zAA.ext (HW.out.trans HX7.out)).trans g8,hrb.1,hrb.2,hsb.1,hsb.2,λj hj=>?_⟩;obtain⟨e1,e2⟩:=HCS.out j hj;rw[HDZ.out] at e1 e2;exact⟨e1,g8.sl ((e2.anti (λ_ _ hb=>.inl hb)).ext HX7.out)⟩)
   have eqs:∀(w:World),(Op.equalIn 10000 57 (.agg #[.int .u64 (s.gen:Int),.int .i64 (s.blocks:Int),.int .i64 (s.size:Int),.int .i64 (s.root:Int),.int .i64 (s.keys:Int)]) (.agg #[.int .u64 (s.gen:Int),.int .i64 (s.blocks:Int),.int .i64 (s.size:Int),.int .i64 (s.root:Int),.int .i64 (s.keys:Int)])).run Tryz.prog w=.ok true w:=λw=>Tryz.eqSuper 9997 _ _ _ _ _ w
   clear h8 g8 hW8 s0 s1 s2 s3 s4 k1 k2 k3 k4 k5 k7 kf HCH HE;go_wp2_with fail;go_loopg [68] 2 (λq v68 wr=>∃(k:Nat) (fv1 iv1 lv1:Value),k+q=2/\v68=.int .i64 (k:Int)/\Hid (zKR w0 w wr kb mb d D s fv iv lv R R7 cs G (zF1 D k) fv1 iv1 lv1))
   case atStart=>exact⟨0,fv,iv,lv,rfl,rfl,oh HS8.out⟩
   case round =>
    obtain⟨k,fv1,iv1,lv1,hk,rfl,HQ⟩:=hrel;by_cases hlt:k<2
    .obtain⟨e1,e2⟩:=HQ.out.cs k (by omega);have r0:=HQ.out.rb.cell e1;have i0:(0:Int)<=(k:Int):=by omega
     have i6:(k:Int)<6:=by omega
     have i2:(k:Int)<2:=by omega
     have HOP:=oh (zNC (HQ.out.st.env HL.out) HH.out _ k hlt e2 e2.lenE);have HSC:=oh (zDh D k);rw[<- HDZ.out] at r0 HOP;clear e1 e2;go_wp2_with fail;refine HOP.out.mono ?_;rintro e w9 ⟨⟨hs,rfl⟩|⟨hs,f,rfl⟩,hm9⟩
     .rw[HSV.out];have m10:zF wr (w9.alloc (.cells #[.int .u64 (s.gen:Int),.int .i64 (s.blocks:Int),.int .i64 (s.size:Int),.int .i64 (s.root:Int),.int .i64 (s.keys:Int)] 57)):=hm9.alloc _;have HN:=oh (HQ.out.ext m10);have hsb:=HN.out.sb;have s0:=hsb.cell (o:=0) (v:=.int .u64 (s.gen:Int)) rfl;have s1:=hsb.cell (o:=1) (v:=.int .i64 (s.blocks:Int)) rfl;have s2:=hsb.cell (o:=2) (v:=.int .i64 (s.size:Int)) rfl;have s3:=hsb.cell (o:=3) (v:=.int .i64 (s.root:Int)) rfl;have s4:=hsb.cell (o:=4) (v:=.int .i64 (s.keys:Int)) rfl;have HFS:Hid (zF1 D (k+1)=zF1 D k):=oh (by rw[HSC.out,hs];simp);clear hm9 m10 hsb hs r0;go_wp2_with fail;go_roundg (gk-1)
      case measure=>omega
      case rel=>exact⟨k+1,fv1,iv1,lv1,by omega,by go_num,oh (by rw[HFS.out];exact HN.out)⟩
     .have HSV0:Hid (qF sup0=.agg #[.int .u64 0,.int .i64 0,.int .i64 0,.int .i64 0,.int .i64 0]):=oh rfl;rw[HSV0.out];have m10:zF wr (w9.alloc (.cells #[.int .u64 0,.int .i64 0,.int .i64 0,.int .i64 0,.int .i64 0] 57)):=hm9.alloc _;have HN:=oh (HQ.out.ext m10);have hfl:=zIM D (k+1);have HFS:Hid (zF1 D (k+1)=zF1 D k++[((k:Int),1)]):=oh (by rw[HSC.out,hs];simp);have HFI:=oh (zCE HN.out.st (k:Int) 1 (by rw[yQ.hd_find _ _ _ (by decide),<- HFS.out];exact yQ.hd_few (by omega)));rw[yQ.hd_find _ _ _ (by decide),<- HFS.out] at HFI;unfold zL;clear hm9 m10 hs r0 hfl;go_wp2_with fail;refine HFI.out.mono ?_;rintro e w11 ⟨rfl,fv11,h11,g11⟩;have HN11:=oh (HN.out.nxt h11 g11);clear h11 g11;go_wp2_with fail;go_roundg (gk-1)
      case measure=>omega
      case rel=>exact⟨k+1,fv11,iv1,lv1,by omega,by go_num,oh HN11.out⟩
    .obtain rfl:k=2:=by omega
     have s0:=HQ.out.sb.cell (o:=0) (v:=.int .u64 (s.gen:Int)) rfl;have HPL:=oh (λw'=>zBX s.gen (by have:=HH.out.gen;omega) w');go_wp2_with fail;refine (HPL.out _).mono ?_;rintro e w9 ⟨rfl,hm9⟩;have HPV:Hid (zBh s.gen=.agg #[.int .i64 (place s.gen 0:Int),.int .i64 (place s.gen 1:Int)]):=oh rfl;rw[HPV.out];have HIX:Hid (∀k:Nat,k<2->∀w,(Instr.index 161 (.agg #[.int .i64 (place s.gen 0:Int),.int .i64 (place s.gen 1:Int)]) (.int .i64 (k:Int))).run Tryz.prog w=.ok (.int .i64 (place s.gen k:Int)) w):=oh (λk hk w=>by
      rcases (show k=0\/k=1 by omega) with rfl|rfl
      .exact Tryz.idx2_0 _ _ w
      .exact Tryz.idx2_1 _ _ w)
     have HN9:=oh (HQ.out.ext hm9);obtain⟨P0,hP0⟩:∃p,p=place s.gen 0:=⟨_,rfl⟩;obtain⟨P1,hP1⟩:∃p,p=place s.gen 1:=⟨_,rfl⟩;rw[<- hP0,<- hP1] at HIX ⊢;clear hP0 hP1 hm9 s0;go_wp2_with fail;go_loopg [93] 2 (λq v93 wr=>∃(k:Nat) (fv1 iv1 lv1:Value),k+q=2/\v93=.int .i64 (k:Int)/\Hid (zKR w0 w wr kb mb d D s fv iv lv R R7 cs G (zF1 D 2++zG6 D s.gen k) fv1 iv1 lv1))
     case atStart=>exact⟨0,fv1,iv1,lv1,rfl,rfl,oh (by have e:zG6 D s.gen 0=[]:=rfl;rw[e,List.append_nil];exact HN9.out)⟩
     case round =>
      obtain⟨k,fv2,iv2,lv2,hk2,rfl,HQ2⟩:=hrel;by_cases hlt2:k<2
      .have hix:=HIX.out k hlt2;obtain⟨pk,hpk⟩:∃p,p=place s.gen k:=⟨_,rfl⟩;have HPK:=oh hpk;have hp6:pk<6:=by rw[hpk];unfold place;omega
       rw[<- hpk] at hix;obtain⟨e1,e2⟩:=HQ2.out.cs pk hp6;have i0:(0:Int)<=(pk:Int):=by omega
       have i6:(pk:Int)<6:=by omega
       have i2:(k:Int)<2:=by omega
       have i20:(0:Int)<=(k:Int):=by omega
       have HOP:=oh (λW (m:zF wr W)=>zND ((HQ2.out.st.at m).env HL.out) HH.out (zKQ D.size (G pk)) k hlt2 (by rw[<- HPK.out];exact e2.ext m) (by rw[<- HPK.out];exact e2.lenE));rw[<- hpk,<- HDZ.out] at HOP;have HSX:=oh (λW (m:zF wr W)=>(⟨(HQ2.out.rb.ext m).cell e1,(HQ2.out.sb.ext m).cell rfl,(HQ2.out.sb.ext m).cell rfl⟩:W.cell? ⟨R,pk,none⟩=some (zKQ D.size (G pk))/\W.cell? ⟨R7,0,none⟩=some (.int .u64 (s.gen:Int))/\W.cell? ⟨R7,1,none⟩=some (.int .i64 (s.blocks:Int))));rw[<- HDZ.out] at HSX;have zd:=HSX.out _ (zA.refl _ wr).drew;have za:=HSX.out _ ((zA.refl _ wr).alloc (.cells #[.int .u64 0,.int .i64 0,.slice none 0 0] 106)).drew;have n1:R≠wr.heap.size:=λe=>by have:=HQ2.out.rb.lt;omega
       have n2:R7≠wr.heap.size:=λe=>by have:=HQ2.out.sb.lt;omega
       clear hpk e1 e2;go_wp2_with fail;go_region_held3 (λw'=>w'.cell? ⟨R,pk,none⟩=some (zKQ DZ (G pk))/\w'.cell? ⟨R7,0,none⟩=some (.int .u64 (s.gen:Int))/\w'.cell? ⟨R7,1,none⟩=some (.int .i64 (s.blocks:Int)))
        (first|(with_reducible exact zd)|(with_reducible exact z5)|(with_reducible exact z7)|(with_reducible exact z6)|(with_reducible exact za)|fail)
        (first
         | (go_at_call 175;((with_reducible refine (HOP.out _ (zA.refl _ wr).drew).mono ?_);rintro e w9 ⟨mgx,mbx,ua,un,uc,ev,rfl,hev,m9⟩;have x9:=(zA.refl _ wr).drew.trans m9;have z5:=HSX.out _ x9;have z7:=HSX.out _ (x9.alloc (.cells #[.int .u64 0,.int .i64 0,.slice none 0 0] 106));have hB:zH (w9.alloc (.cells #[.int .u64 0,.int .i64 0,.slice none 0 0] 106)) w9.heap.size #[.int .u64 0,.int .i64 0,.slice none 0 0] 106:=zH.new w9 _ _;have b0:=hB.cell (o:=0) (v:=.int .u64 0) rfl;have b1:=hB.cell (o:=1) (v:=.int .i64 0) rfl;have b2:=hB.cell (o:=2) (v:=.slice none 0 0) rfl;have bf:=hB.frozen;have lo:wr.heap.size<=w9.heap.size:=x9.size;have z6:=HSX.out _ (x9.alloc (.cells #[.int .u64 mgx,.int .i64 mbx,.slice ua un uc] 106));have HP3:∃w3,w3=w9.alloc (.cells #[.int .u64 mgx,.int .i64 mbx,.slice ua un uc] 106)/\zF wr w3:=⟨_,rfl,x9.alloc _⟩))
         | (go_at_call 175;((with_reducible refine (HOP.out _ ((zA.refl _ wr).alloc (.cells #[.int .u64 0,.int .i64 0,.slice none 0 0] 106)).drew).mono ?_);rintro e w9 ⟨mgx,mbx,ua,un,uc,ev,rfl,hev,m9⟩;have x9:=((zA.refl _ wr).alloc (.cells #[.int .u64 0,.int .i64 0,.slice none 0 0] 106)).drew.trans m9;have z5:=HSX.out _ x9;have z7:=z5;have hB:zH w9 wr.heap.size #[.int .u64 0,.int .i64 0,.slice none 0 0] 106:=zH.ext (w:=(wr.alloc (.cells #[.int .u64 0,.int .i64 0,.slice none 0 0] 106)).drew) (zH.new wr _ _) m9;have b0:=hB.cell (o:=0) (v:=.int .u64 0) rfl;have b1:=hB.cell (o:=1) (v:=.int .i64 0) rfl;have b2:=hB.cell (o:=2) (v:=.slice none 0 0) rfl;have bf:=hB.frozen;have lo:wr.heap.size<=wr.heap.size:=Nat.le_refl _;have z6:=HSX.out _ (zA.set3 (F:=λ_=>False) x9 (R:=wr.heap.size) (.inl lo) (.int .u64 mgx) (.int .i64 mbx) (.slice ua un uc));have HP3:∃w3,w3=((w9.setCell ⟨wr.heap.size,0,none⟩ (.int .u64 mgx)).setCell ⟨wr.heap.size,1,none⟩ (.int .i64 mbx)).setCell ⟨wr.heap.size,2,none⟩ (.slice ua un uc)/\zF wr w3:=⟨_,rfl,zA.set3 (F:=λ_=>False) x9 (R:=wr.heap.size) (.inl lo) (.int .u64 mgx) (.int .i64 mbx) (.slice ua un uc)⟩))
         | fail)
       all_goals
        obtain⟨w3,hw3,hM3⟩:=HP3;rw[<- hw3];have HN:=oh (HQ2.out.ext hM3);have HSC:=oh (zDi D s.gen k);rw[<- HPK.out] at HSC;clear hw3 hM3 zd za z5 z7 z6 x9 m9 hB b0 b1 b2 bf lo n1 n2 hix;rcases hev with ⟨hs,rfl⟩|⟨hs,f,rfl⟩
        .have HFS:Hid (zG6 D s.gen (k+1)=zG6 D s.gen k):=oh (by rw[HSC.out,hs];simp);clear hs;go_wp2_with fail;go_roundg (gk-1)
         case measure=>omega
         case rel=>exact⟨k+1,fv2,iv2,lv2,by omega,by go_num,oh (by rw[HFS.out];exact HN.out)⟩
        .have hfl:=zLp D s.gen (k+1);have hfl2:=zIM D 2;have HFS:Hid (zF1 D 2++zG6 D s.gen (k+1)=zF1 D 2++zG6 D s.gen k++[((pk:Int),2)]):=oh (by rw[HSC.out,hs,List.append_assoc];simp);have HFI:=oh (zCE HN.out.st (pk:Int) 2 (by rw[yQ.hd_find _ _ _ (by decide),<- HFS.out];exact yQ.hd_few (by rw[List.length_append];omega)));rw[yQ.hd_find _ _ _ (by decide),<- HFS.out] at HFI;unfold zL;clear hs hfl hfl2;go_wp2_with fail;refine HFI.out.mono ?_;rintro e w11 ⟨rfl,fv11,h11,g11⟩;have HN11:=oh (HN.out.nxt h11 g11);clear h11 g11;go_wp2_with fail;go_roundg (gk-1)
         case measure=>omega
         case rel=>exact⟨k+1,fv11,iv2,lv2,by omega,by go_num,oh HN11.out⟩
      .obtain rfl:k=2:=by omega
       go_wp2_with fail;go_ret;exact⟨rfl,fv2,iv2,lv2,HQ2.out.st,HQ2.out.go⟩
end
def zDD(D:zI)(s:yM):yQ:=if s.root=0 then yQ.hd (zDQ D s.gen) else vU (dkQ D) s.gen s.size 16 (s.root:Int) (yQ.hd (zDQ D s.gen))
theorem zH.set7{w:World}{R:Nat}{t:TypeId}{a0 a1 a2 a3 a4 a5 a6:Value}(h:zH w R #[a0,a1,a2,a3,a4,a5,a6] t)(v0 v1 v2 v3 v4 v5 v6:Value) :
  zH (((((((w.setCell ⟨R,0,none⟩ v0).setCell ⟨R,1,none⟩ v1).setCell ⟨R,2,none⟩ v2).setCell ⟨R,3,none⟩ v3).setCell ⟨R,4,none⟩ v4).setCell ⟨R,5,none⟩ v5).setCell ⟨R,6,none⟩ v6) R #[v0,v1,v2,v3,v4,v5,v6] t:=by
 simpa using ((((((h.set 0 v0).set 1 v1).set 2 v2).set 3 v3).set 4 v4).set 5 v5).set 6 v6
theorem zA.set7{F:Nat->Prop}{w w':World}(m:zA F w w'){R:Nat}(hR:w.heap.size<=R\/F R)(v0 v1 v2 v3 v4 v5 v6:Value) :
  zA F w (((((((w'.setCell ⟨R,0,none⟩ v0).setCell ⟨R,1,none⟩ v1).setCell ⟨R,2,none⟩ v2).setCell ⟨R,3,none⟩ v3).setCell ⟨R,4,none⟩ v4).setCell ⟨R,5,none⟩ v5).setCell ⟨R,6,none⟩ v6) :=
 ((((((m.setCell (p:=⟨R,0,none⟩) hR v0).setCell (p:=⟨R,1,none⟩) hR v1).setCell (p:=⟨R,2,none⟩) hR v2).setCell (p:=⟨R,3,none⟩) hR v3).setCell (p:=⟨R,4,none⟩) hR v4).setCell (p:=⟨R,5,none⟩) hR v5).setCell (p:=⟨R,6,none⟩) hR v6
section
variable {ad:Nat->Addr}{w0 w w':World}{kb mb d:Nat}{s:yM}{m:vF}{g:Int}{A:yQ}{fv iv lv:Value}{P:Nat->Prop}{D:zI}
theorem zIP(hL:yG NoB ad w0)(hD:jT w0 P d D)(hz:256<=s.size/\s.size<=1024):∀f,zKP w0 kb mb d s g D f
 | 0=>zGz hL hD hz 0 (λ_ h=>by cases h)
 | f+1=>zGz hL hD hz (f+1) (λ_ h=>by cases h;exact zIP hL hD hz f)
theorem LkS.made(w:World)(d:Nat):LkS w ((w.alloc (.map #[] 0)).alloc (.cells #[.pointer (some ⟨d,0,none⟩),.int .u64 0,.int .i64 0,.int .i64 0,.int .i64 0,.int .i64 0,.map (some w.heap.size),.int .u64 0,.slice none 0 0,.int .i64 0,.slice none 0 0,.int .i64 0,.slice none 0 0,.bool false] 135)) (w.heap.size+1) w.heap.size d sup0 0 (yQ.hd []) (.slice none 0 0) (.slice none 0 0) (.slice none 0 0) :=
 ⟨((zA.refl _ w).alloc _).alloc _,⟨by omega,by omega⟩,zR (by simp),(zCY.made w).mods ((zA.refl (λ_=>False) _).alloc _) (λf=>f),yC.nil _ _ _ _ _ _,yC.nil _ _ _ _ _ _,yC.nil _ _ _ _ _ _,yQ.hd_few (by simp)⟩
theorem zJf(hL:yG NoB ad w)(hD:jT w P d D)(ho:D.off=false)(hH:zBt D s m)(hC:zDj ad D s)(hf:(zDD D s).few) :
  Calls Tryz.prog 65 #[.pointer (some ⟨d,0,none⟩)] w λe w'=>∃kb mb fv iv lv,e=.returned (.tuple #[.pointer (some ⟨kb,0,none⟩),.nilIface])/\LkS w w' kb mb d s (s.gen:Int) (zDD D s) fv iv lv:=by
 have HO:=oh hD.off;rw[ho] at HO;have HL:=oh hL;have HD:=oh hD;have HH:=oh hH;have HCO:=oh hC;have HF:=oh hf;have hmm:=@run_makeMap Tryz.prog;have HK0:=oh (LkS.made w d);obtain⟨z8,zOI,z3,z4⟩:=hH.lim;have hz:=hH.siz;have HZ:Hid (256<=s.size/\s.size<=1024):=oh (by omega);have hrt:s.root<=2147483647:=by
  obtain⟨a1,a2,a3,a4,a5,a6,a7⟩:=(zAZ s).1 hH.ok;omega
 have HRT:Hid (zFz (s.root:Int)):=oh ((Lit.wf_int_iff .i64 _).2 (by simp[IntKind.min,IntKind.max,IntKind.signed,IntKind.bits];omega));clear hL hD ho hH hC hf hz hrt
 go_enter Tryz.func65, Tryz.ntmps65
 go_wp2_with fail;refine HO.out.mono ?_;rintro e w1 ⟨rfl,rfl⟩;go_wp2_with fail;refine (zO3 HL.out HD.out HH.out HCO.out HK0.out).mono ?_;rintro e w2 ⟨rfl,fv,iv,lv,h2, -⟩;have H2:=oh h2;have k4:=h2.blk.cell (o:=4) (v:=.int .i64 (s.root:Int)) rfl;clear h2;by_cases hr:s.root=0
 .have hrb:((s.root:Int) != 0)=false:=by rw[hr];rfl
  have HA:Hid (zDD D s=yQ.hd (zDQ D s.gen)):=oh (by unfold zDD;rw[if_pos hr]);clear hr;go_wp2_with fail;go_ret2
  rw[HA.out];exact⟨_,_,fv,iv,lv,rfl,H2.out⟩
 .have hrb:((s.root:Int) != 0)=true:=bne_iff_ne.2 (by omega);have HA:Hid (zDD D s=vU (dkQ D) s.gen s.size 16 (s.root:Int) (yQ.hd (zDQ D s.gen))):=oh (by unfold zDD;rw[if_neg hr]);have HN:=oh (zIP HL.out HD.out HZ.out 16 _ _ _ _ _ (s.root:Int) 1 H2.out HRT.out (by omega) (by rw[<- HA.out];exact HF.out));clear hr;go_wp2_with fail;refine HN.out.mono ?_;rintro e w3 ⟨rfl,fv3,iv3,lv3,h3, -⟩;have H3:=oh h3;clear h3;go_wp2_with fail;go_ret2
  rw[HA.out];exact⟨_,_,fv3,iv3,lv3,rfl,H3.out⟩
def zSF(w:World)(g:Int)(A:yQ)(e:Ending)(w':World):Prop :=
 ∃fa fc ia ic la lc,e=.returned (.tuple #[.agg #[.int .u64 g,.slice fa A.finds.length fc,.int .i64 (A.ids.length:Int),.slice ia A.ids.length ic,.int .i64 (A.keys:Int),.slice la A.lost.length lc,.bool A.blind],.nilIface]) /\
  yC (λ_=>False) w' w.heap.size 137 2 zQO (.slice fa A.finds.length fc) A.finds/\yC (λ_=>False) w' w.heap.size 3 1 yK (.slice ia A.ids.length ic) A.ids/\yC (λ_=>False) w' w.heap.size 9 1 vZ (.slice la A.lost.length lc) A.lost/\zF w w'
theorem Tryz.repSz:(Tryz.prog.info? 71).map (·.size)=some 7:=by kernel_rfl
theorem zIQ(hL:yG NoB ad w)(hD:jT w P d D)(ho:D.off=false)(hH:zBt D s m)(hC:zDj ad D s)(hf:(zDD D s).few) :
  Calls Tryz.prog 25 #[.pointer (some ⟨d,0,none⟩)] w (zSF w (s.gen:Int) (zDD D s)):=by
 obtain⟨w1,hw1⟩:∃W,W=w.alloc (.cells #[.int .u64 0,.slice none 0 0,.int .i64 0,.slice none 0 0,.int .i64 0,.slice none 0 0,.bool false] 71):=⟨_,rfl⟩;have m1:zF w w1:=by rw[hw1];exact (zA.refl _ w).alloc _
 have hR1:zH w1 w.heap.size #[.int .u64 0,.slice none 0 0,.int .i64 0,.slice none 0 0,.int .i64 0,.slice none 0 0,.bool false] 71:=by rw[hw1];exact zH.new w _ _
 have HLK:=oh (zJf (hL.mods m1.ext) (hD.at m1) ho hH hC hf);obtain⟨R,hR⟩:∃R,R=w.heap.size:=⟨_,rfl⟩;rw[<- hR] at hR1;have HM1:=oh m1;have HR1:=oh hR1;have HR:=oh hR;have HW1:=oh hw1;clear hL hD ho hH hC hf m1 hR1
 go_enter Tryz.func25, Tryz.ntmps25
 go_wp2_with fail;rw[<- hw1,<- hR];refine HLK.out.mono ?_;rintro e w2 ⟨kb,mb,fv,iv,lv,rfl,h2⟩;obtain⟨fa,fc,rfl, -⟩:=h2.rf.form;obtain⟨ia,ic,rfl, -⟩:=h2.ri.form;obtain⟨la,lc,rfl, -⟩:=h2.rl.form;obtain⟨A,hA⟩:∃A,A=zDD D s:=⟨_,rfl⟩;have HA:=oh hA;rw[<- hA] at h2 ⊢;have H2:=oh h2;have hR2:=HR1.out.ext h2.ext;have HR2:=oh hR2;have k7:=h2.blk.cell (o:=7) (v:=.int .u64 (s.gen:Int)) rfl;have k8:=h2.blk.cell (o:=8) (v:=.slice fa A.finds.length fc) rfl;have k9:=h2.blk.cell (o:=9) (v:=.int .i64 (A.ids.length:Int)) rfl;have k10:=h2.blk.cell (o:=10) (v:=.slice ia A.ids.length ic) rfl;have k11:=h2.blk.cell (o:=11) (v:=.int .i64 (A.keys:Int)) rfl;have k12:=h2.blk.cell (o:=12) (v:=.slice la A.lost.length lc) rfl;have k13:=h2.blk.cell (o:=13) (v:=.bool A.blind) rfl;have r0:=hR2.cell (o:=0) (v:=.int .u64 0) rfl;have r1:=hR2.cell (o:=1) (v:=.slice none 0 0) rfl;have r2:=hR2.cell (o:=2) (v:=.int .i64 0) rfl;have r3:=hR2.cell (o:=3) (v:=.slice none 0 0) rfl;have r4:=hR2.cell (o:=4) (v:=.int .i64 0) rfl;have r5:=hR2.cell (o:=5) (v:=.slice none 0 0) rfl;have r6:=hR2.cell (o:=6) (v:=.bool false) rfl;have rf:=hR2.frozen;clear h2 hR2 hA hR hw1;go_wp2_with fail;have m3:=zA.set7 (F:=λk=>k=R) (zA.refl _ w2) (R:=R) (.inr rfl) (.int .u64 (s.gen:Int)) (.slice fa A.finds.length fc) (.int .i64 (A.ids.length:Int)) (.slice ia A.ids.length ic) (.int .i64 (A.keys:Int)) (.slice la A.lost.length lc) (.bool A.blind);refine bodyPost_ret (zC rfl _ _ R 71 #[.int .u64 (s.gen:Int),.slice fa A.finds.length fc,.int .i64 (A.ids.length:Int),.slice ia A.ids.length ic,.int .i64 (A.keys:Int),.slice la A.lost.length lc,.bool A.blind] _ rfl (HR2.out.set7 _ _ _ _ _ _ _) Tryz.underlying71 rfl Tryz.repSz) rfl ?_;have hz:w.heap.size<=w1.heap.size:=HM1.out.size;have hRw:=HR.out;have hlt:∀{v:Value} {g:Nat},w1.heap.size<=g->g≠R:=λhg e=>by have:=HR1.out.lt;omega
 rw[<- HA.out];refine⟨fa,fc,ia,ic,la,lc,rfl,(H2.out.rf.mods m3 (λg hg e=>?_)).rebase hz,(H2.out.ri.mods m3 (λg hg e=>?_)).rebase hz,(H2.out.rl.mods m3 (λg hg e=>?_)).rebase hz,(HM1.out.trans H2.out.ext).trans' m3 (λi hi e=>by have e:i=R:=e;omega)⟩
 .have:=(H2.out.rf.lt g hg).1;have:=HR1.out.lt;omega
 .have:=(H2.out.ri.lt g hg).1;have:=HR1.out.lt;omega
 .have:=(H2.out.rl.lt g hg).1;have:=HR1.out.lt;omega
end
end
section
open Go.RowKit
attribute [local go_sem ↓] Go.wp_at_zero Go.wp_at_succ
theorem Tryz.eqFind(n:Nat)(a b c d:Int)(w:World):(Op.equalIn (n+2) 137 (.agg #[.int .i64 a,.int .i64 b]) (.agg #[.int .i64 c,.int .i64 d])).run Tryz.prog w=.ok (decide (a=c) && decide (b=d)) w:=by
 have u3:=Tryz.underlying3;have a3:=Tryz.isAgg3;have z3:=Tryz.sizeOf3;have hS:Tryz.prog.underlying 137 = some (.struct (Tryz.prog.fieldsOf 137)):=by kernel_rfl
 have hp:Tryz.prog.stoodInHeld 137 = false:=by kernel_rfl
 rw[run_equalIn_agg w (n+1) 137 _ _ hS hp];simp only[Program.fieldsOf,Tryz.underlying137];go_simp;by_cases h1:a=c <;> by_cases h2:b=d <;> simp[h1,h2]
section
variable {D:zI}{s:yM}{m:vF}{dd:Nat}{ps:List zT}{pgs:List Nat}{i bit mask:Nat}
theorem zGN(h:Spo D s m dd ps pgs):zDD D s=(yQ.hd (zDQ D s.gen)).add (iL pgs) ps.length:=by
 unfold zDD;rcases h.look (yQ.hd (zDQ D s.gen)) rfl with ⟨h1,h2,h3⟩|⟨h1,h2⟩
 .rw[if_pos h1,h2,h3];exact (yQ.add_nil _).symm
 .rw[if_neg h1,h2]
theorem zNl(h:Spo D s m dd ps pgs)(hp:ps.length<=1000):(zDD D s).few:=by
 rw[zGN h];have h1:=(h.td.few h.dry.b256).1;have h2:=zO1 D s.gen;refine⟨?_,?_,?_,?_,?_⟩
 .show ([]++iL pgs).length<=1000;simp[iL];omega
 .show (zDQ D s.gen).length<=1000;omega
 .show ([]++iL pgs).length<=1000;simp[iL];omega
 .show ([]:List ByteArray).length<=100000;simp
 .show 0+ps.length<=1000000;omega
end
def zF2:List zT:=[(⟨#[97]⟩,⟨#[120]⟩)]
theorem zSS:zAE ⟨#[97]⟩=true:=by decide +kernel
theorem zRP:(zAN zF2 (min zF2.length 20)).1.length=1/\(zAN zF2 (min zF2.length 20)).2=1:=by
 have e:min zF2.length 20=0+1:=rfl;rw[e,zJd (x:=(⟨#[97]⟩,⟨#[120]⟩)) rfl zSS];exact⟨rfl,rfl⟩
section
variable {F P:Nat->Prop}{ad:Nat->Addr}{w w':World}{d:Nat}{D:zI}
theorem jT.hit(hL:yG F ad w)(hP:∀k,P k->F k)(h:jT w P d D)(i bit mask:Nat)(hi:i<D.blocks)(hb:bit<8 * D.size)(hm:mask<4294967296) :
  Calls Tryz.prog 36 #[.pointer (some ⟨d,0,none⟩),.int .i64 (i:Int),.int .i64 (bit:Int),.int .u32 (mask:Int)] w (zMI F P ad w d (zCF D i bit mask)):=by
 obtain⟨bl,gs,ws,wv,kv,h1,h2⟩:=h;exact zKK hL hP h1 h2 i bit mask hi hb hm
theorem zG0(hL:yG NoB ad w) : Calls Tryz.prog 27 #[] w λe w'=>e=.returned (.bool true)/\zF w w':=by
 have m0:zF w (w.alloc (.cells #[.string ⟨#[97]⟩,.string ⟨#[120]⟩] 38)):=(zA.refl _ w).alloc _;have HS:Hid (Sl NoB (w.alloc (.cells #[.string ⟨#[97]⟩,.string ⟨#[120]⟩] 38)) 2 zCJ (.slice (some ⟨w.heap.size,0,none⟩) 1 1) zF2):=oh (Sl.one (x:=((⟨#[97]⟩,⟨#[120]⟩):zT)) (zR rfl) (λf=>f));have HL:=oh (hL.mods m0.ext);have HM0:=oh m0;clear hL m0
 go_enter Tryz.func27, Tryz.ntmps27
 go_wp2_with fail;refine (zIK HL.out _ zF2 HS.out).mono ?_;rintro e w1 ⟨d,D,Pd,F,s,m,dd,pgs,wa,wc,rfl,hD,hC,hDb,hDz,hsg, -, -,hN, -⟩;rw[zRP.2] at hsg;have HLN:=oh zRP.1;obtain⟨ps,hps⟩:∃ps,ps=(zAN zF2 (min zF2.length 20)).1:=⟨_,rfl⟩;rw[<- hps] at hC HLN ⊢;have HC:=oh hC;have HN:=oh hN;have HB:=oh (And.intro hDb (And.intro hDz hsg));have HCR:=oh (jT.hit hN.env hN.sub hD 2 100 1 (by omega) (by omega) (by omega));rw[show ((2:Nat):Int)=2 from rfl,show ((100:Nat):Int)=100 from rfl,show ((1:Nat):Int)=1 from rfl] at HCR;clear hD hC hDb hDz hsg hN hps;go_wp2_with fail;refine HCR.out.mono ?_;rintro e w2 ⟨P2,F2,rfl,hD2,hN2⟩;obtain⟨b1,b2,b3⟩:=HB.out;have HX2:Hid (zF (w.alloc (.cells #[.string ⟨#[97]⟩,.string ⟨#[120]⟩] 38)) w2):=oh ((HN.out.trans hN2).stp.mods);have hp0:place s.gen 0=2:=by rw[b3];rfl
 have hp1:place s.gen 1=3:=by rw[b3];rfl
 have hnp:2 ∉ pgs:=λh=>by have:=HC.out.hi 2 h;omega
 have hS:=HC.out.hit_spo (i:=2) (bit:=100) (mask:=1) (by omega) (by omega) (by omega) hnp;obtain⟨q1,q2,q3⟩:=HC.out.shut;have a0:yX (zCF D 2 100 1) 0=false:=by rw[zBZ D (by omega)];exact q1 0 (by omega)
 have a1:yX (zCF D 2 100 1) 1=false:=by rw[zBZ D (by omega)];exact q1 1 (by omega)
 have hF2:zDQ (zCF D 2 100 1) s.gen=[(2,2)]:=by
  have a2:yX (zCF D 2 100 1) 2=true:=zLq (by rw[HC.out.well.dry.lenL];omega) (by rw[<- hp0];exact q2 0 (by omega)) (by rw[HC.out.well.dry.last,HC.out.well.dry.len 2 (by omega),b2];omega) rfl;have a3:yX (zCF D 2 100 1) 3=false:=by rw[zBZ D (by omega)];rw[<- hp1];exact q2 1 (by omega)
  unfold zDQ;rw[zDh,zDh,zDi,zDi,hp0,hp1,a0,a1,a2,a3];rfl
 have hlk:=zGN hS;rw[hF2,HLN.out] at hlk;have HLK:=oh (zIQ ((HN.out.trans hN2).env.anti (Q:=NoB) (λ_ h=>h.elim)) hD2 (by show D.off=false;exact HC.out.well.dry.off) hS.head (zIO hS.head a0 a1) (zNl hS (by rw[HLN.out];omega)));rw[hlk] at HLK;obtain⟨A,hA⟩:∃A,A=(yQ.hd [(2,2)]).add (iL pgs) 1:=⟨_,rfl⟩;rw[<- hA] at HLK;have hA1:A.finds=[(2,2)]:=by rw[hA];rfl
 have hA2:A.keys=1:=by rw[hA];rfl
 have HE2:=oh (((HN.out.trans hN2).env.anti (Q:=NoB) (λ_ h=>h.elim)));clear a0 a1 hD2 hN2 hp0 hp1 hnp hS q1 q2 q3 hF2 hlk hA b1 b2 b3 HCR;go_wp2_with fail;refine HLK.out.mono ?_;rintro e w3 ⟨fa,fc,ia,ic,la,lc,rfl,hof, -, -,hm3⟩;rw[hA1,hA2] at *;obtain⟨qb,qoff,rfl, -,hcc⟩:=(hof.sl (λ_=>rfl) (by simp)).elemF (k:=0) (by simp);have m4:zF w3 (w3.alloc (.cells #[.int .u64 (s.gen:Int),.slice (some ⟨qb,qoff,none⟩) 1 fc,.int .i64 (A.ids.length:Int),.slice ia A.ids.length ic,.int .i64 1,.slice la A.lost.length lc,.bool A.blind] 71)):=(zA.refl _ w3).alloc _;have c0:=(m4.cell (yH (hcc 0 _ rfl)) (λf=>f)).trans (hcc 0 (.int .i64 2) rfl);have c1:=(m4.cell (yH (hcc 1 _ rfl)) (λf=>f)).trans (hcc 1 (.int .i64 2) rfl);simp only[Nat.zero_mul,Nat.add_zero] at c0 c1;have eqf:∀(a b c d:Int) (w:World),(Op.equalIn 10000 137 (.agg #[.int .i64 a,.int .i64 b]) (.agg #[.int .i64 c,.int .i64 d])).run Tryz.prog w=.ok (decide (a=c) && decide (b=d)) w:=λa b c d w=>Tryz.eqFind 9998 a b c d w
 have HEX:=oh (((HM0.out.trans HX2.out).trans hm3).trans m4);clear hof hcc hm3 m4;go_wp2_with fail;go_ret;exact⟨rfl,HEX.out⟩
end
end
end Go.Proofs.YteabpacpngaoaaaGreatDoor
