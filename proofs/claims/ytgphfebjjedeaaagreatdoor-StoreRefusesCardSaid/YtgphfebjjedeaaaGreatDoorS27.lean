import Derived.Test.YtgphfebjjedeaaaGreatDoorS25
import Derived.Test.YtgphfebjjedeaaaGreatDoorS24
namespace Go.Proofs.YtgphfebjjedeaaaGreatDoor
open Lib renaming hid->oh
open Go.RowKit
attribute [local go_sem ↓] Go.wp_at_zero Go.wp_at_succ
section
variable {P P' F F':NP}{ad:Nat->Addr}{w w':World}{d:Nat}{D:zH}
theorem jL.burn(hL:zZ F ad w)(hP:∀k,P k->F k)(h:jL w P d D)(ho:D.off=false)(hU:zHd D)(i:Nat)(hi:i<D.blocks)(bv:Value)(b:List UInt8)(hb:Sl F w 1 zM bv b)(hbl:b.length=D.size)(hfew:D.waiting.length<1000000) :
  Calls Tryz.prog 106 #[.pointer (some ⟨d,0,none⟩),.int .i64 (i:Int),bv] w (zAV F P ad w d):=by
 obtain⟨bl,gs,ws,wv,kv,h1,h2⟩:=h;exact zF2 hL hP h1 h2 i hi ho hU bv b hb hbl hfew
theorem jL.arm(h:jL w P d D) : Calls Tryz.prog 36 #[.pointer (some ⟨d,0,none⟩),.int .i64 0,.slice none 0 0,.int .i64 (-1),.int .i64 0] w λe w'=>∃P',e=.returned .nilIface/\jL w' P' d D.armed/\zA P w w'/\∀k,P' k->P k\/w.heap.size<=k:=by
 obtain⟨bl,gs,ws,wv,kv,h1,h2⟩:=h;refine (zLU h1).mono ?_;rintro e w' ⟨kv',rfl,k1,k2,k3⟩;refine⟨dkF d bl gs ws wv kv',rfl,⟨bl,gs,ws,wv,kv',k1,λk=>rP⟩,k2.mono (λk e=>(h2 k).2 (.inl (by rw[e];exact uH))),λk hk=>?_⟩;rcases hk with hk|hk|hk
 .exact .inl ((h2 k).2 (.inl hk))
 .exact .inl ((h2 k).2 (.inr (.inl hk)))
 .exact .inr (k3 k hk)
set_option maxRecDepth 100000 in
set_option maxHeartbeats 1600000 in
theorem zE5(hL:zZ F ad w)(hP:∀k,P k->F k)(h:jL w P d D)(ho:D.off=false)(hBu:zHd D)(hfew:D.waiting.length<900000)(m:vU)(hm:jF m=true)(hg:m.gen<18446744073709551616)(uv:Value)(hu:Sl F w 1 yX uv (zV m))(hb8:8<=D.blocks)(h1:256<=D.size)(h2:D.size<=1024) :
  Calls Tryz.prog 95 #[.pointer (some ⟨d,0,none⟩),zAM m uv] w (zAV F P ad w d):=by
 have HBU:=oh (And.intro ho (And.intro hBu hfew));have HPLC:Hid (∀k,k<2->vV m.gen (jZ m k)=true/\jZ m k<D.blocks):=oh (λk hk=>by
  unfold jZ vV;refine⟨by split <;> simp,?_⟩;unfold place;split <;> omega)
 have HLEN:Hid (∀k,(yF m (jZ m k) D.size).length=D.size):=oh (λk=>qP hm _ h1);have HSEAL:Hid (∀{F1:NP} {w1:World},zZ F1 ad w1->Sl F1 w1 1 yX uv (zV m)->∀k,k<2 -> Calls Tryz.prog 156 #[zAM m uv,.int .i64 (jZ m k:Int),.int .i64 (D.size:Int)] w1 λe w'=>∃a c,e=.returned (.tuple #[.slice a D.size c,.nilIface])/\Sl F1 w' 1 zM (.slice a D.size c) (yF m (jZ m k) D.size)/\zF w1 w'):=oh (λe1 s1 k hk=>(zCp e1 m hm hg uv s1 _ D.size (HPLC.out k hk).1 h1 h2).mono (λe w' ⟨a,c,g1,g2,g3⟩=>⟨a,c,g1,g2.sl (λ_=>rfl) (by rw[HLEN.out];omega),g3⟩));have HPV:Hid (zAv m.gen=.agg #[.int .i64 (place m.gen 0:Int),.int .i64 (place m.gen 1:Int)]):=oh rfl;have HIX:Hid (∀k:Nat,k<2->∀w,(Instr.index 65 (.agg #[.int .i64 (place m.gen 0:Int),.int .i64 (place m.gen 1:Int)]) (.int .i64 (k:Int))).run Tryz.prog w=.ok (.int .i64 (jZ m k:Int)) w):=oh (λk hk w=>zLV _ _ k hk w);have HPL:=oh (λw'=>zA6 m.gen hg w');have HMV:Hid (∀v,zAM m v=.agg #[.int .u64 (m.gen:Int),.int .i64 (m.blocks:Int),v]):=oh (λ_=>rfl);obtain⟨ua,uc,rfl, -⟩:=_root_.id hu;obtain⟨U,hU⟩:∃U,U=(zV m).length:=⟨_,rfl⟩;rw[<- hU] at HSEAL hu ⊢;obtain⟨g,hgg⟩:∃g,g=m.gen:=⟨_,rfl⟩;obtain⟨b,hb2⟩:∃b,b=m.blocks:=⟨_,rfl⟩;have HMVU:=oh (HMV.out (.slice ua U uc));rw[HMVU.out];rw[<- hgg] at HPL HMV HPV HMVU HIX ⊢;rw[<- hb2] at HMV HMVU ⊢;rw[HMVU.out] at HSEAL;obtain⟨q0,hq0⟩:∃q,q=place g 0:=⟨_,rfl⟩;obtain⟨q1,hq1⟩:∃q,q=place g 1:=⟨_,rfl⟩;rw[<- hq0,<- hq1] at HPV HIX;obtain⟨W0,hW0⟩:∃W0,W0=w.alloc (.cells #[.int .u64 (g:Int),.int .i64 (b:Int),.slice ua U uc] 173):=⟨_,rfl⟩;have hM0:zF w W0:=by rw[hW0];exact (zss w).alloc _
 have hB0:zJ W0 w.heap.size #[.int .u64 (g:Int),.int .i64 (b:Int),.slice ua U uc] 173:=by rw[hW0];exact zJ.new w _ _
 have HM0:=oh hM0;have HX0:=oh hB0;have HD0:=oh (h.at hM0);have HN0:=oh (zR.ext hL hP hM0);have HU0:=oh (hu.ext hM0);have HPX:Hid (¬ P w.heap.size):=oh (λf=>tZ _ (hL.lt _ (hP _ f)));have x0:=hB0.k 0 rfl;clear hU hgg hb2 hq0 hq1 hM0 hB0 h hL hP hm hg hu h1 h2 hb8
 go_enter Tryz.func95, Tryz.ntmps95
 go_wp2_with fail;rw[<- hW0];refine (HPL.out _).mono ?_;rintro e w1 ⟨rfl,m1⟩;rw[HPV.out];have HX1:=oh (HX0.out.ext m1);have HD1:=oh (HD0.out.at m1);have HN1:=oh (HN0.out.trans (zR.ext HN0.out.env HN0.out.sub m1));have HU1:=oh (HU0.out.ext m1);obtain⟨X,hX⟩:∃X,X=w.heap.size:=⟨_,rfl⟩;rw[<- hX] at HX1 HPX;have HXL:=oh HX1.out.lt;clear m1 hW0 x0 HX0 HD0 HN0 HU0 HM0;go_wp2_with fail;rw[<- hX];clear hX;go_loopg [13] 2 (λr v13 wr=>r=2/\v13=.int .i64 ((0:Nat):Int)/\Hid (wr=w1))
 case atStart=>exact⟨rfl,rfl,oh rfl⟩
 case round =>
  obtain⟨_,rfl,HW⟩:=hrel;have hwr:=HW.out;subst hwr;have ix:=HIX.out 0 (by omega);rw[show ((0:Nat):Int)=0 from rfl] at ix;have HGEO:Hid (∀W,zF wr W -> Calls Tryz.prog 90 #[.pointer (some ⟨d,0,none⟩)] W λe w'=>e=.returned (.agg #[.int .i64 (D.blocks:Int),.int .i64 (D.size:Int)])/\zF W w'):=oh (λW m=>jL.geo (HD1.out.at m));have HSL:=oh (λW (m:zF wr W)=>HSEAL.out (HN1.out.env.mods m.ext) (HU1.out.ext m) 0 (by omega));have HSX:=oh (λW (m:zF wr W)=>(⟨(HX1.out.ext m).cell rfl,(HX1.out.ext m).cell rfl,(HX1.out.ext m).cell rfl⟩:W.cell? ⟨X,0,none⟩=some (.int .u64 (g:Int))/\W.cell? ⟨X,1,none⟩=some (.int .i64 (b:Int))/\W.cell? ⟨X,2,none⟩=some (.slice ua U uc)));have zd:=HSX.out _ (zss wr).drew;have gf:=Tryz.geoField1;have i1:(0:Int)<=((0:Nat):Int):=by omega
  have i2:((0:Nat):Int)<2:=by omega
  go_wp2_with fail;go_region_held3 (λw'=>w'.cell? ⟨X,0,none⟩=some (.int .u64 (g:Int))/\w'.cell? ⟨X,1,none⟩=some (.int .i64 (b:Int))/\w'.cell? ⟨X,2,none⟩=some (.slice ua U uc))
   (first|(with_reducible exact zd)|(with_reducible exact z5)|(with_reducible exact z6)|fail)
   (first
    | (go_at_call 90;(with_reducible refine (HGEO.out _ (zss wr).drew).mono ?_);rintro e w5 ⟨rfl,m5⟩;have xw5:=(zss wr).drew.trans m5;have z5:=HSX.out _ xw5)
    | (go_at_call 156;(with_reducible refine (HSL.out _ xw5).mono ?_);rintro e w6 ⟨a6,c6,rfl,s6,m6⟩;have xw6:=xw5.trans m6;have z6:=HSX.out _ xw6)
    | fail)
  have N6:=HN1.out.trans (zR.ext HN1.out.env HN1.out.sub xw6);have WR:=oh (jL.burn (ad:=ad) N6.env N6.sub (HD1.out.at xw6) HBU.out.1 HBU.out.2.1 (jZ m 0) (HPLC.out 0 (by omega)).2 _ _ s6 (HLEN.out 0) (by have:=HBU.out.2.2;omega));have HM6:=oh N6.stp.mods;clear zd z5 z6 xw5 xw6 m5 m6 s6 gf ix N6;go_wp2_with fail;refine WR.out.mono ?_;rintro e w7 ⟨f,el,rfl,hE,hm7,h9⟩;have HF:=oh (And.intro hE (And.intro (HM6.out.trans hm7) h9));clear hE hm7 h9;unfold zD;go_wp2_with fail;go_ret;exact⟨f,el,rfl,HF.out.1,HF.out.2.1,HF.out.2.2⟩
end
end Go.Proofs.YtgphfebjjedeaaaGreatDoor
