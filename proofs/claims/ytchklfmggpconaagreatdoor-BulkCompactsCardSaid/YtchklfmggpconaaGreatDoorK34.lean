import Derived.Test.YtchklfmggpconaaGreatDoorK31
import Derived.Test.YtchklfmggpconaaGreatDoorK33
import Derived.BigQuiet
import Derived.Deep.CutBlock
import Derived.Deep.DeepCutAuto
namespace Go.Proofs.YtchklfmggpconaaGreatDoor
open Lib renaming hid->oh
open Go.RowKit
attribute [local go_sem ↓] Go.wp_at_zero Go.wp_at_succ
theorem zNu{α:Type}(out:List α):out=[]\/(∃g,out=[g])\/∃r a b,out=r++[a,b]:=by
 cases h:out.reverse with
 | nil=>exact .inl (by simpa using h)
 | cons b t =>
  cases t with
  | nil=>exact .inr (.inl ⟨b,by have:=congrArg List.reverse h;simpa using this⟩)
  | cons a r=>exact .inr (.inr ⟨r.reverse,a,b,by have:=congrArg List.reverse h;simpa using this⟩)
def zEm(n:PtA):Prop:=n.1.entries.length<=2000/\n.1.keys.length<=2000/\n.1.kids.length<=2000/\zD n.1<=20000/\n.2.size<=10000
section
variable {P P' F F':Nat->Prop}{ad:Nat->Addr}{w w':World}{c s:Nat}{G:GA}{l:List Nat}
theorem zGP(h:yS F w P c s G l)(gen:Nat) : Calls Tryz.prog 157 #[qR c s gen] w λe w'=>e=.returned (.int .i64 (G.size:Int))/\zJ w w':=by
 unfold qR;have m0:zJ w (w.alloc (gP c s gen)):=(zA.refl _ w).alloc _;obtain⟨d,HH,h1,h2⟩:=zMN (h.at m0);have gf1:=Tryz.geoF1;have H1:=oh h1;have H2:=oh h2;have M0:=oh m0;clear h1 h2 h m0
 go_enter Tryz.func157, Tryz.ntmps157
 go_wp2_with fail;refine H1.out.mono ?_;rintro e w1 ⟨rfl,rfl⟩;go_wp2_with fail;refine (H2.out _ (zA.refl _ _)).mono ?_;rintro e w2 ⟨rfl,hm⟩;have HM:=oh hm;clear hm;go_wp2_with fail;go_ret;exact⟨rfl,M0.out.trans HM.out⟩
theorem zO8{a b:PtA}(ha:zEm a)(hb:zEm b):(qP a b).entries.length<=4000/\(qP a b).keys.length<=4001/\(qP a b).kids.length<=4000/\zD (qP a b)<=60000/\(zM (qP a b)=true->(zZ (qP a b)).length<=100000):=by
 obtain⟨a1,a2,a3,a4,a5⟩:=ha;obtain⟨b1,b2,b3,b4,b5⟩:=hb;have hw:zD (qP a b)<=60000:=by
  have e1:=vO a.1.entries;have e2:=vO b.1.entries;have k1:=qS a.1.keys;have k2:=qS b.1.keys;unfold zD at a4 b4 ⊢;unfold qP;split
  .simp only[yM,yA,t8];split at a4 <;> split at b4 <;> omega
  .simp only[qI,zY,yA,wG,tP];split at a4 <;> split at b4 <;> omega
 refine⟨?_,?_,?_,hw,λhr=>by have:=vW (qD hr);omega⟩;all_goals
  unfold qP;split
  .simp only[uC,uE];omega
  .simp only[uC,uE,uD];omega
theorem zO9{b1 b2:Nat}{xa xb:PtV}{a b:PtA}(ha:PtR w b1 xa a)(hb:PtR w b2 xb b)(hoa:zEm a)(hob:zEm b) :
  Calls Tryz.prog 182 #[ptV xa,ptV xb] w λe w'=>∃v,e=.returned v/\zDP w' w.heap.size v (qP a b)/\zJ w w':=by
 obtain⟨a1,a2,a3,_,_⟩:=hoa;obtain⟨c1,c2,c3,_,_⟩:=hob;unfold ptV;rw[ha.lf];cases hl:a.1.leaf with
 | true =>
  have:=zMr (F:=NoF) a.1.entries b.1.entries xb.lf (zW xa.e) (zW xa.k) (zW xa.i) (zW xb.e) (zW xb.k) (zW xb.i) xa.s xb.s (ha.e.sl yU.len (by omega)) (hb.e.sl yU.len (by omega)) (by omega) (by omega);unfold qP;rw[if_pos hl];exact this
 | false =>
  have:=zMz (F:=NoF) a.1 b.1 xb.lf (zW xa.e) (zW xa.k) (zW xa.i) (zW xb.e) (zW xb.k) (zW xb.i) xa.s xb.s (ha.k.sl yV.len (by omega)) (ha.i.sl yG.len (by omega)) (hb.k.sl yV.len (by omega)) (hb.i.sl yG.len (by omega)) (by omega) (by omega);unfold qP;rw[if_neg (by rw[hl];simp),<- hb.fst];exact this
theorem zB1.fresh{b0:Nat}{v v':Value}{ys zs zs':List PtV}{r ms ms':List PtA}{n q:Nat}(h:zB1 w b0 v (ys++zs) (r++ms))(hp:(ys++zs).length=n/\r.length=q)(m:zJ w w')(ho:zU NoF w' b0 197 5 zCT v' (ys++zs'))(hl:zs'.length=ms'.length)
  (hz:∀(i:Nat) (x:PtV) (n:PtA),zs'[i]? = some x->ms'[i]? = some n->PtR w' b0 x n) (hyr:ys.length=r.length:=by assumption):zB1 w' b0 v' (ys++zs') (r++ms'):=by
 refine⟨ho,by simp[hl,hyr],λi x n h1 h2=>?_⟩;by_cases hi:i<ys.length
 .rw[uY hi] at h1;rw[uY (by omega)] at h2;exact (h.at_ i x n (by rw[uY hi];exact h1) (by rw[uY (by omega)];exact h2)).ext m
 .rw[wJ (by omega)] at h1;rw[wJ (by omega),<- hyr] at h2;exact hz _ x n h1 h2
set_option maxRecDepth 100000 in
set_option maxHeartbeats 8000000 in
theorem zLZ(hL:yW F ad w)(h:yS F w P c s G l)(gen:Nat)(hz:256<=G.size/\G.size<=1024)(lv:Value)(b0:Nat)(L:List PtA)(hv:zC5 w b0 lv L)(hb:b0<=w.heap.size)(hok:∀n∈L,zEm n)(hlen:L.length<=100000) :
    Calls Tryz.prog 158 #[qR c s gen,lv] w λe w'=>∃v,e=.returned v/\zC5 w' b0 v (zCp ((G.size:Int)-24) L)/\zJ w w':=by
  obtain⟨xs,hxs⟩:=hv
  obtain⟨X,hX⟩:∃X,X=w.heap.size:=⟨_,rfl⟩
  obtain⟨z,hzz⟩:∃z,z=(G.size:Int)-24:=⟨_,rfl⟩
  rw[<- hzz]
  obtain⟨w0,hw0⟩:∃w0,w0=w.alloc (gP c s gen):=⟨_,rfl⟩
  have m0:zJ w w0:=by rw[hw0];exact (zA.refl _ w).alloc _
  have hBX:zL w0 X (gP c s gen) 31:=by rw[hw0,hX];exact zL.new w _ _
  have HM0:=oh m0
  have HXS:=oh hxs
  have HLN:=oh hxs.len
  have HW0:=oh hw0
  have P0:=oh (hBX.cell (o:=0) (v:=.pointer (some ⟨c,0,none⟩)) rfl)
  have P1:=oh (hBX.cell (o:=1) (v:=.pointer (some ⟨s,0,none⟩)) rfl)
  have P2:=oh (hBX.cell (o:=2) (v:=.int .u64 (gen:Int)) rfl)
  have HX:=oh hX
  have HBX:=oh hBX
  have HENV:=oh hL
  have HBB:=oh hb
  have HZ:=oh hzz
  have HSZ:=oh (λW (m:zJ w W)=>zGP (w:=W) (h.at m) gen)
  unfold qR at HSZ ⊢
  obtain⟨va,vc,rfl,v1,v2⟩:=hxs.row.form
  unfold maxLen at v2
  clear hL h m0 hw0 hBX hX hb hzz
  by_cases hfew:L.length<2
  . have HE:Hid (zCp z L=L):=oh (zO2 hfew)
    have hd:decide ((xs.length:Int)<2)=true:=wC (by have:=HLN.out;omega)
    clear hxs hok hlen hfew
    go_enter Tryz.func158, Tryz.ntmps158
    go_wp2_with fail
    rw[<- HW0.out]
    go_quiet (fail)
    go_wp2_with fail
    go_ret
    exact⟨_,rfl,⟨_,by rw[HE.out];exact HXS.out.ext (by first|exact HM0.out|exact HM0.out.trans ((zA.refl _ _).drewN _)|exact HM0.out.drew|fail)⟩,by first|exact HM0.out|exact HM0.out.trans ((zA.refl _ _).drewN _)|exact HM0.out.drew|fail⟩
  . obtain⟨r0,a,b,rfl⟩:∃r0 a b,L=r0++[a,b]:=by
      rcases zNu L with rfl|⟨g,rfl⟩|h
      . simp at hfew
      . simp at hfew
      . exact h
    obtain⟨ys,xa,xb,rfl⟩:∃ys xa xb,xs=ys++[xa,xb]:=by
      have:=HLN.out
      rcases zNu xs with rfl|⟨g,rfl⟩|h
      . simp at this
      . simp at this
      . exact h
    obtain⟨p,hp⟩:∃p,p=ys.length:=⟨_,rfl⟩
    have hpl:(ys++[xa,xb]).length=p+2:=by rw[hp];simp
    have hpr:r0.length=p:=by have:=HLN.out;simp at this;omega
    have hga:(ys++[xa,xb])[p]? = some xa:=by rw[hp];simp
    have hgb:(ys++[xa,xb])[p+1]? = some xb:=by rw[hp];simp
    have hla:(r0++[a,b])[p]? = some a:=by rw[<- hpr];simp
    have hlb:(r0++[a,b])[p+1]? = some b:=by rw[<- hpr];simp
    have HA:=oh (HXS.out.at_ p xa a hga hla)
    have HB:=oh (HXS.out.at_ (p+1) xb b hgb hlb)
    obtain⟨g,rfl⟩:=hxs.row.some' (by simp)
    have hsl:=(hxs.row.sl jG.len (by rw[hpl];simp at hlen;omega)).ext HM0.out
    rw[hpl] at hsl v1
    have A0:=oh (hsl.cellsAt hga 0 _ rfl)
    have A1:=oh (hsl.cellsAt hga 1 _ rfl)
    have A2:=oh (hsl.cellsAt hga 2 _ rfl)
    have A3:=oh (hsl.cellsAt hga 3 _ rfl)
    have A4:=oh (hsl.cellsAt hga 4 _ rfl)
    have B0:=oh (hsl.cellsAt hgb 0 _ rfl)
    have B1:=oh (hsl.cellsAt hgb 1 _ rfl)
    have B2:=oh (hsl.cellsAt hgb 2 _ rfl)
    have B3:=oh (hsl.cellsAt hgb 3 _ rfl)
    have B4:=oh (hsl.cellsAt hgb 4 _ rfl)
    simp only[uR,uO] at A0 A1 A2 A3 A4 B0 B1 B2 B3 B4
    have HOA:=oh (hok a (by simp))
    have HOB:=oh (hok b (by simp))
    obtain⟨r,hr⟩:∃r,zAT b.1 (z+24)=r:=⟨_,rfl⟩
    have HLR:=oh hr
    have HLT:Hid (∀W,zJ w W -> Calls Tryz.prog 178 #[.agg #[.bool xb.lf,zW xb.e,zW xb.k,zW xb.i],.int .i64 (G.size:Int)] W λe w'=>e=.returned (.bool r)/\zJ W w'):=oh (λW m=>by
      have hb:=HB.out.ext m
      exact zO7 (F:=NoF) b.1 _ _ _ (hb.e.sl yU.len (by have:=HOB.out.1;omega)) (hb.k.sl yV.len (by have:=HOB.out.2.1;omega)) (hb.i.sl yG.len (by have:=HOB.out.2.2.1;omega)) (by have:=HOB.out.2.2.2.1;omega) (G.size:Int) (by omega) (by omega) xb.lf HB.out.lf.symm r (by rw[<- hr,HZ.out];congr 1;omega))
    have hd:decide ((p:Int)+2<2)=false:=uX (by omega)
    have i1:IntKind.i64.wrap ((p:Int)+2-1)=(p:Int)+1:=by rw[IntWalk.i64_in _ (by simp at hlen;omega)];omega
    have i2:(0:Int)<=(p:Int)+1:=by omega
    have i3:(p:Int)+1<(p:Int)+2:=by omega
    have xB:=HM0.out
    rw[hpl]
    have HPL:=oh (And.intro hpl hpr)
    have HPB:Hid (p<=100000):=oh (by simp at hlen;omega)
    have HXP:Hid (zB1 w b0 (.slice (some ⟨g,0,none⟩) (p+2) vc) (ys++[xa,xb]) (r0++[a,b])):=oh (by have:=HXS.out;rwa [hpl] at this)
    clear hxs hok hfew hsl hga hgb hla hlb hr hp hpl hpr
    go_enter Tryz.func158, Tryz.ntmps158
    go_wp2_with fail
    rw[<- HW0.out,<- HX.out]
    refine wp_region_held_drew (S:=(λw'=>w'.cell? ⟨X,0,none⟩=some (.pointer (some ⟨c,0,none⟩))/\w'.cell? ⟨X,1,none⟩=some (.pointer (some ⟨s,0,none⟩))/\w'.cell? ⟨X,2,none⟩=some (.int .u64 (gen:Int))/\w'.cell? ⟨g,(p+1) * 5,none⟩=some (.bool xb.lf)/\w'.cell? ⟨g,(p+1) * 5+1,none⟩=some (zW xb.e)/\w'.cell? ⟨g,(p+1) * 5+2,none⟩=some (zW xb.k)/\w'.cell? ⟨g,(p+1) * 5+3,none⟩=some (zW xb.i))) (by kernel_rfl) ⟨zC (zA.refl _ _).drew P0.out,zC (zA.refl _ _).drew P1.out,zC (zA.refl _ _).drew P2.out,zC (zA.refl _ _).drew B0.out,zC (zA.refl _ _).drew B1.out,zC (zA.refl _ _).drew B2.out,zC (zA.refl _ _).drew B3.out⟩ (λhHeld=>?_)
    obtain⟨Wd,hWd⟩:∃W,W=w0.drew:=⟨_,rfl⟩
    rw[<- hWd] at hHeld ⊢
    have xWd:zJ w0 Wd:=by rw[hWd];exact (zA.refl _ _).drew
    clear hWd
    refine tkH 0 ⟨some 15,_,_,_,_,_⟩ ?_
    try go_frame
    refine tkH 1 ⟨some 16,_,_,_,_,_⟩ ?_
    try go_frame
    refine tkH 2 ⟨some 17,_,_,_,_,_⟩ ?_
    try go_frame
    refine tkH 3 ⟨some 18,_,_,_,_,_⟩ ?_
    try go_frame
    refine tkH 4 ⟨some 19,_,_,_,_,_⟩ ?_
    try go_frame
    refine tkH 5 ⟨some 20,_,_,_,_,_⟩ ?_
    try go_frame
    refine tkH 6 ⟨some 21,_,_,_,_,_⟩ ?_
    try go_frame
    refine tkH 7 ⟨some 22,_,_,_,_,_⟩ ?_
    try go_frame
    refine tkH 8 ⟨some 23,_,_,_,_,_⟩ ?_
    try go_frame
    refine tkH 9 ⟨some 24,_,_,_,_,_⟩ ?_
    try go_frame
    refine wpAnyH_ready (rs:=[10]) (by kernel_rfl) (by simp) ?_
    refine AllReadyH.cons (o:=⟨some 25,_,_,_,_,_⟩) rfl (λK hK=>?_) AllReadyH.nil
    go_simp
    go_at_call 157
    (with_reducible refine (HSZ.out _ (xB.trans xWd)).mono ?_)
    rintro e W1 ⟨rfl,mW1⟩
    have xW1:=xWd.trans mW1
    refine hK.out _ _ (by first|exact⟨zC xW1 P0.out,zC xW1 P1.out,zC xW1 P2.out,zC xW1 B0.out,zC xW1 B1.out,zC xW1 B2.out,zC xW1 B3.out⟩|go_keep) (λhHeld=>?_)
    clear hK
    try go_frame
    refine wpAnyH_ready (rs:=[11]) (by kernel_rfl) (by simp) ?_
    refine AllReadyH.cons (o:=⟨some 26,_,_,_,_,_⟩) rfl (λK hK=>?_) AllReadyH.nil
    go_simp
    go_at_call 178
    (with_reducible refine (HLT.out _ (xB.trans xW1)).mono ?_)
    rintro e W2 ⟨rfl,mW2⟩
    have xW2:=xW1.trans mW2
    refine hK.out _ _ (by first|exact⟨zC xW2 P0.out,zC xW2 P1.out,zC xW2 P2.out,zC xW2 B0.out,zC xW2 B1.out,zC xW2 B2.out,zC xW2 B3.out⟩|go_keep) (λhHeld=>?_)
    clear hK
    try go_frame
    refine tkH 12 ⟨some 27,_,_,_,_,_⟩ ?_
    try go_frame
    refine tkH 13 ⟨some 28,_,_,_,_,_⟩ ?_
    try go_frame
    refine wpAnyH_done (by kernel_rfl) ?_ _
    have HX2:=oh xW2
    clear xW1 xW2 mW1 mW2 xWd
    cases r with
    | false =>
      have HE:Hid (zCp z (r0++[a,b])=r0++[a,b]):=oh (by rw[zEh,if_neg (by rw[HLR.out];simp)])
      go_wp2_with fail
      go_ret
      exact⟨_,rfl,⟨_,by rw[HE.out];exact HXP.out.ext (HM0.out.trans HX2.out)⟩,HM0.out.trans HX2.out⟩
    | true =>
      have xB2:=HX2.out
      have i5:IntKind.i64.wrap (p:Int)=(p:Int):=IntWalk.i64_in _ (by simp at hlen;omega)
      have i6:(0:Int)<=(p:Int):=by omega
      have i7:(p:Int)<(p:Int)+2:=by omega
      have i8:p<=vc:=by omega
      obtain⟨w2,rfl⟩:∃w2:World,w2=W2:=⟨_,rfl⟩
      go_wp2_with fail
      go_cut [6,7] (λv6 v7 wx=>∃Ya Yb,v6=.pointer (some ⟨Ya,0,none⟩)/\v7=.pointer (some ⟨Yb,0,none⟩)/\Hid (zJ w2 wx/\zL wx Ya #[.bool xa.lf,zW xa.e,zW xa.k,zW xa.i,.string xa.s] 197 /\ zL wx Yb #[.bool xb.lf,zW xb.e,zW xb.k,zW xb.i,.string xb.s] 197))
      case first =>
        have HS:=λ(W:World) (m:zJ w2 W)=>And.intro (zC (xB2.trans m) A0.out) (And.intro (zC (xB2.trans m) A1.out) (And.intro (zC (xB2.trans m) A2.out) (And.intro (zC (xB2.trans m) A3.out) (And.intro (zC (xB2.trans m) A4.out) (And.intro (zC (xB2.trans m) B0.out) (And.intro (zC (xB2.trans m) B1.out) (And.intro (zC (xB2.trans m) B2.out) (And.intro (zC (xB2.trans m) B3.out) (zC (xB2.trans m) B4.out)))))))))
        have m0:=zA.refl (λ_=>False) w2
        have zd:=HS _ m0.drew
        have z1:=HS _ (m0.alloc (.cells #[.bool false,.slice none 0 0,.slice none 0 0,.slice none 0 0,.string ⟨#[]⟩] 197)).drew
        have z2:=HS _ ((m0.alloc (.cells #[.bool false,.slice none 0 0,.slice none 0 0,.slice none 0 0,.string ⟨#[]⟩] 197)).alloc (.cells #[.bool false,.slice none 0 0,.slice none 0 0,.slice none 0 0,.string ⟨#[]⟩] 197)).drew
        have a1:=HS _ ((m0.alloc (.cells #[.bool xa.lf,zW xa.e,zW xa.k,zW xa.i,.string xa.s] 197)).alloc (.cells #[.bool false,.slice none 0 0,.slice none 0 0,.slice none 0 0,.string ⟨#[]⟩] 197)).drew
        have a2:=HS _ ((m0.alloc (.cells #[.bool xa.lf,zW xa.e,zW xa.k,zW xa.i,.string xa.s] 197)).alloc (.cells #[.bool xb.lf,zW xb.e,zW xb.k,zW xb.i,.string xb.s] 197)).drew
        have b1:=HS _ ((m0.alloc (.cells #[.bool false,.slice none 0 0,.slice none 0 0,.slice none 0 0,.string ⟨#[]⟩] 197)).alloc (.cells #[.bool xa.lf,zW xa.e,zW xa.k,zW xa.i,.string xa.s] 197)).drew
        have b2:=HS _ ((m0.alloc (.cells #[.bool xb.lf,zW xb.e,zW xb.k,zW xb.i,.string xb.s] 197)).alloc (.cells #[.bool xa.lf,zW xa.e,zW xa.k,zW xa.i,.string xa.s] 197)).drew
        go_region_held3 (λw'=>w'.cell? ⟨g,p * 5,none⟩=some (.bool xa.lf)/\w'.cell? ⟨g,p * 5+1,none⟩=some (zW xa.e)/\w'.cell? ⟨g,p * 5+2,none⟩=some (zW xa.k)/\w'.cell? ⟨g,p * 5+3,none⟩=some (zW xa.i)/\w'.cell? ⟨g,p * 5+4,none⟩=some (.string xa.s)/\w'.cell? ⟨g,(p+1) * 5,none⟩=some (.bool xb.lf)/\w'.cell? ⟨g,(p+1) * 5+1,none⟩=some (zW xb.e)/\w'.cell? ⟨g,(p+1) * 5+2,none⟩=some (zW xb.k)/\w'.cell? ⟨g,(p+1) * 5+3,none⟩=some (zW xb.i)/\w'.cell? ⟨g,(p+1) * 5+4,none⟩=some (.string xb.s))
          (first|(with_reducible exact zd)|(with_reducible exact z1)|(with_reducible exact z2)|(with_reducible exact a1)|(with_reducible exact a2)|(with_reducible exact b1)|(with_reducible exact b2)|fail)
          (fail)
        all_goals
          go_wp2_with fail
          go_meet
          have hq:∀(o:Obj) (c:Array Value),zL ((w2.alloc o).alloc (.cells c 197)).drew (w2.heap.size+1) c 197:=λo c=>by
            have:=zL.new (w2.alloc o) c 197
            rwa [show (w2.alloc o).heap.size=w2.heap.size+1 by simp] at this
          first
            | exact⟨_,_,rfl,rfl,oh ⟨((m0.alloc _).alloc _).drew,((zL.new w2 _ _).alloc _).drew,hq _ _⟩⟩
            | exact⟨_,_,rfl,rfl,oh ⟨((m0.alloc _).alloc _).drew,hq _ _,((zL.new w2 _ _).alloc _).drew⟩⟩
            | fail
      case rest =>
        obtain⟨Ya,Yb,rfl,rfl,HY⟩:=hcut
        have xB4:zJ w0 wc:=xB2.trans HY.out.1
        have ya0:=HY.out.2.1.cell (o:=0) rfl
        have ya1:=HY.out.2.1.cell (o:=1) rfl
        have ya2:=HY.out.2.1.cell (o:=2) rfl
        have ya3:=HY.out.2.1.cell (o:=3) rfl
        have ya4:=HY.out.2.1.cell (o:=4) rfl
        have yb0:=HY.out.2.2.cell (o:=0) rfl
        have yb1:=HY.out.2.2.cell (o:=1) rfl
        have yb2:=HY.out.2.2.cell (o:=2) rfl
        have yb3:=HY.out.2.2.cell (o:=3) rfl
        have yb4:=HY.out.2.2.cell (o:=4) rfl
        have YA4:=oh ya4
        have HWH:=oh (zO9 (HA.out.ext (xB.trans xB4)) (HB.out.ext (xB.trans xB4)) HOA.out HOB.out)
        unfold ptV at HWH
        go_wp2_with fail
        refine HWH.out.mono ?_
        rintro e w5 ⟨v,rfl,hN,hm5⟩
        obtain⟨ve,vk,vi,rfl, -⟩:=id hN
        obtain⟨xw,rfl,rfl,rfl,hlf,hfs,hPW⟩:=hN.pt a.2
        rw[hlf]
        obtain⟨w6,hw6⟩:∃w6,w6=w5.alloc (.cells #[.bool xw.lf,zW xw.e,zW xw.k,zW xw.i] 118):=⟨_,rfl⟩
        obtain⟨Z,hZ⟩:∃Z,Z=w5.heap.size:=⟨_,rfl⟩
        have x56:zJ w5 w6:=by rw[hw6];exact (zA.refl _ _).alloc _
        have hbz:zL w6 Z #[.bool xw.lf,zW xw.e,zW xw.k,zW xw.i] 118:=by rw[hw6,hZ];exact zL.new w5 _ _
        have xB6:zJ w0 w6:=(xB4.trans hm5).trans x56
        have Z0:=oh (hbz.cell (o:=0) rfl)
        have Z1:=oh (hbz.cell (o:=1) rfl)
        have Z2:=oh (hbz.cell (o:=2) rfl)
        have Z3:=oh (hbz.cell (o:=3) rfl)
        have Z4:=oh (zC (hm5.trans x56) YA4.out)
        have HNW:=oh (zO8 HOA.out HOB.out)
        have hle:b0<=wc.heap.size:=uM HBB.out (xB.trans xB4).size
        have HPW:Hid (PtR w6 b0 ⟨xw.lf,xw.e,xw.k,xw.i,xa.s⟩ (qP a b,a.2)):=oh (by
          have:=(hPW.rebase hle).ext x56
          exact⟨this.lf,HA.out.fst,this.e,this.k,this.i⟩)
        have HFT:Hid (∀W,zJ w6 W -> Calls Tryz.prog 97 #[.agg #[.bool xw.lf,zW xw.e,zW xw.k,zW xw.i],.int .i64 (G.size:Int)] W λe w'=>e=.returned (.bool (decide (zD (qP a b)<=z)))/\zJ W w'):=oh (λW m=>by
          have h:=HPW.out.ext m
          have:=zCC (F:=NoF) (qP a b) (zW xw.e) (zW xw.k) (zW xw.i) W (h.e.sl yU.len (by have:=HNW.out.1;show (qP a b).entries.length<=_;omega)) (h.k.sl yV.len (by have:=HNW.out.2.1;show (qP a b).keys.length<=_;omega)) (by have:=HNW.out.2.2.2.1;omega) (G.size:Int) (by omega) (by omega)
          rw[hlf,<- HZ.out] at this
          exact this)
        have HCUT:Hid (∀W,zJ w6 W -> Calls Tryz.prog 128 #[.agg #[.bool xw.lf,zW xw.e,zW xw.k,zW xw.i]] W (zR5 W (qP a b))):=oh (λW m=>by
          have h:=HPW.out.ext m
          have:=zNt (F:=NoF) (w:=W) ((HENV.out.anti (λ_ (f:False)=>f.elim)).mods (((xB.trans xB6).trans m).ext)) (qP a b) (zW xw.e) (zW xw.k) (zW xw.i) (h.e.sl yU.len (by have:=HNW.out.1;show (qP a b).entries.length<=_;omega)) (h.k.sl yV.len (by have:=HNW.out.2.1;show (qP a b).keys.length<=_;omega)) (h.i.sl yG.len (by have:=HNW.out.2.2.1;show (qP a b).kids.length<=_;omega)) HNW.out.2.2.2.2 (by have:=HNW.out.1;omega) (by have:=HNW.out.2.2.1;omega) (by have:=HNW.out.2.1;omega)
          rw[hlf] at this
          exact this)
        have HYL:Hid (ys.length=p):=oh (by have:=HPL.out.1;simp at this;omega)
        have HW6:=oh hw6
        have HZZ:=oh hZ
        clear hw6 hZ x56 hbz hN hm5 hPW hle ya0 ya1 ya2 ya3 ya4 yb0 yb1 yb2 yb3 yb4 hlf hfs
        go_wp2_with fail
        rw[<- HW6.out,<- HZZ.out]
        refine wp_region_held_drew (S:=(λw'=>w'.cell? ⟨X,0,none⟩=some (.pointer (some ⟨c,0,none⟩))/\w'.cell? ⟨X,1,none⟩=some (.pointer (some ⟨s,0,none⟩))/\w'.cell? ⟨X,2,none⟩=some (.int .u64 (gen:Int))/\w'.cell? ⟨Z,0,none⟩=some (.bool xw.lf)/\w'.cell? ⟨Z,1,none⟩=some (zW xw.e)/\w'.cell? ⟨Z,2,none⟩=some (zW xw.k)/\w'.cell? ⟨Z,3,none⟩=some (zW xw.i))) (by kernel_rfl) ⟨zC (xB6.trans (zA.refl _ _).drew) P0.out,zC (xB6.trans (zA.refl _ _).drew) P1.out,zC (xB6.trans (zA.refl _ _).drew) P2.out,zC (zA.refl _ _).drew Z0.out,zC (zA.refl _ _).drew Z1.out,zC (zA.refl _ _).drew Z2.out,zC (zA.refl _ _).drew Z3.out⟩ (λhHeld=>?_)
        obtain⟨Wd,hWd⟩:∃W,W=w6.drew:=⟨_,rfl⟩
        rw[<- hWd] at hHeld ⊢
        have xWd:zJ w6 Wd:=by rw[hWd];exact (zA.refl _ _).drew
        clear hWd
        refine tkH 0 ⟨some 43,_,_,_,_,_⟩ ?_
        try go_frame
        refine tkH 1 ⟨some 44,_,_,_,_,_⟩ ?_
        try go_frame
        refine wpAnyH_ready (rs:=[2]) (by kernel_rfl) (by simp) ?_
        refine AllReadyH.cons (o:=⟨some 45,_,_,_,_,_⟩) rfl (λK hK=>?_) AllReadyH.nil
        go_simp
        go_at_call 157
        (with_reducible refine (HSZ.out _ ((xB.trans xB6).trans xWd)).mono ?_)
        rintro e V1 ⟨rfl,mV1⟩
        have xV1:=xWd.trans mV1
        refine hK.out _ _ (by first|exact⟨zC (xB6.trans xV1) P0.out,zC (xB6.trans xV1) P1.out,zC (xB6.trans xV1) P2.out,zC xV1 Z0.out,zC xV1 Z1.out,zC xV1 Z2.out,zC xV1 Z3.out⟩|go_keep) (λhHeld=>?_)
        clear hK
        try go_frame
        refine wpAnyH_ready (rs:=[3]) (by kernel_rfl) (by simp) ?_
        refine AllReadyH.cons (o:=⟨some 46,_,_,_,_,_⟩) rfl (λK hK=>?_) AllReadyH.nil
        go_simp
        go_at_call 97
        (with_reducible refine (HFT.out _ xV1).mono ?_)
        rintro e V2 ⟨rfl,mV2⟩
        have xV2:=xV1.trans mV2
        refine hK.out _ _ (by first|exact⟨zC (xB6.trans xV2) P0.out,zC (xB6.trans xV2) P1.out,zC (xB6.trans xV2) P2.out,zC xV2 Z0.out,zC xV2 Z1.out,zC xV2 Z2.out,zC xV2 Z3.out⟩|go_keep) (λhHeld=>?_)
        clear hK
        try go_frame
        refine wpAnyH_done (by kernel_rfl) ?_ _
        have HX6:=oh xV2
        clear xV1 xV2 mV1 mV2 xWd
        obtain⟨w7,rfl⟩:∃w7:World,w7=V2:=⟨_,rfl⟩
        by_cases hfit:zD (qP a b)<=z
        . have HE:Hid (zCp z (r0++[a,b])=r0++[(qP a b,a.2)]):=oh (by rw[zEh,if_pos HLR.out,if_pos hfit])
          have HMW:Hid (zJ w w7):=oh ((xB.trans xB6).trans HX6.out)
          have Q0:=oh (zC HX6.out Z0.out)
          have Q1:=oh (zC HX6.out Z1.out)
          have Q2:=oh (zC HX6.out Z2.out)
          have Q3:=oh (zC HX6.out Z3.out)
          have Q4:=oh (zC HX6.out Z4.out)
          have hPtW:=HPW.out.ext HX6.out
          go_wp2_with fail
          refine wp_region_held_drew (S:=(λw'=>w'.cell? ⟨Z,0,none⟩=some (.bool xw.lf)/\w'.cell? ⟨Z,1,none⟩=some (zW xw.e)/\w'.cell? ⟨Z,2,none⟩=some (zW xw.k)/\w'.cell? ⟨Z,3,none⟩=some (zW xw.i)/\w'.cell? ⟨Ya,4,none⟩=some (.string xa.s))) (by kernel_rfl) ⟨zC (zA.refl _ _).drew Q0.out,zC (zA.refl _ _).drew Q1.out,zC (zA.refl _ _).drew Q2.out,zC (zA.refl _ _).drew Q3.out,zC (zA.refl _ _).drew Q4.out⟩ (λhHeld=>?_)
          obtain⟨Wd,hWd⟩:∃W,W=w7.drew:=⟨_,rfl⟩
          rw[<- hWd] at hHeld ⊢
          have xWd:zJ w7 Wd:=by rw[hWd];exact (zA.refl _ _).drew
          clear hWd
          refine tkH 0 ⟨some 47,_,_,_,_,_⟩ ?_
          try go_frame
          refine tkH 1 ⟨some 48,_,_,_,_,_⟩ ?_
          try go_frame
          refine tkH 2 ⟨some 49,_,_,_,_,_⟩ ?_
          try go_frame
          refine tkH 3 ⟨some 50,_,_,_,_,_⟩ ?_
          try go_frame
          refine tkH 4 ⟨some 51,_,_,_,_,_⟩ ?_
          try go_frame
          refine tkH 5 ⟨some 52,_,_,_,_,_⟩ ?_
          try go_frame
          refine tkH 6 ⟨some 53,_,_,_,_,_⟩ ?_
          try go_frame
          refine tkH 7 ⟨some 54,_,_,_,_,_⟩ ?_
          try go_frame
          refine tkH 8 ⟨some 55,_,_,_,_,_⟩ ?_
          try go_frame
          refine tkH 9 ⟨some 56,_,_,_,_,_⟩ ?_
          try go_frame
          refine wpAnyH_ready (rs:=[10]) (by kernel_rfl) (by simp) ?_
          refine AllReadyH.cons (o:=⟨some 57,_,_,_,_,_⟩) rfl (λK hK=>?_) AllReadyH.nil
          go_simp
          refine hK.out _ _ (by first|exact⟨zC (xWd.alloc _) Q0.out,zC (xWd.alloc _) Q1.out,zC (xWd.alloc _) Q2.out,zC (xWd.alloc _) Q3.out,zC (xWd.alloc _) Q4.out⟩|go_keep) (λhHeld=>?_)
          clear hK
          try go_frame
          obtain⟨L1,hL1⟩:∃W,W=Wd.alloc (.cells #[.bool xw.lf,zW xw.e,zW xw.k,zW xw.i,.string xa.s] 197):=⟨_,rfl⟩
          rw[<- hL1]
          have xL1:zJ w7 L1:=by rw[hL1];exact xWd.alloc _
          have hL:zL L1 Wd.heap.size #[.bool xw.lf,zW xw.e,zW xw.k,zW xw.i,.string xa.s] 197:=by rw[hL1];exact zL.new Wd _ _
          clear hL1
          refine wpAnyH_ready (rs:=[11]) (by kernel_rfl) (by simp) ?_
          refine AllReadyH.cons (o:=⟨some 58,_,_,_,_,_⟩) rfl (λK hK=>?_) AllReadyH.nil
          refine zHj Tryz.elPt jG (by rfl) (.tmp 52) (.tmp 57) (by rfl) b0 (.slice (some ⟨Wd.heap.size,0,none⟩) 1 1) ys [xa,xb] [⟨xw.lf,xw.e,xw.k,xw.i,xa.s⟩] g (p+2) vc (by rw[HYL.out];rfl) (by rfl) ((HXP.out.row.ext HMW.out).ext xL1) (Sl.one (F:=λ_=>False) (x:=(⟨xw.lf,xw.e,xw.k,xw.i,xa.s⟩:PtV)) (enc:=zCT) (sz:=5) hL (λf=>f)) (by simp) (by have:=HYL.out;have:=HPB.out;simp only[uD,uE];omega) ?_
          simp only[uD,uE]
          intro a9 c9 W9 hO9 hm9
          have xW9:=xL1.trans hm9
          refine hK.out _ _ (by first|exact⟨zC xW9 Q0.out,zC xW9 Q1.out,zC xW9 Q2.out,zC xW9 Q3.out,zC xW9 Q4.out⟩|go_keep) (λhHeld=>?_)
          clear hK
          try go_frame
          refine tkH 12 ⟨some 4,_,_,_,_,_⟩ ?_
          try go_frame
          refine wpAnyH_done (by kernel_rfl) ?_ _
          have HL1:=oh xL1.size
          have HMZ:=oh (HMW.out.trans xW9)
          have HPZ:=oh (hPtW.ext xW9)
          have HOZ:=oh hO9
          clear xW9 xL1 xWd hm9 hL hO9 hPtW
          go_wp2_with fail
          go_ret
          refine⟨_,rfl,⟨ys++[⟨xw.lf,xw.e,xw.k,xw.i,xa.s⟩],?_⟩,HMZ.out⟩
          rw[HE.out]
          exact zB1.fresh HXP.out HPL.out HMZ.out (HOZ.out.rebase (by have:=HBB.out;have:=HMW.out.size;have:=HL1.out;omega)) rfl (λi x n h1 h2=>by
            match i,h1,h2 with
            | 0,h1,h2 =>
              simp only[tS,Option.some.injEq] at h1 h2
              subst h1 h2
              exact HPZ.out
            | i+1,h1,_=>simp at h1) (HYL.out.trans HPL.out.2.symm)
        . have HE0 : Hid (zCp z (r0 ++ [a, b]) = match zDX (qP a b) with
              | none=>r0++[a,b]
              | some h=>r0++[(h.1,a.2),(h.2.2,h.2.1)]):=oh (by rw[zEh,if_pos HLR.out,if_neg hfit];cases zDX (qP a b) <;> rfl)
          have HM7:Hid (zJ w w7):=oh ((xB.trans xB6).trans HX6.out)
          have q0:=zC HX6.out Z0.out
          have q1:=zC HX6.out Z1.out
          have q2:=zC HX6.out Z2.out
          have q3:=zC HX6.out Z3.out
          have HQ4:=oh (zC HX6.out Z4.out)
          have HCT:=oh (HCUT.out _ HX6.out)
          go_wp2_with fail
          refine HCT.out.mono ?_
          rintro e w8 ⟨hm8,⟨hc,va,vb,hcut,rfl,hna,hnb⟩|⟨hcut,rfl⟩⟩
          . have HE:Hid (zCp z (r0++[a,b])=r0++[(hc.1,a.2),(hc.2.2,hc.2.1)]):=oh (by rw[HE0.out,hcut])
            obtain⟨e1,k1,i1',rfl, -⟩:=id hna
            obtain⟨e2,k2,i2',rfl, -⟩:=id hnb
            obtain⟨x1,rfl,rfl,rfl,hlf1,hfs1,hp1⟩:=hna.pt a.2
            obtain⟨x2,rfl,rfl,rfl,hlf2,hfs2,hp2⟩:=hnb.pt hc.2.1
            rw[hlf1,hlf2]
            obtain⟨w9,hw9⟩:∃w9,w9=(w8.alloc (.cells #[.bool x1.lf,zW x1.e,zW x1.k,zW x1.i] 118)).alloc (.cells #[.bool x2.lf,zW x2.e,zW x2.k,zW x2.i] 118):=⟨_,rfl⟩
            have x89:zJ w8 w9:=by rw[hw9];exact ((zA.refl _ _).alloc _).alloc _
            obtain⟨Z1,hZ1⟩:∃Z1,Z1=w8.heap.size:=⟨_,rfl⟩
            obtain⟨Z2,hZ2⟩:∃Z2,Z2=w8.heap.size+1:=⟨_,rfl⟩
            have hb1:zL w9 Z1 #[.bool x1.lf,zW x1.e,zW x1.k,zW x1.i] 118:=by rw[hw9,hZ1];exact (zL.new w8 _ _).alloc _
            have hb2:zL w9 Z2 #[.bool x2.lf,zW x2.e,zW x2.k,zW x2.i] 118:=by rw[hw9,hZ2];exact zK (by simp)
            have HMW:Hid (zJ w w9):=oh ((HM7.out.trans hm8).trans x89)
            have Q0:=oh (hb1.cell (o:=0) rfl)
            have Q1:=oh (hb1.cell (o:=1) rfl)
            have Q2:=oh (hb1.cell (o:=2) rfl)
            have Q3:=oh (hb1.cell (o:=3) rfl)
            have Q4:=oh (hb2.cell (o:=0) rfl)
            have Q5:=oh (hb2.cell (o:=1) rfl)
            have Q6:=oh (hb2.cell (o:=2) rfl)
            have Q7:=oh (hb2.cell (o:=3) rfl)
            have Q8:=oh (zC (hm8.trans x89) HQ4.out)
            have hle:b0<=w7.heap.size:=uM HBB.out HM7.out.size
            have hPt1:PtR w9 b0 ⟨x1.lf,x1.e,x1.k,x1.i,xa.s⟩ (hc.1,a.2):=by
              have:=(hp1.rebase hle).ext x89
              exact⟨this.lf,HA.out.fst,this.e,this.k,this.i⟩
            have hPt2:PtR w9 b0 ⟨x2.lf,x2.e,x2.k,x2.i,hc.2.1⟩ (hc.2.2,hc.2.1):=by
              have:=(hp2.rebase hle).ext x89
              exact⟨this.lf,rfl,this.e,this.k,this.i⟩
            have HW9:=oh hw9
            have HZZ:=oh (And.intro hZ1 hZ2)
            clear hw9 hZ1 hZ2 hb1 hb2 hna hnb hp1 hp2 hm8 x89 hcut hle q0 q1 q2 q3 hfs1 hfs2 hlf1 hlf2
            go_wp2_with fail
            rw[<- HW9.out,<- HZZ.out.2,<- HZZ.out.1]
            refine wp_region_held_drew (S:=(λw'=>w'.cell? ⟨Z1,0,none⟩=some (.bool x1.lf)/\w'.cell? ⟨Z1,1,none⟩=some (zW x1.e)/\w'.cell? ⟨Z1,2,none⟩=some (zW x1.k)/\w'.cell? ⟨Z1,3,none⟩=some (zW x1.i)/\w'.cell? ⟨Z2,0,none⟩=some (.bool x2.lf)/\w'.cell? ⟨Z2,1,none⟩=some (zW x2.e)/\w'.cell? ⟨Z2,2,none⟩=some (zW x2.k)/\w'.cell? ⟨Z2,3,none⟩=some (zW x2.i)/\w'.cell? ⟨Ya,4,none⟩=some (.string xa.s))) (by kernel_rfl) ⟨zC (zA.refl _ _).drew Q0.out,zC (zA.refl _ _).drew Q1.out,zC (zA.refl _ _).drew Q2.out,zC (zA.refl _ _).drew Q3.out,zC (zA.refl _ _).drew Q4.out,zC (zA.refl _ _).drew Q5.out,zC (zA.refl _ _).drew Q6.out,zC (zA.refl _ _).drew Q7.out,zC (zA.refl _ _).drew Q8.out⟩ (λhHeld=>?_)
            obtain⟨Wd,hWd⟩:∃W,W=w9.drew:=⟨_,rfl⟩
            rw[<- hWd] at hHeld ⊢
            have xWd:zJ w9 Wd:=by rw[hWd];exact (zA.refl _ _).drew
            clear hWd
            refine tkH 0 ⟨some 69,_,_,_,_,_⟩ ?_
            try go_frame
            refine tkH 1 ⟨some 70,_,_,_,_,_⟩ ?_
            try go_frame
            refine tkH 2 ⟨some 71,_,_,_,_,_⟩ ?_
            try go_frame
            refine tkH 3 ⟨some 72,_,_,_,_,_⟩ ?_
            try go_frame
            refine tkH 4 ⟨some 73,_,_,_,_,_⟩ ?_
            try go_frame
            refine tkH 5 ⟨some 74,_,_,_,_,_⟩ ?_
            try go_frame
            refine tkH 6 ⟨some 75,_,_,_,_,_⟩ ?_
            try go_frame
            refine tkH 7 ⟨some 76,_,_,_,_,_⟩ ?_
            try go_frame
            refine tkH 8 ⟨some 77,_,_,_,_,_⟩ ?_
            try go_frame
            refine tkH 9 ⟨some 78,_,_,_,_,_⟩ ?_
            try go_frame
            refine tkH 10 ⟨some 79,_,_,_,_,_⟩ ?_
            try go_frame
            refine tkH 11 ⟨some 80,_,_,_,_,_⟩ ?_
            try go_frame
            refine tkH 12 ⟨some 81,_,_,_,_,_⟩ ?_
            try go_frame
            refine wpAnyH_ready (rs:=[13]) (by kernel_rfl) (by simp) ?_
            refine AllReadyH.cons (o:=⟨some 82,_,_,_,_,_⟩) rfl (λK hK=>?_) AllReadyH.nil
            go_simp
            refine hK.out _ _ (by first|exact⟨zC (xWd.alloc _) Q0.out,zC (xWd.alloc _) Q1.out,zC (xWd.alloc _) Q2.out,zC (xWd.alloc _) Q3.out,zC (xWd.alloc _) Q4.out,zC (xWd.alloc _) Q5.out,zC (xWd.alloc _) Q6.out,zC (xWd.alloc _) Q7.out,zC (xWd.alloc _) Q8.out⟩|go_keep) (λhHeld=>?_)
            clear hK
            try go_frame
            obtain⟨L1,hL1⟩:∃W,W=Wd.alloc (.cells #[.bool x1.lf,zW x1.e,zW x1.k,zW x1.i,.string xa.s,.bool x2.lf,zW x2.e,zW x2.k,zW x2.i,.string hc.2.1] 197):=⟨_,rfl⟩
            rw[<- hL1]
            have xL1:zJ w9 L1:=by rw[hL1];exact xWd.alloc _
            have hL:zL L1 Wd.heap.size #[.bool x1.lf,zW x1.e,zW x1.k,zW x1.i,.string xa.s,.bool x2.lf,zW x2.e,zW x2.k,zW x2.i,.string hc.2.1] 197:=by rw[hL1];exact zL.new Wd _ _
            clear hL1
            refine wpAnyH_ready (rs:=[14]) (by kernel_rfl) (by simp) ?_
            refine AllReadyH.cons (o:=⟨some 83,_,_,_,_,_⟩) rfl (λK hK=>?_) AllReadyH.nil
            refine zHj Tryz.elPt jG (by rfl) (.tmp 74) (.tmp 82) (by rfl) b0 (.slice (some ⟨Wd.heap.size,0,none⟩) 2 2) ys [xa,xb] [⟨x1.lf,x1.e,x1.k,x1.i,xa.s⟩,⟨x2.lf,x2.e,x2.k,x2.i,hc.2.1⟩] g (p+2) vc (by rw[HYL.out];rfl) (by rfl) ((HXP.out.row.ext HMW.out).ext xL1) (Sl.duo (F:=λ_=>False) (x:=(⟨x1.lf,x1.e,x1.k,x1.i,xa.s⟩:PtV)) (y:=(⟨x2.lf,x2.e,x2.k,x2.i,hc.2.1⟩:PtV)) (enc:=zCT) (sz:=5) hL rfl (λf=>f)) (by simp) (by have:=HYL.out;have:=HPB.out;simp only[uD,uE];omega) ?_
            simp only[uD,uE]
            intro a9 c9 W9 hO9 hm9
            have xW9:=xL1.trans hm9
            refine hK.out _ _ (by first|exact⟨zC xW9 Q0.out,zC xW9 Q1.out,zC xW9 Q2.out,zC xW9 Q3.out,zC xW9 Q4.out,zC xW9 Q5.out,zC xW9 Q6.out,zC xW9 Q7.out,zC xW9 Q8.out⟩|go_keep) (λhHeld=>?_)
            clear hK
            try go_frame
            refine tkH 15 ⟨some 4,_,_,_,_,_⟩ ?_
            try go_frame
            refine wpAnyH_done (by kernel_rfl) ?_ _
            have HL1:=oh xL1.size
            have HMZ:=oh (HMW.out.trans xW9)
            have HP1Z:=oh (hPt1.ext xW9)
            have HP2Z:=oh (hPt2.ext xW9)
            have HOZ:=oh hO9
            clear xW9 xL1 xWd hm9 hL hO9 hPt1 hPt2
            go_wp2_with fail
            go_ret
            refine⟨_,rfl,⟨ys++[⟨x1.lf,x1.e,x1.k,x1.i,xa.s⟩,⟨x2.lf,x2.e,x2.k,x2.i,hc.2.1⟩],?_⟩,HMZ.out⟩
            rw[HE.out]
            exact zB1.fresh HXP.out HPL.out HMZ.out (HOZ.out.rebase (by have:=HBB.out;have:=HMW.out.size;have:=HL1.out;omega)) rfl (λi x n h1 h2=>by
              match i,h1,h2 with
              | 0,h1,h2 =>
                simp only[tS,Option.some.injEq] at h1 h2
                subst h1 h2
                exact HP1Z.out
              | 1,h1,h2 =>
                simp only[tS,rA,Option.some.injEq] at h1 h2
                subst h1 h2
                exact HP2Z.out
              | i+2,h1,_=>simp at h1) (HYL.out.trans HPL.out.2.symm)
          . have HE:Hid (zCp z (r0++[a,b])=r0++[a,b]):=oh (by rw[HE0.out,hcut])
            have HMZ:=oh (HM7.out.trans hm8)
            clear hcut hm8
            go_wp2_with fail
            go_ret
            exact⟨_,rfl,⟨_,by rw[HE.out];exact HXP.out.ext ((HMZ.out.alloc _).alloc _)⟩,(HMZ.out.alloc _).alloc _⟩
end
end Go.Proofs.YtchklfmggpconaaGreatDoor
