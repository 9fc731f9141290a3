import Derived.Test.YtchklfmggpconaaGreatDoorK30
import Derived.Test.YtchklfmggpconaaGreatDoorK33
import Derived.BigQuiet
import Derived.Deep.CutBlock
import Derived.Deep.DeepCutAuto
namespace Go.Proofs.YtchklfmggpconaaGreatDoor
open Lib renaming hid→oh
open Go.RowKit
attribute [local go_sem ↓] Go.wp_at_zero Go.wp_at_succ
theorem two_orL{α:Type}(out:List α):out=[]∨(∃g,out=[g])∨∃r a b,out=r++[a,b]:=by
 cases h:out.reverse with
 | nil=>exact .inl (by simpa using h)
 | cons b t =>
  cases t with
  | nil=>exact .inr (.inl ⟨b,by have:=congrArg List.reverse h;simpa using this⟩)
  | cons a r=>exact .inr (.inr ⟨r.reverse,a,b,by have:=congrArg List.reverse h;simpa using this⟩)
def okPt(n:PtA):Prop:=n.1.entries.length≤2000∧n.1.keys.length≤2000∧n.1.kids.length≤2000∧weightN n.1≤20000∧n.2.size≤10000
section
variable {P P' F F':Nat→Prop}{ad:Nat→Addr}{w w':World}{c s:Nat}{G:GA}{l:List Nat}
theorem bSize_any(h:PgR F w P c s G l)(gen:Nat) : Calls Tryz.prog 157 #[pgV c s gen] w λe w'=>e=.returned (.int .i64 (G.size:Int))∧Ext w w':=by
 unfold pgV;have m0:Ext w (w.alloc (.cells #[.pointer (some ⟨c,0,none⟩),.pointer (some ⟨s,0,none⟩),.int .u64 (gen:Int)] 31)):=(Mods.refl _ w).alloc _;obtain⟨d,HH,h1,h2⟩:=pgDisk (h.at m0);have gf1:=Tryz.geoF1;have H1:=oh h1;have H2:=oh h2;have M0:=oh m0;clear h1 h2 h m0
 go_enter Tryz.func157, Tryz.ntmps157
 go_wp2_with fail;refine H1.out.mono ?_;rintro e w1 ⟨rfl,rfl⟩;go_wp2_with fail;refine (H2.out _ (Mods.refl _ _)).mono ?_;rintro e w2 ⟨rfl,hm⟩;have HM:=oh hm;clear hm;go_wp2_with fail;go_ret;exact⟨rfl,M0.out.trans HM.out⟩
theorem wholeN_ok{a b:PtA}(ha:okPt a)(hb:okPt b):(wholeN a b).entries.length≤4000∧(wholeN a b).keys.length≤4001∧(wholeN a b).kids.length≤4000∧weightN (wholeN a b)≤60000∧(rightN (wholeN a b)=true→(bytesN (wholeN a b)).length≤100000):=by
 obtain⟨a1,a2,a3,a4,a5⟩:=ha;obtain⟨b1,b2,b3,b4,b5⟩:=hb;have hw:weightN (wholeN a b)≤60000:=by
  have e1:=sumE_nonneg a.1.entries;have e2:=sumE_nonneg b.1.entries;have k1:=sumK_nonneg a.1.keys;have k2:=sumK_nonneg b.1.keys;unfold weightN at a4 b4 ⊢;unfold wholeN;split
  ·simp only[sumE_append,sumK,if_true];split at a4 <;> split at b4 <;> omega
  ·simp only[sumK_append,sumE,sumK,Bool.false_eq_true,if_false];split at a4 <;> split at b4 <;> omega
 refine⟨?_,?_,?_,hw,λhr=>by have:=weight_len (form_right hr);omega⟩;all_goals
  unfold wholeN;split
  ·simp only[List.length_append,List.length_nil];omega
  ·simp only[List.length_append,List.length_nil,List.length_cons];omega
theorem whole_any{b1 b2:Nat}{xa xb:PtV}{a b:PtA}(ha:PtR w b1 xa a)(hb:PtR w b2 xb b)(hoa:okPt a)(hob:okPt b) :
  Calls Tryz.prog 182 #[ptV xa,ptV xb] w λe w'=>∃v,e=.returned v∧NodeO w' w.heap.size v (wholeN a b)∧Ext w w':=by
 obtain⟨a1,a2,a3,_,_⟩:=hoa;obtain⟨c1,c2,c3,_,_⟩:=hob;unfold ptV;rw[ha.lf];cases hl:a.1.leaf with
 | true =>
  have:=wholeL_any (F:=NoF) a.1.entries b.1.entries xb.lf (slV xa.e) (slV xa.k) (slV xa.i) (slV xb.e) (slV xb.k) (slV xb.i) xa.s xb.s (ha.e.sl encE_ok.len (by omega)) (hb.e.sl encE_ok.len (by omega)) (by omega) (by omega);unfold wholeN;rw[if_pos hl];exact this
 | false =>
  have:=wholeI_any (F:=NoF) a.1 b.1 xb.lf (slV xa.e) (slV xa.k) (slV xa.i) (slV xb.e) (slV xb.k) (slV xb.i) xa.s xb.s (ha.k.sl encS_ok.len (by omega)) (ha.i.sl encI_ok.len (by omega)) (hb.k.sl encS_ok.len (by omega)) (hb.i.sl encI_ok.len (by omega)) (by omega) (by omega);unfold wholeN;rw[if_neg (by rw[hl];simp),← hb.fst];exact this
theorem PtsR.fresh{b0:Nat}{v v':Value}{ys zs zs':List PtV}{r ms ms':List PtA}{n q:Nat}(h:PtsR w b0 v (ys++zs) (r++ms))(hp:(ys++zs).length=n∧r.length=q)(m:Ext w w')(ho:Own NoF w' b0 197 5 encPt v' (ys++zs'))(hl:zs'.length=ms'.length)
  (hz:∀(i:Nat) (x:PtV) (n:PtA),zs'[i]? = some x→ms'[i]? = some n→PtR w' b0 x n) (hyr:ys.length=r.length:=by assumption):PtsR w' b0 v' (ys++zs') (r++ms'):=by
 refine⟨ho,by simp[hl,hyr],λi x n h1 h2=>?_⟩;by_cases hi:i<ys.length
 ·rw[List.getElem?_append_left hi] at h1;rw[List.getElem?_append_left (by omega)] at h2;exact (h.at_ i x n (by rw[List.getElem?_append_left hi];exact h1) (by rw[List.getElem?_append_left (by omega)];exact h2)).ext m
 ·rw[List.getElem?_append_right (by omega)] at h1;rw[List.getElem?_append_right (by omega),← hyr] at h2;exact hz _ x n h1 h2
set_option maxRecDepth 100000 in
set_option maxHeartbeats 8000000 in
theorem even_any(hL:Env F ad w)(h:PgR F w P c s G l)(gen:Nat)(hz:256≤G.size∧G.size≤1024)(lv:Value)(b0:Nat)(L:List PtA)(hv:PtsO w b0 lv L)(hb:b0≤w.heap.size)(hok:∀n∈L,okPt n)(hlen:L.length≤100000) :
    Calls Tryz.prog 158 #[pgV c s gen,lv] w λe w'=>∃v,e=.returned v∧PtsO w' b0 v (evenN ((G.size:Int)-24) L)∧Ext w w':=by
  obtain⟨xs,hxs⟩:=hv
  obtain⟨X,hX⟩:∃X,X=w.heap.size:=⟨_,rfl⟩
  obtain⟨z,hzz⟩:∃z,z=(G.size:Int)-24:=⟨_,rfl⟩
  rw[← hzz]
  obtain⟨w0,hw0⟩:∃w0,w0=w.alloc (.cells #[.pointer (some ⟨c,0,none⟩),.pointer (some ⟨s,0,none⟩),.int .u64 (gen:Int)] 31):=⟨_,rfl⟩
  have m0:Ext w w0:=by rw[hw0];exact (Mods.refl _ w).alloc _
  have hBX:Blk w0 X #[.pointer (some ⟨c,0,none⟩),.pointer (some ⟨s,0,none⟩),.int .u64 (gen:Int)] 31:=by rw[hw0,hX];exact Blk.new w _ _
  have HM0:=oh m0
  have HXS:=oh hxs
  have HLN:=oh hxs.len
  have HW0:=oh hw0
  have P0:=oh (hBX.cell (o:=0) (v:=.pointer (some ⟨c,0,none⟩)) rfl)
  have P1:=oh (hBX.cell (o:=1) (v:=.pointer (some ⟨s,0,none⟩)) rfl)
  have P2:=oh (hBX.cell (o:=2) (v:=.int .u64 (gen:Int)) rfl)
  have HX:=oh hX
  have HBX:=oh hBX
  have HENV:=oh hL
  have HBB:=oh hb
  have HZ:=oh hzz
  have HSZ:=oh (λW (m:Ext w W)=>bSize_any (w:=W) (h.at m) gen)
  unfold pgV at HSZ ⊢
  obtain⟨va,vc,rfl,v1,v2⟩:=hxs.row.form
  unfold maxLen at v2
  clear hL h m0 hw0 hBX hX hb hzz
  by_cases hfew:L.length<2
  · have HE:Hid (evenN z L=L):=oh (evenN_few hfew)
    have hd:decide ((xs.length:Int)<2)=true:=decide_eq_true (by have:=HLN.out;omega)
    clear hxs hok hlen hfew
    go_enter Tryz.func158, Tryz.ntmps158
    go_wp2_with fail
    rw[← HW0.out]
    go_quiet (fail)
    go_wp2_with fail
    go_ret
    exact⟨_,rfl,⟨_,by rw[HE.out];exact HXS.out.ext (by first|exact HM0.out|exact HM0.out.trans ((Mods.refl _ _).drewN _)|exact HM0.out.drew|fail)⟩,by first|exact HM0.out|exact HM0.out.trans ((Mods.refl _ _).drewN _)|exact HM0.out.drew|fail⟩
  · obtain⟨r0,a,b,rfl⟩:∃r0 a b,L=r0++[a,b]:=by
      rcases two_orL L with rfl|⟨g,rfl⟩|h
      · simp at hfew
      · simp at hfew
      · exact h
    obtain⟨ys,xa,xb,rfl⟩:∃ys xa xb,xs=ys++[xa,xb]:=by
      have:=HLN.out
      rcases two_orL xs with rfl|⟨g,rfl⟩|h
      · simp at this
      · simp at this
      · exact h
    obtain⟨p,hp⟩:∃p,p=ys.length:=⟨_,rfl⟩
    have hpl:(ys++[xa,xb]).length=p+2:=by rw[hp];simp
    have hpr:r0.length=p:=by have:=HLN.out;simp at this;omega
    have hga:(ys++[xa,xb])[p]? = some xa:=by rw[hp];simp
    have hgb:(ys++[xa,xb])[p+1]? = some xb:=by rw[hp];simp
    have hla:(r0++[a,b])[p]? = some a:=by rw[← hpr];simp
    have hlb:(r0++[a,b])[p+1]? = some b:=by rw[← hpr];simp
    have HA:=oh (HXS.out.at_ p xa a hga hla)
    have HB:=oh (HXS.out.at_ (p+1) xb b hgb hlb)
    obtain⟨g,rfl⟩:=hxs.row.some' (by simp)
    have hsl:=(hxs.row.sl encPt_ok.len (by rw[hpl];simp at hlen;omega)).ext HM0.out
    rw[hpl] at hsl v1
    have A0:=oh (hsl.cellsAt hga 0 _ rfl)
    have A1:=oh (hsl.cellsAt hga 1 _ rfl)
    have A2:=oh (hsl.cellsAt hga 2 _ rfl)
    have A3:=oh (hsl.cellsAt hga 3 _ rfl)
    have A4:=oh (hsl.cellsAt hga 4 _ rfl)
    have B0:=oh (hsl.cellsAt hgb 0 _ rfl)
    have B1:=oh (hsl.cellsAt hgb 1 _ rfl)
    have B2:=oh (hsl.cellsAt hgb 2 _ rfl)
    have B3:=oh (hsl.cellsAt hgb 3 _ rfl)
    have B4:=oh (hsl.cellsAt hgb 4 _ rfl)
    simp only[Nat.zero_add,Nat.add_zero] at A0 A1 A2 A3 A4 B0 B1 B2 B3 B4
    have HOA:=oh (hok a (by simp))
    have HOB:=oh (hok b (by simp))
    obtain⟨r,hr⟩:∃r,lightN b.1 (z+24)=r:=⟨_,rfl⟩
    have HLR:=oh hr
    have HLT:Hid (∀W,Ext w W → Calls Tryz.prog 178 #[.agg #[.bool xb.lf,slV xb.e,slV xb.k,slV xb.i],.int .i64 (G.size:Int)] W λe w'=>e=.returned (.bool r)∧Ext W w'):=oh (λW m=>by
      have hb:=HB.out.ext m
      exact light_any (F:=NoF) b.1 _ _ _ (hb.e.sl encE_ok.len (by have:=HOB.out.1;omega)) (hb.k.sl encS_ok.len (by have:=HOB.out.2.1;omega)) (hb.i.sl encI_ok.len (by have:=HOB.out.2.2.1;omega)) (by have:=HOB.out.2.2.2.1;omega) (G.size:Int) (by omega) (by omega) xb.lf HB.out.lf.symm r (by rw[← hr,HZ.out];congr 1;omega))
    have hd:decide ((p:Int)+2<2)=false:=decide_eq_false (by omega)
    have i1:IntKind.i64.wrap ((p:Int)+2-1)=(p:Int)+1:=by rw[IntWalk.i64_in _ (by simp at hlen;omega)];omega
    have i2:(0:Int)≤(p:Int)+1:=by omega
    have i3:(p:Int)+1<(p:Int)+2:=by omega
    have xB:=HM0.out
    rw[hpl]
    have HPL:=oh (And.intro hpl hpr)
    have HPB:Hid (p≤100000):=oh (by simp at hlen;omega)
    have HXP:Hid (PtsR w b0 (.slice (some ⟨g,0,none⟩) (p+2) vc) (ys++[xa,xb]) (r0++[a,b])):=oh (by have:=HXS.out;rwa [hpl] at this)
    clear hxs hok hfew hsl hga hgb hla hlb hr hp hpl hpr
    go_enter Tryz.func158, Tryz.ntmps158
    go_wp2_with fail
    rw[← HW0.out,← HX.out]
    refine wp_region_held_drew (S:=(λw'=>w'.cell? ⟨X,0,none⟩=some (.pointer (some ⟨c,0,none⟩))∧w'.cell? ⟨X,1,none⟩=some (.pointer (some ⟨s,0,none⟩))∧w'.cell? ⟨X,2,none⟩=some (.int .u64 (gen:Int))∧w'.cell? ⟨g,(p+1) * 5,none⟩=some (.bool xb.lf)∧w'.cell? ⟨g,(p+1) * 5+1,none⟩=some (slV xb.e)∧w'.cell? ⟨g,(p+1) * 5+2,none⟩=some (slV xb.k)∧w'.cell? ⟨g,(p+1) * 5+3,none⟩=some (slV xb.i))) (by kernel_rfl) ⟨cellE (Mods.refl _ _).drew P0.out,cellE (Mods.refl _ _).drew P1.out,cellE (Mods.refl _ _).drew P2.out,cellE (Mods.refl _ _).drew B0.out,cellE (Mods.refl _ _).drew B1.out,cellE (Mods.refl _ _).drew B2.out,cellE (Mods.refl _ _).drew B3.out⟩ (λhHeld=>?_)
    obtain⟨Wd,hWd⟩:∃W,W=w0.drew:=⟨_,rfl⟩
    rw[← hWd] at hHeld ⊢
    have xWd:Ext w0 Wd:=by rw[hWd];exact (Mods.refl _ _).drew
    clear hWd
    refine tkH 0 ⟨some 15,_,_,_,_,_⟩ ?_
    try go_frame
    refine tkH 1 ⟨some 16,_,_,_,_,_⟩ ?_
    try go_frame
    refine tkH 2 ⟨some 17,_,_,_,_,_⟩ ?_
    try go_frame
    refine tkH 3 ⟨some 18,_,_,_,_,_⟩ ?_
    try go_frame
    refine tkH 4 ⟨some 19,_,_,_,_,_⟩ ?_
    try go_frame
    refine tkH 5 ⟨some 20,_,_,_,_,_⟩ ?_
    try go_frame
    refine tkH 6 ⟨some 21,_,_,_,_,_⟩ ?_
    try go_frame
    refine tkH 7 ⟨some 22,_,_,_,_,_⟩ ?_
    try go_frame
    refine tkH 8 ⟨some 23,_,_,_,_,_⟩ ?_
    try go_frame
    refine tkH 9 ⟨some 24,_,_,_,_,_⟩ ?_
    try go_frame
    refine wpAnyH_ready (rs:=[10]) (by kernel_rfl) (by simp) ?_
    refine AllReadyH.cons (o:=⟨some 25,_,_,_,_,_⟩) rfl (λK hK=>?_) AllReadyH.nil
    go_simp
    go_at_call 157
    (with_reducible refine (HSZ.out _ (xB.trans xWd)).mono ?_)
    rintro e W1 ⟨rfl,mW1⟩
    have xW1:=xWd.trans mW1
    refine hK.out _ _ (by first|exact⟨cellE xW1 P0.out,cellE xW1 P1.out,cellE xW1 P2.out,cellE xW1 B0.out,cellE xW1 B1.out,cellE xW1 B2.out,cellE xW1 B3.out⟩|go_keep) (λhHeld=>?_)
    clear hK
    try go_frame
    refine wpAnyH_ready (rs:=[11]) (by kernel_rfl) (by simp) ?_
    refine AllReadyH.cons (o:=⟨some 26,_,_,_,_,_⟩) rfl (λK hK=>?_) AllReadyH.nil
    go_simp
    go_at_call 178
    (with_reducible refine (HLT.out _ (xB.trans xW1)).mono ?_)
    rintro e W2 ⟨rfl,mW2⟩
    have xW2:=xW1.trans mW2
    refine hK.out _ _ (by first|exact⟨cellE xW2 P0.out,cellE xW2 P1.out,cellE xW2 P2.out,cellE xW2 B0.out,cellE xW2 B1.out,cellE xW2 B2.out,cellE xW2 B3.out⟩|go_keep) (λhHeld=>?_)
    clear hK
    try go_frame
    refine tkH 12 ⟨some 27,_,_,_,_,_⟩ ?_
    try go_frame
    refine tkH 13 ⟨some 28,_,_,_,_,_⟩ ?_
    try go_frame
    refine wpAnyH_done (by kernel_rfl) ?_ _
    have HX2:=oh xW2
    clear xW1 xW2 mW1 mW2 xWd
    cases r with
    | false =>
      have HE:Hid (evenN z (r0++[a,b])=r0++[a,b]):=oh (by rw[evenN_two,if_neg (by rw[HLR.out];simp)])
      go_wp2_with fail
      go_ret
      exact⟨_,rfl,⟨_,by rw[HE.out];exact HXP.out.ext (HM0.out.trans HX2.out)⟩,HM0.out.trans HX2.out⟩
    | true =>
      have xB2:=HX2.out
      have i5:IntKind.i64.wrap (p:Int)=(p:Int):=IntWalk.i64_in _ (by simp at hlen;omega)
      have i6:(0:Int)≤(p:Int):=by omega
      have i7:(p:Int)<(p:Int)+2:=by omega
      have i8:p≤vc:=by omega
      obtain⟨w2,rfl⟩:∃w2:World,w2=W2:=⟨_,rfl⟩
      go_wp2_with fail
      go_cut [6,7] (λv6 v7 wx=>∃Ya Yb,v6=.pointer (some ⟨Ya,0,none⟩)∧v7=.pointer (some ⟨Yb,0,none⟩)∧Hid (Ext w2 wx∧Blk wx Ya #[.bool xa.lf,slV xa.e,slV xa.k,slV xa.i,.string xa.s] 197 ∧ Blk wx Yb #[.bool xb.lf,slV xb.e,slV xb.k,slV xb.i,.string xb.s] 197))
      case first =>
        refine wp_region_held_drew (S:=(λw'=>w'.cell? ⟨g,p * 5,none⟩=some (.bool xa.lf)∧w'.cell? ⟨g,p * 5+1,none⟩=some (slV xa.e)∧w'.cell? ⟨g,p * 5+2,none⟩=some (slV xa.k)∧w'.cell? ⟨g,p * 5+3,none⟩=some (slV xa.i)∧w'.cell? ⟨g,p * 5+4,none⟩=some (.string xa.s)∧w'.cell? ⟨g,(p+1) * 5,none⟩=some (.bool xb.lf)∧w'.cell? ⟨g,(p+1) * 5+1,none⟩=some (slV xb.e)∧w'.cell? ⟨g,(p+1) * 5+2,none⟩=some (slV xb.k)∧w'.cell? ⟨g,(p+1) * 5+3,none⟩=some (slV xb.i)∧w'.cell? ⟨g,(p+1) * 5+4,none⟩=some (.string xb.s))) (by kernel_rfl) ⟨cellE (xB2.trans (Mods.refl _ _).drew) A0.out,cellE (xB2.trans (Mods.refl _ _).drew) A1.out,cellE (xB2.trans (Mods.refl _ _).drew) A2.out,cellE (xB2.trans (Mods.refl _ _).drew) A3.out,cellE (xB2.trans (Mods.refl _ _).drew) A4.out,cellE (xB2.trans (Mods.refl _ _).drew) B0.out,cellE (xB2.trans (Mods.refl _ _).drew) B1.out,cellE (xB2.trans (Mods.refl _ _).drew) B2.out,cellE (xB2.trans (Mods.refl _ _).drew) B3.out,cellE (xB2.trans (Mods.refl _ _).drew) B4.out⟩ (λhHeld=>?_)
        obtain⟨Wd,hWd⟩:∃W,W=w2.drew:=⟨_,rfl⟩
        rw[← hWd] at hHeld ⊢
        have xWd:Ext w2 Wd:=by rw[hWd];exact (Mods.refl _ _).drew
        clear hWd
        refine tkH 0 ⟨some 30,_,_,_,_,_⟩ ?_
        try go_frame
        refine tkH 1 ⟨some 31,_,_,_,_,_⟩ ?_
        try go_frame
        refine tkH 2 ⟨some 32,_,_,_,_,_⟩ ?_
        try go_frame
        refine tkH 3 ⟨some 33,_,_,_,_,_⟩ ?_
        try go_frame
        refine tkH 4 ⟨some 34,_,_,_,_,_⟩ ?_
        try go_frame
        refine tkH 5 ⟨some 35,_,_,_,_,_⟩ ?_
        try go_frame
        refine tkH 6 ⟨some 36,_,_,_,_,_⟩ ?_
        try go_frame
        refine tkH 7 ⟨some 37,_,_,_,_,_⟩ ?_
        try go_frame
        refine tkH 8 ⟨some 38,_,_,_,_,_⟩ ?_
        try go_frame
        refine tkH 9 ⟨some 39,_,_,_,_,_⟩ ?_
        try go_frame
        refine wpAnyH_ready (rs:=[10,11]) (by kernel_rfl) (by simp) ?_
        refine AllReadyH.cons (o:=⟨some 6,_,_,_,_,_⟩) rfl (λK hK=>?_) ?_
        · skip
          go_simp
          refine hK.out _ _ (by first|exact⟨cellE (xB2.trans (xWd.alloc _)) A0.out,cellE (xB2.trans (xWd.alloc _)) A1.out,cellE (xB2.trans (xWd.alloc _)) A2.out,cellE (xB2.trans (xWd.alloc _)) A3.out,cellE (xB2.trans (xWd.alloc _)) A4.out,cellE (xB2.trans (xWd.alloc _)) B0.out,cellE (xB2.trans (xWd.alloc _)) B1.out,cellE (xB2.trans (xWd.alloc _)) B2.out,cellE (xB2.trans (xWd.alloc _)) B3.out,cellE (xB2.trans (xWd.alloc _)) B4.out⟩|go_keep) (λhHeld=>?_)
          clear hK
          try go_frame
          obtain⟨Y1a,hY1a⟩:∃W,W=Wd.alloc (.cells ptZc 197):=⟨_,rfl⟩
          unfold ptZc at hY1a
          rw[← hY1a]
          have xY1a:Ext w2 Y1a:=by rw[hY1a];exact xWd.alloc _
          have hala:Blk Y1a Wd.heap.size ptZc 197:=by rw[hY1a];exact Blk.new Wd _ _
          have hlta:Wd.heap.size<Y1a.heap.size:=by rw[hY1a];simp
          clear hY1a
          refine wpAnyH_ready (rs:=[11]) (by kernel_rfl) (by simp) ?_
          refine AllReadyH.cons (o:=⟨some 7,_,_,_,_,_⟩) rfl (λK hK=>?_) AllReadyH.nil
          go_simp
          refine hK.out _ _ (by first|exact⟨cellE (xB2.trans (xY1a.alloc _)) A0.out,cellE (xB2.trans (xY1a.alloc _)) A1.out,cellE (xB2.trans (xY1a.alloc _)) A2.out,cellE (xB2.trans (xY1a.alloc _)) A3.out,cellE (xB2.trans (xY1a.alloc _)) A4.out,cellE (xB2.trans (xY1a.alloc _)) B0.out,cellE (xB2.trans (xY1a.alloc _)) B1.out,cellE (xB2.trans (xY1a.alloc _)) B2.out,cellE (xB2.trans (xY1a.alloc _)) B3.out,cellE (xB2.trans (xY1a.alloc _)) B4.out⟩|go_keep) (λhHeld=>?_)
          clear hK
          try go_frame
          obtain⟨Y2ab,hY2ab⟩:∃W,W=Y1a.alloc (.cells ptZc 197):=⟨_,rfl⟩
          unfold ptZc at hY2ab
          rw[← hY2ab]
          have xY2ab:Ext w2 Y2ab:=by rw[hY2ab];exact xY1a.alloc _
          have halb:Blk Y2ab Y1a.heap.size ptZc 197:=by rw[hY2ab];exact Blk.new Y1a _ _
          have hala:=hala.ext (show Ext Y1a Y2ab by rw[hY2ab];exact (Mods.refl _ _).alloc _)
          have hltb:Y1a.heap.size<Y2ab.heap.size:=by rw[hY2ab];simp
          clear hY2ab
          refine wpAnyH_ready (rs:=[12]) (by kernel_rfl) (by simp) ?_
          refine AllReadyH.cons (o:=⟨none,_,_,_,_,_⟩) rfl (λK hK=>?_) AllReadyH.nil
          have r0:=hala.cell (o:=0) (v:=.bool false) rfl
          have r1:=hala.cell (o:=1) (v:=.slice none 0 0) rfl
          have r2:=hala.cell (o:=2) (v:=.slice none 0 0) rfl
          have r3:=hala.cell (o:=3) (v:=.slice none 0 0) rfl
          have r4:=hala.cell (o:=4) (v:=.string ⟨#[]⟩) rfl
          have rf:=hala.frozen
          have hnw:Ext w2 (((((Y2ab.setCell ⟨Wd.heap.size,0,none⟩ (.bool xa.lf)).setCell ⟨Wd.heap.size,1,none⟩ (slV xa.e)).setCell ⟨Wd.heap.size,2,none⟩ (slV xa.k)).setCell ⟨Wd.heap.size,3,none⟩ (slV xa.i)).setCell ⟨Wd.heap.size,4,none⟩ (.string xa.s)):=Mods.set5 xY2ab (R:=Wd.heap.size) (.inl (show w2.heap.size≤Wd.heap.size from xWd.size)) _ _ _ _ _
          go_simp
          refine hK.out _ _ (by first|exact⟨cellE (xB2.trans hnw) A0.out,cellE (xB2.trans hnw) A1.out,cellE (xB2.trans hnw) A2.out,cellE (xB2.trans hnw) A3.out,cellE (xB2.trans hnw) A4.out,cellE (xB2.trans hnw) B0.out,cellE (xB2.trans hnw) B1.out,cellE (xB2.trans hnw) B2.out,cellE (xB2.trans hnw) B3.out,cellE (xB2.trans hnw) B4.out⟩|go_keep) (λhHeld=>?_)
          clear hK
          try go_frame
          obtain⟨Y3abA,hY3abA⟩:∃W,W=((((Y2ab.setCell ⟨Wd.heap.size,0,none⟩ (.bool xa.lf)).setCell ⟨Wd.heap.size,1,none⟩ (slV xa.e)).setCell ⟨Wd.heap.size,2,none⟩ (slV xa.k)).setCell ⟨Wd.heap.size,3,none⟩ (slV xa.i)).setCell ⟨Wd.heap.size,4,none⟩ (.string xa.s):=⟨_,rfl⟩
          rw[← hY3abA]
          have xY3abA:Ext w2 Y3abA:=by rw[hY3abA];exact hnw
          have hsta:Blk Y3abA Wd.heap.size #[.bool xa.lf,slV xa.e,slV xa.k,slV xa.i,.string xa.s] 197:=by rw[hY3abA];exact hala.set5 _ _ _ _ _
          have halb:=halb.mods (show Mods (λk=>k=Wd.heap.size) Y2ab Y3abA by rw[hY3abA];exact Mods.set5 (F:=λk=>k=Wd.heap.size) (Mods.refl _ _) (R:=Wd.heap.size) (.inr rfl) _ _ _ _ _) (by omega)
          clear hY3abA hnw
          refine wpAnyH_ready (rs:=[13]) (by kernel_rfl) (by simp) ?_
          refine AllReadyH.cons (o:=⟨none,_,_,_,_,_⟩) rfl (λK hK=>?_) AllReadyH.nil
          have r0:=halb.cell (o:=0) (v:=.bool false) rfl
          have r1:=halb.cell (o:=1) (v:=.slice none 0 0) rfl
          have r2:=halb.cell (o:=2) (v:=.slice none 0 0) rfl
          have r3:=halb.cell (o:=3) (v:=.slice none 0 0) rfl
          have r4:=halb.cell (o:=4) (v:=.string ⟨#[]⟩) rfl
          have rf:=halb.frozen
          have hnw:Ext w2 (((((Y3abA.setCell ⟨Y1a.heap.size,0,none⟩ (.bool xb.lf)).setCell ⟨Y1a.heap.size,1,none⟩ (slV xb.e)).setCell ⟨Y1a.heap.size,2,none⟩ (slV xb.k)).setCell ⟨Y1a.heap.size,3,none⟩ (slV xb.i)).setCell ⟨Y1a.heap.size,4,none⟩ (.string xb.s)):=Mods.set5 xY3abA (R:=Y1a.heap.size) (.inl (show w2.heap.size≤Y1a.heap.size from xY1a.size)) _ _ _ _ _
          go_simp
          refine hK.out _ _ (by first|exact⟨cellE (xB2.trans hnw) A0.out,cellE (xB2.trans hnw) A1.out,cellE (xB2.trans hnw) A2.out,cellE (xB2.trans hnw) A3.out,cellE (xB2.trans hnw) A4.out,cellE (xB2.trans hnw) B0.out,cellE (xB2.trans hnw) B1.out,cellE (xB2.trans hnw) B2.out,cellE (xB2.trans hnw) B3.out,cellE (xB2.trans hnw) B4.out⟩|go_keep) (λhHeld=>?_)
          clear hK
          try go_frame
          obtain⟨Y4abAB,hY4abAB⟩:∃W,W=((((Y3abA.setCell ⟨Y1a.heap.size,0,none⟩ (.bool xb.lf)).setCell ⟨Y1a.heap.size,1,none⟩ (slV xb.e)).setCell ⟨Y1a.heap.size,2,none⟩ (slV xb.k)).setCell ⟨Y1a.heap.size,3,none⟩ (slV xb.i)).setCell ⟨Y1a.heap.size,4,none⟩ (.string xb.s):=⟨_,rfl⟩
          rw[← hY4abAB]
          have xY4abAB:Ext w2 Y4abAB:=by rw[hY4abAB];exact hnw
          have hstb:Blk Y4abAB Y1a.heap.size #[.bool xb.lf,slV xb.e,slV xb.k,slV xb.i,.string xb.s] 197:=by rw[hY4abAB];exact halb.set5 _ _ _ _ _
          have hsta:=hsta.mods (show Mods (λk=>k=Y1a.heap.size) Y3abA Y4abAB by rw[hY4abAB];exact Mods.set5 (F:=λk=>k=Y1a.heap.size) (Mods.refl _ _) (R:=Y1a.heap.size) (.inr rfl) _ _ _ _ _) (by omega)
          clear hY4abAB hnw
          refine wpAnyH_done (by kernel_rfl) ?_ _
          have HFIN:Hid (Ext w2 Y4abAB∧Blk Y4abAB Wd.heap.size #[.bool xa.lf,slV xa.e,slV xa.k,slV xa.i,.string xa.s] 197 ∧ Blk Y4abAB Y1a.heap.size #[.bool xb.lf,slV xb.e,slV xb.k,slV xb.i,.string xb.s] 197):=oh ⟨xY4abAB,hsta,hstb⟩
          clear hsta hstb
          go_wp2_with fail
          go_meet
          exact⟨_,_,rfl,rfl,HFIN⟩
        refine AllReadyH.cons (o:=⟨some 7,_,_,_,_,_⟩) rfl (λK hK=>?_) AllReadyH.nil
        go_simp
        refine hK.out _ _ (by first|exact⟨cellE (xB2.trans (xWd.alloc _)) A0.out,cellE (xB2.trans (xWd.alloc _)) A1.out,cellE (xB2.trans (xWd.alloc _)) A2.out,cellE (xB2.trans (xWd.alloc _)) A3.out,cellE (xB2.trans (xWd.alloc _)) A4.out,cellE (xB2.trans (xWd.alloc _)) B0.out,cellE (xB2.trans (xWd.alloc _)) B1.out,cellE (xB2.trans (xWd.alloc _)) B2.out,cellE (xB2.trans (xWd.alloc _)) B3.out,cellE (xB2.trans (xWd.alloc _)) B4.out⟩|go_keep) (λhHeld=>?_)
        clear hK
        try go_frame
        obtain⟨Y1b,hY1b⟩:∃W,W=Wd.alloc (.cells ptZc 197):=⟨_,rfl⟩
        unfold ptZc at hY1b
        rw[← hY1b]
        have xY1b:Ext w2 Y1b:=by rw[hY1b];exact xWd.alloc _
        have halb:Blk Y1b Wd.heap.size ptZc 197:=by rw[hY1b];exact Blk.new Wd _ _
        have hltb:Wd.heap.size<Y1b.heap.size:=by rw[hY1b];simp
        clear hY1b
        refine wpAnyH_ready (rs:=[10]) (by kernel_rfl) (by simp) ?_
        refine AllReadyH.cons (o:=⟨some 6,_,_,_,_,_⟩) rfl (λK hK=>?_) AllReadyH.nil
        go_simp
        refine hK.out _ _ (by first|exact⟨cellE (xB2.trans (xY1b.alloc _)) A0.out,cellE (xB2.trans (xY1b.alloc _)) A1.out,cellE (xB2.trans (xY1b.alloc _)) A2.out,cellE (xB2.trans (xY1b.alloc _)) A3.out,cellE (xB2.trans (xY1b.alloc _)) A4.out,cellE (xB2.trans (xY1b.alloc _)) B0.out,cellE (xB2.trans (xY1b.alloc _)) B1.out,cellE (xB2.trans (xY1b.alloc _)) B2.out,cellE (xB2.trans (xY1b.alloc _)) B3.out,cellE (xB2.trans (xY1b.alloc _)) B4.out⟩|go_keep) (λhHeld=>?_)
        clear hK
        try go_frame
        obtain⟨Y2ba,hY2ba⟩:∃W,W=Y1b.alloc (.cells ptZc 197):=⟨_,rfl⟩
        unfold ptZc at hY2ba
        rw[← hY2ba]
        have xY2ba:Ext w2 Y2ba:=by rw[hY2ba];exact xY1b.alloc _
        have hala:Blk Y2ba Y1b.heap.size ptZc 197:=by rw[hY2ba];exact Blk.new Y1b _ _
        have halb:=halb.ext (show Ext Y1b Y2ba by rw[hY2ba];exact (Mods.refl _ _).alloc _)
        have hlta:Y1b.heap.size<Y2ba.heap.size:=by rw[hY2ba];simp
        clear hY2ba
        refine wpAnyH_ready (rs:=[12]) (by kernel_rfl) (by simp) ?_
        refine AllReadyH.cons (o:=⟨none,_,_,_,_,_⟩) rfl (λK hK=>?_) AllReadyH.nil
        have r0:=hala.cell (o:=0) (v:=.bool false) rfl
        have r1:=hala.cell (o:=1) (v:=.slice none 0 0) rfl
        have r2:=hala.cell (o:=2) (v:=.slice none 0 0) rfl
        have r3:=hala.cell (o:=3) (v:=.slice none 0 0) rfl
        have r4:=hala.cell (o:=4) (v:=.string ⟨#[]⟩) rfl
        have rf:=hala.frozen
        have hnw:Ext w2 (((((Y2ba.setCell ⟨Y1b.heap.size,0,none⟩ (.bool xa.lf)).setCell ⟨Y1b.heap.size,1,none⟩ (slV xa.e)).setCell ⟨Y1b.heap.size,2,none⟩ (slV xa.k)).setCell ⟨Y1b.heap.size,3,none⟩ (slV xa.i)).setCell ⟨Y1b.heap.size,4,none⟩ (.string xa.s)):=Mods.set5 xY2ba (R:=Y1b.heap.size) (.inl (show w2.heap.size≤Y1b.heap.size from xY1b.size)) _ _ _ _ _
        go_simp
        refine hK.out _ _ (by first|exact⟨cellE (xB2.trans hnw) A0.out,cellE (xB2.trans hnw) A1.out,cellE (xB2.trans hnw) A2.out,cellE (xB2.trans hnw) A3.out,cellE (xB2.trans hnw) A4.out,cellE (xB2.trans hnw) B0.out,cellE (xB2.trans hnw) B1.out,cellE (xB2.trans hnw) B2.out,cellE (xB2.trans hnw) B3.out,cellE (xB2.trans hnw) B4.out⟩|go_keep) (λhHeld=>?_)
        clear hK
        try go_frame
        obtain⟨Y3baA,hY3baA⟩:∃W,W=((((Y2ba.setCell ⟨Y1b.heap.size,0,none⟩ (.bool xa.lf)).setCell ⟨Y1b.heap.size,1,none⟩ (slV xa.e)).setCell ⟨Y1b.heap.size,2,none⟩ (slV xa.k)).setCell ⟨Y1b.heap.size,3,none⟩ (slV xa.i)).setCell ⟨Y1b.heap.size,4,none⟩ (.string xa.s):=⟨_,rfl⟩
        rw[← hY3baA]
        have xY3baA:Ext w2 Y3baA:=by rw[hY3baA];exact hnw
        have hsta:Blk Y3baA Y1b.heap.size #[.bool xa.lf,slV xa.e,slV xa.k,slV xa.i,.string xa.s] 197:=by rw[hY3baA];exact hala.set5 _ _ _ _ _
        have halb:=halb.mods (show Mods (λk=>k=Y1b.heap.size) Y2ba Y3baA by rw[hY3baA];exact Mods.set5 (F:=λk=>k=Y1b.heap.size) (Mods.refl _ _) (R:=Y1b.heap.size) (.inr rfl) _ _ _ _ _) (by omega)
        clear hY3baA hnw
        refine wpAnyH_ready (rs:=[13]) (by kernel_rfl) (by simp) ?_
        refine AllReadyH.cons (o:=⟨none,_,_,_,_,_⟩) rfl (λK hK=>?_) AllReadyH.nil
        have r0:=halb.cell (o:=0) (v:=.bool false) rfl
        have r1:=halb.cell (o:=1) (v:=.slice none 0 0) rfl
        have r2:=halb.cell (o:=2) (v:=.slice none 0 0) rfl
        have r3:=halb.cell (o:=3) (v:=.slice none 0 0) rfl
        have r4:=halb.cell (o:=4) (v:=.string ⟨#[]⟩) rfl
        have rf:=halb.frozen
        have hnw:Ext w2 (((((Y3baA.setCell ⟨Wd.heap.size,0,none⟩ (.bool xb.lf)).setCell ⟨Wd.heap.size,1,none⟩ (slV xb.e)).setCell ⟨Wd.heap.size,2,none⟩ (slV xb.k)).setCell ⟨Wd.heap.size,3,none⟩ (slV xb.i)).setCell ⟨Wd.heap.size,4,none⟩ (.string xb.s)):=Mods.set5 xY3baA (R:=Wd.heap.size) (.inl (show w2.heap.size≤Wd.heap.size from xWd.size)) _ _ _ _ _
        go_simp
        refine hK.out _ _ (by first|exact⟨cellE (xB2.trans hnw) A0.out,cellE (xB2.trans hnw) A1.out,cellE (xB2.trans hnw) A2.out,cellE (xB2.trans hnw) A3.out,cellE (xB2.trans hnw) A4.out,cellE (xB2.trans hnw) B0.out,cellE (xB2.trans hnw) B1.out,cellE (xB2.trans hnw) B2.out,cellE (xB2.trans hnw) B3.out,cellE (xB2.trans hnw) B4.out⟩|go_keep) (λhHeld=>?_)
        clear hK
        try go_frame
        obtain⟨Y4baAB,hY4baAB⟩:∃W,W=((((Y3baA.setCell ⟨Wd.heap.size,0,none⟩ (.bool xb.lf)).setCell ⟨Wd.heap.size,1,none⟩ (slV xb.e)).setCell ⟨Wd.heap.size,2,none⟩ (slV xb.k)).setCell ⟨Wd.heap.size,3,none⟩ (slV xb.i)).setCell ⟨Wd.heap.size,4,none⟩ (.string xb.s):=⟨_,rfl⟩
        rw[← hY4baAB]
        have xY4baAB:Ext w2 Y4baAB:=by rw[hY4baAB];exact hnw
        have hstb:Blk Y4baAB Wd.heap.size #[.bool xb.lf,slV xb.e,slV xb.k,slV xb.i,.string xb.s] 197:=by rw[hY4baAB];exact halb.set5 _ _ _ _ _
        have hsta:=hsta.mods (show Mods (λk=>k=Wd.heap.size) Y3baA Y4baAB by rw[hY4baAB];exact Mods.set5 (F:=λk=>k=Wd.heap.size) (Mods.refl _ _) (R:=Wd.heap.size) (.inr rfl) _ _ _ _ _) (by omega)
        clear hY4baAB hnw
        refine wpAnyH_done (by kernel_rfl) ?_ _
        have HFIN:Hid (Ext w2 Y4baAB∧Blk Y4baAB Y1b.heap.size #[.bool xa.lf,slV xa.e,slV xa.k,slV xa.i,.string xa.s] 197 ∧ Blk Y4baAB Wd.heap.size #[.bool xb.lf,slV xb.e,slV xb.k,slV xb.i,.string xb.s] 197):=oh ⟨xY4baAB,hsta,hstb⟩
        clear hsta hstb
        go_wp2_with fail
        go_meet
        exact⟨_,_,rfl,rfl,HFIN⟩
      case rest =>
        obtain⟨Ya,Yb,rfl,rfl,HY⟩:=hcut
        have xB4:Ext w0 wc:=xB2.trans HY.out.1
        have ya0:=HY.out.2.1.cell (o:=0) rfl
        have ya1:=HY.out.2.1.cell (o:=1) rfl
        have ya2:=HY.out.2.1.cell (o:=2) rfl
        have ya3:=HY.out.2.1.cell (o:=3) rfl
        have ya4:=HY.out.2.1.cell (o:=4) rfl
        have yb0:=HY.out.2.2.cell (o:=0) rfl
        have yb1:=HY.out.2.2.cell (o:=1) rfl
        have yb2:=HY.out.2.2.cell (o:=2) rfl
        have yb3:=HY.out.2.2.cell (o:=3) rfl
        have yb4:=HY.out.2.2.cell (o:=4) rfl
        have YA4:=oh ya4
        have HWH:=oh (whole_any (HA.out.ext (xB.trans xB4)) (HB.out.ext (xB.trans xB4)) HOA.out HOB.out)
        unfold ptV at HWH
        go_wp2_with fail
        refine HWH.out.mono ?_
        rintro e w5 ⟨v,rfl,hN,hm5⟩
        obtain⟨ve,vk,vi,rfl, -⟩:=id hN
        obtain⟨xw,rfl,rfl,rfl,hlf,hfs,hPW⟩:=hN.pt a.2
        rw[hlf]
        obtain⟨w6,hw6⟩:∃w6,w6=w5.alloc (.cells #[.bool xw.lf,slV xw.e,slV xw.k,slV xw.i] 118):=⟨_,rfl⟩
        obtain⟨Z,hZ⟩:∃Z,Z=w5.heap.size:=⟨_,rfl⟩
        have x56:Ext w5 w6:=by rw[hw6];exact (Mods.refl _ _).alloc _
        have hbz:Blk w6 Z #[.bool xw.lf,slV xw.e,slV xw.k,slV xw.i] 118:=by rw[hw6,hZ];exact Blk.new w5 _ _
        have xB6:Ext w0 w6:=(xB4.trans hm5).trans x56
        have Z0:=oh (hbz.cell (o:=0) rfl)
        have Z1:=oh (hbz.cell (o:=1) rfl)
        have Z2:=oh (hbz.cell (o:=2) rfl)
        have Z3:=oh (hbz.cell (o:=3) rfl)
        have Z4:=oh (cellE (hm5.trans x56) YA4.out)
        have HNW:=oh (wholeN_ok HOA.out HOB.out)
        have hle:b0≤wc.heap.size:=Nat.le_trans HBB.out (xB.trans xB4).size
        have HPW:Hid (PtR w6 b0 ⟨xw.lf,xw.e,xw.k,xw.i,xa.s⟩ (wholeN a b,a.2)):=oh (by
          have:=(hPW.rebase hle).ext x56
          exact⟨this.lf,HA.out.fst,this.e,this.k,this.i⟩)
        have HFT:Hid (∀W,Ext w6 W → Calls Tryz.prog 97 #[.agg #[.bool xw.lf,slV xw.e,slV xw.k,slV xw.i],.int .i64 (G.size:Int)] W λe w'=>e=.returned (.bool (decide (weightN (wholeN a b)≤z)))∧Ext W w'):=oh (λW m=>by
          have h:=HPW.out.ext m
          have:=fits_any (F:=NoF) (wholeN a b) (slV xw.e) (slV xw.k) (slV xw.i) W (h.e.sl encE_ok.len (by have:=HNW.out.1;show (wholeN a b).entries.length≤_;omega)) (h.k.sl encS_ok.len (by have:=HNW.out.2.1;show (wholeN a b).keys.length≤_;omega)) (by have:=HNW.out.2.2.2.1;omega) (G.size:Int) (by omega) (by omega)
          rw[hlf,← HZ.out] at this
          exact this)
        have HCUT:Hid (∀W,Ext w6 W → Calls Tryz.prog 128 #[.agg #[.bool xw.lf,slV xw.e,slV xw.k,slV xw.i]] W (CutR W (wholeN a b))):=oh (λW m=>by
          have h:=HPW.out.ext m
          have:=cut_any (F:=NoF) (w:=W) ((HENV.out.anti (λ_ (f:False)=>f.elim)).mods (((xB.trans xB6).trans m).ext)) (wholeN a b) (slV xw.e) (slV xw.k) (slV xw.i) (h.e.sl encE_ok.len (by have:=HNW.out.1;show (wholeN a b).entries.length≤_;omega)) (h.k.sl encS_ok.len (by have:=HNW.out.2.1;show (wholeN a b).keys.length≤_;omega)) (h.i.sl encI_ok.len (by have:=HNW.out.2.2.1;show (wholeN a b).kids.length≤_;omega)) HNW.out.2.2.2.2 (by have:=HNW.out.1;omega) (by have:=HNW.out.2.2.1;omega) (by have:=HNW.out.2.1;omega)
          rw[hlf] at this
          exact this)
        have HYL:Hid (ys.length=p):=oh (by have:=HPL.out.1;simp at this;omega)
        have HW6:=oh hw6
        have HZZ:=oh hZ
        clear hw6 hZ x56 hbz hN hm5 hPW hle ya0 ya1 ya2 ya3 ya4 yb0 yb1 yb2 yb3 yb4 hlf hfs
        go_wp2_with fail
        rw[← HW6.out,← HZZ.out]
        refine wp_region_held_drew (S:=(λw'=>w'.cell? ⟨X,0,none⟩=some (.pointer (some ⟨c,0,none⟩))∧w'.cell? ⟨X,1,none⟩=some (.pointer (some ⟨s,0,none⟩))∧w'.cell? ⟨X,2,none⟩=some (.int .u64 (gen:Int))∧w'.cell? ⟨Z,0,none⟩=some (.bool xw.lf)∧w'.cell? ⟨Z,1,none⟩=some (slV xw.e)∧w'.cell? ⟨Z,2,none⟩=some (slV xw.k)∧w'.cell? ⟨Z,3,none⟩=some (slV xw.i))) (by kernel_rfl) ⟨cellE (xB6.trans (Mods.refl _ _).drew) P0.out,cellE (xB6.trans (Mods.refl _ _).drew) P1.out,cellE (xB6.trans (Mods.refl _ _).drew) P2.out,cellE (Mods.refl _ _).drew Z0.out,cellE (Mods.refl _ _).drew Z1.out,cellE (Mods.refl _ _).drew Z2.out,cellE (Mods.refl _ _).drew Z3.out⟩ (λhHeld=>?_)
        obtain⟨Wd,hWd⟩:∃W,W=w6.drew:=⟨_,rfl⟩
        rw[← hWd] at hHeld ⊢
        have xWd:Ext w6 Wd:=by rw[hWd];exact (Mods.refl _ _).drew
        clear hWd
        refine tkH 0 ⟨some 43,_,_,_,_,_⟩ ?_
        try go_frame
        refine tkH 1 ⟨some 44,_,_,_,_,_⟩ ?_
        try go_frame
        refine wpAnyH_ready (rs:=[2]) (by kernel_rfl) (by simp) ?_
        refine AllReadyH.cons (o:=⟨some 45,_,_,_,_,_⟩) rfl (λK hK=>?_) AllReadyH.nil
        go_simp
        go_at_call 157
        (with_reducible refine (HSZ.out _ ((xB.trans xB6).trans xWd)).mono ?_)
        rintro e V1 ⟨rfl,mV1⟩
        have xV1:=xWd.trans mV1
        refine hK.out _ _ (by first|exact⟨cellE (xB6.trans xV1) P0.out,cellE (xB6.trans xV1) P1.out,cellE (xB6.trans xV1) P2.out,cellE xV1 Z0.out,cellE xV1 Z1.out,cellE xV1 Z2.out,cellE xV1 Z3.out⟩|go_keep) (λhHeld=>?_)
        clear hK
        try go_frame
        refine wpAnyH_ready (rs:=[3]) (by kernel_rfl) (by simp) ?_
        refine AllReadyH.cons (o:=⟨some 46,_,_,_,_,_⟩) rfl (λK hK=>?_) AllReadyH.nil
        go_simp
        go_at_call 97
        (with_reducible refine (HFT.out _ xV1).mono ?_)
        rintro e V2 ⟨rfl,mV2⟩
        have xV2:=xV1.trans mV2
        refine hK.out _ _ (by first|exact⟨cellE (xB6.trans xV2) P0.out,cellE (xB6.trans xV2) P1.out,cellE (xB6.trans xV2) P2.out,cellE xV2 Z0.out,cellE xV2 Z1.out,cellE xV2 Z2.out,cellE xV2 Z3.out⟩|go_keep) (λhHeld=>?_)
        clear hK
        try go_frame
        refine wpAnyH_done (by kernel_rfl) ?_ _
        have HX6:=oh xV2
        clear xV1 xV2 mV1 mV2 xWd
        obtain⟨w7,rfl⟩:∃w7:World,w7=V2:=⟨_,rfl⟩
        by_cases hfit:weightN (wholeN a b)≤z
        · have HE:Hid (evenN z (r0++[a,b])=r0++[(wholeN a b,a.2)]):=oh (by rw[evenN_two,if_pos HLR.out,if_pos hfit])
          have HMW:Hid (Ext w w7):=oh ((xB.trans xB6).trans HX6.out)
          have Q0:=oh (cellE HX6.out Z0.out)
          have Q1:=oh (cellE HX6.out Z1.out)
          have Q2:=oh (cellE HX6.out Z2.out)
          have Q3:=oh (cellE HX6.out Z3.out)
          have Q4:=oh (cellE HX6.out Z4.out)
          have hPtW:=HPW.out.ext HX6.out
          go_wp2_with fail
          refine wp_region_held_drew (S:=(λw'=>w'.cell? ⟨Z,0,none⟩=some (.bool xw.lf)∧w'.cell? ⟨Z,1,none⟩=some (slV xw.e)∧w'.cell? ⟨Z,2,none⟩=some (slV xw.k)∧w'.cell? ⟨Z,3,none⟩=some (slV xw.i)∧w'.cell? ⟨Ya,4,none⟩=some (.string xa.s))) (by kernel_rfl) ⟨cellE (Mods.refl _ _).drew Q0.out,cellE (Mods.refl _ _).drew Q1.out,cellE (Mods.refl _ _).drew Q2.out,cellE (Mods.refl _ _).drew Q3.out,cellE (Mods.refl _ _).drew Q4.out⟩ (λhHeld=>?_)
          obtain⟨Wd,hWd⟩:∃W,W=w7.drew:=⟨_,rfl⟩
          rw[← hWd] at hHeld ⊢
          have xWd:Ext w7 Wd:=by rw[hWd];exact (Mods.refl _ _).drew
          clear hWd
          refine tkH 0 ⟨some 47,_,_,_,_,_⟩ ?_
          try go_frame
          refine tkH 1 ⟨some 48,_,_,_,_,_⟩ ?_
          try go_frame
          refine tkH 2 ⟨some 49,_,_,_,_,_⟩ ?_
          try go_frame
          refine tkH 3 ⟨some 50,_,_,_,_,_⟩ ?_
          try go_frame
          refine tkH 4 ⟨some 51,_,_,_,_,_⟩ ?_
          try go_frame
          refine tkH 5 ⟨some 52,_,_,_,_,_⟩ ?_
          try go_frame
          refine tkH 6 ⟨some 53,_,_,_,_,_⟩ ?_
          try go_frame
          refine tkH 7 ⟨some 54,_,_,_,_,_⟩ ?_
          try go_frame
          refine tkH 8 ⟨some 55,_,_,_,_,_⟩ ?_
          try go_frame
          refine tkH 9 ⟨some 56,_,_,_,_,_⟩ ?_
          try go_frame
          refine wpAnyH_ready (rs:=[10]) (by kernel_rfl) (by simp) ?_
          refine AllReadyH.cons (o:=⟨some 57,_,_,_,_,_⟩) rfl (λK hK=>?_) AllReadyH.nil
          go_simp
          refine hK.out _ _ (by first|exact⟨cellE (xWd.alloc _) Q0.out,cellE (xWd.alloc _) Q1.out,cellE (xWd.alloc _) Q2.out,cellE (xWd.alloc _) Q3.out,cellE (xWd.alloc _) Q4.out⟩|go_keep) (λhHeld=>?_)
          clear hK
          try go_frame
          obtain⟨L1,hL1⟩:∃W,W=Wd.alloc (.cells #[.bool xw.lf,slV xw.e,slV xw.k,slV xw.i,.string xa.s] 197):=⟨_,rfl⟩
          rw[← hL1]
          have xL1:Ext w7 L1:=by rw[hL1];exact xWd.alloc _
          have hL:Blk L1 Wd.heap.size #[.bool xw.lf,slV xw.e,slV xw.k,slV xw.i,.string xa.s] 197:=by rw[hL1];exact Blk.new Wd _ _
          clear hL1
          refine wpAnyH_ready (rs:=[11]) (by kernel_rfl) (by simp) ?_
          refine AllReadyH.cons (o:=⟨some 58,_,_,_,_,_⟩) rfl (λK hK=>?_) AllReadyH.nil
          refine step_grow2 Tryz.elPt encPt_ok (by rfl) (.tmp 52) (.tmp 57) (by rfl) b0 (.slice (some ⟨Wd.heap.size,0,none⟩) 1 1) ys [xa,xb] [⟨xw.lf,xw.e,xw.k,xw.i,xa.s⟩] g (p+2) vc (by rw[HYL.out];rfl) (by rfl) ((HXP.out.row.ext HMW.out).ext xL1) (Sl.one (F:=λ_=>False) (x:=(⟨xw.lf,xw.e,xw.k,xw.i,xa.s⟩:PtV)) (enc:=encPt) (sz:=5) hL (λf=>f)) (by simp) (by have:=HYL.out;have:=HPB.out;simp only[List.length_cons,List.length_nil];omega) ?_
          simp only[List.length_cons,List.length_nil]
          intro a9 c9 W9 hO9 hm9
          have xW9:=xL1.trans hm9
          refine hK.out _ _ (by first|exact⟨cellE xW9 Q0.out,cellE xW9 Q1.out,cellE xW9 Q2.out,cellE xW9 Q3.out,cellE xW9 Q4.out⟩|go_keep) (λhHeld=>?_)
          clear hK
          try go_frame
          refine tkH 12 ⟨some 4,_,_,_,_,_⟩ ?_
          try go_frame
          refine wpAnyH_done (by kernel_rfl) ?_ _
          have HL1:=oh xL1.size
          have HMZ:=oh (HMW.out.trans xW9)
          have HPZ:=oh (hPtW.ext xW9)
          have HOZ:=oh hO9
          clear xW9 xL1 xWd hm9 hL hO9 hPtW
          go_wp2_with fail
          go_ret
          refine⟨_,rfl,⟨ys++[⟨xw.lf,xw.e,xw.k,xw.i,xa.s⟩],?_⟩,HMZ.out⟩
          rw[HE.out]
          exact PtsR.fresh HXP.out HPL.out HMZ.out (HOZ.out.rebase (by have:=HBB.out;have:=HMW.out.size;have:=HL1.out;omega)) rfl (λi x n h1 h2=>by
            match i,h1,h2 with
            | 0,h1,h2 =>
              simp only[List.getElem?_cons_zero,Option.some.injEq] at h1 h2
              subst h1 h2
              exact HPZ.out
            | i+1,h1,_=>simp at h1) (HYL.out.trans HPL.out.2.symm)
        · have HE0 : Hid (evenN z (r0 ++ [a, b]) = match cutA (wholeN a b) with
              | none=>r0++[a,b]
              | some h=>r0++[(h.1,a.2),(h.2.2,h.2.1)]):=oh (by rw[evenN_two,if_pos HLR.out,if_neg hfit];cases cutA (wholeN a b) <;> rfl)
          have HM7:Hid (Ext w w7):=oh ((xB.trans xB6).trans HX6.out)
          have q0:=cellE HX6.out Z0.out
          have q1:=cellE HX6.out Z1.out
          have q2:=cellE HX6.out Z2.out
          have q3:=cellE HX6.out Z3.out
          have HQ4:=oh (cellE HX6.out Z4.out)
          have HCT:=oh (HCUT.out _ HX6.out)
          go_wp2_with fail
          refine HCT.out.mono ?_
          rintro e w8 ⟨hm8,⟨hc,va,vb,hcut,rfl,hna,hnb⟩|⟨hcut,rfl⟩⟩
          · have HE:Hid (evenN z (r0++[a,b])=r0++[(hc.1,a.2),(hc.2.2,hc.2.1)]):=oh (by rw[HE0.out,hcut])
            obtain⟨e1,k1,i1',rfl, -⟩:=id hna
            obtain⟨e2,k2,i2',rfl, -⟩:=id hnb
            obtain⟨x1,rfl,rfl,rfl,hlf1,hfs1,hp1⟩:=hna.pt a.2
            obtain⟨x2,rfl,rfl,rfl,hlf2,hfs2,hp2⟩:=hnb.pt hc.2.1
            rw[hlf1,hlf2]
            obtain⟨w9,hw9⟩:∃w9,w9=(w8.alloc (.cells #[.bool x1.lf,slV x1.e,slV x1.k,slV x1.i] 118)).alloc (.cells #[.bool x2.lf,slV x2.e,slV x2.k,slV x2.i] 118):=⟨_,rfl⟩
            have x89:Ext w8 w9:=by rw[hw9];exact ((Mods.refl _ _).alloc _).alloc _
            obtain⟨Z1,hZ1⟩:∃Z1,Z1=w8.heap.size:=⟨_,rfl⟩
            obtain⟨Z2,hZ2⟩:∃Z2,Z2=w8.heap.size+1:=⟨_,rfl⟩
            have hb1:Blk w9 Z1 #[.bool x1.lf,slV x1.e,slV x1.k,slV x1.i] 118:=by rw[hw9,hZ1];exact (Blk.new w8 _ _).alloc _
            have hb2:Blk w9 Z2 #[.bool x2.lf,slV x2.e,slV x2.k,slV x2.i] 118:=by rw[hw9,hZ2];exact heap_at (by simp)
            have HMW:Hid (Ext w w9):=oh ((HM7.out.trans hm8).trans x89)
            have Q0:=oh (hb1.cell (o:=0) rfl)
            have Q1:=oh (hb1.cell (o:=1) rfl)
            have Q2:=oh (hb1.cell (o:=2) rfl)
            have Q3:=oh (hb1.cell (o:=3) rfl)
            have Q4:=oh (hb2.cell (o:=0) rfl)
            have Q5:=oh (hb2.cell (o:=1) rfl)
            have Q6:=oh (hb2.cell (o:=2) rfl)
            have Q7:=oh (hb2.cell (o:=3) rfl)
            have Q8:=oh (cellE (hm8.trans x89) HQ4.out)
            have hle:b0≤w7.heap.size:=Nat.le_trans HBB.out HM7.out.size
            have hPt1:PtR w9 b0 ⟨x1.lf,x1.e,x1.k,x1.i,xa.s⟩ (hc.1,a.2):=by
              have:=(hp1.rebase hle).ext x89
              exact⟨this.lf,HA.out.fst,this.e,this.k,this.i⟩
            have hPt2:PtR w9 b0 ⟨x2.lf,x2.e,x2.k,x2.i,hc.2.1⟩ (hc.2.2,hc.2.1):=by
              have:=(hp2.rebase hle).ext x89
              exact⟨this.lf,rfl,this.e,this.k,this.i⟩
            have HW9:=oh hw9
            have HZZ:=oh (And.intro hZ1 hZ2)
            clear hw9 hZ1 hZ2 hb1 hb2 hna hnb hp1 hp2 hm8 x89 hcut hle q0 q1 q2 q3 hfs1 hfs2 hlf1 hlf2
            go_wp2_with fail
            rw[← HW9.out,← HZZ.out.2,← HZZ.out.1]
            refine wp_region_held_drew (S:=(λw'=>w'.cell? ⟨Z1,0,none⟩=some (.bool x1.lf)∧w'.cell? ⟨Z1,1,none⟩=some (slV x1.e)∧w'.cell? ⟨Z1,2,none⟩=some (slV x1.k)∧w'.cell? ⟨Z1,3,none⟩=some (slV x1.i)∧w'.cell? ⟨Z2,0,none⟩=some (.bool x2.lf)∧w'.cell? ⟨Z2,1,none⟩=some (slV x2.e)∧w'.cell? ⟨Z2,2,none⟩=some (slV x2.k)∧w'.cell? ⟨Z2,3,none⟩=some (slV x2.i)∧w'.cell? ⟨Ya,4,none⟩=some (.string xa.s))) (by kernel_rfl) ⟨cellE (Mods.refl _ _).drew Q0.out,cellE (Mods.refl _ _).drew Q1.out,cellE (Mods.refl _ _).drew Q2.out,cellE (Mods.refl _ _).drew Q3.out,cellE (Mods.refl _ _).drew Q4.out,cellE (Mods.refl _ _).drew Q5.out,cellE (Mods.refl _ _).drew Q6.out,cellE (Mods.refl _ _).drew Q7.out,cellE (Mods.refl _ _).drew Q8.out⟩ (λhHeld=>?_)
            obtain⟨Wd,hWd⟩:∃W,W=w9.drew:=⟨_,rfl⟩
            rw[← hWd] at hHeld ⊢
            have xWd:Ext w9 Wd:=by rw[hWd];exact (Mods.refl _ _).drew
            clear hWd
            refine tkH 0 ⟨some 69,_,_,_,_,_⟩ ?_
            try go_frame
            refine tkH 1 ⟨some 70,_,_,_,_,_⟩ ?_
            try go_frame
            refine tkH 2 ⟨some 71,_,_,_,_,_⟩ ?_
            try go_frame
            refine tkH 3 ⟨some 72,_,_,_,_,_⟩ ?_
            try go_frame
            refine tkH 4 ⟨some 73,_,_,_,_,_⟩ ?_
            try go_frame
            refine tkH 5 ⟨some 74,_,_,_,_,_⟩ ?_
            try go_frame
            refine tkH 6 ⟨some 75,_,_,_,_,_⟩ ?_
            try go_frame
            refine tkH 7 ⟨some 76,_,_,_,_,_⟩ ?_
            try go_frame
            refine tkH 8 ⟨some 77,_,_,_,_,_⟩ ?_
            try go_frame
            refine tkH 9 ⟨some 78,_,_,_,_,_⟩ ?_
            try go_frame
            refine tkH 10 ⟨some 79,_,_,_,_,_⟩ ?_
            try go_frame
            refine tkH 11 ⟨some 80,_,_,_,_,_⟩ ?_
            try go_frame
            refine tkH 12 ⟨some 81,_,_,_,_,_⟩ ?_
            try go_frame
            refine wpAnyH_ready (rs:=[13]) (by kernel_rfl) (by simp) ?_
            refine AllReadyH.cons (o:=⟨some 82,_,_,_,_,_⟩) rfl (λK hK=>?_) AllReadyH.nil
            go_simp
            refine hK.out _ _ (by first|exact⟨cellE (xWd.alloc _) Q0.out,cellE (xWd.alloc _) Q1.out,cellE (xWd.alloc _) Q2.out,cellE (xWd.alloc _) Q3.out,cellE (xWd.alloc _) Q4.out,cellE (xWd.alloc _) Q5.out,cellE (xWd.alloc _) Q6.out,cellE (xWd.alloc _) Q7.out,cellE (xWd.alloc _) Q8.out⟩|go_keep) (λhHeld=>?_)
            clear hK
            try go_frame
            obtain⟨L1,hL1⟩:∃W,W=Wd.alloc (.cells #[.bool x1.lf,slV x1.e,slV x1.k,slV x1.i,.string xa.s,.bool x2.lf,slV x2.e,slV x2.k,slV x2.i,.string hc.2.1] 197):=⟨_,rfl⟩
            rw[← hL1]
            have xL1:Ext w9 L1:=by rw[hL1];exact xWd.alloc _
            have hL:Blk L1 Wd.heap.size #[.bool x1.lf,slV x1.e,slV x1.k,slV x1.i,.string xa.s,.bool x2.lf,slV x2.e,slV x2.k,slV x2.i,.string hc.2.1] 197:=by rw[hL1];exact Blk.new Wd _ _
            clear hL1
            refine wpAnyH_ready (rs:=[14]) (by kernel_rfl) (by simp) ?_
            refine AllReadyH.cons (o:=⟨some 83,_,_,_,_,_⟩) rfl (λK hK=>?_) AllReadyH.nil
            refine step_grow2 Tryz.elPt encPt_ok (by rfl) (.tmp 74) (.tmp 82) (by rfl) b0 (.slice (some ⟨Wd.heap.size,0,none⟩) 2 2) ys [xa,xb] [⟨x1.lf,x1.e,x1.k,x1.i,xa.s⟩,⟨x2.lf,x2.e,x2.k,x2.i,hc.2.1⟩] g (p+2) vc (by rw[HYL.out];rfl) (by rfl) ((HXP.out.row.ext HMW.out).ext xL1) (Sl.duo (F:=λ_=>False) (x:=(⟨x1.lf,x1.e,x1.k,x1.i,xa.s⟩:PtV)) (y:=(⟨x2.lf,x2.e,x2.k,x2.i,hc.2.1⟩:PtV)) (enc:=encPt) (sz:=5) hL rfl (λf=>f)) (by simp) (by have:=HYL.out;have:=HPB.out;simp only[List.length_cons,List.length_nil];omega) ?_
            simp only[List.length_cons,List.length_nil]
            intro a9 c9 W9 hO9 hm9
            have xW9:=xL1.trans hm9
            refine hK.out _ _ (by first|exact⟨cellE xW9 Q0.out,cellE xW9 Q1.out,cellE xW9 Q2.out,cellE xW9 Q3.out,cellE xW9 Q4.out,cellE xW9 Q5.out,cellE xW9 Q6.out,cellE xW9 Q7.out,cellE xW9 Q8.out⟩|go_keep) (λhHeld=>?_)
            clear hK
            try go_frame
            refine tkH 15 ⟨some 4,_,_,_,_,_⟩ ?_
            try go_frame
            refine wpAnyH_done (by kernel_rfl) ?_ _
            have HL1:=oh xL1.size
            have HMZ:=oh (HMW.out.trans xW9)
            have HP1Z:=oh (hPt1.ext xW9)
            have HP2Z:=oh (hPt2.ext xW9)
            have HOZ:=oh hO9
            clear xW9 xL1 xWd hm9 hL hO9 hPt1 hPt2
            go_wp2_with fail
            go_ret
            refine⟨_,rfl,⟨ys++[⟨x1.lf,x1.e,x1.k,x1.i,xa.s⟩,⟨x2.lf,x2.e,x2.k,x2.i,hc.2.1⟩],?_⟩,HMZ.out⟩
            rw[HE.out]
            exact PtsR.fresh HXP.out HPL.out HMZ.out (HOZ.out.rebase (by have:=HBB.out;have:=HMW.out.size;have:=HL1.out;omega)) rfl (λi x n h1 h2=>by
              match i,h1,h2 with
              | 0,h1,h2 =>
                simp only[List.getElem?_cons_zero,Option.some.injEq] at h1 h2
                subst h1 h2
                exact HP1Z.out
              | 1,h1,h2 =>
                simp only[List.getElem?_cons_zero,List.getElem?_cons_succ,Option.some.injEq] at h1 h2
                subst h1 h2
                exact HP2Z.out
              | i+2,h1,_=>simp at h1) (HYL.out.trans HPL.out.2.symm)
          · have HE:Hid (evenN z (r0++[a,b])=r0++[a,b]):=oh (by rw[HE0.out,hcut])
            have HMZ:=oh (HM7.out.trans hm8)
            clear hcut hm8
            go_wp2_with fail
            go_ret
            exact⟨_,rfl,⟨_,by rw[HE.out];exact HXP.out.ext ((HMZ.out.alloc _).alloc _)⟩,(HMZ.out.alloc _).alloc _⟩
end
end Go.Proofs.YtchklfmggpconaaGreatDoor
