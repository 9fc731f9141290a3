import Derived.Test.YtchklfmggpconaaGreatDoorK35
import Derived.Test.YtchklfmggpconaaGreatDoorK36
import Derived.Test.YtchklfmggpconaaGreatDoorK30
import Derived.Maps.RangeWalk
namespace Go.Proofs.YtchklfmggpconaaGreatDoor
section
open Go.RowKit
attribute [local go_sem ↓] Go.wp_at_zero Go.wp_at_succ
def encKd(x:KidA):List Value:=[.int .i64 (x.1:Int),.string x.2]
theorem encKd_ok:EncOk encKd 2:=⟨λ_=>rfl,by intro x u hu;simp[encKd] at hu;rcases hu with rfl|rfl <;> rfl⟩
theorem sumKg_len:∀es:List ByteArray,5 * (es.length:Int)≤sumK es
 | []=>by simp[sumK]
 | x :: es=>by
  have:=sumKg_len es
  simp only[sumK,List.length_cons]
  omega
theorem smallI{g:List KidA}(h:∀x∈g,keyB x.2=true)(hw:weightN (mkI g)≤3000):okPt (ptI g):=by
 have hw':=hw
 rw[mkI_wt] at hw
 have hl:=sumKg_len (g.tail.map (·.2))
 rw[List.length_map,List.length_tail] at hl
 refine⟨by show 0≤2000;omega,by show (g.tail.map (·.2)).length≤2000;rw[List.length_map,List.length_tail];omega,by show (g.map λk=>(k.1:Int)).length≤2000;rw[List.length_map];omega,by show weightN (mkI g)≤_;omega,?_⟩
 show (firstG (·.2) g).size≤10000
 cases g with
 | nil=>show (0:Nat)≤10000;omega
 | cons x g =>
  have:=(keyB_iff x.2).1 (h x List.mem_cons_self)
  show x.2.size≤10000
  omega
section
variable {w:World}
theorem above2_pt{b0:Nat}{xb:PtV}{gl:List KidA}(e:KidA)(hx:PtR w b0 xb (ptI gl))(hb:b0≤w.heap.size)(hn:gl.length≤100000)(hne:gl≠[]) : Calls Tryz.prog 111 #[ptV xb,.agg #[.int .i64 (e.1:Int),.string e.2]] w λen w'=>∃v,en=.returned v∧PtO w' b0 v (ptI (gl++[e]))∧Ext w w':=by
 obtain⟨lf,xe,⟨ka,kn,kc⟩,⟨ia,jn,ic⟩,s⟩:=xb
 have h1:lf=false:=hx.lf
 have h2:s=firstG (·.2) gl:=hx.fst
 obtain⟨a',c',h3,_,_⟩:=hx.k.form
 obtain⟨a2,c2,h6,_,_⟩:=hx.i.form
 injection h3 with h3 h4 h5
 injection h6 with h6 h7 h8
 have h4:kn=(gl.tail.map (·.2)).length:=h4
 have h7:jn=(gl.map λk=>(k.1:Int)).length:=h7
 subst h1 h2 h4 h7
 have:=above2_any (gl.tail.map (·.2)) (gl.map λk=>(k.1:Int)) (e.1:Int) e.2 ka ia kc ic xe (firstG (·.2) gl) b0 hx hb (by rw[List.length_map,List.length_tail];omega) (by rw[List.length_map];omega)
 unfold ptI mkI
 rw[first_app _ hne,tail_append hne,List.map_append,List.map_append]
 exact this
end
def PtNewI(w:World)(b0:Nat)(n:PtA)(wx:World)(Y:Nat):Prop:=∃x:PtV,Ext w wx∧Blk wx Y #[.bool x.lf,slV x.e,slV x.k,slV x.i,.string x.s] 197 ∧ PtR wx b0 x n
section
variable {P P' F F':Nat→Prop}{ad:Nat→Addr}{w w':World}{c s:Nat}{G:GA}{l:List Nat}
set_option maxRecDepth 100000 in
set_option maxHeartbeats 8000000 in
theorem fillI_any(hL:Env F ad w)(h:PgR F w P c s G l)(gen:Nat)(hz:256≤G.size∧G.size≤1024)(ev:Value)(es:List KidA)(hev:Sl F w 2 encKd ev es)(hes:∀e∈es,keyB e.2=true)(hlen:es.length≤100000) :
  Calls Tryz.prog 109 #[pgV c s gen,ev,.func (.func 110) #[] #[],.func (.func 111) #[] #[]] w λe w'=>∃v,e=.returned v∧PtsO w' w.heap.size v ((groupsG mkI ((G.size:Int)-24) es).map ptI)∧Ext w w':=by
 obtain⟨b0,hb0⟩:∃b0,b0=w.heap.size:=⟨_,rfl⟩
 obtain⟨X,hX⟩:∃X,X=w.heap.size:=⟨_,rfl⟩
 obtain⟨z,hzz⟩:∃z,z=(G.size:Int)-24:=⟨_,rfl⟩
 rw[← hzz,← hb0]
 obtain⟨w0,hw0⟩:∃w0,w0=w.alloc (.cells #[.pointer (some ⟨c,0,none⟩),.pointer (some ⟨s,0,none⟩),.int .u64 (gen:Int)] 31):=⟨_,rfl⟩
 have m0:Ext w w0:=by rw[hw0];exact (Mods.refl _ w).alloc _
 have hBX:Blk w0 X #[.pointer (some ⟨c,0,none⟩),.pointer (some ⟨s,0,none⟩),.int .u64 (gen:Int)] 31:=by rw[hw0,hX];exact Blk.new w _ _
 have HM0:=Lib.hid m0
 have HW0:=Lib.hid hw0
 have HXX:=Lib.hid hX
 have HBX:=Lib.hid hBX
 have HENV:=Lib.hid hL
 have HB0:Hid (b0≤w.heap.size):=Lib.hid (by omega)
 have HB0b:Hid (w.heap.size≤b0):=Lib.hid (by omega)
 have HZ:=Lib.hid hzz
 have HES:=Lib.hid hes
 have HEV:=Lib.hid hev
 have HSZ:=Lib.hid (λW (m:Ext w W)=>bSize_any (w:=W) (h.at m) gen)
 have HEVN:=Lib.hid (λW (m:Ext w W) (lv:Value) (L:List PtA) (hv:PtsO W b0 lv L) (hok:∀n∈L,okPt n) (hl:L.length≤100000)=>even_any (w:=W) (hL.mods m.ext) (h.at m) gen hz lv b0 L hv (Nat.le_trans HB0.out m.size) hok hl)
 rw[← hzz] at HEVN
 obtain⟨ea,ec,rfl,h1,h2,h3, -⟩:=hev
 unfold maxLen at h2
 unfold pgV at HSZ HEVN ⊢
 have HFIT:Hid (∀k,∀g∈fillG mkI z [] (es.take k),weightN (mkI g)≤z∧g≠[]):=Lib.hid (λk g hg=>⟨fillG_fit' mkI z (λe=>keyB e.2=true) (λx hx=>by rw[mkI_wt];simp[sumK];omega) (es.take k) [] (λx hx=>hes x (List.mem_of_mem_take hx)) (by simp) g hg,fillG_ne mkI z (es.take k) [] (by simp) g hg⟩)
 clear hL h m0 hw0 hBX hX hb0 hzz hes
 go_enter Tryz.func109, Tryz.ntmps109
 go_wp2_with fail
 rw[← HW0.out,← HXX.out]
 go_loopg [9,16] es.length (λm v9 v16 wr=>∃(k:Nat),k+m=es.length∧v16=.int .i64 (k:Int)∧Hid (PtsO wr b0 v9 ((fillG mkI z [] (es.take k)).map ptI)∧Ext w wr∧Blk wr X #[.pointer (some ⟨c,0,none⟩),.pointer (some ⟨s,0,none⟩),.int .u64 (gen:Int)] 31))
 case atStart=>exact⟨0,by omega,rfl,Lib.hid ⟨⟨[],PtsR.nil _ _⟩,HM0.out,HBX.out⟩⟩
 case round =>
  obtain⟨k,hkm,rfl,HR⟩:=hrel
  obtain⟨⟨xs,hxs⟩,hwr,hbx⟩:=HR.out
  obtain⟨va,vc,rfl,v1,v2⟩:=hxs.row.form
  unfold maxLen at v2
  obtain⟨out,hout⟩:∃out,out=fillG mkI z [] (es.take k):=⟨_,rfl⟩
  rw[← hout] at hxs
  have hxl:xs.length=out.length:=by have:=hxs.len;simpa using this
  have hol:out.length≤100000:=by
   have:=fillG_len mkI z (es.take k) []
   rw[← hout,List.length_take] at this
   simp only[List.length_nil] at this
   omega
  by_cases hlt:k<es.length
  ·obtain⟨e,he⟩:∃e,e=es[k]:=⟨_,rfl⟩
   obtain⟨qb,qoff,hqa,hc⟩:=HEV.out.elem hlt hwr
   rw[← he] at hc
   have d0:=hc 0 (.int .i64 (e.1:Int)) rfl
   have d1:=hc 1 (.string e.2) rfl
   simp only[Nat.add_zero] at d0
   subst hqa
   have HEE:Hid (keyB e.2=true):=Lib.hid (HES.out e (by rw[he];exact List.getElem_mem hlt))
   have HTK:Hid (es.take (k+1)=es.take k++[e]):=Lib.hid (by rw[he];exact take_one es k es[k] (by simp[hlt]))
   obtain⟨Q,hQ⟩:∃Q,Q=wr.heap.size:=⟨_,rfl⟩
   obtain⟨wq,hwq⟩:∃wq,wq=wr.alloc (.cells #[.int .i64 (e.1:Int),.string e.2] 151):=⟨_,rfl⟩
   have hrq:Ext wr wq:=by rw[hwq];exact (Mods.refl _ _).alloc _
   have hbq:Blk wq Q #[.int .i64 (e.1:Int),.string e.2] 151:=by rw[hwq,hQ];exact Blk.new wr _ _
   have i1:(0:Int)≤(k:Int):=by omega
   have i2:(k:Int)<(es.length:Int):=by omega
   have HXQ:=Lib.hid (hwr.trans hrq)
   have HPQ:=Lib.hid (hxs.ext hrq)
   have hbx2:=hbx.ext hrq
   have HBQ:=Lib.hid hbx2
   have HELT:=Lib.hid hbq
   have P0:=Lib.hid (hbx2.cell (o:=0) (v:=.pointer (some ⟨c,0,none⟩)) rfl)
   have P1:=Lib.hid (hbx2.cell (o:=1) (v:=.pointer (some ⟨s,0,none⟩)) rfl)
   have P2:=Lib.hid (hbx2.cell (o:=2) (v:=.int .u64 (gen:Int)) rfl)
   have E0:=Lib.hid (hbq.cell (o:=0) (v:=.int .i64 (e.1:Int)) rfl)
   have E1:=Lib.hid (hbq.cell (o:=1) (v:=.string e.2) rfl)
   have HWQ:=Lib.hid hwq
   have HQQ:=Lib.hid hQ
   have HBEG:=Lib.hid (λW=>above1_any (w:=W) e.1 e.2)
   have HOUT:=Lib.hid hout
   have HXL:=Lib.hid hxl
   clear hxs hwr hbx hc he hQ hwq hrq hbq hbx2 hout hxl
   rcases two_orL' out with rfl|⟨pre,gl,rfl⟩
   ·obtain rfl:xs=[]:=List.length_eq_zero_iff.1 (by have:=HXL.out;simpa using this)
    have HNX:Hid (fillG mkI z [] (es.take (k+1))=[]++[[e]]):=Lib.hid (by rw[HTK.out,fillG_app,← HOUT.out];rfl)
    simp only[List.length_nil]
    go_wp2_with fail
    rw[← HWQ.out,← HQQ.out]
    have e0:=E0.out
    have e1:=E1.out
    go_wp2_with fail
    refine (HBEG.out _).mono ?_
    rintro en w3 ⟨bv,rfl,⟨xn,rfl,hpn⟩,hm3⟩
    have HX3:=Lib.hid (HXQ.out.trans hm3)
    have HP3:=Lib.hid (HPQ.out.ext hm3)
    have HB3:=Lib.hid (HBQ.out.ext hm3)
    have HPN:=Lib.hid (hpn.rebase (show b0≤wq.heap.size from Nat.le_trans HB0.out HXQ.out.size))
    clear hpn hm3
    unfold ptV
    have hl3:Blk (w3.alloc (.cells #[.bool xn.lf,slV xn.e,slV xn.k,slV xn.i,.string xn.s] 197)) w3.heap.size #[.bool xn.lf,slV xn.e,slV xn.k,slV xn.i,.string xn.s] 197:=Blk.new w3 _ _
    have HL3:=Lib.hid hl3
    have HMA:Hid (Ext w3 (w3.alloc (.cells #[.bool xn.lf,slV xn.e,slV xn.k,slV xn.i,.string xn.s] 197))):=Lib.hid ((Mods.refl _ w3).alloc _)
    clear hl3
    go_wp2_with (at_builtin;refine wpl_app2 Tryz.elPt encPt_ok rfl _ _ rfl b0 _ _ ([]:List PtV) [xn] rfl rfl (HP3.out.row.ext HMA.out) (Sl.one (F:=λ_=>False) (x:=xn) (enc:=encPt) (sz:=5) HL3.out (λf=>f)) (by simp only[List.length_cons,List.length_nil];omega) (by have:=HB0.out;have:=HX3.out.size;have:=HMA.out.size;omega) (λf=>f) ?_;simp only[List.length_cons,List.length_nil,Nat.zero_add];intro a6 c6 w6 hO6 hm6 hat6)
    have HS6:Hid (PtsO w6 b0 (.slice a6 (0+1) c6) ((fillG mkI z [] (es.take (k+1))).map ptI)∧Ext w w6∧Blk w6 X #[.pointer (some ⟨c,0,none⟩),.pointer (some ⟨s,0,none⟩),.int .u64 (gen:Int)] 31):=Lib.hid ⟨⟨([]:List PtV)++[xn],by
     rw[HNX.out,List.map_append]
     exact (HP3.out.ext HMA.out).app hm6 (by simpa using hO6) (HPN.out.ext HMA.out)⟩,Mods.past (HX3.out.trans HMA.out) (hm6.mono (λk hk=>Nat.le_trans HB0b.out (((HP3.out.row.ext HMA.out).lt k hk).1))),(HB3.out.ext HMA.out).mods hm6 (λhk=>(HP3.out.row.ext HMA.out).notB (HB3.out.ext HMA.out) (by decide) _ hk rfl)⟩
    clear hO6 hm6 hat6
    go_wp2_with fail
    go_roundg (gk-1)
    case measure=>omega
    case rel=>exact⟨k+1,by omega,by go_num,HS6⟩
   ·obtain⟨ys,xb,rfl⟩:∃ys xb,xs=ys++[xb]:=by
     rcases two_orL' xs with rfl|h
     ·have:=HXL.out;simp at this
     ·exact h
    obtain⟨p,hp⟩:∃p,p=ys.length:=⟨_,rfl⟩
    have hpl:(ys++[xb]).length=p+1:=by rw[hp];simp
    have hpr:pre.length=p:=by have:=HXL.out;simp at this;omega
    have hpb:p≤100000:=by simp at hol;omega
    obtain⟨g,rfl⟩:=HPQ.out.row.some' (by simp)
    have hgb:(ys++[xb])[p]? = some xb:=by rw[hp];simp
    have hlb:((pre++[gl]).map ptI)[p]? = some (ptI gl):=by rw[← hpr];simp
    have HB:=Lib.hid (HPQ.out.at_ p xb _ hgb hlb)
    have hsl:=HPQ.out.row.sl encPt_ok.len (by rw[hpl];omega)
    have HPP:Hid (PtsR wq b0 (.slice (some ⟨g,0,none⟩) (p+1) vc) (ys++[xb]) ((pre++[gl]).map ptI)):=Lib.hid (by have:=HPQ.out;rwa [hpl] at this)
    rw[hpl] at hsl v1
    have B0:=Lib.hid (hsl.cellsAt hgb 0 _ rfl)
    have B1:=Lib.hid (hsl.cellsAt hgb 1 _ rfl)
    have B2:=Lib.hid (hsl.cellsAt hgb 2 _ rfl)
    have B3:=Lib.hid (hsl.cellsAt hgb 3 _ rfl)
    have B4:=Lib.hid (hsl.cellsAt hgb 4 _ rfl)
    simp only[Nat.zero_add,Nat.add_zero] at B0 B1 B2 B3 B4
    have hfg:=HFIT.out k gl (by rw[← HOUT.out];simp)
    have HGL:Hid (gl≠[]):=Lib.hid hfg.2
    have HOKG:Hid (weightN (mkI gl)≤1000):=Lib.hid (by have:=HZ.out;omega)
    have HMORE:=Lib.hid (λW (m:Ext wq W)=>above2_pt e (HB.out.ext m) (Nat.le_trans HB0.out (HXQ.out.trans m).size) (by have:=HOKG.out;rw[mkI_wt] at this;have:=sumKg_len (gl.tail.map (·.2));rw[List.length_map,List.length_tail] at this;omega) HGL.out)
    unfold ptV at HMORE
    have HSUB:Hid (∀x∈gl,keyB x.2=true):=Lib.hid (λx hx=>HES.out x (by
     have hf:=fillG_flat mkI z (es.take k) []
     rw[← HOUT.out] at hf
     have:x∈(pre++[gl]).flatten:=by simp[hx]
     rw[hf] at this
     exact List.mem_of_mem_take (by simpa using this)))
    have j1:IntKind.i64.wrap (p:Int)=(p:Int):=IntWalk.i64_in _ (by omega)
    have j2:(0:Int)≤(p:Int):=by omega
    have j3:(p:Int)<(p:Int)+1:=by omega
    have HPL:=Lib.hid (And.intro hpl (And.intro hpr hp))
    rw[hpl]
    clear hsl hgb hlb hfg hp hpl hpr
    go_wp2_with fail
    rw[← HWQ.out,← HQQ.out]
    go_wp2_with fail
    go_cut [13] (λv13 wx=>∃Y,v13=.pointer (some ⟨Y,0,none⟩)∧Hid (PtNewI wq b0 (ptI (gl++[e])) wx Y))
    case first =>
     refine wp_region_held_drew (S:=(λw'=>w'.cell? ⟨Q,0,none⟩=some (.int .i64 (e.1:Int))∧w'.cell? ⟨Q,1,none⟩=some (.string e.2)∧w'.cell? ⟨g,p * 5,none⟩=some (.bool xb.lf)∧w'.cell? ⟨g,p * 5+1,none⟩=some (slV xb.e)∧w'.cell? ⟨g,p * 5+2,none⟩=some (slV xb.k)∧w'.cell? ⟨g,p * 5+3,none⟩=some (slV xb.i)∧w'.cell? ⟨g,p * 5+4,none⟩=some (.string xb.s))) (by kernel_rfl) ⟨cellE (Mods.refl _ _).drew E0.out,cellE (Mods.refl _ _).drew E1.out,cellE (Mods.refl _ _).drew B0.out,cellE (Mods.refl _ _).drew B1.out,cellE (Mods.refl _ _).drew B2.out,cellE (Mods.refl _ _).drew B3.out,cellE (Mods.refl _ _).drew B4.out⟩ (λhHeld=>?_)
     obtain⟨Wd,hWd⟩:∃W,W=wq.drew:=⟨_,rfl⟩
     rw[← hWd] at hHeld ⊢
     have xWd:Ext wq Wd:=by rw[hWd];exact (Mods.refl _ _).drew
     clear hWd
     refine wpAnyH_take (i:=0) (oi:=⟨some 25,_,_,_,_,_⟩) (v:=?_) rfl (by kernel_rfl) (by kernel_rfl) (by kernel_rfl) (λ_ _ _ h=>h) (Or.inl ⟨by rfl,?_⟩) (by assumption) ?_
     rotate_left
     ·intro w hSw;(try dsimp only at hSw);go_simp;(try (with_reducible rfl))
     rotate_left
     try go_frame
     refine wpAnyH_take (i:=1) (oi:=⟨some 26,_,_,_,_,_⟩) (v:=?_) rfl (by kernel_rfl) (by kernel_rfl) (by kernel_rfl) (λ_ _ _ h=>h) (Or.inl ⟨by rfl,?_⟩) (by assumption) ?_
     rotate_left
     ·intro w hSw;(try dsimp only at hSw);go_simp;(try (with_reducible rfl))
     rotate_left
     try go_frame
     refine wpAnyH_take (i:=2) (oi:=⟨some 27,_,_,_,_,_⟩) (v:=?_) rfl (by kernel_rfl) (by kernel_rfl) (by kernel_rfl) (λ_ _ _ h=>h) (Or.inl ⟨by rfl,?_⟩) (by assumption) ?_
     rotate_left
     ·intro w hSw;(try dsimp only at hSw);go_simp;(try (with_reducible rfl))
     rotate_left
     try go_frame
     refine wpAnyH_take (i:=3) (oi:=⟨some 28,_,_,_,_,_⟩) (v:=?_) rfl (by kernel_rfl) (by kernel_rfl) (by kernel_rfl) (λ_ _ _ h=>h) (Or.inl ⟨by rfl,?_⟩) (by assumption) ?_
     rotate_left
     ·intro w hSw;(try dsimp only at hSw);go_simp;(try (with_reducible rfl))
     rotate_left
     try go_frame
     refine wpAnyH_take (i:=4) (oi:=⟨some 29,_,_,_,_,_⟩) (v:=?_) rfl (by kernel_rfl) (by kernel_rfl) (by kernel_rfl) (λ_ _ _ h=>h) (Or.inl ⟨by rfl,?_⟩) (by assumption) ?_
     rotate_left
     ·intro w hSw;(try dsimp only at hSw);go_simp;(try (with_reducible rfl))
     rotate_left
     try go_frame
     refine wpAnyH_take (i:=5) (oi:=⟨some 30,_,_,_,_,_⟩) (v:=?_) rfl (by kernel_rfl) (by kernel_rfl) (by kernel_rfl) (λ_ _ _ h=>h) (Or.inl ⟨by rfl,?_⟩) (by assumption) ?_
     rotate_left
     ·intro w hSw;(try dsimp only at hSw);go_simp;(try (with_reducible rfl))
     rotate_left
     try go_frame
     refine wpAnyH_ready (rs:=[6,7]) (by kernel_rfl) (by simp) ?_
     refine AllReadyH.cons (o:=⟨some 31,_,_,_,_,_⟩) rfl (λK hK=>?_) ?_
     ·skip
      go_simp
      go_at_call 111
      (with_reducible refine (HMORE.out _ xWd).mono ?_)
      rintro en U1c ⟨mv,rfl,⟨xn,rfl,hpn⟩,mU1c⟩
      have xU1c:=xWd.trans mU1c
      refine hK.out _ _ (by first|exact⟨cellE xU1c E0.out,cellE xU1c E1.out,cellE xU1c B0.out,cellE xU1c B1.out,cellE xU1c B2.out,cellE xU1c B3.out,cellE xU1c B4.out⟩|go_keep) (λhHeld=>?_)
      clear hK
      try go_frame
      refine wpAnyH_ready (rs:=[7]) (by kernel_rfl) (by simp) ?_
      refine AllReadyH.cons (o:=⟨some 13,_,_,_,_,_⟩) rfl (λK hK=>?_) AllReadyH.nil
      go_simp
      refine hK.out _ _ (by first|exact⟨cellE (xU1c.alloc _) E0.out,cellE (xU1c.alloc _) E1.out,cellE (xU1c.alloc _) B0.out,cellE (xU1c.alloc _) B1.out,cellE (xU1c.alloc _) B2.out,cellE (xU1c.alloc _) B3.out,cellE (xU1c.alloc _) B4.out⟩|go_keep) (λhHeld=>?_)
      clear hK
      try go_frame
      obtain⟨U2ca,hU2ca⟩:∃W,W=U1c.alloc (.cells ptZc 197):=⟨_,rfl⟩
      unfold ptZc at hU2ca
      rw[← hU2ca]
      have xU2ca:Ext wq U2ca:=by rw[hU2ca];exact xU1c.alloc _
      have hal:Blk U2ca U1c.heap.size ptZc 197:=by rw[hU2ca];exact Blk.new U1c _ _
      have hpn:=hpn.ext (show Ext U1c U2ca by rw[hU2ca];exact (Mods.refl _ _).alloc _)
      clear hU2ca
      refine wpAnyH_ready (rs:=[8]) (by kernel_rfl) (by simp) ?_
      refine AllReadyH.cons (o:=⟨none,_,_,_,_,_⟩) rfl (λK hK=>?_) AllReadyH.nil
      have r0:=hal.cell (o:=0) (v:=.bool false) rfl
      have r1:=hal.cell (o:=1) (v:=.slice none 0 0) rfl
      have r2:=hal.cell (o:=2) (v:=.slice none 0 0) rfl
      have r3:=hal.cell (o:=3) (v:=.slice none 0 0) rfl
      have r4:=hal.cell (o:=4) (v:=.string ⟨#[]⟩) rfl
      have rf:=hal.frozen
      have hnw:Ext wq (((((U2ca.setCell ⟨U1c.heap.size,0,none⟩ (.bool xn.lf)).setCell ⟨U1c.heap.size,1,none⟩ (slV xn.e)).setCell ⟨U1c.heap.size,2,none⟩ (slV xn.k)).setCell ⟨U1c.heap.size,3,none⟩ (slV xn.i)).setCell ⟨U1c.heap.size,4,none⟩ (.string xn.s)):=Mods.set5 xU2ca (R:=U1c.heap.size) (.inl (show wq.heap.size≤U1c.heap.size from xU1c.size)) _ _ _ _ _
      unfold ptV
      go_simp
      refine hK.out _ _ (by first|exact⟨cellE hnw E0.out,cellE hnw E1.out,cellE hnw B0.out,cellE hnw B1.out,cellE hnw B2.out,cellE hnw B3.out,cellE hnw B4.out⟩|go_keep) (λhHeld=>?_)
      clear hK
      try go_frame
      have hfin:PtNewI wq b0 (ptI (gl++[e])) _ U1c.heap.size:=⟨xn,hnw,hal.set5 (.bool xn.lf) (slV xn.e) (slV xn.k) (slV xn.i) (.string xn.s),hpn.blk hal (Mods.set5 (F:=λk=>k=U1c.heap.size) (Mods.refl _ _) (R:=U1c.heap.size) (.inr rfl) (.bool xn.lf) (slV xn.e) (slV xn.k) (slV xn.i) (.string xn.s)) (by decide) (by decide) (by decide)⟩
      refine wpAnyH_done (by kernel_rfl) ?_ _
      have HFIN:=Lib.hid hfin
      clear hfin hal hpn
      go_wp2_with fail
      go_meet
      exact⟨_,rfl,HFIN⟩
     refine AllReadyH.cons (o:=⟨some 13,_,_,_,_,_⟩) rfl (λK hK=>?_) AllReadyH.nil
     go_simp
     refine hK.out _ _ (by first|exact⟨cellE (xWd.alloc _) E0.out,cellE (xWd.alloc _) E1.out,cellE (xWd.alloc _) B0.out,cellE (xWd.alloc _) B1.out,cellE (xWd.alloc _) B2.out,cellE (xWd.alloc _) B3.out,cellE (xWd.alloc _) B4.out⟩|go_keep) (λhHeld=>?_)
     clear hK
     try go_frame
     obtain⟨U1a,hU1a⟩:∃W,W=Wd.alloc (.cells ptZc 197):=⟨_,rfl⟩
     unfold ptZc at hU1a
     rw[← hU1a]
     have xU1a:Ext wq U1a:=by rw[hU1a];exact xWd.alloc _
     have hal:Blk U1a Wd.heap.size ptZc 197:=by rw[hU1a];exact Blk.new Wd _ _
     clear hU1a
     refine wpAnyH_ready (rs:=[6]) (by kernel_rfl) (by simp) ?_
     refine AllReadyH.cons (o:=⟨some 31,_,_,_,_,_⟩) rfl (λK hK=>?_) AllReadyH.nil
     go_simp
     go_at_call 111
     (with_reducible refine (HMORE.out _ xU1a).mono ?_)
     rintro en U2ac ⟨mv,rfl,⟨xn,rfl,hpn⟩,mU2ac⟩
     have xU2ac:=xU1a.trans mU2ac
     have hal:=hal.ext mU2ac
     refine hK.out _ _ (by first|exact⟨cellE xU2ac E0.out,cellE xU2ac E1.out,cellE xU2ac B0.out,cellE xU2ac B1.out,cellE xU2ac B2.out,cellE xU2ac B3.out,cellE xU2ac B4.out⟩|go_keep) (λhHeld=>?_)
     clear hK
     try go_frame
     refine wpAnyH_ready (rs:=[8]) (by kernel_rfl) (by simp) ?_
     refine AllReadyH.cons (o:=⟨none,_,_,_,_,_⟩) rfl (λK hK=>?_) AllReadyH.nil
     have r0:=hal.cell (o:=0) (v:=.bool false) rfl
     have r1:=hal.cell (o:=1) (v:=.slice none 0 0) rfl
     have r2:=hal.cell (o:=2) (v:=.slice none 0 0) rfl
     have r3:=hal.cell (o:=3) (v:=.slice none 0 0) rfl
     have r4:=hal.cell (o:=4) (v:=.string ⟨#[]⟩) rfl
     have rf:=hal.frozen
     have hnw:Ext wq (((((U2ac.setCell ⟨Wd.heap.size,0,none⟩ (.bool xn.lf)).setCell ⟨Wd.heap.size,1,none⟩ (slV xn.e)).setCell ⟨Wd.heap.size,2,none⟩ (slV xn.k)).setCell ⟨Wd.heap.size,3,none⟩ (slV xn.i)).setCell ⟨Wd.heap.size,4,none⟩ (.string xn.s)):=Mods.set5 xU2ac (R:=Wd.heap.size) (.inl (show wq.heap.size≤Wd.heap.size from xWd.size)) _ _ _ _ _
     unfold ptV
     go_simp
     refine hK.out _ _ (by first|exact⟨cellE hnw E0.out,cellE hnw E1.out,cellE hnw B0.out,cellE hnw B1.out,cellE hnw B2.out,cellE hnw B3.out,cellE hnw B4.out⟩|go_keep) (λhHeld=>?_)
     clear hK
     try go_frame
     have hfin:PtNewI wq b0 (ptI (gl++[e])) _ Wd.heap.size:=⟨xn,hnw,hal.set5 (.bool xn.lf) (slV xn.e) (slV xn.k) (slV xn.i) (.string xn.s),hpn.blk hal (Mods.set5 (F:=λk=>k=Wd.heap.size) (Mods.refl _ _) (R:=Wd.heap.size) (.inr rfl) (.bool xn.lf) (slV xn.e) (slV xn.k) (slV xn.i) (.string xn.s)) (by decide) (by decide) (by decide)⟩
     refine wpAnyH_done (by kernel_rfl) ?_ _
     have HFIN:=Lib.hid hfin
     clear hfin hal hpn
     go_wp2_with fail
     go_meet
     exact⟨_,rfl,HFIN⟩
    case rest =>
     obtain⟨Y,rfl,HN⟩:=hcut
     obtain⟨xn,x8,hbn,hpn⟩:=HN.out
     obtain⟨w8,rfl⟩:∃w8:World,w8=wc:=⟨_,rfl⟩
     have N0:=Lib.hid (hbn.cell (o:=0) rfl)
     have N1:=Lib.hid (hbn.cell (o:=1) rfl)
     have N2:=Lib.hid (hbn.cell (o:=2) rfl)
     have N3:=Lib.hid (hbn.cell (o:=3) rfl)
     have N4:=Lib.hid (hbn.cell (o:=4) rfl)
     have XW8:=Lib.hid (HXQ.out.trans x8)
     have HBN:=Lib.hid hbn
     have HPN:=Lib.hid hpn
     have HP8:=Lib.hid (HPP.out.ext x8)
     have HB8:=Lib.hid (HBQ.out.ext x8)
     have P0:=Lib.hid (cellE x8 P0.out)
     have P1:=Lib.hid (cellE x8 P1.out)
     have P2:=Lib.hid (cellE x8 P2.out)
     have E0:=Lib.hid (cellE x8 E0.out)
     have E1:=Lib.hid (cellE x8 E1.out)
     have HSM:=Lib.hid (smallI (g:=gl++[e]) (by intro x hx;rcases List.mem_append.1 hx with hx|hx;exact HSUB.out x hx;rw[List.mem_singleton.1 hx];exact HEE.out) (by have:=HOKG.out;have:=(keyB_iff e.2).1 HEE.out;rw[mkI_wt] at *;rw[tail_append HGL.out,List.map_append,sumK_append];simp only[sumK,List.map_cons,List.map_nil];omega))
     have HFT:Hid (∀W,Ext w8 W → Calls Tryz.prog 97 #[.agg #[.bool xn.lf,slV xn.e,slV xn.k,slV xn.i],.int .i64 (G.size:Int)] W λen w'=>en=.returned (.bool (decide (weightN (mkI (gl++[e]))≤z)))∧Ext W w'):=Lib.hid (λW m=>by
      have h:=HPN.out.ext m
      have:=fits_any (F:=NoF) (mkI (gl++[e])) (slV xn.e) (slV xn.k) (slV xn.i) W (h.e.sl encE_ok.len (Nat.le_trans HSM.out.1 (by omega))) (h.k.sl encS_ok.len (Nat.le_trans HSM.out.2.1 (by omega))) (Int.le_trans HSM.out.2.2.2.1 (by omega)) (G.size:Int) (by omega) (by omega)
      rw[show (mkI (gl++[e])).leaf=xn.lf from h.lf.symm,← HZ.out] at this
      exact this)
     clear x8 hbn hpn
     go_wp2_with fail
     refine wp_region_held_drew (S:=(λw'=>w'.cell? ⟨X,0,none⟩=some (.pointer (some ⟨c,0,none⟩))∧w'.cell? ⟨X,1,none⟩=some (.pointer (some ⟨s,0,none⟩))∧w'.cell? ⟨X,2,none⟩=some (.int .u64 (gen:Int))∧w'.cell? ⟨Y,0,none⟩=some (.bool xn.lf)∧w'.cell? ⟨Y,1,none⟩=some (slV xn.e)∧w'.cell? ⟨Y,2,none⟩=some (slV xn.k)∧w'.cell? ⟨Y,3,none⟩=some (slV xn.i))) (by kernel_rfl) ⟨cellE (Mods.refl _ _).drew P0.out,cellE (Mods.refl _ _).drew P1.out,cellE (Mods.refl _ _).drew P2.out,cellE (Mods.refl _ _).drew N0.out,cellE (Mods.refl _ _).drew N1.out,cellE (Mods.refl _ _).drew N2.out,cellE (Mods.refl _ _).drew N3.out⟩ (λhHeld=>?_)
     obtain⟨Wd,hWd⟩:∃W,W=w8.drew:=⟨_,rfl⟩
     rw[← hWd] at hHeld ⊢
     have xWd:Ext w8 Wd:=by rw[hWd];exact (Mods.refl _ _).drew
     clear hWd
     refine wpAnyH_take (i:=0) (oi:=⟨some 32,_,_,_,_,_⟩) (v:=?_) rfl (by kernel_rfl) (by kernel_rfl) (by kernel_rfl) (λ_ _ _ h=>h) (Or.inl ⟨by rfl,?_⟩) (by assumption) ?_
     rotate_left
     ·intro w hSw;(try dsimp only at hSw);go_simp;(try (with_reducible rfl))
     rotate_left
     try go_frame
     refine wpAnyH_take (i:=1) (oi:=⟨some 33,_,_,_,_,_⟩) (v:=?_) rfl (by kernel_rfl) (by kernel_rfl) (by kernel_rfl) (λ_ _ _ h=>h) (Or.inl ⟨by rfl,?_⟩) (by assumption) ?_
     rotate_left
     ·intro w hSw;(try dsimp only at hSw);go_simp;(try (with_reducible rfl))
     rotate_left
     try go_frame
     refine wpAnyH_take (i:=2) (oi:=⟨some 34,_,_,_,_,_⟩) (v:=?_) rfl (by kernel_rfl) (by kernel_rfl) (by kernel_rfl) (λ_ _ _ h=>h) (Or.inl ⟨by rfl,?_⟩) (by assumption) ?_
     rotate_left
     ·intro w hSw;(try dsimp only at hSw);go_simp;(try (with_reducible rfl))
     rotate_left
     try go_frame
     refine wpAnyH_ready (rs:=[3]) (by kernel_rfl) (by simp) ?_
     refine AllReadyH.cons (o:=⟨some 35,_,_,_,_,_⟩) rfl (λK hK=>?_) AllReadyH.nil
     go_simp
     go_at_call 157
     (with_reducible refine (HSZ.out _ (XW8.out.trans xWd)).mono ?_)
     rintro en V1 ⟨rfl,mV1⟩
     have xV1:=xWd.trans mV1
     refine hK.out _ _ (by first|exact⟨cellE xV1 P0.out,cellE xV1 P1.out,cellE xV1 P2.out,cellE xV1 N0.out,cellE xV1 N1.out,cellE xV1 N2.out,cellE xV1 N3.out⟩|go_keep) (λhHeld=>?_)
     clear hK
     try go_frame
     refine wpAnyH_ready (rs:=[4]) (by kernel_rfl) (by simp) ?_
     refine AllReadyH.cons (o:=⟨some 36,_,_,_,_,_⟩) rfl (λK hK=>?_) AllReadyH.nil
     go_simp
     go_at_call 97
     (with_reducible refine (HFT.out _ xV1).mono ?_)
     rintro en V2 ⟨rfl,mV2⟩
     have xV2:=xV1.trans mV2
     refine hK.out _ _ (by first|exact⟨cellE xV2 P0.out,cellE xV2 P1.out,cellE xV2 P2.out,cellE xV2 N0.out,cellE xV2 N1.out,cellE xV2 N2.out,cellE xV2 N3.out⟩|go_keep) (λhHeld=>?_)
     clear hK
     try go_frame
     refine wpAnyH_done (by kernel_rfl) ?_ _
     have HX8:=Lib.hid xV2
     clear xV1 xV2 mV1 mV2 xWd
     obtain⟨w9,rfl⟩:∃w9:World,w9=V2:=⟨_,rfl⟩
     have HX9:=Lib.hid (XW8.out.trans HX8.out)
     have HP9:=Lib.hid (HP8.out.ext HX8.out)
     have HB9:=Lib.hid (HB8.out.ext HX8.out)
     have HPN:=Lib.hid (HPN.out.ext HX8.out)
     have n0:=cellE HX8.out N0.out
     have n1:=cellE HX8.out N1.out
     have n2:=cellE HX8.out N2.out
     have n3:=cellE HX8.out N3.out
     have n4:=cellE HX8.out N4.out
     have e0:=cellE HX8.out E0.out
     have e1:=cellE HX8.out E1.out
     by_cases hfit:weightN (mkI (gl++[e]))≤z
     ·have HNX:Hid (fillG mkI z [] (es.take (k+1))=pre++[gl++[e]]):=Lib.hid (by
       rw[HTK.out,fillG_app,← HOUT.out]
       simp[fillG,hfit])
      obtain⟨g',c',hgs, -, -,hg3,hg4,hgf⟩:=HP9.out.row.some (by simp)
      injection hgs with hgs hgn hgc
      injection hgs with hgs
      injection hgs with hgs
      subst hgs hgc
      have hsl:=HP9.out.row.sl encPt_ok.len (by have:=HPL.out.1;omega)
      have hgb:(ys++[xb])[p]? = some xb:=by rw[HPL.out.2.2];simp
      have b0':=hsl.cellsAt hgb 0 _ rfl
      have b1':=hsl.cellsAt hgb 1 _ rfl
      have b2':=hsl.cellsAt hgb 2 _ rfl
      have b3':=hsl.cellsAt hgb 3 _ rfl
      have b4':=hsl.cellsAt hgb 4 _ rfl
      simp only[Nat.zero_add,Nat.add_zero] at b0' b1' b2' b3' b4'
      have f0:=hgf (p * 5)
      have f1:=hgf (p * 5+1)
      have f2:=hgf (p * 5+2)
      have f3:=hgf (p * 5+3)
      have f4:=hgf (p * 5+4)
      have hput:=Own.put5 HP9.out.row xn
      have hmod:=Mods.put5 (g:=g) w9 (ys.length * 5) (p+1) vc (.bool xn.lf) (slV xn.e) (slV xn.k) (slV xn.i) (.string xn.s)
      rw[← HPL.out.2.2] at hput hmod
      have HS6:Hid (PtsO (((((w9.setCell ⟨g,p * 5,none⟩ (.bool xn.lf)).setCell ⟨g,p * 5+1,none⟩ (slV xn.e)).setCell ⟨g,p * 5+2,none⟩ (slV xn.k)).setCell ⟨g,p * 5+3,none⟩ (slV xn.i)).setCell ⟨g,p * 5+4,none⟩ (.string xn.s)) b0 (.slice (some ⟨g,0,none⟩) (p+1) vc) ((fillG mkI z [] (es.take (k+1))).map ptI)∧Ext w (((((w9.setCell ⟨g,p * 5,none⟩ (.bool xn.lf)).setCell ⟨g,p * 5+1,none⟩ (slV xn.e)).setCell ⟨g,p * 5+2,none⟩ (slV xn.k)).setCell ⟨g,p * 5+3,none⟩ (slV xn.i)).setCell ⟨g,p * 5+4,none⟩ (.string xn.s))∧Blk (((((w9.setCell ⟨g,p * 5,none⟩ (.bool xn.lf)).setCell ⟨g,p * 5+1,none⟩ (slV xn.e)).setCell ⟨g,p * 5+2,none⟩ (slV xn.k)).setCell ⟨g,p * 5+3,none⟩ (slV xn.i)).setCell ⟨g,p * 5+4,none⟩ (.string xn.s)) X #[.pointer (some ⟨c,0,none⟩),.pointer (some ⟨s,0,none⟩),.int .u64 (gen:Int)] 31):=Lib.hid ⟨⟨ys++[xn],by
       rw[HNX.out,List.map_append]
       have:=HP9.out
       rw[List.map_append] at this
       exact this.last hmod hput HPN.out⟩,Mods.past HX9.out (hmod.mono (λk hk=>Nat.le_trans HB0b.out ((HP9.out.row.lt k hk).1))),HB9.out.mods hmod (λhk=>HP9.out.row.notB HB9.out (by decide) _ hk rfl)⟩
      clear hsl hgb hput hmod hgn hg3 hg4 hgf
      go_wp2_with fail
      go_roundg (gk-1)
      case measure=>omega
      case rel=>exact⟨k+1,by omega,by go_num,HS6⟩
     ·have HNX:Hid (fillG mkI z [] (es.take (k+1))=(pre++[gl])++[[e]]):=Lib.hid (by
       rw[HTK.out,fillG_app,← HOUT.out]
       simp[fillG,hfit])
      go_wp2_with fail
      refine (HBEG.out _).mono ?_
      rintro en w3 ⟨bv,rfl,⟨xn,rfl,hpn⟩,hm3⟩
      have HX3:=Lib.hid (HX9.out.trans hm3)
      have HP3:=Lib.hid (HP9.out.ext hm3)
      have HB3:=Lib.hid (HB9.out.ext hm3)
      have HPN:=Lib.hid (hpn.rebase (show b0≤w9.heap.size from Nat.le_trans HB0.out HX9.out.size))
      clear hpn hm3
      unfold ptV
      have hl3:Blk (w3.alloc (.cells #[.bool xn.lf,slV xn.e,slV xn.k,slV xn.i,.string xn.s] 197)) w3.heap.size #[.bool xn.lf,slV xn.e,slV xn.k,slV xn.i,.string xn.s] 197:=Blk.new w3 _ _
      have HL3:=Lib.hid hl3
      have HMA:Hid (Ext w3 (w3.alloc (.cells #[.bool xn.lf,slV xn.e,slV xn.k,slV xn.i,.string xn.s] 197))):=Lib.hid ((Mods.refl _ w3).alloc _)
      clear hl3
      go_wp2_with (at_builtin;refine wpl_app2 Tryz.elPt encPt_ok rfl _ _ rfl b0 _ _ (ys++[xb]) [xn] rfl rfl (HP3.out.row.ext HMA.out) (Sl.one (F:=λ_=>False) (x:=xn) (enc:=encPt) (sz:=5) HL3.out (λf=>f)) (by have:=HPL.out.1;simp only[List.length_cons,List.length_nil];omega) (by have:=HB0.out;have:=HX3.out.size;have:=HMA.out.size;omega) (λf=>f) ?_;simp only[List.length_cons,List.length_nil,Nat.zero_add];intro a6 c6 w6 hO6 hm6 hat6)
      have HS6:Hid (PtsO w6 b0 (.slice a6 (ys.length+1+1) c6) ((fillG mkI z [] (es.take (k+1))).map ptI)∧Ext w w6∧Blk w6 X #[.pointer (some ⟨c,0,none⟩),.pointer (some ⟨s,0,none⟩),.int .u64 (gen:Int)] 31):=Lib.hid ⟨⟨(ys++[xb])++[xn],by
       rw[HNX.out,List.map_append]
       exact (HP3.out.ext HMA.out).app hm6 (by simpa using hO6) (HPN.out.ext HMA.out)⟩,Mods.past (HX3.out.trans HMA.out) (hm6.mono (λk hk=>Nat.le_trans HB0b.out (((HP3.out.row.ext HMA.out).lt k hk).1))),(HB3.out.ext HMA.out).mods hm6 (λhk=>(HP3.out.row.ext HMA.out).notB (HB3.out.ext HMA.out) (by decide) _ hk rfl)⟩
      clear hO6 hm6 hat6
      go_wp2_with fail
      go_roundg (gk-1)
      case measure=>omega
      case rel=>exact⟨k+1,by omega,by go_num,HS6⟩
  ·have hk:k=es.length:=by omega
   have HXE:=Lib.hid hxs
   have HXW:=Lib.hid hwr
   have hall:es.take k=es:=by rw[hk,List.take_length]
   have b0':=hbx.cell (o:=0) (v:=.pointer (some ⟨c,0,none⟩)) rfl
   have b1':=hbx.cell (o:=1) (v:=.pointer (some ⟨s,0,none⟩)) rfl
   have b2':=hbx.cell (o:=2) (v:=.int .u64 (gen:Int)) rfl
   have hok:∀n∈out.map ptI,okPt n:=λn hn=>by
    obtain⟨g,hg,rfl⟩:=List.mem_map.1 hn
    have hfg:=HFIT.out k g (by rw[← hout];exact hg)
    refine smallI (λx hx=>HES.out x ?_) (by have:=HZ.out;omega)
    have hf:=fillG_flat mkI z (es.take k) []
    rw[← hout] at hf
    have:x∈out.flatten:=List.mem_flatten.2 ⟨g,hg,hx⟩
    rw[hf] at this
    exact List.mem_of_mem_take (by simpa using this)
   have HEV2:=Lib.hid (HEVN.out wr hwr _ _ ⟨xs,hxs⟩ hok (by rw[List.length_map];exact hol))
   have HGR:Hid (evenN z (out.map ptI)=(groupsG mkI z es).map ptI):=Lib.hid (by
    rw[even_I out (λg hg=>(HFIT.out k g (by rw[← hout];exact hg)).2),hout,hall]
    rfl)
   clear hxs hwr hbx hout hok hxl hall hk
   go_wp2_with fail
   refine HEV2.out.mono ?_
   rintro en w3 ⟨v,rfl,hv,hm3⟩
   have HV:=Lib.hid hv
   have HM3:=Lib.hid hm3
   clear hv hm3
   go_wp2_with fail
   go_ret
   exact⟨_,rfl,by rw[← HGR.out];exact HV.out,HXW.out.trans HM3.out⟩
end
section
variable {P F:Nat→Prop}{ad:Nat→Addr}{w:World}{c s:Nat}{G:GA}{l:List Nat}
theorem babove_any(hL:Env F ad w)(h:PgR F w P c s G l)(gen:Nat)(hz:256≤G.size∧G.size≤1024)(ev:Value)(es:List KidA)(hev:Sl F w 2 encKd ev es)(hes:∀e∈es,keyB e.2=true)(hlen:es.length≤100000) :
  Calls Tryz.prog 69 #[pgV c s gen,ev] w λe w'=>∃v,e=.returned v∧PtsO w' w.heap.size v ((groupsG mkI ((G.size:Int)-24) es).map ptI)∧Ext w w':=by
 have m0:Ext w (w.alloc (.cells #[.pointer (some ⟨c,0,none⟩),.pointer (some ⟨s,0,none⟩),.int .u64 (gen:Int)] 31)):=(Mods.refl _ w).alloc _
 have HF:=fillI_any (hL.mods m0.ext) (h.at m0) gen hz ev es (hev.ext m0) hes hlen
 unfold pgV at HF ⊢
 have HF:=Lib.hid HF
 have HM0:=Lib.hid m0
 clear hL h m0 hev
 go_enter Tryz.func69, Tryz.ntmps69
 go_wp2_with fail
 refine HF.out.mono ?_
 rintro en w1 ⟨v,rfl,⟨xs,hxs⟩,hm⟩
 have HX:=Lib.hid (hxs.rebase (show w.heap.size≤_ from HM0.out.size))
 have HM:=Lib.hid hm
 clear hxs hm
 go_wp2_with fail
 go_ret
 exact⟨_,rfl,⟨xs,HX.out⟩,HM0.out.trans HM.out⟩
end
end
section
open Go.RowKit
theorem downs_split(gen:Nat):∀(a b:List PtA) (G:GA) (l:List Nat) {G':GA} {l':List Nat} {ks:List KidA},downsP gen G l (a++b)=.inl (G',l',ks) →
  ∃G1 l1 ks1 ks2,downsP gen G l a=.inl (G1,l1,ks1)∧downsP gen G1 l1 b=.inl (G',l',ks2)∧ks=ks1++ks2
 | [],b,G,l,G',l',ks,h=>⟨G,l,[],ks,rfl,h,rfl⟩
 | x :: a,b,G,l,G',l',ks,h=>by
  rw[List.cons_append,downsP] at h
  cases hd:downI G l 0 x.1 with
  | none=>rw[hd] at h;cases h
  | some i =>
   rw[hd] at h
   simp only at h
   cases hr:downsP gen (downG G l gen 0 x.1) (downL G l 0 x.1) (a++b) with
   | inr k=>rw[hr] at h;cases h
   | inl y =>
    obtain⟨G2,l2,ks0⟩:=y
    rw[hr] at h
    injection h with h
    injection h with h1 h2
    injection h2 with h2 h3
    subst h1 h2 h3
    obtain⟨G1,l1,ks1,ks2,e1,e2,rfl⟩:=downs_split gen a b _ _ hr
    exact⟨G1,l1,(i,x.2) :: ks1,ks2,by rw[downsP,hd];simp only;rw[e1],e2,rfl⟩
theorem downs_one{gen:Nat}{G:GA}{l:List Nat}{x:PtA}{G':GA}{l':List Nat}{ks:List KidA}(h:downsP gen G l [x]=.inl (G',l',ks)):∃i,downI G l 0 x.1=some i∧G'=downG G l gen 0 x.1∧l'=downL G l 0 x.1∧ks=[(i,x.2)]:=by
 rw[downsP] at h
 cases hd:downI G l 0 x.1 with
 | none=>rw[hd] at h;cases h
 | some i =>
  rw[hd] at h
  simp only[downsP] at h
  injection h with h
  injection h with h1 h2
  injection h2 with h2 h3
  exact⟨i,rfl,h1.symm,h2.symm,h3.symm⟩
theorem downL_len(G:GA)(l:List Nat)(n:NodeA):(downL G l 0 n).length=l.length:=by
 unfold downL placeL
 split
 ·rw[if_pos rfl]
  unfold spTake
  split <;> simp
 ·rfl
theorem downs_lim(gen:Nat):∀(a:List PtA) (G:GA) (l:List Nat) {G':GA} {l':List Nat} {ks:List KidA},downsP gen G l a=.inl (G',l',ks)→G'.size=G.size∧G'.blocks=G.blocks∧l'.length=l.length∧G'.cost≤G.cost+a.length∧ks.length=a.length
 | [],G,l,G',l',ks,h=>by
  injection h with h
  injection h with h1 h2
  injection h2 with h2 h3
  subst h1 h2 h3
  exact⟨rfl,rfl,rfl,Nat.le_refl _,rfl⟩
 | x :: a,G,l,G',l',ks,h=>by
  obtain⟨G1,l1,ks1,ks2,e1,e2,rfl⟩:=downs_split gen [x] a G l h
  obtain⟨i,_,rfl,rfl,rfl⟩:=downs_one e1
  obtain⟨h1,h2,h3,h4,h5⟩:=downs_lim gen a _ _ e2
  obtain⟨g1,g2,g3⟩:=downG_cost G l gen 0 x.1
  refine⟨h1.trans g1,h2.trans g2,h3.trans (downL_len G l x.1),?_,?_⟩
  ·simp only[List.length_cons];omega
  ·simp only[List.length_cons,List.length_append,List.length_nil,h5];omega
end
end Go.Proofs.YtchklfmggpconaaGreatDoor
