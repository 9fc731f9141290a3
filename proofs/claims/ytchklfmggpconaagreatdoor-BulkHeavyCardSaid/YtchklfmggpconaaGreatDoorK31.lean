import Derived.Test.YtchklfmggpconaaGreatDoorK30
import Derived.Test.YtchklfmggpconaaGreatDoorK07
import Derived.Deep.RegionHeld3
import Derived.Deep.CutBlock
import Derived.Deep.DeepCutAuto
import Derived.Maps.RangeWalk
namespace Go.Proofs.YtchklfmggpconaaGreatDoor
set_option maxRecDepth 100000
open Go.RowKit
attribute [local go_sem ↓] Go.wp_at_zero Go.wp_at_succ
abbrev ptZc:Array Value:=#[.bool false,.slice none 0 0,.slice none 0 0,.slice none 0 0,.string ⟨#[]⟩]
def PtO(w:World)(base:Nat)(v:Value)(n:PtA):Prop:=∃x:PtV,v=ptV x∧PtR w base x n
theorem Tryz.partSz5:(Tryz.prog.info? 197).map (·.size)=some 5:=by kernel_rfl
theorem Blk.ents{W:World}{b:Nat}{e:EntryA}{T:TypeId}(h:Blk W b (entC e) T):W.cell? ⟨b,0,none⟩=some (.string e.key)∧W.cell? ⟨b,1,none⟩=some (.string e.value)∧W.cell? ⟨b,2,none⟩=some (.int .i64 e.chain)∧W.cell? ⟨b,3,none⟩=some (.int .i64 e.size) :=
 ⟨h.cell rfl,h.cell rfl,h.cell rfl,h.cell rfl⟩
structure PtBox(w:World)(b0 X:Nat)(EB:Array Value)(ET:TypeId)(wx:World)(x:PtV)(n:PtA):Prop where
 ext:Ext w wx
 hX:w.heap.size≤X
 hb:b0≤w.heap.size
 box:Blk wx X #[.bool x.lf,slV x.e,slV x.k,slV x.i,.string x.s] 197
 elt:Blk wx (X+1) EB ET
 res:Blk wx (X+1+1) ptZc 197
 pt:PtR wx b0 x n
section
variable {w wx wz:World}{b0 X base:Nat}{EB:Array Value}{ET:TypeId}{x:PtV}{n:PtA}{a:Option Addr}{k c:Nat}
theorem PtBox.ext'(h:PtBox w b0 X EB ET wx x n)(m:Ext wx wz):PtBox w b0 X EB ET wz x n:=⟨h.ext.trans m,h.hX,h.hb,h.box.ext m,h.elt.ext m,h.res.ext m,h.pt.ext m⟩
theorem PtBox.turn(h:PtBox w b0 X EB ET wx x n)(o:Nat)(v:Value):Mods (λk=>k=X) wx (wx.setCell ⟨X,o,none⟩ v)∧Ext w (wx.setCell ⟨X,o,none⟩ v)∧Blk (wx.setCell ⟨X,o,none⟩ v) (X+1) EB ET∧Blk (wx.setCell ⟨X,o,none⟩ v) (X+1+1) ptZc 197 ∧ PtR (wx.setCell ⟨X,o,none⟩ v) b0 x n:=by
 have m:Mods (λk=>k=X) wx (wx.setCell ⟨X,o,none⟩ v):=Mods.setCell (F:=λk=>k=X) (p:=⟨X,o,none⟩) (Mods.refl _ _) (.inr rfl) v
 exact⟨m,h.ext.setCell (p:=⟨X,o,none⟩) (.inl h.hX) v,h.elt.mods m (by omega),h.res.mods m (by omega),h.pt.blk h.box m (by decide) (by decide) (by decide)⟩
theorem PtBox.putE(h:PtBox w b0 X EB ET wx x n)(hb:b0≤base){es:List EntryA}(o:Own NoF wx base 141 4 encE (.slice a k c) es):PtBox w b0 X EB ET (wx.setCell ⟨X,1,none⟩ (.slice a k c)) { x with e:=(a,k,c) } ({ n.1 with entries:=es },n.2):=by
 obtain⟨m,m2,e1,e2,p⟩:=h.turn 1 (.slice a k c)
 exact⟨m2,h.hX,h.hb,by simpa[slV] using h.box.set 1 (.slice a k c),e1,e2,⟨p.lf,p.fst,(o.mods m (λg hg=>o.notB h.box (by decide) g hg)).rebase hb,p.k,p.i⟩⟩
theorem PtBox.putK(h:PtBox w b0 X EB ET wx x n)(hb:b0≤base){ks:List ByteArray}(o:Own NoF wx base 9 1 encS (.slice a k c) ks):PtBox w b0 X EB ET (wx.setCell ⟨X,2,none⟩ (.slice a k c)) { x with k:=(a,k,c) } ({ n.1 with keys:=ks },n.2):=by
 obtain⟨m,m2,e1,e2,p⟩:=h.turn 2 (.slice a k c)
 exact⟨m2,h.hX,h.hb,by simpa[slV] using h.box.set 2 (.slice a k c),e1,e2,⟨p.lf,p.fst,p.e,(o.mods m (λg hg=>o.notB h.box (by decide) g hg)).rebase hb,p.i⟩⟩
theorem PtBox.putI(h:PtBox w b0 X EB ET wx x n)(hb:b0≤base){is:List Int}(o:Own NoF wx base 3 1 encI (.slice a k c) is):PtBox w b0 X EB ET (wx.setCell ⟨X,3,none⟩ (.slice a k c)) { x with i:=(a,k,c) } ({ n.1 with kids:=is },n.2):=by
 obtain⟨m,m2,e1,e2,p⟩:=h.turn 3 (.slice a k c)
 exact⟨m2,h.hX,h.hb,by simpa[slV] using h.box.set 3 (.slice a k c),e1,e2,⟨p.lf,p.fst,p.e,p.k,(o.mods m (λg hg=>o.notB h.box (by decide) g hg)).rebase hb⟩⟩
theorem PtBox.ret(h:PtBox w b0 X EB ET wx x n):Blk (((((wx.setCell ⟨X+1+1,0,none⟩ (.bool x.lf)).setCell ⟨X+1+1,1,none⟩ (slV x.e)).setCell ⟨X+1+1,2,none⟩ (slV x.k)).setCell ⟨X+1+1,3,none⟩ (slV x.i)).setCell ⟨X+1+1,4,none⟩ (.string x.s)) (X+1+1) #[.bool x.lf,slV x.e,slV x.k,slV x.i,.string x.s] 197 ∧
  PtO (((((wx.setCell ⟨X+1+1,0,none⟩ (.bool x.lf)).setCell ⟨X+1+1,1,none⟩ (slV x.e)).setCell ⟨X+1+1,2,none⟩ (slV x.k)).setCell ⟨X+1+1,3,none⟩ (slV x.i)).setCell ⟨X+1+1,4,none⟩ (.string x.s)) b0 (ptV x) n ∧
  Ext w (((((wx.setCell ⟨X+1+1,0,none⟩ (.bool x.lf)).setCell ⟨X+1+1,1,none⟩ (slV x.e)).setCell ⟨X+1+1,2,none⟩ (slV x.k)).setCell ⟨X+1+1,3,none⟩ (slV x.i)).setCell ⟨X+1+1,4,none⟩ (.string x.s)):=by
 have m:=Mods.set5 (F:=λk=>k=X+1+1) (Mods.refl _ wx) (R:=X+1+1) (.inr rfl) (.bool x.lf) (slV x.e) (slV x.k) (slV x.i) (.string x.s)
 exact⟨h.res.set5 _ _ _ _ _,⟨x,rfl,h.pt.blk h.res m (by decide) (by decide) (by decide)⟩,Mods.set5 h.ext (R:=X+1+1) (.inl (by have:=h.hX;omega)) _ _ _ _ _⟩
end
section
variable {F:Nat→Prop}{w w':World}
theorem leaves1_any(e:EntryA) : Calls Tryz.prog 107 #[.agg (entC e)] w λen w'=>∃v,en=.returned v∧PtO w' w.heap.size v (ptL [e])∧Ext w w':=by
 obtain⟨W,hW⟩:∃W,W=((w.alloc (.cells (entC e) 141)).alloc (.cells #[.bool true,.slice (some ⟨w.heap.size+1+1,0,none⟩) 1 1,.slice none 0 0,.slice none 0 0,.string e.key] 197)).alloc (.cells #[.string e.key,.string e.value,.int .i64 e.chain,.int .i64 e.size] 141):=⟨_,rfl⟩
 have HM:Hid (Ext w W):=Lib.hid (by rw[hW];exact (((Mods.refl _ w).alloc _).alloc _).alloc _)
 have HF:Hid (Blk W (w.heap.size+1) #[.bool true,.slice (some ⟨w.heap.size+1+1,0,none⟩) 1 1,.slice none 0 0,.slice none 0 0,.string e.key] 197):=Lib.hid (by rw[hW];exact Blk.alloc (heap_at (by simp)) _)
 have HL:Hid (Blk W (w.heap.size+1+1) (entC e) 141):=Lib.hid (by rw[hW];exact heap_at (by simp))
 have HO:Hid (Own NoF W w.heap.size 141 4 encE (.slice (some ⟨w.heap.size+1+1,0,none⟩) 1 1) [e]):=Lib.hid (Own.made (l:=[e]) HL.out (by omega) (λf=>f) (Nat.le_refl _) (by simp[maxLen]) rfl rfl encE_ok.len)
 have HW:=Lib.hid hW
 clear hW
 go_enter Tryz.func107, Tryz.ntmps107
 go_wp2_with fail
 rw[← HW.out]
 refine bodyPost_ret (results_cell_row rfl _ _ (w.heap.size+1) 197 _ (0,0) _ rfl HF.out Tryz.underlying197 rfl Tryz.partSz5) rfl ?_
 exact⟨_,rfl,⟨⟨true,(some ⟨w.heap.size+1+1,0,none⟩,1,1),(none,0,0),(none,0,0),e.key⟩,rfl,rfl,rfl,HO.out,Own.nil _ _ _ _ _ _,Own.nil _ _ _ _ _ _⟩,HM.out⟩
set_option maxHeartbeats 8000000 in
theorem leaves2_any(es:List EntryA)(e:EntryA)(ea:Option Addr)(ec:Nat)(xk xi:SlT)(s:ByteArray)(b0:Nat)(hx:PtR w b0 ⟨true,(ea,es.length,ec),xk,xi,s⟩ (mkL es,s))(hb:b0≤w.heap.size)(hn:es.length≤100000) :
  Calls Tryz.prog 108 #[.agg #[.bool true,.slice ea es.length ec,slV xk,slV xi,.string s],.agg (entC e)] w λen w'=>∃v,en=.returned v∧PtO w' b0 v (mkL (es++[e]),s)∧Ext w w':=by
 obtain⟨ka,kn,kc⟩:=xk
 obtain⟨ja,jn,jc⟩:=xi
 unfold slV
 simp only
 obtain⟨X,hX⟩:∃X,X=w.heap.size:=⟨_,rfl⟩
 obtain⟨w0,hw0⟩:∃w0,w0=((w.alloc (.cells #[.bool true,.slice ea es.length ec,.slice ka kn kc,.slice ja jn jc,.string s] 197)).alloc (.cells (entC e) 141)).alloc (.cells ptZc 197):=⟨_,rfl⟩
 have m0:Ext w w0:=by rw[hw0];exact (((Mods.refl _ w).alloc _).alloc _).alloc _
 have HBX:Hid (PtBox w b0 X (entC e) 141 w0 ⟨true,(ea,es.length,ec),(ka,kn,kc),(ja,jn,jc),s⟩ (mkL es,s)):=Lib.hid ⟨m0,by omega,hb,by rw[hw0,hX];exact ((Blk.new w _ _).alloc _).alloc _,by rw[hw0,hX];exact Blk.alloc (heap_at (by simp)) _,by rw[hw0,hX];exact heap_at (by simp),hx.ext m0⟩
 have HSE:Hid (Sl (λ_=>False) w0 4 encE (.slice ea es.length ec) es):=Lib.hid (HBX.out.pt.e.sl encE_ok.len (by show es.length≤_;omega))
 have HBL:Hid (b0≤w0.heap.size):=Lib.hid (Nat.le_trans hb m0.size)
 unfold ptZc at hw0
 have HW0:=Lib.hid hw0
 have HX:=Lib.hid hX
 clear hw0 hx m0 hb hX
 go_enter Tryz.func108, Tryz.ntmps108
 go_wp2_with fail
 rw[← HW0.out,← HX.out]
 go_cut [] (λwx=>∃a c,Hid (PtBox w b0 X (entC e) 141 wx ⟨true,(a,es.length+1,c),(ka,kn,kc),(ja,jn,jc),s⟩ (mkL (es++[e]),s)))
 case first =>
  refine wp_region_held_drew (S:=(λw'=>w'.cell? ⟨X+1,0,none⟩=some (.string e.key)∧w'.cell? ⟨X+1,1,none⟩=some (.string e.value)∧w'.cell? ⟨X+1,2,none⟩=some (.int .i64 e.chain)∧w'.cell? ⟨X+1,3,none⟩=some (.int .i64 e.size))) (by kernel_rfl) (HBX.out.ext' (Mods.refl _ _).drew).elt.ents (λhHeld=>?_)
  obtain⟨Wd,hWd⟩:∃W,W=w0.drew:=⟨_,rfl⟩
  rw[← hWd] at hHeld ⊢
  have xWd:Ext w0 Wd:=by rw[hWd];exact (Mods.refl _ _).drew
  clear hWd
  have n1:=(HBX.out.ext' xWd).box.cell (o:=1) (v:=.slice ea es.length ec) rfl
  have nf:=(HBX.out.ext' xWd).box.frozen
  refine wpAnyH_take (i:=1) (oi:=⟨some 6,_,_,_,_,_⟩) (v:=?_) rfl (by kernel_rfl) (by kernel_rfl) (by kernel_rfl) (λ_ _ _ h=>h) (Or.inl ⟨by rfl,?_⟩) (by assumption) ?_
  rotate_left
  ·intro w hSw;(try dsimp only at hSw);go_simp;(try (with_reducible rfl))
  rotate_left
  try go_frame
  refine wpAnyH_take (i:=2) (oi:=⟨some 7,_,_,_,_,_⟩) (v:=?_) rfl (by kernel_rfl) (by kernel_rfl) (by kernel_rfl) (λ_ _ _ h=>h) (Or.inl ⟨by rfl,?_⟩) (by assumption) ?_
  rotate_left
  ·intro w hSw;(try dsimp only at hSw);go_simp;(try (with_reducible rfl))
  rotate_left
  try go_frame
  refine wpAnyH_take (i:=5) (oi:=⟨some 10,_,_,_,_,_⟩) (v:=?_) rfl (by kernel_rfl) (by kernel_rfl) (by kernel_rfl) (λ_ _ _ h=>h) (Or.inl ⟨by rfl,?_⟩) (by assumption) ?_
  rotate_left
  ·intro w hSw;(try dsimp only at hSw);go_simp;(try (with_reducible rfl))
  rotate_left
  try go_frame
  refine wpAnyH_ready (rs:=[0,3,6]) (by kernel_rfl) (by simp) ?_
  refine AllReadyH.cons (o:=⟨some 5,_,_,_,_,_⟩) rfl (λK hK=>?_) ?_
  ·skip
   go_simp
   refine hK.out _ _ (by first|exact (HBX.out.ext' (xWd.alloc _)).elt.ents|go_keep) (λhHeld=>?_)
   clear hK
   try go_frame
   obtain⟨W1a,hW1a⟩:∃W,W=Wd.alloc (.cells #[] 141):=⟨_,rfl⟩
   rw[← hW1a]
   have xW1a:Ext w0 W1a:=by rw[hW1a];exact xWd.alloc _
   have hl0:Blk W1a Wd.heap.size #[] 141:=by rw[hW1a];exact Blk.new Wd _ _
   have zW1a:Wd.heap.size<W1a.heap.size:=by rw[hW1a];simp
   clear hW1a
   have n1:=(HBX.out.ext' xW1a).box.cell (o:=1) (v:=.slice ea es.length ec) rfl
   have nf:=(HBX.out.ext' xW1a).box.frozen
   refine wpAnyH_ready (rs:=[3,6]) (by kernel_rfl) (by simp) ?_
   refine AllReadyH.cons (o:=⟨some 8,_,_,_,_,_⟩) rfl (λK hK=>?_) ?_
   ·skip
    go_simp
    refine hK.out _ _ (by first|exact (HBX.out.ext' xW1a).elt.ents|go_keep) (λhHeld=>?_)
    clear hK
    try go_frame
    refine wpAnyH_ready (rs:=[4,6]) (by kernel_rfl) (by simp) ?_
    refine AllReadyH.cons (o:=⟨some 9,_,_,_,_,_⟩) rfl (λK hK=>?_) ?_
    ·skip
     refine step_app2 Tryz.elE encE_ok (by rfl) _ _ (by rfl) w0.heap.size (.slice (some ⟨Wd.heap.size,0,none⟩) 0 0) (.slice ea es.length ec) [] es (by rfl) (by rfl) (Own.lit 4 encE encE_ok.len hl0 (by have:=xWd.size;omega)) (HSE.out.ext xW1a) (by simp only[List.length_nil];omega) (by have:=xW1a.size;omega) (λf=>f) ?_
     rw[List.nil_append,List.length_nil,Nat.zero_add]
     intro a1 c1 W2alb hO1 hm1 hat1
     have xW2alb:Ext w0 W2alb:=Mods.past xW1a (hm1.mono (λk hk=>by simp[Value.ownBlock] at hk;have:=xWd.size;omega))
     have n1:=(HBX.out.ext' xW2alb).box.cell (o:=1) (v:=.slice ea es.length ec) rfl
     have nf:=(HBX.out.ext' xW2alb).box.frozen
     refine hK.out _ _ (by first|exact (HBX.out.ext' xW2alb).elt.ents|go_keep) (λhHeld=>?_)
     clear hK
     try go_frame
     refine wpAnyH_ready (rs:=[6]) (by kernel_rfl) (by simp) ?_
     refine AllReadyH.cons (o:=⟨some 11,_,_,_,_,_⟩) rfl (λK hK=>?_) AllReadyH.nil
     go_simp
     refine hK.out _ _ (by first|exact (HBX.out.ext' (xW2alb.alloc _)).elt.ents|go_keep) (λhHeld=>?_)
     clear hK
     try go_frame
     obtain⟨W3albc,hW3albc⟩:∃W,W=W2alb.alloc (.cells #[.string e.key,.string e.value,.int .i64 e.chain,.int .i64 e.size] 141):=⟨_,rfl⟩
     rw[← hW3albc]
     have xW3albc:Ext w0 W3albc:=by rw[hW3albc];exact xW2alb.alloc _
     have hl1:Blk W3albc W2alb.heap.size #[.string e.key,.string e.value,.int .i64 e.chain,.int .i64 e.size] 141:=by rw[hW3albc];exact Blk.new W2alb _ _
     have zW3albc:W2alb.heap.size<W3albc.heap.size:=by rw[hW3albc];simp
     have hO1:=hO1.ext (show Ext W2alb W3albc by rw[hW3albc];exact (Mods.refl _ _).alloc _)
     clear hW3albc
     have n1:=(HBX.out.ext' xW3albc).box.cell (o:=1) (v:=.slice ea es.length ec) rfl
     have nf:=(HBX.out.ext' xW3albc).box.frozen
     refine wpAnyH_ready (rs:=[7]) (by kernel_rfl) (by simp) ?_
     refine AllReadyH.cons (o:=⟨some 12,_,_,_,_,_⟩) rfl (λK hK=>?_) AllReadyH.nil
     refine step_app2 Tryz.elE encE_ok (by rfl) _ _ (by rfl) w0.heap.size (.slice a1 es.length c1) (.slice (some ⟨W2alb.heap.size,0,none⟩) 1 1) es [e] (by rfl) (by rfl) hO1 (Sl.one (F:=λ_=>False) (x:=e) (enc:=encE) (sz:=4) hl1 (λf=>f)) (by simp only[List.length_singleton];omega) (by have:=xW3albc.size;omega) (λf=>f) ?_
     rw[List.length_singleton]
     intro a2 c2 W4albcd hO2 hm2 hat2
     have xW4albcd:Ext w0 W4albcd:=Mods.past xW3albc (hm2.mono (λk hk=>(hO1.lt k hk).1))
     have n1:=(HBX.out.ext' xW4albcd).box.cell (o:=1) (v:=.slice ea es.length ec) rfl
     have nf:=(HBX.out.ext' xW4albcd).box.frozen
     refine hK.out _ _ (by first|exact (HBX.out.ext' xW4albcd).elt.ents|go_keep) (λhHeld=>?_)
     clear hK
     try go_frame
     refine wpAnyH_take (i:=8) (oi:=⟨some 13,_,_,_,_,_⟩) (v:=?_) rfl (by kernel_rfl) (by kernel_rfl) (by kernel_rfl) (λ_ _ _ h=>h) (Or.inl ⟨by rfl,?_⟩) (by assumption) ?_
     rotate_left
     ·intro w hSw;(try dsimp only at hSw);go_simp;(try (with_reducible rfl))
     rotate_left
     try go_frame
     refine wpAnyH_take (i:=9) (oi:=⟨some 14,_,_,_,_,_⟩) (v:=?_) rfl (by kernel_rfl) (by kernel_rfl) (by kernel_rfl) (λ_ _ _ h=>h) (Or.inl ⟨by rfl,?_⟩) (by assumption) ?_
     rotate_left
     ·intro w hSw;(try dsimp only at hSw);go_simp;(try (with_reducible rfl))
     rotate_left
     try go_frame
     refine wpAnyH_ready (rs:=[10]) (by kernel_rfl) (by simp) ?_
     refine AllReadyH.cons (o:=⟨none,_,_,_,_,_⟩) rfl (λK hK=>?_) AllReadyH.nil
     go_simp
     refine hK.out _ _ (by first|exact ((HBX.out.ext' xW4albcd).putE (HBL.out) hO2).elt.ents|go_keep) (λhHeld=>?_)
     clear hK
     try go_frame
     have hfin:=(HBX.out.ext' xW4albcd).putE (HBL.out) hO2
     refine wpAnyH_done (by kernel_rfl) ?_ _
     have HFIN:=Lib.hid hfin
     clear hfin hO1 hO2
     go_wp2_with fail
     go_meet
     exact⟨a2,c2,HFIN⟩
    refine AllReadyH.cons (o:=⟨some 11,_,_,_,_,_⟩) rfl (λK hK=>?_) AllReadyH.nil
    go_simp
    refine hK.out _ _ (by first|exact (HBX.out.ext' (xW1a.alloc _)).elt.ents|go_keep) (λhHeld=>?_)
    clear hK
    try go_frame
    obtain⟨W2alc,hW2alc⟩:∃W,W=W1a.alloc (.cells #[.string e.key,.string e.value,.int .i64 e.chain,.int .i64 e.size] 141):=⟨_,rfl⟩
    rw[← hW2alc]
    have xW2alc:Ext w0 W2alc:=by rw[hW2alc];exact xW1a.alloc _
    have hl1:Blk W2alc W1a.heap.size #[.string e.key,.string e.value,.int .i64 e.chain,.int .i64 e.size] 141:=by rw[hW2alc];exact Blk.new W1a _ _
    have zW2alc:W1a.heap.size<W2alc.heap.size:=by rw[hW2alc];simp
    have hl0:=hl0.ext (show Ext W1a W2alc by rw[hW2alc];exact (Mods.refl _ _).alloc _)
    clear hW2alc
    have n1:=(HBX.out.ext' xW2alc).box.cell (o:=1) (v:=.slice ea es.length ec) rfl
    have nf:=(HBX.out.ext' xW2alc).box.frozen
    refine wpAnyH_ready (rs:=[4]) (by kernel_rfl) (by simp) ?_
    refine AllReadyH.cons (o:=⟨some 9,_,_,_,_,_⟩) rfl (λK hK=>?_) AllReadyH.nil
    refine step_app2 Tryz.elE encE_ok (by rfl) _ _ (by rfl) w0.heap.size (.slice (some ⟨Wd.heap.size,0,none⟩) 0 0) (.slice ea es.length ec) [] es (by rfl) (by rfl) (Own.lit 4 encE encE_ok.len hl0 (by have:=xWd.size;omega)) (HSE.out.ext xW2alc) (by simp only[List.length_nil];omega) (by have:=xW2alc.size;omega) (λf=>f) ?_
    rw[List.nil_append,List.length_nil,Nat.zero_add]
    intro a1 c1 W3alcb hO1 hm1 hat1
    have xW3alcb:Ext w0 W3alcb:=Mods.past xW2alc (hm1.mono (λk hk=>by simp[Value.ownBlock] at hk;have:=xWd.size;omega))
    have hl1:=hl1.mods hm1 (λhk=>by simp[Value.ownBlock] at hk;omega)
    have n1:=(HBX.out.ext' xW3alcb).box.cell (o:=1) (v:=.slice ea es.length ec) rfl
    have nf:=(HBX.out.ext' xW3alcb).box.frozen
    refine hK.out _ _ (by first|exact (HBX.out.ext' xW3alcb).elt.ents|go_keep) (λhHeld=>?_)
    clear hK
    try go_frame
    refine wpAnyH_ready (rs:=[7]) (by kernel_rfl) (by simp) ?_
    refine AllReadyH.cons (o:=⟨some 12,_,_,_,_,_⟩) rfl (λK hK=>?_) AllReadyH.nil
    refine step_app2 Tryz.elE encE_ok (by rfl) _ _ (by rfl) w0.heap.size (.slice a1 es.length c1) (.slice (some ⟨W1a.heap.size,0,none⟩) 1 1) es [e] (by rfl) (by rfl) hO1 (Sl.one (F:=λ_=>False) (x:=e) (enc:=encE) (sz:=4) hl1 (λf=>f)) (by simp only[List.length_singleton];omega) (by have:=xW3alcb.size;omega) (λf=>f) ?_
    rw[List.length_singleton]
    intro a2 c2 W4alcbd hO2 hm2 hat2
    have xW4alcbd:Ext w0 W4alcbd:=Mods.past xW3alcb (hm2.mono (λk hk=>(hO1.lt k hk).1))
    have n1:=(HBX.out.ext' xW4alcbd).box.cell (o:=1) (v:=.slice ea es.length ec) rfl
    have nf:=(HBX.out.ext' xW4alcbd).box.frozen
    refine hK.out _ _ (by first|exact (HBX.out.ext' xW4alcbd).elt.ents|go_keep) (λhHeld=>?_)
    clear hK
    try go_frame
    refine wpAnyH_take (i:=8) (oi:=⟨some 13,_,_,_,_,_⟩) (v:=?_) rfl (by kernel_rfl) (by kernel_rfl) (by kernel_rfl) (λ_ _ _ h=>h) (Or.inl ⟨by rfl,?_⟩) (by assumption) ?_
    rotate_left
    ·intro w hSw;(try dsimp only at hSw);go_simp;(try (with_reducible rfl))
    rotate_left
    try go_frame
    refine wpAnyH_take (i:=9) (oi:=⟨some 14,_,_,_,_,_⟩) (v:=?_) rfl (by kernel_rfl) (by kernel_rfl) (by kernel_rfl) (λ_ _ _ h=>h) (Or.inl ⟨by rfl,?_⟩) (by assumption) ?_
    rotate_left
    ·intro w hSw;(try dsimp only at hSw);go_simp;(try (with_reducible rfl))
    rotate_left
    try go_frame
    refine wpAnyH_ready (rs:=[10]) (by kernel_rfl) (by simp) ?_
    refine AllReadyH.cons (o:=⟨none,_,_,_,_,_⟩) rfl (λK hK=>?_) AllReadyH.nil
    go_simp
    refine hK.out _ _ (by first|exact ((HBX.out.ext' xW4alcbd).putE (HBL.out) hO2).elt.ents|go_keep) (λhHeld=>?_)
    clear hK
    try go_frame
    have hfin:=(HBX.out.ext' xW4alcbd).putE (HBL.out) hO2
    refine wpAnyH_done (by kernel_rfl) ?_ _
    have HFIN:=Lib.hid hfin
    clear hfin hO1 hO2
    go_wp2_with fail
    go_meet
    exact⟨a2,c2,HFIN⟩
   refine AllReadyH.cons (o:=⟨some 11,_,_,_,_,_⟩) rfl (λK hK=>?_) AllReadyH.nil
   go_simp
   refine hK.out _ _ (by first|exact (HBX.out.ext' (xW1a.alloc _)).elt.ents|go_keep) (λhHeld=>?_)
   clear hK
   try go_frame
   obtain⟨W2ac,hW2ac⟩:∃W,W=W1a.alloc (.cells #[.string e.key,.string e.value,.int .i64 e.chain,.int .i64 e.size] 141):=⟨_,rfl⟩
   rw[← hW2ac]
   have xW2ac:Ext w0 W2ac:=by rw[hW2ac];exact xW1a.alloc _
   have hl1:Blk W2ac W1a.heap.size #[.string e.key,.string e.value,.int .i64 e.chain,.int .i64 e.size] 141:=by rw[hW2ac];exact Blk.new W1a _ _
   have zW2ac:W1a.heap.size<W2ac.heap.size:=by rw[hW2ac];simp
   have hl0:=hl0.ext (show Ext W1a W2ac by rw[hW2ac];exact (Mods.refl _ _).alloc _)
   clear hW2ac
   have n1:=(HBX.out.ext' xW2ac).box.cell (o:=1) (v:=.slice ea es.length ec) rfl
   have nf:=(HBX.out.ext' xW2ac).box.frozen
   refine wpAnyH_ready (rs:=[3]) (by kernel_rfl) (by simp) ?_
   refine AllReadyH.cons (o:=⟨some 8,_,_,_,_,_⟩) rfl (λK hK=>?_) AllReadyH.nil
   go_simp
   refine hK.out _ _ (by first|exact (HBX.out.ext' xW2ac).elt.ents|go_keep) (λhHeld=>?_)
   clear hK
   try go_frame
   refine wpAnyH_ready (rs:=[4]) (by kernel_rfl) (by simp) ?_
   refine AllReadyH.cons (o:=⟨some 9,_,_,_,_,_⟩) rfl (λK hK=>?_) AllReadyH.nil
   refine step_app2 Tryz.elE encE_ok (by rfl) _ _ (by rfl) w0.heap.size (.slice (some ⟨Wd.heap.size,0,none⟩) 0 0) (.slice ea es.length ec) [] es (by rfl) (by rfl) (Own.lit 4 encE encE_ok.len hl0 (by have:=xWd.size;omega)) (HSE.out.ext xW2ac) (by simp only[List.length_nil];omega) (by have:=xW2ac.size;omega) (λf=>f) ?_
   rw[List.nil_append,List.length_nil,Nat.zero_add]
   intro a1 c1 W3aclb hO1 hm1 hat1
   have xW3aclb:Ext w0 W3aclb:=Mods.past xW2ac (hm1.mono (λk hk=>by simp[Value.ownBlock] at hk;have:=xWd.size;omega))
   have hl1:=hl1.mods hm1 (λhk=>by simp[Value.ownBlock] at hk;omega)
   have n1:=(HBX.out.ext' xW3aclb).box.cell (o:=1) (v:=.slice ea es.length ec) rfl
   have nf:=(HBX.out.ext' xW3aclb).box.frozen
   refine hK.out _ _ (by first|exact (HBX.out.ext' xW3aclb).elt.ents|go_keep) (λhHeld=>?_)
   clear hK
   try go_frame
   refine wpAnyH_ready (rs:=[7]) (by kernel_rfl) (by simp) ?_
   refine AllReadyH.cons (o:=⟨some 12,_,_,_,_,_⟩) rfl (λK hK=>?_) AllReadyH.nil
   refine step_app2 Tryz.elE encE_ok (by rfl) _ _ (by rfl) w0.heap.size (.slice a1 es.length c1) (.slice (some ⟨W1a.heap.size,0,none⟩) 1 1) es [e] (by rfl) (by rfl) hO1 (Sl.one (F:=λ_=>False) (x:=e) (enc:=encE) (sz:=4) hl1 (λf=>f)) (by simp only[List.length_singleton];omega) (by have:=xW3aclb.size;omega) (λf=>f) ?_
   rw[List.length_singleton]
   intro a2 c2 W4aclbd hO2 hm2 hat2
   have xW4aclbd:Ext w0 W4aclbd:=Mods.past xW3aclb (hm2.mono (λk hk=>(hO1.lt k hk).1))
   have n1:=(HBX.out.ext' xW4aclbd).box.cell (o:=1) (v:=.slice ea es.length ec) rfl
   have nf:=(HBX.out.ext' xW4aclbd).box.frozen
   refine hK.out _ _ (by first|exact (HBX.out.ext' xW4aclbd).elt.ents|go_keep) (λhHeld=>?_)
   clear hK
   try go_frame
   refine wpAnyH_take (i:=8) (oi:=⟨some 13,_,_,_,_,_⟩) (v:=?_) rfl (by kernel_rfl) (by kernel_rfl) (by kernel_rfl) (λ_ _ _ h=>h) (Or.inl ⟨by rfl,?_⟩) (by assumption) ?_
   rotate_left
   ·intro w hSw;(try dsimp only at hSw);go_simp;(try (with_reducible rfl))
   rotate_left
   try go_frame
   refine wpAnyH_take (i:=9) (oi:=⟨some 14,_,_,_,_,_⟩) (v:=?_) rfl (by kernel_rfl) (by kernel_rfl) (by kernel_rfl) (λ_ _ _ h=>h) (Or.inl ⟨by rfl,?_⟩) (by assumption) ?_
   rotate_left
   ·intro w hSw;(try dsimp only at hSw);go_simp;(try (with_reducible rfl))
   rotate_left
   try go_frame
   refine wpAnyH_ready (rs:=[10]) (by kernel_rfl) (by simp) ?_
   refine AllReadyH.cons (o:=⟨none,_,_,_,_,_⟩) rfl (λK hK=>?_) AllReadyH.nil
   go_simp
   refine hK.out _ _ (by first|exact ((HBX.out.ext' xW4aclbd).putE (HBL.out) hO2).elt.ents|go_keep) (λhHeld=>?_)
   clear hK
   try go_frame
   have hfin:=(HBX.out.ext' xW4aclbd).putE (HBL.out) hO2
   refine wpAnyH_done (by kernel_rfl) ?_ _
   have HFIN:=Lib.hid hfin
   clear hfin hO1 hO2
   go_wp2_with fail
   go_meet
   exact⟨a2,c2,HFIN⟩
  refine AllReadyH.cons (o:=⟨some 8,_,_,_,_,_⟩) rfl (λK hK=>?_) ?_
  ·skip
   go_simp
   refine hK.out _ _ (by first|exact (HBX.out.ext' xWd).elt.ents|go_keep) (λhHeld=>?_)
   clear hK
   try go_frame
   refine wpAnyH_ready (rs:=[0,6]) (by kernel_rfl) (by simp) ?_
   refine AllReadyH.cons (o:=⟨some 5,_,_,_,_,_⟩) rfl (λK hK=>?_) ?_
   ·skip
    go_simp
    refine hK.out _ _ (by first|exact (HBX.out.ext' (xWd.alloc _)).elt.ents|go_keep) (λhHeld=>?_)
    clear hK
    try go_frame
    obtain⟨W1la,hW1la⟩:∃W,W=Wd.alloc (.cells #[] 141):=⟨_,rfl⟩
    rw[← hW1la]
    have xW1la:Ext w0 W1la:=by rw[hW1la];exact xWd.alloc _
    have hl0:Blk W1la Wd.heap.size #[] 141:=by rw[hW1la];exact Blk.new Wd _ _
    have zW1la:Wd.heap.size<W1la.heap.size:=by rw[hW1la];simp
    clear hW1la
    have n1:=(HBX.out.ext' xW1la).box.cell (o:=1) (v:=.slice ea es.length ec) rfl
    have nf:=(HBX.out.ext' xW1la).box.frozen
    refine wpAnyH_ready (rs:=[4,6]) (by kernel_rfl) (by simp) ?_
    refine AllReadyH.cons (o:=⟨some 9,_,_,_,_,_⟩) rfl (λK hK=>?_) ?_
    ·skip
     refine step_app2 Tryz.elE encE_ok (by rfl) _ _ (by rfl) w0.heap.size (.slice (some ⟨Wd.heap.size,0,none⟩) 0 0) (.slice ea es.length ec) [] es (by rfl) (by rfl) (Own.lit 4 encE encE_ok.len hl0 (by have:=xWd.size;omega)) (HSE.out.ext xW1la) (by simp only[List.length_nil];omega) (by have:=xW1la.size;omega) (λf=>f) ?_
     rw[List.nil_append,List.length_nil,Nat.zero_add]
     intro a1 c1 W2lab hO1 hm1 hat1
     have xW2lab:Ext w0 W2lab:=Mods.past xW1la (hm1.mono (λk hk=>by simp[Value.ownBlock] at hk;have:=xWd.size;omega))
     have n1:=(HBX.out.ext' xW2lab).box.cell (o:=1) (v:=.slice ea es.length ec) rfl
     have nf:=(HBX.out.ext' xW2lab).box.frozen
     refine hK.out _ _ (by first|exact (HBX.out.ext' xW2lab).elt.ents|go_keep) (λhHeld=>?_)
     clear hK
     try go_frame
     refine wpAnyH_ready (rs:=[6]) (by kernel_rfl) (by simp) ?_
     refine AllReadyH.cons (o:=⟨some 11,_,_,_,_,_⟩) rfl (λK hK=>?_) AllReadyH.nil
     go_simp
     refine hK.out _ _ (by first|exact (HBX.out.ext' (xW2lab.alloc _)).elt.ents|go_keep) (λhHeld=>?_)
     clear hK
     try go_frame
     obtain⟨W3labc,hW3labc⟩:∃W,W=W2lab.alloc (.cells #[.string e.key,.string e.value,.int .i64 e.chain,.int .i64 e.size] 141):=⟨_,rfl⟩
     rw[← hW3labc]
     have xW3labc:Ext w0 W3labc:=by rw[hW3labc];exact xW2lab.alloc _
     have hl1:Blk W3labc W2lab.heap.size #[.string e.key,.string e.value,.int .i64 e.chain,.int .i64 e.size] 141:=by rw[hW3labc];exact Blk.new W2lab _ _
     have zW3labc:W2lab.heap.size<W3labc.heap.size:=by rw[hW3labc];simp
     have hO1:=hO1.ext (show Ext W2lab W3labc by rw[hW3labc];exact (Mods.refl _ _).alloc _)
     clear hW3labc
     have n1:=(HBX.out.ext' xW3labc).box.cell (o:=1) (v:=.slice ea es.length ec) rfl
     have nf:=(HBX.out.ext' xW3labc).box.frozen
     refine wpAnyH_ready (rs:=[7]) (by kernel_rfl) (by simp) ?_
     refine AllReadyH.cons (o:=⟨some 12,_,_,_,_,_⟩) rfl (λK hK=>?_) AllReadyH.nil
     refine step_app2 Tryz.elE encE_ok (by rfl) _ _ (by rfl) w0.heap.size (.slice a1 es.length c1) (.slice (some ⟨W2lab.heap.size,0,none⟩) 1 1) es [e] (by rfl) (by rfl) hO1 (Sl.one (F:=λ_=>False) (x:=e) (enc:=encE) (sz:=4) hl1 (λf=>f)) (by simp only[List.length_singleton];omega) (by have:=xW3labc.size;omega) (λf=>f) ?_
     rw[List.length_singleton]
     intro a2 c2 W4labcd hO2 hm2 hat2
     have xW4labcd:Ext w0 W4labcd:=Mods.past xW3labc (hm2.mono (λk hk=>(hO1.lt k hk).1))
     have n1:=(HBX.out.ext' xW4labcd).box.cell (o:=1) (v:=.slice ea es.length ec) rfl
     have nf:=(HBX.out.ext' xW4labcd).box.frozen
     refine hK.out _ _ (by first|exact (HBX.out.ext' xW4labcd).elt.ents|go_keep) (λhHeld=>?_)
     clear hK
     try go_frame
     refine wpAnyH_take (i:=8) (oi:=⟨some 13,_,_,_,_,_⟩) (v:=?_) rfl (by kernel_rfl) (by kernel_rfl) (by kernel_rfl) (λ_ _ _ h=>h) (Or.inl ⟨by rfl,?_⟩) (by assumption) ?_
     rotate_left
     ·intro w hSw;(try dsimp only at hSw);go_simp;(try (with_reducible rfl))
     rotate_left
     try go_frame
     refine wpAnyH_take (i:=9) (oi:=⟨some 14,_,_,_,_,_⟩) (v:=?_) rfl (by kernel_rfl) (by kernel_rfl) (by kernel_rfl) (λ_ _ _ h=>h) (Or.inl ⟨by rfl,?_⟩) (by assumption) ?_
     rotate_left
     ·intro w hSw;(try dsimp only at hSw);go_simp;(try (with_reducible rfl))
     rotate_left
     try go_frame
     refine wpAnyH_ready (rs:=[10]) (by kernel_rfl) (by simp) ?_
     refine AllReadyH.cons (o:=⟨none,_,_,_,_,_⟩) rfl (λK hK=>?_) AllReadyH.nil
     go_simp
     refine hK.out _ _ (by first|exact ((HBX.out.ext' xW4labcd).putE (HBL.out) hO2).elt.ents|go_keep) (λhHeld=>?_)
     clear hK
     try go_frame
     have hfin:=(HBX.out.ext' xW4labcd).putE (HBL.out) hO2
     refine wpAnyH_done (by kernel_rfl) ?_ _
     have HFIN:=Lib.hid hfin
     clear hfin hO1 hO2
     go_wp2_with fail
     go_meet
     exact⟨a2,c2,HFIN⟩
    refine AllReadyH.cons (o:=⟨some 11,_,_,_,_,_⟩) rfl (λK hK=>?_) AllReadyH.nil
    go_simp
    refine hK.out _ _ (by first|exact (HBX.out.ext' (xW1la.alloc _)).elt.ents|go_keep) (λhHeld=>?_)
    clear hK
    try go_frame
    obtain⟨W2lac,hW2lac⟩:∃W,W=W1la.alloc (.cells #[.string e.key,.string e.value,.int .i64 e.chain,.int .i64 e.size] 141):=⟨_,rfl⟩
    rw[← hW2lac]
    have xW2lac:Ext w0 W2lac:=by rw[hW2lac];exact xW1la.alloc _
    have hl1:Blk W2lac W1la.heap.size #[.string e.key,.string e.value,.int .i64 e.chain,.int .i64 e.size] 141:=by rw[hW2lac];exact Blk.new W1la _ _
    have zW2lac:W1la.heap.size<W2lac.heap.size:=by rw[hW2lac];simp
    have hl0:=hl0.ext (show Ext W1la W2lac by rw[hW2lac];exact (Mods.refl _ _).alloc _)
    clear hW2lac
    have n1:=(HBX.out.ext' xW2lac).box.cell (o:=1) (v:=.slice ea es.length ec) rfl
    have nf:=(HBX.out.ext' xW2lac).box.frozen
    refine wpAnyH_ready (rs:=[4]) (by kernel_rfl) (by simp) ?_
    refine AllReadyH.cons (o:=⟨some 9,_,_,_,_,_⟩) rfl (λK hK=>?_) AllReadyH.nil
    refine step_app2 Tryz.elE encE_ok (by rfl) _ _ (by rfl) w0.heap.size (.slice (some ⟨Wd.heap.size,0,none⟩) 0 0) (.slice ea es.length ec) [] es (by rfl) (by rfl) (Own.lit 4 encE encE_ok.len hl0 (by have:=xWd.size;omega)) (HSE.out.ext xW2lac) (by simp only[List.length_nil];omega) (by have:=xW2lac.size;omega) (λf=>f) ?_
    rw[List.nil_append,List.length_nil,Nat.zero_add]
    intro a1 c1 W3lacb hO1 hm1 hat1
    have xW3lacb:Ext w0 W3lacb:=Mods.past xW2lac (hm1.mono (λk hk=>by simp[Value.ownBlock] at hk;have:=xWd.size;omega))
    have hl1:=hl1.mods hm1 (λhk=>by simp[Value.ownBlock] at hk;omega)
    have n1:=(HBX.out.ext' xW3lacb).box.cell (o:=1) (v:=.slice ea es.length ec) rfl
    have nf:=(HBX.out.ext' xW3lacb).box.frozen
    refine hK.out _ _ (by first|exact (HBX.out.ext' xW3lacb).elt.ents|go_keep) (λhHeld=>?_)
    clear hK
    try go_frame
    refine wpAnyH_ready (rs:=[7]) (by kernel_rfl) (by simp) ?_
    refine AllReadyH.cons (o:=⟨some 12,_,_,_,_,_⟩) rfl (λK hK=>?_) AllReadyH.nil
    refine step_app2 Tryz.elE encE_ok (by rfl) _ _ (by rfl) w0.heap.size (.slice a1 es.length c1) (.slice (some ⟨W1la.heap.size,0,none⟩) 1 1) es [e] (by rfl) (by rfl) hO1 (Sl.one (F:=λ_=>False) (x:=e) (enc:=encE) (sz:=4) hl1 (λf=>f)) (by simp only[List.length_singleton];omega) (by have:=xW3lacb.size;omega) (λf=>f) ?_
    rw[List.length_singleton]
    intro a2 c2 W4lacbd hO2 hm2 hat2
    have xW4lacbd:Ext w0 W4lacbd:=Mods.past xW3lacb (hm2.mono (λk hk=>(hO1.lt k hk).1))
    have n1:=(HBX.out.ext' xW4lacbd).box.cell (o:=1) (v:=.slice ea es.length ec) rfl
    have nf:=(HBX.out.ext' xW4lacbd).box.frozen
    refine hK.out _ _ (by first|exact (HBX.out.ext' xW4lacbd).elt.ents|go_keep) (λhHeld=>?_)
    clear hK
    try go_frame
    refine wpAnyH_take (i:=8) (oi:=⟨some 13,_,_,_,_,_⟩) (v:=?_) rfl (by kernel_rfl) (by kernel_rfl) (by kernel_rfl) (λ_ _ _ h=>h) (Or.inl ⟨by rfl,?_⟩) (by assumption) ?_
    rotate_left
    ·intro w hSw;(try dsimp only at hSw);go_simp;(try (with_reducible rfl))
    rotate_left
    try go_frame
    refine wpAnyH_take (i:=9) (oi:=⟨some 14,_,_,_,_,_⟩) (v:=?_) rfl (by kernel_rfl) (by kernel_rfl) (by kernel_rfl) (λ_ _ _ h=>h) (Or.inl ⟨by rfl,?_⟩) (by assumption) ?_
    rotate_left
    ·intro w hSw;(try dsimp only at hSw);go_simp;(try (with_reducible rfl))
    rotate_left
    try go_frame
    refine wpAnyH_ready (rs:=[10]) (by kernel_rfl) (by simp) ?_
    refine AllReadyH.cons (o:=⟨none,_,_,_,_,_⟩) rfl (λK hK=>?_) AllReadyH.nil
    go_simp
    refine hK.out _ _ (by first|exact ((HBX.out.ext' xW4lacbd).putE (HBL.out) hO2).elt.ents|go_keep) (λhHeld=>?_)
    clear hK
    try go_frame
    have hfin:=(HBX.out.ext' xW4lacbd).putE (HBL.out) hO2
    refine wpAnyH_done (by kernel_rfl) ?_ _
    have HFIN:=Lib.hid hfin
    clear hfin hO1 hO2
    go_wp2_with fail
    go_meet
    exact⟨a2,c2,HFIN⟩
   refine AllReadyH.cons (o:=⟨some 11,_,_,_,_,_⟩) rfl (λK hK=>?_) AllReadyH.nil
   go_simp
   refine hK.out _ _ (by first|exact (HBX.out.ext' (xWd.alloc _)).elt.ents|go_keep) (λhHeld=>?_)
   clear hK
   try go_frame
   obtain⟨W1lc,hW1lc⟩:∃W,W=Wd.alloc (.cells #[.string e.key,.string e.value,.int .i64 e.chain,.int .i64 e.size] 141):=⟨_,rfl⟩
   rw[← hW1lc]
   have xW1lc:Ext w0 W1lc:=by rw[hW1lc];exact xWd.alloc _
   have hl1:Blk W1lc Wd.heap.size #[.string e.key,.string e.value,.int .i64 e.chain,.int .i64 e.size] 141:=by rw[hW1lc];exact Blk.new Wd _ _
   have zW1lc:Wd.heap.size<W1lc.heap.size:=by rw[hW1lc];simp
   clear hW1lc
   have n1:=(HBX.out.ext' xW1lc).box.cell (o:=1) (v:=.slice ea es.length ec) rfl
   have nf:=(HBX.out.ext' xW1lc).box.frozen
   refine wpAnyH_ready (rs:=[0]) (by kernel_rfl) (by simp) ?_
   refine AllReadyH.cons (o:=⟨some 5,_,_,_,_,_⟩) rfl (λK hK=>?_) AllReadyH.nil
   go_simp
   refine hK.out _ _ (by first|exact (HBX.out.ext' (xW1lc.alloc _)).elt.ents|go_keep) (λhHeld=>?_)
   clear hK
   try go_frame
   obtain⟨W2lca,hW2lca⟩:∃W,W=W1lc.alloc (.cells #[] 141):=⟨_,rfl⟩
   rw[← hW2lca]
   have xW2lca:Ext w0 W2lca:=by rw[hW2lca];exact xW1lc.alloc _
   have hl0:Blk W2lca W1lc.heap.size #[] 141:=by rw[hW2lca];exact Blk.new W1lc _ _
   have zW2lca:W1lc.heap.size<W2lca.heap.size:=by rw[hW2lca];simp
   have hl1:=hl1.ext (show Ext W1lc W2lca by rw[hW2lca];exact (Mods.refl _ _).alloc _)
   clear hW2lca
   have n1:=(HBX.out.ext' xW2lca).box.cell (o:=1) (v:=.slice ea es.length ec) rfl
   have nf:=(HBX.out.ext' xW2lca).box.frozen
   refine wpAnyH_ready (rs:=[4]) (by kernel_rfl) (by simp) ?_
   refine AllReadyH.cons (o:=⟨some 9,_,_,_,_,_⟩) rfl (λK hK=>?_) AllReadyH.nil
   refine step_app2 Tryz.elE encE_ok (by rfl) _ _ (by rfl) w0.heap.size (.slice (some ⟨W1lc.heap.size,0,none⟩) 0 0) (.slice ea es.length ec) [] es (by rfl) (by rfl) (Own.lit 4 encE encE_ok.len hl0 (by have:=xW1lc.size;omega)) (HSE.out.ext xW2lca) (by simp only[List.length_nil];omega) (by have:=xW2lca.size;omega) (λf=>f) ?_
   rw[List.nil_append,List.length_nil,Nat.zero_add]
   intro a1 c1 W3lcab hO1 hm1 hat1
   have xW3lcab:Ext w0 W3lcab:=Mods.past xW2lca (hm1.mono (λk hk=>by simp[Value.ownBlock] at hk;have:=xW1lc.size;omega))
   have hl1:=hl1.mods hm1 (λhk=>by simp[Value.ownBlock] at hk;omega)
   have n1:=(HBX.out.ext' xW3lcab).box.cell (o:=1) (v:=.slice ea es.length ec) rfl
   have nf:=(HBX.out.ext' xW3lcab).box.frozen
   refine hK.out _ _ (by first|exact (HBX.out.ext' xW3lcab).elt.ents|go_keep) (λhHeld=>?_)
   clear hK
   try go_frame
   refine wpAnyH_ready (rs:=[7]) (by kernel_rfl) (by simp) ?_
   refine AllReadyH.cons (o:=⟨some 12,_,_,_,_,_⟩) rfl (λK hK=>?_) AllReadyH.nil
   refine step_app2 Tryz.elE encE_ok (by rfl) _ _ (by rfl) w0.heap.size (.slice a1 es.length c1) (.slice (some ⟨Wd.heap.size,0,none⟩) 1 1) es [e] (by rfl) (by rfl) hO1 (Sl.one (F:=λ_=>False) (x:=e) (enc:=encE) (sz:=4) hl1 (λf=>f)) (by simp only[List.length_singleton];omega) (by have:=xW3lcab.size;omega) (λf=>f) ?_
   rw[List.length_singleton]
   intro a2 c2 W4lcabd hO2 hm2 hat2
   have xW4lcabd:Ext w0 W4lcabd:=Mods.past xW3lcab (hm2.mono (λk hk=>(hO1.lt k hk).1))
   have n1:=(HBX.out.ext' xW4lcabd).box.cell (o:=1) (v:=.slice ea es.length ec) rfl
   have nf:=(HBX.out.ext' xW4lcabd).box.frozen
   refine hK.out _ _ (by first|exact (HBX.out.ext' xW4lcabd).elt.ents|go_keep) (λhHeld=>?_)
   clear hK
   try go_frame
   refine wpAnyH_take (i:=8) (oi:=⟨some 13,_,_,_,_,_⟩) (v:=?_) rfl (by kernel_rfl) (by kernel_rfl) (by kernel_rfl) (λ_ _ _ h=>h) (Or.inl ⟨by rfl,?_⟩) (by assumption) ?_
   rotate_left
   ·intro w hSw;(try dsimp only at hSw);go_simp;(try (with_reducible rfl))
   rotate_left
   try go_frame
   refine wpAnyH_take (i:=9) (oi:=⟨some 14,_,_,_,_,_⟩) (v:=?_) rfl (by kernel_rfl) (by kernel_rfl) (by kernel_rfl) (λ_ _ _ h=>h) (Or.inl ⟨by rfl,?_⟩) (by assumption) ?_
   rotate_left
   ·intro w hSw;(try dsimp only at hSw);go_simp;(try (with_reducible rfl))
   rotate_left
   try go_frame
   refine wpAnyH_ready (rs:=[10]) (by kernel_rfl) (by simp) ?_
   refine AllReadyH.cons (o:=⟨none,_,_,_,_,_⟩) rfl (λK hK=>?_) AllReadyH.nil
   go_simp
   refine hK.out _ _ (by first|exact ((HBX.out.ext' xW4lcabd).putE (HBL.out) hO2).elt.ents|go_keep) (λhHeld=>?_)
   clear hK
   try go_frame
   have hfin:=(HBX.out.ext' xW4lcabd).putE (HBL.out) hO2
   refine wpAnyH_done (by kernel_rfl) ?_ _
   have HFIN:=Lib.hid hfin
   clear hfin hO1 hO2
   go_wp2_with fail
   go_meet
   exact⟨a2,c2,HFIN⟩
  refine AllReadyH.cons (o:=⟨some 11,_,_,_,_,_⟩) rfl (λK hK=>?_) AllReadyH.nil
  go_simp
  refine hK.out _ _ (by first|exact (HBX.out.ext' (xWd.alloc _)).elt.ents|go_keep) (λhHeld=>?_)
  clear hK
  try go_frame
  obtain⟨W1c,hW1c⟩:∃W,W=Wd.alloc (.cells #[.string e.key,.string e.value,.int .i64 e.chain,.int .i64 e.size] 141):=⟨_,rfl⟩
  rw[← hW1c]
  have xW1c:Ext w0 W1c:=by rw[hW1c];exact xWd.alloc _
  have hl1:Blk W1c Wd.heap.size #[.string e.key,.string e.value,.int .i64 e.chain,.int .i64 e.size] 141:=by rw[hW1c];exact Blk.new Wd _ _
  have zW1c:Wd.heap.size<W1c.heap.size:=by rw[hW1c];simp
  clear hW1c
  have n1:=(HBX.out.ext' xW1c).box.cell (o:=1) (v:=.slice ea es.length ec) rfl
  have nf:=(HBX.out.ext' xW1c).box.frozen
  refine wpAnyH_ready (rs:=[0,3]) (by kernel_rfl) (by simp) ?_
  refine AllReadyH.cons (o:=⟨some 5,_,_,_,_,_⟩) rfl (λK hK=>?_) ?_
  ·skip
   go_simp
   refine hK.out _ _ (by first|exact (HBX.out.ext' (xW1c.alloc _)).elt.ents|go_keep) (λhHeld=>?_)
   clear hK
   try go_frame
   obtain⟨W2ca,hW2ca⟩:∃W,W=W1c.alloc (.cells #[] 141):=⟨_,rfl⟩
   rw[← hW2ca]
   have xW2ca:Ext w0 W2ca:=by rw[hW2ca];exact xW1c.alloc _
   have hl0:Blk W2ca W1c.heap.size #[] 141:=by rw[hW2ca];exact Blk.new W1c _ _
   have zW2ca:W1c.heap.size<W2ca.heap.size:=by rw[hW2ca];simp
   have hl1:=hl1.ext (show Ext W1c W2ca by rw[hW2ca];exact (Mods.refl _ _).alloc _)
   clear hW2ca
   have n1:=(HBX.out.ext' xW2ca).box.cell (o:=1) (v:=.slice ea es.length ec) rfl
   have nf:=(HBX.out.ext' xW2ca).box.frozen
   refine wpAnyH_ready (rs:=[3]) (by kernel_rfl) (by simp) ?_
   refine AllReadyH.cons (o:=⟨some 8,_,_,_,_,_⟩) rfl (λK hK=>?_) AllReadyH.nil
   go_simp
   refine hK.out _ _ (by first|exact (HBX.out.ext' xW2ca).elt.ents|go_keep) (λhHeld=>?_)
   clear hK
   try go_frame
   refine wpAnyH_ready (rs:=[4]) (by kernel_rfl) (by simp) ?_
   refine AllReadyH.cons (o:=⟨some 9,_,_,_,_,_⟩) rfl (λK hK=>?_) AllReadyH.nil
   refine step_app2 Tryz.elE encE_ok (by rfl) _ _ (by rfl) w0.heap.size (.slice (some ⟨W1c.heap.size,0,none⟩) 0 0) (.slice ea es.length ec) [] es (by rfl) (by rfl) (Own.lit 4 encE encE_ok.len hl0 (by have:=xW1c.size;omega)) (HSE.out.ext xW2ca) (by simp only[List.length_nil];omega) (by have:=xW2ca.size;omega) (λf=>f) ?_
   rw[List.nil_append,List.length_nil,Nat.zero_add]
   intro a1 c1 W3calb hO1 hm1 hat1
   have xW3calb:Ext w0 W3calb:=Mods.past xW2ca (hm1.mono (λk hk=>by simp[Value.ownBlock] at hk;have:=xW1c.size;omega))
   have hl1:=hl1.mods hm1 (λhk=>by simp[Value.ownBlock] at hk;omega)
   have n1:=(HBX.out.ext' xW3calb).box.cell (o:=1) (v:=.slice ea es.length ec) rfl
   have nf:=(HBX.out.ext' xW3calb).box.frozen
   refine hK.out _ _ (by first|exact (HBX.out.ext' xW3calb).elt.ents|go_keep) (λhHeld=>?_)
   clear hK
   try go_frame
   refine wpAnyH_ready (rs:=[7]) (by kernel_rfl) (by simp) ?_
   refine AllReadyH.cons (o:=⟨some 12,_,_,_,_,_⟩) rfl (λK hK=>?_) AllReadyH.nil
   refine step_app2 Tryz.elE encE_ok (by rfl) _ _ (by rfl) w0.heap.size (.slice a1 es.length c1) (.slice (some ⟨Wd.heap.size,0,none⟩) 1 1) es [e] (by rfl) (by rfl) hO1 (Sl.one (F:=λ_=>False) (x:=e) (enc:=encE) (sz:=4) hl1 (λf=>f)) (by simp only[List.length_singleton];omega) (by have:=xW3calb.size;omega) (λf=>f) ?_
   rw[List.length_singleton]
   intro a2 c2 W4calbd hO2 hm2 hat2
   have xW4calbd:Ext w0 W4calbd:=Mods.past xW3calb (hm2.mono (λk hk=>(hO1.lt k hk).1))
   have n1:=(HBX.out.ext' xW4calbd).box.cell (o:=1) (v:=.slice ea es.length ec) rfl
   have nf:=(HBX.out.ext' xW4calbd).box.frozen
   refine hK.out _ _ (by first|exact (HBX.out.ext' xW4calbd).elt.ents|go_keep) (λhHeld=>?_)
   clear hK
   try go_frame
   refine wpAnyH_take (i:=8) (oi:=⟨some 13,_,_,_,_,_⟩) (v:=?_) rfl (by kernel_rfl) (by kernel_rfl) (by kernel_rfl) (λ_ _ _ h=>h) (Or.inl ⟨by rfl,?_⟩) (by assumption) ?_
   rotate_left
   ·intro w hSw;(try dsimp only at hSw);go_simp;(try (with_reducible rfl))
   rotate_left
   try go_frame
   refine wpAnyH_take (i:=9) (oi:=⟨some 14,_,_,_,_,_⟩) (v:=?_) rfl (by kernel_rfl) (by kernel_rfl) (by kernel_rfl) (λ_ _ _ h=>h) (Or.inl ⟨by rfl,?_⟩) (by assumption) ?_
   rotate_left
   ·intro w hSw;(try dsimp only at hSw);go_simp;(try (with_reducible rfl))
   rotate_left
   try go_frame
   refine wpAnyH_ready (rs:=[10]) (by kernel_rfl) (by simp) ?_
   refine AllReadyH.cons (o:=⟨none,_,_,_,_,_⟩) rfl (λK hK=>?_) AllReadyH.nil
   go_simp
   refine hK.out _ _ (by first|exact ((HBX.out.ext' xW4calbd).putE (HBL.out) hO2).elt.ents|go_keep) (λhHeld=>?_)
   clear hK
   try go_frame
   have hfin:=(HBX.out.ext' xW4calbd).putE (HBL.out) hO2
   refine wpAnyH_done (by kernel_rfl) ?_ _
   have HFIN:=Lib.hid hfin
   clear hfin hO1 hO2
   go_wp2_with fail
   go_meet
   exact⟨a2,c2,HFIN⟩
  refine AllReadyH.cons (o:=⟨some 8,_,_,_,_,_⟩) rfl (λK hK=>?_) AllReadyH.nil
  go_simp
  refine hK.out _ _ (by first|exact (HBX.out.ext' xW1c).elt.ents|go_keep) (λhHeld=>?_)
  clear hK
  try go_frame
  refine wpAnyH_ready (rs:=[0]) (by kernel_rfl) (by simp) ?_
  refine AllReadyH.cons (o:=⟨some 5,_,_,_,_,_⟩) rfl (λK hK=>?_) AllReadyH.nil
  go_simp
  refine hK.out _ _ (by first|exact (HBX.out.ext' (xW1c.alloc _)).elt.ents|go_keep) (λhHeld=>?_)
  clear hK
  try go_frame
  obtain⟨W2cla,hW2cla⟩:∃W,W=W1c.alloc (.cells #[] 141):=⟨_,rfl⟩
  rw[← hW2cla]
  have xW2cla:Ext w0 W2cla:=by rw[hW2cla];exact xW1c.alloc _
  have hl0:Blk W2cla W1c.heap.size #[] 141:=by rw[hW2cla];exact Blk.new W1c _ _
  have zW2cla:W1c.heap.size<W2cla.heap.size:=by rw[hW2cla];simp
  have hl1:=hl1.ext (show Ext W1c W2cla by rw[hW2cla];exact (Mods.refl _ _).alloc _)
  clear hW2cla
  have n1:=(HBX.out.ext' xW2cla).box.cell (o:=1) (v:=.slice ea es.length ec) rfl
  have nf:=(HBX.out.ext' xW2cla).box.frozen
  refine wpAnyH_ready (rs:=[4]) (by kernel_rfl) (by simp) ?_
  refine AllReadyH.cons (o:=⟨some 9,_,_,_,_,_⟩) rfl (λK hK=>?_) AllReadyH.nil
  refine step_app2 Tryz.elE encE_ok (by rfl) _ _ (by rfl) w0.heap.size (.slice (some ⟨W1c.heap.size,0,none⟩) 0 0) (.slice ea es.length ec) [] es (by rfl) (by rfl) (Own.lit 4 encE encE_ok.len hl0 (by have:=xW1c.size;omega)) (HSE.out.ext xW2cla) (by simp only[List.length_nil];omega) (by have:=xW2cla.size;omega) (λf=>f) ?_
  rw[List.nil_append,List.length_nil,Nat.zero_add]
  intro a1 c1 W3clab hO1 hm1 hat1
  have xW3clab:Ext w0 W3clab:=Mods.past xW2cla (hm1.mono (λk hk=>by simp[Value.ownBlock] at hk;have:=xW1c.size;omega))
  have hl1:=hl1.mods hm1 (λhk=>by simp[Value.ownBlock] at hk;omega)
  have n1:=(HBX.out.ext' xW3clab).box.cell (o:=1) (v:=.slice ea es.length ec) rfl
  have nf:=(HBX.out.ext' xW3clab).box.frozen
  refine hK.out _ _ (by first|exact (HBX.out.ext' xW3clab).elt.ents|go_keep) (λhHeld=>?_)
  clear hK
  try go_frame
  refine wpAnyH_ready (rs:=[7]) (by kernel_rfl) (by simp) ?_
  refine AllReadyH.cons (o:=⟨some 12,_,_,_,_,_⟩) rfl (λK hK=>?_) AllReadyH.nil
  refine step_app2 Tryz.elE encE_ok (by rfl) _ _ (by rfl) w0.heap.size (.slice a1 es.length c1) (.slice (some ⟨Wd.heap.size,0,none⟩) 1 1) es [e] (by rfl) (by rfl) hO1 (Sl.one (F:=λ_=>False) (x:=e) (enc:=encE) (sz:=4) hl1 (λf=>f)) (by simp only[List.length_singleton];omega) (by have:=xW3clab.size;omega) (λf=>f) ?_
  rw[List.length_singleton]
  intro a2 c2 W4clabd hO2 hm2 hat2
  have xW4clabd:Ext w0 W4clabd:=Mods.past xW3clab (hm2.mono (λk hk=>(hO1.lt k hk).1))
  have n1:=(HBX.out.ext' xW4clabd).box.cell (o:=1) (v:=.slice ea es.length ec) rfl
  have nf:=(HBX.out.ext' xW4clabd).box.frozen
  refine hK.out _ _ (by first|exact (HBX.out.ext' xW4clabd).elt.ents|go_keep) (λhHeld=>?_)
  clear hK
  try go_frame
  refine wpAnyH_take (i:=8) (oi:=⟨some 13,_,_,_,_,_⟩) (v:=?_) rfl (by kernel_rfl) (by kernel_rfl) (by kernel_rfl) (λ_ _ _ h=>h) (Or.inl ⟨by rfl,?_⟩) (by assumption) ?_
  rotate_left
  ·intro w hSw;(try dsimp only at hSw);go_simp;(try (with_reducible rfl))
  rotate_left
  try go_frame
  refine wpAnyH_take (i:=9) (oi:=⟨some 14,_,_,_,_,_⟩) (v:=?_) rfl (by kernel_rfl) (by kernel_rfl) (by kernel_rfl) (λ_ _ _ h=>h) (Or.inl ⟨by rfl,?_⟩) (by assumption) ?_
  rotate_left
  ·intro w hSw;(try dsimp only at hSw);go_simp;(try (with_reducible rfl))
  rotate_left
  try go_frame
  refine wpAnyH_ready (rs:=[10]) (by kernel_rfl) (by simp) ?_
  refine AllReadyH.cons (o:=⟨none,_,_,_,_,_⟩) rfl (λK hK=>?_) AllReadyH.nil
  go_simp
  refine hK.out _ _ (by first|exact ((HBX.out.ext' xW4clabd).putE (HBL.out) hO2).elt.ents|go_keep) (λhHeld=>?_)
  clear hK
  try go_frame
  have hfin:=(HBX.out.ext' xW4clabd).putE (HBL.out) hO2
  refine wpAnyH_done (by kernel_rfl) ?_ _
  have HFIN:=Lib.hid hfin
  clear hfin hO1 hO2
  go_wp2_with fail
  go_meet
  exact⟨a2,c2,HFIN⟩
 case rest =>
  obtain⟨a,c,HB2⟩:=hcut
  have y0:=HB2.out.box.cell (o:=0) rfl
  have y1:=HB2.out.box.cell (o:=1) rfl
  have y2:=HB2.out.box.cell (o:=2) rfl
  have y3:=HB2.out.box.cell (o:=3) rfl
  have y4:=HB2.out.box.cell (o:=4) rfl
  have rf:=HB2.out.res.frozen
  have r0:=HB2.out.res.cell (o:=0) (v:=.bool false) rfl
  have r1:=HB2.out.res.cell (o:=1) (v:=.slice none 0 0) rfl
  have r2:=HB2.out.res.cell (o:=2) (v:=.slice none 0 0) rfl
  have r3:=HB2.out.res.cell (o:=3) (v:=.slice none 0 0) rfl
  have r4:=HB2.out.res.cell (o:=4) (v:=.string ⟨#[]⟩) rfl
  have HRT:=Lib.hid HB2.out.ret
  unfold slV at y1 y2 y3
  go_wp2_with fail
  refine bodyPost_ret (results_cell_row rfl _ _ (X+1+1) 197 _ (0,0) _ rfl HRT.out.1 Tryz.underlying197 rfl Tryz.partSz5) rfl ?_
  exact⟨_,rfl,HRT.out.2.1,HRT.out.2.2⟩
set_option maxHeartbeats 8000000 in
theorem above2_any(ks:List ByteArray)(is:List Int)(id:Int)(key:ByteArray)(ka ia:Option Addr)(kc ic:Nat)(xe:SlT)(s:ByteArray)(b0:Nat)(hx:PtR w b0 ⟨false,xe,(ka,ks.length,kc),(ia,is.length,ic),s⟩ (⟨false,[],ks,is⟩,s))(hb:b0≤w.heap.size)(hn:ks.length≤100000)(hn2:is.length≤100000) :
  Calls Tryz.prog 111 #[.agg #[.bool false,slV xe,.slice ka ks.length kc,.slice ia is.length ic,.string s],.agg #[.int .i64 id,.string key]] w λen w'=>∃v,en=.returned v∧PtO w' b0 v (⟨false,[],ks++[key],is++[id]⟩,s)∧Ext w w':=by
 obtain⟨ea,en,ec⟩:=xe
 unfold slV
 simp only
 obtain⟨X,hX⟩:∃X,X=w.heap.size:=⟨_,rfl⟩
 obtain⟨w0,hw0⟩:∃w0,w0=((w.alloc (.cells #[.bool false,.slice ea en ec,.slice ka ks.length kc,.slice ia is.length ic,.string s] 197)).alloc (.cells #[.int .i64 id,.string key] 151)).alloc (.cells ptZc 197):=⟨_,rfl⟩
 have m0:Ext w w0:=by rw[hw0];exact (((Mods.refl _ w).alloc _).alloc _).alloc _
 have HBX:Hid (PtBox w b0 X #[.int .i64 id,.string key] 151 w0 ⟨false,(ea,en,ec),(ka,ks.length,kc),(ia,is.length,ic),s⟩ (⟨false,[],ks,is⟩,s)):=Lib.hid ⟨m0,by omega,hb,by rw[hw0,hX];exact ((Blk.new w _ _).alloc _).alloc _,by rw[hw0,hX];exact Blk.alloc (heap_at (by simp)) _,by rw[hw0,hX];exact heap_at (by simp),hx.ext m0⟩
 have HSE:Hid (Sl (λ_=>False) w0 1 encI (.slice ia is.length ic) is):=Lib.hid (HBX.out.pt.i.sl encI_ok.len (by show is.length≤_;omega))
 have HBL:Hid (b0≤w0.heap.size):=Lib.hid (Nat.le_trans hb m0.size)
 unfold ptZc at hw0
 have HW0:=Lib.hid hw0
 have HX:=Lib.hid hX
 clear hw0 hx m0 hb hX
 go_enter Tryz.func111, Tryz.ntmps111
 go_wp2_with fail
 rw[← HW0.out,← HX.out]
 go_cut [] (λwx=>∃a c,Hid (PtBox w b0 X #[.int .i64 id,.string key] 151 wx ⟨false,(ea,en,ec),(ka,ks.length,kc),(a,is.length+1,c),s⟩ (⟨false,[],ks,is++[id]⟩,s)))
 case first =>
  refine wp_region_held_drew (S:=(λw'=>w'.cell? ⟨X+1,0,none⟩=some (.int .i64 id))) (by kernel_rfl) ((HBX.out.ext' (Mods.refl _ _).drew).elt.cell (o:=0) (v:=.int .i64 id) rfl) (λhHeld=>?_)
  obtain⟨Wd,hWd⟩:∃W,W=w0.drew:=⟨_,rfl⟩
  rw[← hWd] at hHeld ⊢
  have xWd:Ext w0 Wd:=by rw[hWd];exact (Mods.refl _ _).drew
  clear hWd
  have n1:=(HBX.out.ext' xWd).box.cell (o:=3) (v:=.slice ia is.length ic) rfl
  have nf:=(HBX.out.ext' xWd).box.frozen
  refine wpAnyH_take (i:=1) (oi:=⟨some 6,_,_,_,_,_⟩) (v:=?_) rfl (by kernel_rfl) (by kernel_rfl) (by kernel_rfl) (λ_ _ _ h=>h) (Or.inl ⟨by rfl,?_⟩) (by assumption) ?_
  rotate_left
  ·intro w hSw;(try dsimp only at hSw);go_simp;(try (with_reducible rfl))
  rotate_left
  try go_frame
  refine wpAnyH_take (i:=2) (oi:=⟨some 7,_,_,_,_,_⟩) (v:=?_) rfl (by kernel_rfl) (by kernel_rfl) (by kernel_rfl) (λ_ _ _ h=>h) (Or.inl ⟨by rfl,?_⟩) (by assumption) ?_
  rotate_left
  ·intro w hSw;(try dsimp only at hSw);go_simp;(try (with_reducible rfl))
  rotate_left
  try go_frame
  refine wpAnyH_take (i:=5) (oi:=⟨some 10,_,_,_,_,_⟩) (v:=?_) rfl (by kernel_rfl) (by kernel_rfl) (by kernel_rfl) (λ_ _ _ h=>h) (Or.inl ⟨by rfl,?_⟩) (by assumption) ?_
  rotate_left
  ·intro w hSw;(try dsimp only at hSw);go_simp;(try (with_reducible rfl))
  rotate_left
  try go_frame
  refine wpAnyH_take (i:=6) (oi:=⟨some 11,_,_,_,_,_⟩) (v:=?_) rfl (by kernel_rfl) (by kernel_rfl) (by kernel_rfl) (λ_ _ _ h=>h) (Or.inl ⟨by rfl,?_⟩) (by assumption) ?_
  rotate_left
  ·intro w hSw;(try dsimp only at hSw);go_simp;(try (with_reducible rfl))
  rotate_left
  try go_frame
  refine wpAnyH_ready (rs:=[0,3,7]) (by kernel_rfl) (by simp) ?_
  refine AllReadyH.cons (o:=⟨some 5,_,_,_,_,_⟩) rfl (λK hK=>?_) ?_
  ·skip
   go_simp
   refine hK.out _ _ (by first|exact ((HBX.out.ext' (xWd.alloc _)).elt.cell (o:=0) (v:=.int .i64 id) rfl)|go_keep) (λhHeld=>?_)
   clear hK
   try go_frame
   obtain⟨W1a,hW1a⟩:∃W,W=Wd.alloc (.cells #[] 3):=⟨_,rfl⟩
   rw[← hW1a]
   have xW1a:Ext w0 W1a:=by rw[hW1a];exact xWd.alloc _
   have hl0:Blk W1a Wd.heap.size #[] 3:=by rw[hW1a];exact Blk.new Wd _ _
   have zW1a:Wd.heap.size<W1a.heap.size:=by rw[hW1a];simp
   clear hW1a
   have n1:=(HBX.out.ext' xW1a).box.cell (o:=3) (v:=.slice ia is.length ic) rfl
   have nf:=(HBX.out.ext' xW1a).box.frozen
   refine wpAnyH_ready (rs:=[3,7]) (by kernel_rfl) (by simp) ?_
   refine AllReadyH.cons (o:=⟨some 8,_,_,_,_,_⟩) rfl (λK hK=>?_) ?_
   ·skip
    go_simp
    refine hK.out _ _ (by first|exact ((HBX.out.ext' xW1a).elt.cell (o:=0) (v:=.int .i64 id) rfl)|go_keep) (λhHeld=>?_)
    clear hK
    try go_frame
    refine wpAnyH_ready (rs:=[4,7]) (by kernel_rfl) (by simp) ?_
    refine AllReadyH.cons (o:=⟨some 9,_,_,_,_,_⟩) rfl (λK hK=>?_) ?_
    ·skip
     refine step_app2 Tryz.elI encI_ok (by rfl) _ _ (by rfl) w0.heap.size (.slice (some ⟨Wd.heap.size,0,none⟩) 0 0) (.slice ia is.length ic) [] is (by rfl) (by rfl) (Own.lit 1 encI encI_ok.len hl0 (by have:=xWd.size;omega)) (HSE.out.ext xW1a) (by simp only[List.length_nil];omega) (by have:=xW1a.size;omega) (λf=>f) ?_
     rw[List.nil_append,List.length_nil,Nat.zero_add]
     intro a1 c1 W2alb hO1 hm1 hat1
     have xW2alb:Ext w0 W2alb:=Mods.past xW1a (hm1.mono (λk hk=>by simp[Value.ownBlock] at hk;have:=xWd.size;omega))
     have n1:=(HBX.out.ext' xW2alb).box.cell (o:=3) (v:=.slice ia is.length ic) rfl
     have nf:=(HBX.out.ext' xW2alb).box.frozen
     refine hK.out _ _ (by first|exact ((HBX.out.ext' xW2alb).elt.cell (o:=0) (v:=.int .i64 id) rfl)|go_keep) (λhHeld=>?_)
     clear hK
     try go_frame
     refine wpAnyH_ready (rs:=[7]) (by kernel_rfl) (by simp) ?_
     refine AllReadyH.cons (o:=⟨some 12,_,_,_,_,_⟩) rfl (λK hK=>?_) AllReadyH.nil
     go_simp
     refine hK.out _ _ (by first|exact ((HBX.out.ext' (xW2alb.alloc _)).elt.cell (o:=0) (v:=.int .i64 id) rfl)|go_keep) (λhHeld=>?_)
     clear hK
     try go_frame
     obtain⟨W3albc,hW3albc⟩:∃W,W=W2alb.alloc (.cells #[.int .i64 id] 3):=⟨_,rfl⟩
     rw[← hW3albc]
     have xW3albc:Ext w0 W3albc:=by rw[hW3albc];exact xW2alb.alloc _
     have hl1:Blk W3albc W2alb.heap.size #[.int .i64 id] 3:=by rw[hW3albc];exact Blk.new W2alb _ _
     have zW3albc:W2alb.heap.size<W3albc.heap.size:=by rw[hW3albc];simp
     have hO1:=hO1.ext (show Ext W2alb W3albc by rw[hW3albc];exact (Mods.refl _ _).alloc _)
     clear hW3albc
     have n1:=(HBX.out.ext' xW3albc).box.cell (o:=3) (v:=.slice ia is.length ic) rfl
     have nf:=(HBX.out.ext' xW3albc).box.frozen
     refine wpAnyH_ready (rs:=[8]) (by kernel_rfl) (by simp) ?_
     refine AllReadyH.cons (o:=⟨some 13,_,_,_,_,_⟩) rfl (λK hK=>?_) AllReadyH.nil
     refine step_app2 Tryz.elI encI_ok (by rfl) _ _ (by rfl) w0.heap.size (.slice a1 is.length c1) (.slice (some ⟨W2alb.heap.size,0,none⟩) 1 1) is [id] (by rfl) (by rfl) hO1 (Sl.one (F:=λ_=>False) (x:=id) (enc:=encI) (sz:=1) hl1 (λf=>f)) (by simp only[List.length_singleton];omega) (by have:=xW3albc.size;omega) (λf=>f) ?_
     rw[List.length_singleton]
     intro a2 c2 W4albcd hO2 hm2 hat2
     have xW4albcd:Ext w0 W4albcd:=Mods.past xW3albc (hm2.mono (λk hk=>(hO1.lt k hk).1))
     have n1:=(HBX.out.ext' xW4albcd).box.cell (o:=3) (v:=.slice ia is.length ic) rfl
     have nf:=(HBX.out.ext' xW4albcd).box.frozen
     refine hK.out _ _ (by first|exact ((HBX.out.ext' xW4albcd).elt.cell (o:=0) (v:=.int .i64 id) rfl)|go_keep) (λhHeld=>?_)
     clear hK
     try go_frame
     refine wpAnyH_take (i:=9) (oi:=⟨some 14,_,_,_,_,_⟩) (v:=?_) rfl (by kernel_rfl) (by kernel_rfl) (by kernel_rfl) (λ_ _ _ h=>h) (Or.inl ⟨by rfl,?_⟩) (by assumption) ?_
     rotate_left
     ·intro w hSw;(try dsimp only at hSw);go_simp;(try (with_reducible rfl))
     rotate_left
     try go_frame
     refine wpAnyH_take (i:=10) (oi:=⟨some 15,_,_,_,_,_⟩) (v:=?_) rfl (by kernel_rfl) (by kernel_rfl) (by kernel_rfl) (λ_ _ _ h=>h) (Or.inl ⟨by rfl,?_⟩) (by assumption) ?_
     rotate_left
     ·intro w hSw;(try dsimp only at hSw);go_simp;(try (with_reducible rfl))
     rotate_left
     try go_frame
     refine wpAnyH_ready (rs:=[11]) (by kernel_rfl) (by simp) ?_
     refine AllReadyH.cons (o:=⟨none,_,_,_,_,_⟩) rfl (λK hK=>?_) AllReadyH.nil
     go_simp
     refine hK.out _ _ (by first|exact (((HBX.out.ext' xW4albcd).putI (HBL.out) hO2).elt.cell (o:=0) (v:=.int .i64 id) rfl)|go_keep) (λhHeld=>?_)
     clear hK
     try go_frame
     have hfin:=(HBX.out.ext' xW4albcd).putI (HBL.out) hO2
     refine wpAnyH_done (by kernel_rfl) ?_ _
     have HFIN:=Lib.hid hfin
     clear hfin hO1 hO2
     go_wp2_with fail
     go_meet
     exact⟨a2,c2,HFIN⟩
    refine AllReadyH.cons (o:=⟨some 12,_,_,_,_,_⟩) rfl (λK hK=>?_) AllReadyH.nil
    go_simp
    refine hK.out _ _ (by first|exact ((HBX.out.ext' (xW1a.alloc _)).elt.cell (o:=0) (v:=.int .i64 id) rfl)|go_keep) (λhHeld=>?_)
    clear hK
    try go_frame
    obtain⟨W2alc,hW2alc⟩:∃W,W=W1a.alloc (.cells #[.int .i64 id] 3):=⟨_,rfl⟩
    rw[← hW2alc]
    have xW2alc:Ext w0 W2alc:=by rw[hW2alc];exact xW1a.alloc _
    have hl1:Blk W2alc W1a.heap.size #[.int .i64 id] 3:=by rw[hW2alc];exact Blk.new W1a _ _
    have zW2alc:W1a.heap.size<W2alc.heap.size:=by rw[hW2alc];simp
    have hl0:=hl0.ext (show Ext W1a W2alc by rw[hW2alc];exact (Mods.refl _ _).alloc _)
    clear hW2alc
    have n1:=(HBX.out.ext' xW2alc).box.cell (o:=3) (v:=.slice ia is.length ic) rfl
    have nf:=(HBX.out.ext' xW2alc).box.frozen
    refine wpAnyH_ready (rs:=[4]) (by kernel_rfl) (by simp) ?_
    refine AllReadyH.cons (o:=⟨some 9,_,_,_,_,_⟩) rfl (λK hK=>?_) AllReadyH.nil
    refine step_app2 Tryz.elI encI_ok (by rfl) _ _ (by rfl) w0.heap.size (.slice (some ⟨Wd.heap.size,0,none⟩) 0 0) (.slice ia is.length ic) [] is (by rfl) (by rfl) (Own.lit 1 encI encI_ok.len hl0 (by have:=xWd.size;omega)) (HSE.out.ext xW2alc) (by simp only[List.length_nil];omega) (by have:=xW2alc.size;omega) (λf=>f) ?_
    rw[List.nil_append,List.length_nil,Nat.zero_add]
    intro a1 c1 W3alcb hO1 hm1 hat1
    have xW3alcb:Ext w0 W3alcb:=Mods.past xW2alc (hm1.mono (λk hk=>by simp[Value.ownBlock] at hk;have:=xWd.size;omega))
    have hl1:=hl1.mods hm1 (λhk=>by simp[Value.ownBlock] at hk;omega)
    have n1:=(HBX.out.ext' xW3alcb).box.cell (o:=3) (v:=.slice ia is.length ic) rfl
    have nf:=(HBX.out.ext' xW3alcb).box.frozen
    refine hK.out _ _ (by first|exact ((HBX.out.ext' xW3alcb).elt.cell (o:=0) (v:=.int .i64 id) rfl)|go_keep) (λhHeld=>?_)
    clear hK
    try go_frame
    refine wpAnyH_ready (rs:=[8]) (by kernel_rfl) (by simp) ?_
    refine AllReadyH.cons (o:=⟨some 13,_,_,_,_,_⟩) rfl (λK hK=>?_) AllReadyH.nil
    refine step_app2 Tryz.elI encI_ok (by rfl) _ _ (by rfl) w0.heap.size (.slice a1 is.length c1) (.slice (some ⟨W1a.heap.size,0,none⟩) 1 1) is [id] (by rfl) (by rfl) hO1 (Sl.one (F:=λ_=>False) (x:=id) (enc:=encI) (sz:=1) hl1 (λf=>f)) (by simp only[List.length_singleton];omega) (by have:=xW3alcb.size;omega) (λf=>f) ?_
    rw[List.length_singleton]
    intro a2 c2 W4alcbd hO2 hm2 hat2
    have xW4alcbd:Ext w0 W4alcbd:=Mods.past xW3alcb (hm2.mono (λk hk=>(hO1.lt k hk).1))
    have n1:=(HBX.out.ext' xW4alcbd).box.cell (o:=3) (v:=.slice ia is.length ic) rfl
    have nf:=(HBX.out.ext' xW4alcbd).box.frozen
    refine hK.out _ _ (by first|exact ((HBX.out.ext' xW4alcbd).elt.cell (o:=0) (v:=.int .i64 id) rfl)|go_keep) (λhHeld=>?_)
    clear hK
    try go_frame
    refine wpAnyH_take (i:=9) (oi:=⟨some 14,_,_,_,_,_⟩) (v:=?_) rfl (by kernel_rfl) (by kernel_rfl) (by kernel_rfl) (λ_ _ _ h=>h) (Or.inl ⟨by rfl,?_⟩) (by assumption) ?_
    rotate_left
    ·intro w hSw;(try dsimp only at hSw);go_simp;(try (with_reducible rfl))
    rotate_left
    try go_frame
    refine wpAnyH_take (i:=10) (oi:=⟨some 15,_,_,_,_,_⟩) (v:=?_) rfl (by kernel_rfl) (by kernel_rfl) (by kernel_rfl) (λ_ _ _ h=>h) (Or.inl ⟨by rfl,?_⟩) (by assumption) ?_
    rotate_left
    ·intro w hSw;(try dsimp only at hSw);go_simp;(try (with_reducible rfl))
    rotate_left
    try go_frame
    refine wpAnyH_ready (rs:=[11]) (by kernel_rfl) (by simp) ?_
    refine AllReadyH.cons (o:=⟨none,_,_,_,_,_⟩) rfl (λK hK=>?_) AllReadyH.nil
    go_simp
    refine hK.out _ _ (by first|exact (((HBX.out.ext' xW4alcbd).putI (HBL.out) hO2).elt.cell (o:=0) (v:=.int .i64 id) rfl)|go_keep) (λhHeld=>?_)
    clear hK
    try go_frame
    have hfin:=(HBX.out.ext' xW4alcbd).putI (HBL.out) hO2
    refine wpAnyH_done (by kernel_rfl) ?_ _
    have HFIN:=Lib.hid hfin
    clear hfin hO1 hO2
    go_wp2_with fail
    go_meet
    exact⟨a2,c2,HFIN⟩
   refine AllReadyH.cons (o:=⟨some 12,_,_,_,_,_⟩) rfl (λK hK=>?_) AllReadyH.nil
   go_simp
   refine hK.out _ _ (by first|exact ((HBX.out.ext' (xW1a.alloc _)).elt.cell (o:=0) (v:=.int .i64 id) rfl)|go_keep) (λhHeld=>?_)
   clear hK
   try go_frame
   obtain⟨W2ac,hW2ac⟩:∃W,W=W1a.alloc (.cells #[.int .i64 id] 3):=⟨_,rfl⟩
   rw[← hW2ac]
   have xW2ac:Ext w0 W2ac:=by rw[hW2ac];exact xW1a.alloc _
   have hl1:Blk W2ac W1a.heap.size #[.int .i64 id] 3:=by rw[hW2ac];exact Blk.new W1a _ _
   have zW2ac:W1a.heap.size<W2ac.heap.size:=by rw[hW2ac];simp
   have hl0:=hl0.ext (show Ext W1a W2ac by rw[hW2ac];exact (Mods.refl _ _).alloc _)
   clear hW2ac
   have n1:=(HBX.out.ext' xW2ac).box.cell (o:=3) (v:=.slice ia is.length ic) rfl
   have nf:=(HBX.out.ext' xW2ac).box.frozen
   refine wpAnyH_ready (rs:=[3]) (by kernel_rfl) (by simp) ?_
   refine AllReadyH.cons (o:=⟨some 8,_,_,_,_,_⟩) rfl (λK hK=>?_) AllReadyH.nil
   go_simp
   refine hK.out _ _ (by first|exact ((HBX.out.ext' xW2ac).elt.cell (o:=0) (v:=.int .i64 id) rfl)|go_keep) (λhHeld=>?_)
   clear hK
   try go_frame
   refine wpAnyH_ready (rs:=[4]) (by kernel_rfl) (by simp) ?_
   refine AllReadyH.cons (o:=⟨some 9,_,_,_,_,_⟩) rfl (λK hK=>?_) AllReadyH.nil
   refine step_app2 Tryz.elI encI_ok (by rfl) _ _ (by rfl) w0.heap.size (.slice (some ⟨Wd.heap.size,0,none⟩) 0 0) (.slice ia is.length ic) [] is (by rfl) (by rfl) (Own.lit 1 encI encI_ok.len hl0 (by have:=xWd.size;omega)) (HSE.out.ext xW2ac) (by simp only[List.length_nil];omega) (by have:=xW2ac.size;omega) (λf=>f) ?_
   rw[List.nil_append,List.length_nil,Nat.zero_add]
   intro a1 c1 W3aclb hO1 hm1 hat1
   have xW3aclb:Ext w0 W3aclb:=Mods.past xW2ac (hm1.mono (λk hk=>by simp[Value.ownBlock] at hk;have:=xWd.size;omega))
   have hl1:=hl1.mods hm1 (λhk=>by simp[Value.ownBlock] at hk;omega)
   have n1:=(HBX.out.ext' xW3aclb).box.cell (o:=3) (v:=.slice ia is.length ic) rfl
   have nf:=(HBX.out.ext' xW3aclb).box.frozen
   refine hK.out _ _ (by first|exact ((HBX.out.ext' xW3aclb).elt.cell (o:=0) (v:=.int .i64 id) rfl)|go_keep) (λhHeld=>?_)
   clear hK
   try go_frame
   refine wpAnyH_ready (rs:=[8]) (by kernel_rfl) (by simp) ?_
   refine AllReadyH.cons (o:=⟨some 13,_,_,_,_,_⟩) rfl (λK hK=>?_) AllReadyH.nil
   refine step_app2 Tryz.elI encI_ok (by rfl) _ _ (by rfl) w0.heap.size (.slice a1 is.length c1) (.slice (some ⟨W1a.heap.size,0,none⟩) 1 1) is [id] (by rfl) (by rfl) hO1 (Sl.one (F:=λ_=>False) (x:=id) (enc:=encI) (sz:=1) hl1 (λf=>f)) (by simp only[List.length_singleton];omega) (by have:=xW3aclb.size;omega) (λf=>f) ?_
   rw[List.length_singleton]
   intro a2 c2 W4aclbd hO2 hm2 hat2
   have xW4aclbd:Ext w0 W4aclbd:=Mods.past xW3aclb (hm2.mono (λk hk=>(hO1.lt k hk).1))
   have n1:=(HBX.out.ext' xW4aclbd).box.cell (o:=3) (v:=.slice ia is.length ic) rfl
   have nf:=(HBX.out.ext' xW4aclbd).box.frozen
   refine hK.out _ _ (by first|exact ((HBX.out.ext' xW4aclbd).elt.cell (o:=0) (v:=.int .i64 id) rfl)|go_keep) (λhHeld=>?_)
   clear hK
   try go_frame
   refine wpAnyH_take (i:=9) (oi:=⟨some 14,_,_,_,_,_⟩) (v:=?_) rfl (by kernel_rfl) (by kernel_rfl) (by kernel_rfl) (λ_ _ _ h=>h) (Or.inl ⟨by rfl,?_⟩) (by assumption) ?_
   rotate_left
   ·intro w hSw;(try dsimp only at hSw);go_simp;(try (with_reducible rfl))
   rotate_left
   try go_frame
   refine wpAnyH_take (i:=10) (oi:=⟨some 15,_,_,_,_,_⟩) (v:=?_) rfl (by kernel_rfl) (by kernel_rfl) (by kernel_rfl) (λ_ _ _ h=>h) (Or.inl ⟨by rfl,?_⟩) (by assumption) ?_
   rotate_left
   ·intro w hSw;(try dsimp only at hSw);go_simp;(try (with_reducible rfl))
   rotate_left
   try go_frame
   refine wpAnyH_ready (rs:=[11]) (by kernel_rfl) (by simp) ?_
   refine AllReadyH.cons (o:=⟨none,_,_,_,_,_⟩) rfl (λK hK=>?_) AllReadyH.nil
   go_simp
   refine hK.out _ _ (by first|exact (((HBX.out.ext' xW4aclbd).putI (HBL.out) hO2).elt.cell (o:=0) (v:=.int .i64 id) rfl)|go_keep) (λhHeld=>?_)
   clear hK
   try go_frame
   have hfin:=(HBX.out.ext' xW4aclbd).putI (HBL.out) hO2
   refine wpAnyH_done (by kernel_rfl) ?_ _
   have HFIN:=Lib.hid hfin
   clear hfin hO1 hO2
   go_wp2_with fail
   go_meet
   exact⟨a2,c2,HFIN⟩
  refine AllReadyH.cons (o:=⟨some 8,_,_,_,_,_⟩) rfl (λK hK=>?_) ?_
  ·skip
   go_simp
   refine hK.out _ _ (by first|exact ((HBX.out.ext' xWd).elt.cell (o:=0) (v:=.int .i64 id) rfl)|go_keep) (λhHeld=>?_)
   clear hK
   try go_frame
   refine wpAnyH_ready (rs:=[0,7]) (by kernel_rfl) (by simp) ?_
   refine AllReadyH.cons (o:=⟨some 5,_,_,_,_,_⟩) rfl (λK hK=>?_) ?_
   ·skip
    go_simp
    refine hK.out _ _ (by first|exact ((HBX.out.ext' (xWd.alloc _)).elt.cell (o:=0) (v:=.int .i64 id) rfl)|go_keep) (λhHeld=>?_)
    clear hK
    try go_frame
    obtain⟨W1la,hW1la⟩:∃W,W=Wd.alloc (.cells #[] 3):=⟨_,rfl⟩
    rw[← hW1la]
    have xW1la:Ext w0 W1la:=by rw[hW1la];exact xWd.alloc _
    have hl0:Blk W1la Wd.heap.size #[] 3:=by rw[hW1la];exact Blk.new Wd _ _
    have zW1la:Wd.heap.size<W1la.heap.size:=by rw[hW1la];simp
    clear hW1la
    have n1:=(HBX.out.ext' xW1la).box.cell (o:=3) (v:=.slice ia is.length ic) rfl
    have nf:=(HBX.out.ext' xW1la).box.frozen
    refine wpAnyH_ready (rs:=[4,7]) (by kernel_rfl) (by simp) ?_
    refine AllReadyH.cons (o:=⟨some 9,_,_,_,_,_⟩) rfl (λK hK=>?_) ?_
    ·skip
     refine step_app2 Tryz.elI encI_ok (by rfl) _ _ (by rfl) w0.heap.size (.slice (some ⟨Wd.heap.size,0,none⟩) 0 0) (.slice ia is.length ic) [] is (by rfl) (by rfl) (Own.lit 1 encI encI_ok.len hl0 (by have:=xWd.size;omega)) (HSE.out.ext xW1la) (by simp only[List.length_nil];omega) (by have:=xW1la.size;omega) (λf=>f) ?_
     rw[List.nil_append,List.length_nil,Nat.zero_add]
     intro a1 c1 W2lab hO1 hm1 hat1
     have xW2lab:Ext w0 W2lab:=Mods.past xW1la (hm1.mono (λk hk=>by simp[Value.ownBlock] at hk;have:=xWd.size;omega))
     have n1:=(HBX.out.ext' xW2lab).box.cell (o:=3) (v:=.slice ia is.length ic) rfl
     have nf:=(HBX.out.ext' xW2lab).box.frozen
     refine hK.out _ _ (by first|exact ((HBX.out.ext' xW2lab).elt.cell (o:=0) (v:=.int .i64 id) rfl)|go_keep) (λhHeld=>?_)
     clear hK
     try go_frame
     refine wpAnyH_ready (rs:=[7]) (by kernel_rfl) (by simp) ?_
     refine AllReadyH.cons (o:=⟨some 12,_,_,_,_,_⟩) rfl (λK hK=>?_) AllReadyH.nil
     go_simp
     refine hK.out _ _ (by first|exact ((HBX.out.ext' (xW2lab.alloc _)).elt.cell (o:=0) (v:=.int .i64 id) rfl)|go_keep) (λhHeld=>?_)
     clear hK
     try go_frame
     obtain⟨W3labc,hW3labc⟩:∃W,W=W2lab.alloc (.cells #[.int .i64 id] 3):=⟨_,rfl⟩
     rw[← hW3labc]
     have xW3labc:Ext w0 W3labc:=by rw[hW3labc];exact xW2lab.alloc _
     have hl1:Blk W3labc W2lab.heap.size #[.int .i64 id] 3:=by rw[hW3labc];exact Blk.new W2lab _ _
     have zW3labc:W2lab.heap.size<W3labc.heap.size:=by rw[hW3labc];simp
     have hO1:=hO1.ext (show Ext W2lab W3labc by rw[hW3labc];exact (Mods.refl _ _).alloc _)
     clear hW3labc
     have n1:=(HBX.out.ext' xW3labc).box.cell (o:=3) (v:=.slice ia is.length ic) rfl
     have nf:=(HBX.out.ext' xW3labc).box.frozen
     refine wpAnyH_ready (rs:=[8]) (by kernel_rfl) (by simp) ?_
     refine AllReadyH.cons (o:=⟨some 13,_,_,_,_,_⟩) rfl (λK hK=>?_) AllReadyH.nil
     refine step_app2 Tryz.elI encI_ok (by rfl) _ _ (by rfl) w0.heap.size (.slice a1 is.length c1) (.slice (some ⟨W2lab.heap.size,0,none⟩) 1 1) is [id] (by rfl) (by rfl) hO1 (Sl.one (F:=λ_=>False) (x:=id) (enc:=encI) (sz:=1) hl1 (λf=>f)) (by simp only[List.length_singleton];omega) (by have:=xW3labc.size;omega) (λf=>f) ?_
     rw[List.length_singleton]
     intro a2 c2 W4labcd hO2 hm2 hat2
     have xW4labcd:Ext w0 W4labcd:=Mods.past xW3labc (hm2.mono (λk hk=>(hO1.lt k hk).1))
     have n1:=(HBX.out.ext' xW4labcd).box.cell (o:=3) (v:=.slice ia is.length ic) rfl
     have nf:=(HBX.out.ext' xW4labcd).box.frozen
     refine hK.out _ _ (by first|exact ((HBX.out.ext' xW4labcd).elt.cell (o:=0) (v:=.int .i64 id) rfl)|go_keep) (λhHeld=>?_)
     clear hK
     try go_frame
     refine wpAnyH_take (i:=9) (oi:=⟨some 14,_,_,_,_,_⟩) (v:=?_) rfl (by kernel_rfl) (by kernel_rfl) (by kernel_rfl) (λ_ _ _ h=>h) (Or.inl ⟨by rfl,?_⟩) (by assumption) ?_
     rotate_left
     ·intro w hSw;(try dsimp only at hSw);go_simp;(try (with_reducible rfl))
     rotate_left
     try go_frame
     refine wpAnyH_take (i:=10) (oi:=⟨some 15,_,_,_,_,_⟩) (v:=?_) rfl (by kernel_rfl) (by kernel_rfl) (by kernel_rfl) (λ_ _ _ h=>h) (Or.inl ⟨by rfl,?_⟩) (by assumption) ?_
     rotate_left
     ·intro w hSw;(try dsimp only at hSw);go_simp;(try (with_reducible rfl))
     rotate_left
     try go_frame
     refine wpAnyH_ready (rs:=[11]) (by kernel_rfl) (by simp) ?_
     refine AllReadyH.cons (o:=⟨none,_,_,_,_,_⟩) rfl (λK hK=>?_) AllReadyH.nil
     go_simp
     refine hK.out _ _ (by first|exact (((HBX.out.ext' xW4labcd).putI (HBL.out) hO2).elt.cell (o:=0) (v:=.int .i64 id) rfl)|go_keep) (λhHeld=>?_)
     clear hK
     try go_frame
     have hfin:=(HBX.out.ext' xW4labcd).putI (HBL.out) hO2
     refine wpAnyH_done (by kernel_rfl) ?_ _
     have HFIN:=Lib.hid hfin
     clear hfin hO1 hO2
     go_wp2_with fail
     go_meet
     exact⟨a2,c2,HFIN⟩
    refine AllReadyH.cons (o:=⟨some 12,_,_,_,_,_⟩) rfl (λK hK=>?_) AllReadyH.nil
    go_simp
    refine hK.out _ _ (by first|exact ((HBX.out.ext' (xW1la.alloc _)).elt.cell (o:=0) (v:=.int .i64 id) rfl)|go_keep) (λhHeld=>?_)
    clear hK
    try go_frame
    obtain⟨W2lac,hW2lac⟩:∃W,W=W1la.alloc (.cells #[.int .i64 id] 3):=⟨_,rfl⟩
    rw[← hW2lac]
    have xW2lac:Ext w0 W2lac:=by rw[hW2lac];exact xW1la.alloc _
    have hl1:Blk W2lac W1la.heap.size #[.int .i64 id] 3:=by rw[hW2lac];exact Blk.new W1la _ _
    have zW2lac:W1la.heap.size<W2lac.heap.size:=by rw[hW2lac];simp
    have hl0:=hl0.ext (show Ext W1la W2lac by rw[hW2lac];exact (Mods.refl _ _).alloc _)
    clear hW2lac
    have n1:=(HBX.out.ext' xW2lac).box.cell (o:=3) (v:=.slice ia is.length ic) rfl
    have nf:=(HBX.out.ext' xW2lac).box.frozen
    refine wpAnyH_ready (rs:=[4]) (by kernel_rfl) (by simp) ?_
    refine AllReadyH.cons (o:=⟨some 9,_,_,_,_,_⟩) rfl (λK hK=>?_) AllReadyH.nil
    refine step_app2 Tryz.elI encI_ok (by rfl) _ _ (by rfl) w0.heap.size (.slice (some ⟨Wd.heap.size,0,none⟩) 0 0) (.slice ia is.length ic) [] is (by rfl) (by rfl) (Own.lit 1 encI encI_ok.len hl0 (by have:=xWd.size;omega)) (HSE.out.ext xW2lac) (by simp only[List.length_nil];omega) (by have:=xW2lac.size;omega) (λf=>f) ?_
    rw[List.nil_append,List.length_nil,Nat.zero_add]
    intro a1 c1 W3lacb hO1 hm1 hat1
    have xW3lacb:Ext w0 W3lacb:=Mods.past xW2lac (hm1.mono (λk hk=>by simp[Value.ownBlock] at hk;have:=xWd.size;omega))
    have hl1:=hl1.mods hm1 (λhk=>by simp[Value.ownBlock] at hk;omega)
    have n1:=(HBX.out.ext' xW3lacb).box.cell (o:=3) (v:=.slice ia is.length ic) rfl
    have nf:=(HBX.out.ext' xW3lacb).box.frozen
    refine hK.out _ _ (by first|exact ((HBX.out.ext' xW3lacb).elt.cell (o:=0) (v:=.int .i64 id) rfl)|go_keep) (λhHeld=>?_)
    clear hK
    try go_frame
    refine wpAnyH_ready (rs:=[8]) (by kernel_rfl) (by simp) ?_
    refine AllReadyH.cons (o:=⟨some 13,_,_,_,_,_⟩) rfl (λK hK=>?_) AllReadyH.nil
    refine step_app2 Tryz.elI encI_ok (by rfl) _ _ (by rfl) w0.heap.size (.slice a1 is.length c1) (.slice (some ⟨W1la.heap.size,0,none⟩) 1 1) is [id] (by rfl) (by rfl) hO1 (Sl.one (F:=λ_=>False) (x:=id) (enc:=encI) (sz:=1) hl1 (λf=>f)) (by simp only[List.length_singleton];omega) (by have:=xW3lacb.size;omega) (λf=>f) ?_
    rw[List.length_singleton]
    intro a2 c2 W4lacbd hO2 hm2 hat2
    have xW4lacbd:Ext w0 W4lacbd:=Mods.past xW3lacb (hm2.mono (λk hk=>(hO1.lt k hk).1))
    have n1:=(HBX.out.ext' xW4lacbd).box.cell (o:=3) (v:=.slice ia is.length ic) rfl
    have nf:=(HBX.out.ext' xW4lacbd).box.frozen
    refine hK.out _ _ (by first|exact ((HBX.out.ext' xW4lacbd).elt.cell (o:=0) (v:=.int .i64 id) rfl)|go_keep) (λhHeld=>?_)
    clear hK
    try go_frame
    refine wpAnyH_take (i:=9) (oi:=⟨some 14,_,_,_,_,_⟩) (v:=?_) rfl (by kernel_rfl) (by kernel_rfl) (by kernel_rfl) (λ_ _ _ h=>h) (Or.inl ⟨by rfl,?_⟩) (by assumption) ?_
    rotate_left
    ·intro w hSw;(try dsimp only at hSw);go_simp;(try (with_reducible rfl))
    rotate_left
    try go_frame
    refine wpAnyH_take (i:=10) (oi:=⟨some 15,_,_,_,_,_⟩) (v:=?_) rfl (by kernel_rfl) (by kernel_rfl) (by kernel_rfl) (λ_ _ _ h=>h) (Or.inl ⟨by rfl,?_⟩) (by assumption) ?_
    rotate_left
    ·intro w hSw;(try dsimp only at hSw);go_simp;(try (with_reducible rfl))
    rotate_left
    try go_frame
    refine wpAnyH_ready (rs:=[11]) (by kernel_rfl) (by simp) ?_
    refine AllReadyH.cons (o:=⟨none,_,_,_,_,_⟩) rfl (λK hK=>?_) AllReadyH.nil
    go_simp
    refine hK.out _ _ (by first|exact (((HBX.out.ext' xW4lacbd).putI (HBL.out) hO2).elt.cell (o:=0) (v:=.int .i64 id) rfl)|go_keep) (λhHeld=>?_)
    clear hK
    try go_frame
    have hfin:=(HBX.out.ext' xW4lacbd).putI (HBL.out) hO2
    refine wpAnyH_done (by kernel_rfl) ?_ _
    have HFIN:=Lib.hid hfin
    clear hfin hO1 hO2
    go_wp2_with fail
    go_meet
    exact⟨a2,c2,HFIN⟩
   refine AllReadyH.cons (o:=⟨some 12,_,_,_,_,_⟩) rfl (λK hK=>?_) AllReadyH.nil
   go_simp
   refine hK.out _ _ (by first|exact ((HBX.out.ext' (xWd.alloc _)).elt.cell (o:=0) (v:=.int .i64 id) rfl)|go_keep) (λhHeld=>?_)
   clear hK
   try go_frame
   obtain⟨W1lc,hW1lc⟩:∃W,W=Wd.alloc (.cells #[.int .i64 id] 3):=⟨_,rfl⟩
   rw[← hW1lc]
   have xW1lc:Ext w0 W1lc:=by rw[hW1lc];exact xWd.alloc _
   have hl1:Blk W1lc Wd.heap.size #[.int .i64 id] 3:=by rw[hW1lc];exact Blk.new Wd _ _
   have zW1lc:Wd.heap.size<W1lc.heap.size:=by rw[hW1lc];simp
   clear hW1lc
   have n1:=(HBX.out.ext' xW1lc).box.cell (o:=3) (v:=.slice ia is.length ic) rfl
   have nf:=(HBX.out.ext' xW1lc).box.frozen
   refine wpAnyH_ready (rs:=[0]) (by kernel_rfl) (by simp) ?_
   refine AllReadyH.cons (o:=⟨some 5,_,_,_,_,_⟩) rfl (λK hK=>?_) AllReadyH.nil
   go_simp
   refine hK.out _ _ (by first|exact ((HBX.out.ext' (xW1lc.alloc _)).elt.cell (o:=0) (v:=.int .i64 id) rfl)|go_keep) (λhHeld=>?_)
   clear hK
   try go_frame
   obtain⟨W2lca,hW2lca⟩:∃W,W=W1lc.alloc (.cells #[] 3):=⟨_,rfl⟩
   rw[← hW2lca]
   have xW2lca:Ext w0 W2lca:=by rw[hW2lca];exact xW1lc.alloc _
   have hl0:Blk W2lca W1lc.heap.size #[] 3:=by rw[hW2lca];exact Blk.new W1lc _ _
   have zW2lca:W1lc.heap.size<W2lca.heap.size:=by rw[hW2lca];simp
   have hl1:=hl1.ext (show Ext W1lc W2lca by rw[hW2lca];exact (Mods.refl _ _).alloc _)
   clear hW2lca
   have n1:=(HBX.out.ext' xW2lca).box.cell (o:=3) (v:=.slice ia is.length ic) rfl
   have nf:=(HBX.out.ext' xW2lca).box.frozen
   refine wpAnyH_ready (rs:=[4]) (by kernel_rfl) (by simp) ?_
   refine AllReadyH.cons (o:=⟨some 9,_,_,_,_,_⟩) rfl (λK hK=>?_) AllReadyH.nil
   refine step_app2 Tryz.elI encI_ok (by rfl) _ _ (by rfl) w0.heap.size (.slice (some ⟨W1lc.heap.size,0,none⟩) 0 0) (.slice ia is.length ic) [] is (by rfl) (by rfl) (Own.lit 1 encI encI_ok.len hl0 (by have:=xW1lc.size;omega)) (HSE.out.ext xW2lca) (by simp only[List.length_nil];omega) (by have:=xW2lca.size;omega) (λf=>f) ?_
   rw[List.nil_append,List.length_nil,Nat.zero_add]
   intro a1 c1 W3lcab hO1 hm1 hat1
   have xW3lcab:Ext w0 W3lcab:=Mods.past xW2lca (hm1.mono (λk hk=>by simp[Value.ownBlock] at hk;have:=xW1lc.size;omega))
   have hl1:=hl1.mods hm1 (λhk=>by simp[Value.ownBlock] at hk;omega)
   have n1:=(HBX.out.ext' xW3lcab).box.cell (o:=3) (v:=.slice ia is.length ic) rfl
   have nf:=(HBX.out.ext' xW3lcab).box.frozen
   refine hK.out _ _ (by first|exact ((HBX.out.ext' xW3lcab).elt.cell (o:=0) (v:=.int .i64 id) rfl)|go_keep) (λhHeld=>?_)
   clear hK
   try go_frame
   refine wpAnyH_ready (rs:=[8]) (by kernel_rfl) (by simp) ?_
   refine AllReadyH.cons (o:=⟨some 13,_,_,_,_,_⟩) rfl (λK hK=>?_) AllReadyH.nil
   refine step_app2 Tryz.elI encI_ok (by rfl) _ _ (by rfl) w0.heap.size (.slice a1 is.length c1) (.slice (some ⟨Wd.heap.size,0,none⟩) 1 1) is [id] (by rfl) (by rfl) hO1 (Sl.one (F:=λ_=>False) (x:=id) (enc:=encI) (sz:=1) hl1 (λf=>f)) (by simp only[List.length_singleton];omega) (by have:=xW3lcab.size;omega) (λf=>f) ?_
   rw[List.length_singleton]
   intro a2 c2 W4lcabd hO2 hm2 hat2
   have xW4lcabd:Ext w0 W4lcabd:=Mods.past xW3lcab (hm2.mono (λk hk=>(hO1.lt k hk).1))
   have n1:=(HBX.out.ext' xW4lcabd).box.cell (o:=3) (v:=.slice ia is.length ic) rfl
   have nf:=(HBX.out.ext' xW4lcabd).box.frozen
   refine hK.out _ _ (by first|exact ((HBX.out.ext' xW4lcabd).elt.cell (o:=0) (v:=.int .i64 id) rfl)|go_keep) (λhHeld=>?_)
   clear hK
   try go_frame
   refine wpAnyH_take (i:=9) (oi:=⟨some 14,_,_,_,_,_⟩) (v:=?_) rfl (by kernel_rfl) (by kernel_rfl) (by kernel_rfl) (λ_ _ _ h=>h) (Or.inl ⟨by rfl,?_⟩) (by assumption) ?_
   rotate_left
   ·intro w hSw;(try dsimp only at hSw);go_simp;(try (with_reducible rfl))
   rotate_left
   try go_frame
   refine wpAnyH_take (i:=10) (oi:=⟨some 15,_,_,_,_,_⟩) (v:=?_) rfl (by kernel_rfl) (by kernel_rfl) (by kernel_rfl) (λ_ _ _ h=>h) (Or.inl ⟨by rfl,?_⟩) (by assumption) ?_
   rotate_left
   ·intro w hSw;(try dsimp only at hSw);go_simp;(try (with_reducible rfl))
   rotate_left
   try go_frame
   refine wpAnyH_ready (rs:=[11]) (by kernel_rfl) (by simp) ?_
   refine AllReadyH.cons (o:=⟨none,_,_,_,_,_⟩) rfl (λK hK=>?_) AllReadyH.nil
   go_simp
   refine hK.out _ _ (by first|exact (((HBX.out.ext' xW4lcabd).putI (HBL.out) hO2).elt.cell (o:=0) (v:=.int .i64 id) rfl)|go_keep) (λhHeld=>?_)
   clear hK
   try go_frame
   have hfin:=(HBX.out.ext' xW4lcabd).putI (HBL.out) hO2
   refine wpAnyH_done (by kernel_rfl) ?_ _
   have HFIN:=Lib.hid hfin
   clear hfin hO1 hO2
   go_wp2_with fail
   go_meet
   exact⟨a2,c2,HFIN⟩
  refine AllReadyH.cons (o:=⟨some 12,_,_,_,_,_⟩) rfl (λK hK=>?_) AllReadyH.nil
  go_simp
  refine hK.out _ _ (by first|exact ((HBX.out.ext' (xWd.alloc _)).elt.cell (o:=0) (v:=.int .i64 id) rfl)|go_keep) (λhHeld=>?_)
  clear hK
  try go_frame
  obtain⟨W1c,hW1c⟩:∃W,W=Wd.alloc (.cells #[.int .i64 id] 3):=⟨_,rfl⟩
  rw[← hW1c]
  have xW1c:Ext w0 W1c:=by rw[hW1c];exact xWd.alloc _
  have hl1:Blk W1c Wd.heap.size #[.int .i64 id] 3:=by rw[hW1c];exact Blk.new Wd _ _
  have zW1c:Wd.heap.size<W1c.heap.size:=by rw[hW1c];simp
  clear hW1c
  have n1:=(HBX.out.ext' xW1c).box.cell (o:=3) (v:=.slice ia is.length ic) rfl
  have nf:=(HBX.out.ext' xW1c).box.frozen
  refine wpAnyH_ready (rs:=[0,3]) (by kernel_rfl) (by simp) ?_
  refine AllReadyH.cons (o:=⟨some 5,_,_,_,_,_⟩) rfl (λK hK=>?_) ?_
  ·skip
   go_simp
   refine hK.out _ _ (by first|exact ((HBX.out.ext' (xW1c.alloc _)).elt.cell (o:=0) (v:=.int .i64 id) rfl)|go_keep) (λhHeld=>?_)
   clear hK
   try go_frame
   obtain⟨W2ca,hW2ca⟩:∃W,W=W1c.alloc (.cells #[] 3):=⟨_,rfl⟩
   rw[← hW2ca]
   have xW2ca:Ext w0 W2ca:=by rw[hW2ca];exact xW1c.alloc _
   have hl0:Blk W2ca W1c.heap.size #[] 3:=by rw[hW2ca];exact Blk.new W1c _ _
   have zW2ca:W1c.heap.size<W2ca.heap.size:=by rw[hW2ca];simp
   have hl1:=hl1.ext (show Ext W1c W2ca by rw[hW2ca];exact (Mods.refl _ _).alloc _)
   clear hW2ca
   have n1:=(HBX.out.ext' xW2ca).box.cell (o:=3) (v:=.slice ia is.length ic) rfl
   have nf:=(HBX.out.ext' xW2ca).box.frozen
   refine wpAnyH_ready (rs:=[3]) (by kernel_rfl) (by simp) ?_
   refine AllReadyH.cons (o:=⟨some 8,_,_,_,_,_⟩) rfl (λK hK=>?_) AllReadyH.nil
   go_simp
   refine hK.out _ _ (by first|exact ((HBX.out.ext' xW2ca).elt.cell (o:=0) (v:=.int .i64 id) rfl)|go_keep) (λhHeld=>?_)
   clear hK
   try go_frame
   refine wpAnyH_ready (rs:=[4]) (by kernel_rfl) (by simp) ?_
   refine AllReadyH.cons (o:=⟨some 9,_,_,_,_,_⟩) rfl (λK hK=>?_) AllReadyH.nil
   refine step_app2 Tryz.elI encI_ok (by rfl) _ _ (by rfl) w0.heap.size (.slice (some ⟨W1c.heap.size,0,none⟩) 0 0) (.slice ia is.length ic) [] is (by rfl) (by rfl) (Own.lit 1 encI encI_ok.len hl0 (by have:=xW1c.size;omega)) (HSE.out.ext xW2ca) (by simp only[List.length_nil];omega) (by have:=xW2ca.size;omega) (λf=>f) ?_
   rw[List.nil_append,List.length_nil,Nat.zero_add]
   intro a1 c1 W3calb hO1 hm1 hat1
   have xW3calb:Ext w0 W3calb:=Mods.past xW2ca (hm1.mono (λk hk=>by simp[Value.ownBlock] at hk;have:=xW1c.size;omega))
   have hl1:=hl1.mods hm1 (λhk=>by simp[Value.ownBlock] at hk;omega)
   have n1:=(HBX.out.ext' xW3calb).box.cell (o:=3) (v:=.slice ia is.length ic) rfl
   have nf:=(HBX.out.ext' xW3calb).box.frozen
   refine hK.out _ _ (by first|exact ((HBX.out.ext' xW3calb).elt.cell (o:=0) (v:=.int .i64 id) rfl)|go_keep) (λhHeld=>?_)
   clear hK
   try go_frame
   refine wpAnyH_ready (rs:=[8]) (by kernel_rfl) (by simp) ?_
   refine AllReadyH.cons (o:=⟨some 13,_,_,_,_,_⟩) rfl (λK hK=>?_) AllReadyH.nil
   refine step_app2 Tryz.elI encI_ok (by rfl) _ _ (by rfl) w0.heap.size (.slice a1 is.length c1) (.slice (some ⟨Wd.heap.size,0,none⟩) 1 1) is [id] (by rfl) (by rfl) hO1 (Sl.one (F:=λ_=>False) (x:=id) (enc:=encI) (sz:=1) hl1 (λf=>f)) (by simp only[List.length_singleton];omega) (by have:=xW3calb.size;omega) (λf=>f) ?_
   rw[List.length_singleton]
   intro a2 c2 W4calbd hO2 hm2 hat2
   have xW4calbd:Ext w0 W4calbd:=Mods.past xW3calb (hm2.mono (λk hk=>(hO1.lt k hk).1))
   have n1:=(HBX.out.ext' xW4calbd).box.cell (o:=3) (v:=.slice ia is.length ic) rfl
   have nf:=(HBX.out.ext' xW4calbd).box.frozen
   refine hK.out _ _ (by first|exact ((HBX.out.ext' xW4calbd).elt.cell (o:=0) (v:=.int .i64 id) rfl)|go_keep) (λhHeld=>?_)
   clear hK
   try go_frame
   refine wpAnyH_take (i:=9) (oi:=⟨some 14,_,_,_,_,_⟩) (v:=?_) rfl (by kernel_rfl) (by kernel_rfl) (by kernel_rfl) (λ_ _ _ h=>h) (Or.inl ⟨by rfl,?_⟩) (by assumption) ?_
   rotate_left
   ·intro w hSw;(try dsimp only at hSw);go_simp;(try (with_reducible rfl))
   rotate_left
   try go_frame
   refine wpAnyH_take (i:=10) (oi:=⟨some 15,_,_,_,_,_⟩) (v:=?_) rfl (by kernel_rfl) (by kernel_rfl) (by kernel_rfl) (λ_ _ _ h=>h) (Or.inl ⟨by rfl,?_⟩) (by assumption) ?_
   rotate_left
   ·intro w hSw;(try dsimp only at hSw);go_simp;(try (with_reducible rfl))
   rotate_left
   try go_frame
   refine wpAnyH_ready (rs:=[11]) (by kernel_rfl) (by simp) ?_
   refine AllReadyH.cons (o:=⟨none,_,_,_,_,_⟩) rfl (λK hK=>?_) AllReadyH.nil
   go_simp
   refine hK.out _ _ (by first|exact (((HBX.out.ext' xW4calbd).putI (HBL.out) hO2).elt.cell (o:=0) (v:=.int .i64 id) rfl)|go_keep) (λhHeld=>?_)
   clear hK
   try go_frame
   have hfin:=(HBX.out.ext' xW4calbd).putI (HBL.out) hO2
   refine wpAnyH_done (by kernel_rfl) ?_ _
   have HFIN:=Lib.hid hfin
   clear hfin hO1 hO2
   go_wp2_with fail
   go_meet
   exact⟨a2,c2,HFIN⟩
  refine AllReadyH.cons (o:=⟨some 8,_,_,_,_,_⟩) rfl (λK hK=>?_) AllReadyH.nil
  go_simp
  refine hK.out _ _ (by first|exact ((HBX.out.ext' xW1c).elt.cell (o:=0) (v:=.int .i64 id) rfl)|go_keep) (λhHeld=>?_)
  clear hK
  try go_frame
  refine wpAnyH_ready (rs:=[0]) (by kernel_rfl) (by simp) ?_
  refine AllReadyH.cons (o:=⟨some 5,_,_,_,_,_⟩) rfl (λK hK=>?_) AllReadyH.nil
  go_simp
  refine hK.out _ _ (by first|exact ((HBX.out.ext' (xW1c.alloc _)).elt.cell (o:=0) (v:=.int .i64 id) rfl)|go_keep) (λhHeld=>?_)
  clear hK
  try go_frame
  obtain⟨W2cla,hW2cla⟩:∃W,W=W1c.alloc (.cells #[] 3):=⟨_,rfl⟩
  rw[← hW2cla]
  have xW2cla:Ext w0 W2cla:=by rw[hW2cla];exact xW1c.alloc _
  have hl0:Blk W2cla W1c.heap.size #[] 3:=by rw[hW2cla];exact Blk.new W1c _ _
  have zW2cla:W1c.heap.size<W2cla.heap.size:=by rw[hW2cla];simp
  have hl1:=hl1.ext (show Ext W1c W2cla by rw[hW2cla];exact (Mods.refl _ _).alloc _)
  clear hW2cla
  have n1:=(HBX.out.ext' xW2cla).box.cell (o:=3) (v:=.slice ia is.length ic) rfl
  have nf:=(HBX.out.ext' xW2cla).box.frozen
  refine wpAnyH_ready (rs:=[4]) (by kernel_rfl) (by simp) ?_
  refine AllReadyH.cons (o:=⟨some 9,_,_,_,_,_⟩) rfl (λK hK=>?_) AllReadyH.nil
  refine step_app2 Tryz.elI encI_ok (by rfl) _ _ (by rfl) w0.heap.size (.slice (some ⟨W1c.heap.size,0,none⟩) 0 0) (.slice ia is.length ic) [] is (by rfl) (by rfl) (Own.lit 1 encI encI_ok.len hl0 (by have:=xW1c.size;omega)) (HSE.out.ext xW2cla) (by simp only[List.length_nil];omega) (by have:=xW2cla.size;omega) (λf=>f) ?_
  rw[List.nil_append,List.length_nil,Nat.zero_add]
  intro a1 c1 W3clab hO1 hm1 hat1
  have xW3clab:Ext w0 W3clab:=Mods.past xW2cla (hm1.mono (λk hk=>by simp[Value.ownBlock] at hk;have:=xW1c.size;omega))
  have hl1:=hl1.mods hm1 (λhk=>by simp[Value.ownBlock] at hk;omega)
  have n1:=(HBX.out.ext' xW3clab).box.cell (o:=3) (v:=.slice ia is.length ic) rfl
  have nf:=(HBX.out.ext' xW3clab).box.frozen
  refine hK.out _ _ (by first|exact ((HBX.out.ext' xW3clab).elt.cell (o:=0) (v:=.int .i64 id) rfl)|go_keep) (λhHeld=>?_)
  clear hK
  try go_frame
  refine wpAnyH_ready (rs:=[8]) (by kernel_rfl) (by simp) ?_
  refine AllReadyH.cons (o:=⟨some 13,_,_,_,_,_⟩) rfl (λK hK=>?_) AllReadyH.nil
  refine step_app2 Tryz.elI encI_ok (by rfl) _ _ (by rfl) w0.heap.size (.slice a1 is.length c1) (.slice (some ⟨Wd.heap.size,0,none⟩) 1 1) is [id] (by rfl) (by rfl) hO1 (Sl.one (F:=λ_=>False) (x:=id) (enc:=encI) (sz:=1) hl1 (λf=>f)) (by simp only[List.length_singleton];omega) (by have:=xW3clab.size;omega) (λf=>f) ?_
  rw[List.length_singleton]
  intro a2 c2 W4clabd hO2 hm2 hat2
  have xW4clabd:Ext w0 W4clabd:=Mods.past xW3clab (hm2.mono (λk hk=>(hO1.lt k hk).1))
  have n1:=(HBX.out.ext' xW4clabd).box.cell (o:=3) (v:=.slice ia is.length ic) rfl
  have nf:=(HBX.out.ext' xW4clabd).box.frozen
  refine hK.out _ _ (by first|exact ((HBX.out.ext' xW4clabd).elt.cell (o:=0) (v:=.int .i64 id) rfl)|go_keep) (λhHeld=>?_)
  clear hK
  try go_frame
  refine wpAnyH_take (i:=9) (oi:=⟨some 14,_,_,_,_,_⟩) (v:=?_) rfl (by kernel_rfl) (by kernel_rfl) (by kernel_rfl) (λ_ _ _ h=>h) (Or.inl ⟨by rfl,?_⟩) (by assumption) ?_
  rotate_left
  ·intro w hSw;(try dsimp only at hSw);go_simp;(try (with_reducible rfl))
  rotate_left
  try go_frame
  refine wpAnyH_take (i:=10) (oi:=⟨some 15,_,_,_,_,_⟩) (v:=?_) rfl (by kernel_rfl) (by kernel_rfl) (by kernel_rfl) (λ_ _ _ h=>h) (Or.inl ⟨by rfl,?_⟩) (by assumption) ?_
  rotate_left
  ·intro w hSw;(try dsimp only at hSw);go_simp;(try (with_reducible rfl))
  rotate_left
  try go_frame
  refine wpAnyH_ready (rs:=[11]) (by kernel_rfl) (by simp) ?_
  refine AllReadyH.cons (o:=⟨none,_,_,_,_,_⟩) rfl (λK hK=>?_) AllReadyH.nil
  go_simp
  refine hK.out _ _ (by first|exact (((HBX.out.ext' xW4clabd).putI (HBL.out) hO2).elt.cell (o:=0) (v:=.int .i64 id) rfl)|go_keep) (λhHeld=>?_)
  clear hK
  try go_frame
  have hfin:=(HBX.out.ext' xW4clabd).putI (HBL.out) hO2
  refine wpAnyH_done (by kernel_rfl) ?_ _
  have HFIN:=Lib.hid hfin
  clear hfin hO1 hO2
  go_wp2_with fail
  go_meet
  exact⟨a2,c2,HFIN⟩
 case rest =>
 obtain⟨ia2,ic2,HB1⟩:=hcut
 have HSK:Hid (Sl (λ_=>False) wc 1 encS (.slice ka ks.length kc) ks):=Lib.hid (HB1.out.pt.k.sl encS_ok.len (by show ks.length≤_;omega))
 have HBL2:Hid (b0≤wc.heap.size):=Lib.hid (Nat.le_trans HB1.out.hb HB1.out.ext.size)
 obtain⟨w1,rfl⟩:∃w1:World,w1=wc:=⟨_,rfl⟩
 go_wp2_with fail
 go_cut [] (λwx=>∃a c,Hid (PtBox w b0 X #[.int .i64 id,.string key] 151 wx ⟨false,(ea,en,ec),(a,ks.length+1,c),(ia2,is.length+1,ic2),s⟩ (⟨false,[],ks++[key],is++[id]⟩,s)))
 case first =>
  refine wp_region_held_drew (S:=(λw'=>w'.cell? ⟨X+1,1,none⟩=some (.string key))) (by kernel_rfl) ((HB1.out.ext' (Mods.refl _ _).drew).elt.cell (o:=1) (v:=.string key) rfl) (λhHeld=>?_)
  obtain⟨Wd,hWd⟩:∃W,W=w1.drew:=⟨_,rfl⟩
  rw[← hWd] at hHeld ⊢
  have xWd:Ext w1 Wd:=by rw[hWd];exact (Mods.refl _ _).drew
  clear hWd
  have n1:=(HB1.out.ext' xWd).box.cell (o:=2) (v:=.slice ka ks.length kc) rfl
  have nf:=(HB1.out.ext' xWd).box.frozen
  refine wpAnyH_take (i:=1) (oi:=⟨some 17,_,_,_,_,_⟩) (v:=?_) rfl (by kernel_rfl) (by kernel_rfl) (by kernel_rfl) (λ_ _ _ h=>h) (Or.inl ⟨by rfl,?_⟩) (by assumption) ?_
  rotate_left
  ·intro w hSw;(try dsimp only at hSw);go_simp;(try (with_reducible rfl))
  rotate_left
  try go_frame
  refine wpAnyH_take (i:=2) (oi:=⟨some 18,_,_,_,_,_⟩) (v:=?_) rfl (by kernel_rfl) (by kernel_rfl) (by kernel_rfl) (λ_ _ _ h=>h) (Or.inl ⟨by rfl,?_⟩) (by assumption) ?_
  rotate_left
  ·intro w hSw;(try dsimp only at hSw);go_simp;(try (with_reducible rfl))
  rotate_left
  try go_frame
  refine wpAnyH_take (i:=5) (oi:=⟨some 21,_,_,_,_,_⟩) (v:=?_) rfl (by kernel_rfl) (by kernel_rfl) (by kernel_rfl) (λ_ _ _ h=>h) (Or.inl ⟨by rfl,?_⟩) (by assumption) ?_
  rotate_left
  ·intro w hSw;(try dsimp only at hSw);go_simp;(try (with_reducible rfl))
  rotate_left
  try go_frame
  refine wpAnyH_take (i:=6) (oi:=⟨some 22,_,_,_,_,_⟩) (v:=?_) rfl (by kernel_rfl) (by kernel_rfl) (by kernel_rfl) (λ_ _ _ h=>h) (Or.inl ⟨by rfl,?_⟩) (by assumption) ?_
  rotate_left
  ·intro w hSw;(try dsimp only at hSw);go_simp;(try (with_reducible rfl))
  rotate_left
  try go_frame
  refine wpAnyH_ready (rs:=[0,3,7]) (by kernel_rfl) (by simp) ?_
  refine AllReadyH.cons (o:=⟨some 16,_,_,_,_,_⟩) rfl (λK hK=>?_) ?_
  ·skip
   go_simp
   refine hK.out _ _ (by first|exact ((HB1.out.ext' (xWd.alloc _)).elt.cell (o:=1) (v:=.string key) rfl)|go_keep) (λhHeld=>?_)
   clear hK
   try go_frame
   obtain⟨W1a,hW1a⟩:∃W,W=Wd.alloc (.cells #[] 9):=⟨_,rfl⟩
   rw[← hW1a]
   have xW1a:Ext w1 W1a:=by rw[hW1a];exact xWd.alloc _
   have hl0:Blk W1a Wd.heap.size #[] 9:=by rw[hW1a];exact Blk.new Wd _ _
   have zW1a:Wd.heap.size<W1a.heap.size:=by rw[hW1a];simp
   clear hW1a
   have n1:=(HB1.out.ext' xW1a).box.cell (o:=2) (v:=.slice ka ks.length kc) rfl
   have nf:=(HB1.out.ext' xW1a).box.frozen
   refine wpAnyH_ready (rs:=[3,7]) (by kernel_rfl) (by simp) ?_
   refine AllReadyH.cons (o:=⟨some 19,_,_,_,_,_⟩) rfl (λK hK=>?_) ?_
   ·skip
    go_simp
    refine hK.out _ _ (by first|exact ((HB1.out.ext' xW1a).elt.cell (o:=1) (v:=.string key) rfl)|go_keep) (λhHeld=>?_)
    clear hK
    try go_frame
    refine wpAnyH_ready (rs:=[4,7]) (by kernel_rfl) (by simp) ?_
    refine AllReadyH.cons (o:=⟨some 20,_,_,_,_,_⟩) rfl (λK hK=>?_) ?_
    ·skip
     refine step_app2 Tryz.elS encS_ok (by rfl) _ _ (by rfl) w1.heap.size (.slice (some ⟨Wd.heap.size,0,none⟩) 0 0) (.slice ka ks.length kc) [] ks (by rfl) (by rfl) (Own.lit 1 encS encS_ok.len hl0 (by have:=xWd.size;omega)) (HSK.out.ext xW1a) (by simp only[List.length_nil];omega) (by have:=xW1a.size;omega) (λf=>f) ?_
     rw[List.nil_append,List.length_nil,Nat.zero_add]
     intro a1 c1 W2alb hO1 hm1 hat1
     have xW2alb:Ext w1 W2alb:=Mods.past xW1a (hm1.mono (λk hk=>by simp[Value.ownBlock] at hk;have:=xWd.size;omega))
     have n1:=(HB1.out.ext' xW2alb).box.cell (o:=2) (v:=.slice ka ks.length kc) rfl
     have nf:=(HB1.out.ext' xW2alb).box.frozen
     refine hK.out _ _ (by first|exact ((HB1.out.ext' xW2alb).elt.cell (o:=1) (v:=.string key) rfl)|go_keep) (λhHeld=>?_)
     clear hK
     try go_frame
     refine wpAnyH_ready (rs:=[7]) (by kernel_rfl) (by simp) ?_
     refine AllReadyH.cons (o:=⟨some 23,_,_,_,_,_⟩) rfl (λK hK=>?_) AllReadyH.nil
     go_simp
     refine hK.out _ _ (by first|exact ((HB1.out.ext' (xW2alb.alloc _)).elt.cell (o:=1) (v:=.string key) rfl)|go_keep) (λhHeld=>?_)
     clear hK
     try go_frame
     obtain⟨W3albc,hW3albc⟩:∃W,W=W2alb.alloc (.cells #[.string key] 9):=⟨_,rfl⟩
     rw[← hW3albc]
     have xW3albc:Ext w1 W3albc:=by rw[hW3albc];exact xW2alb.alloc _
     have hl1:Blk W3albc W2alb.heap.size #[.string key] 9:=by rw[hW3albc];exact Blk.new W2alb _ _
     have zW3albc:W2alb.heap.size<W3albc.heap.size:=by rw[hW3albc];simp
     have hO1:=hO1.ext (show Ext W2alb W3albc by rw[hW3albc];exact (Mods.refl _ _).alloc _)
     clear hW3albc
     have n1:=(HB1.out.ext' xW3albc).box.cell (o:=2) (v:=.slice ka ks.length kc) rfl
     have nf:=(HB1.out.ext' xW3albc).box.frozen
     refine wpAnyH_ready (rs:=[8]) (by kernel_rfl) (by simp) ?_
     refine AllReadyH.cons (o:=⟨some 24,_,_,_,_,_⟩) rfl (λK hK=>?_) AllReadyH.nil
     refine step_app2 Tryz.elS encS_ok (by rfl) _ _ (by rfl) w1.heap.size (.slice a1 ks.length c1) (.slice (some ⟨W2alb.heap.size,0,none⟩) 1 1) ks [key] (by rfl) (by rfl) hO1 (Sl.one (F:=λ_=>False) (x:=key) (enc:=encS) (sz:=1) hl1 (λf=>f)) (by simp only[List.length_singleton];omega) (by have:=xW3albc.size;omega) (λf=>f) ?_
     rw[List.length_singleton]
     intro a2 c2 W4albcd hO2 hm2 hat2
     have xW4albcd:Ext w1 W4albcd:=Mods.past xW3albc (hm2.mono (λk hk=>(hO1.lt k hk).1))
     have n1:=(HB1.out.ext' xW4albcd).box.cell (o:=2) (v:=.slice ka ks.length kc) rfl
     have nf:=(HB1.out.ext' xW4albcd).box.frozen
     refine hK.out _ _ (by first|exact ((HB1.out.ext' xW4albcd).elt.cell (o:=1) (v:=.string key) rfl)|go_keep) (λhHeld=>?_)
     clear hK
     try go_frame
     refine wpAnyH_take (i:=9) (oi:=⟨some 25,_,_,_,_,_⟩) (v:=?_) rfl (by kernel_rfl) (by kernel_rfl) (by kernel_rfl) (λ_ _ _ h=>h) (Or.inl ⟨by rfl,?_⟩) (by assumption) ?_
     rotate_left
     ·intro w hSw;(try dsimp only at hSw);go_simp;(try (with_reducible rfl))
     rotate_left
     try go_frame
     refine wpAnyH_take (i:=10) (oi:=⟨some 26,_,_,_,_,_⟩) (v:=?_) rfl (by kernel_rfl) (by kernel_rfl) (by kernel_rfl) (λ_ _ _ h=>h) (Or.inl ⟨by rfl,?_⟩) (by assumption) ?_
     rotate_left
     ·intro w hSw;(try dsimp only at hSw);go_simp;(try (with_reducible rfl))
     rotate_left
     try go_frame
     refine wpAnyH_ready (rs:=[11]) (by kernel_rfl) (by simp) ?_
     refine AllReadyH.cons (o:=⟨none,_,_,_,_,_⟩) rfl (λK hK=>?_) AllReadyH.nil
     go_simp
     refine hK.out _ _ (by first|exact (((HB1.out.ext' xW4albcd).putK (HBL2.out) hO2).elt.cell (o:=1) (v:=.string key) rfl)|go_keep) (λhHeld=>?_)
     clear hK
     try go_frame
     have hfin:=(HB1.out.ext' xW4albcd).putK (HBL2.out) hO2
     refine wpAnyH_done (by kernel_rfl) ?_ _
     have HFIN:=Lib.hid hfin
     clear hfin hO1 hO2
     go_wp2_with fail
     go_meet
     exact⟨a2,c2,HFIN⟩
    refine AllReadyH.cons (o:=⟨some 23,_,_,_,_,_⟩) rfl (λK hK=>?_) AllReadyH.nil
    go_simp
    refine hK.out _ _ (by first|exact ((HB1.out.ext' (xW1a.alloc _)).elt.cell (o:=1) (v:=.string key) rfl)|go_keep) (λhHeld=>?_)
    clear hK
    try go_frame
    obtain⟨W2alc,hW2alc⟩:∃W,W=W1a.alloc (.cells #[.string key] 9):=⟨_,rfl⟩
    rw[← hW2alc]
    have xW2alc:Ext w1 W2alc:=by rw[hW2alc];exact xW1a.alloc _
    have hl1:Blk W2alc W1a.heap.size #[.string key] 9:=by rw[hW2alc];exact Blk.new W1a _ _
    have zW2alc:W1a.heap.size<W2alc.heap.size:=by rw[hW2alc];simp
    have hl0:=hl0.ext (show Ext W1a W2alc by rw[hW2alc];exact (Mods.refl _ _).alloc _)
    clear hW2alc
    have n1:=(HB1.out.ext' xW2alc).box.cell (o:=2) (v:=.slice ka ks.length kc) rfl
    have nf:=(HB1.out.ext' xW2alc).box.frozen
    refine wpAnyH_ready (rs:=[4]) (by kernel_rfl) (by simp) ?_
    refine AllReadyH.cons (o:=⟨some 20,_,_,_,_,_⟩) rfl (λK hK=>?_) AllReadyH.nil
    refine step_app2 Tryz.elS encS_ok (by rfl) _ _ (by rfl) w1.heap.size (.slice (some ⟨Wd.heap.size,0,none⟩) 0 0) (.slice ka ks.length kc) [] ks (by rfl) (by rfl) (Own.lit 1 encS encS_ok.len hl0 (by have:=xWd.size;omega)) (HSK.out.ext xW2alc) (by simp only[List.length_nil];omega) (by have:=xW2alc.size;omega) (λf=>f) ?_
    rw[List.nil_append,List.length_nil,Nat.zero_add]
    intro a1 c1 W3alcb hO1 hm1 hat1
    have xW3alcb:Ext w1 W3alcb:=Mods.past xW2alc (hm1.mono (λk hk=>by simp[Value.ownBlock] at hk;have:=xWd.size;omega))
    have hl1:=hl1.mods hm1 (λhk=>by simp[Value.ownBlock] at hk;omega)
    have n1:=(HB1.out.ext' xW3alcb).box.cell (o:=2) (v:=.slice ka ks.length kc) rfl
    have nf:=(HB1.out.ext' xW3alcb).box.frozen
    refine hK.out _ _ (by first|exact ((HB1.out.ext' xW3alcb).elt.cell (o:=1) (v:=.string key) rfl)|go_keep) (λhHeld=>?_)
    clear hK
    try go_frame
    refine wpAnyH_ready (rs:=[8]) (by kernel_rfl) (by simp) ?_
    refine AllReadyH.cons (o:=⟨some 24,_,_,_,_,_⟩) rfl (λK hK=>?_) AllReadyH.nil
    refine step_app2 Tryz.elS encS_ok (by rfl) _ _ (by rfl) w1.heap.size (.slice a1 ks.length c1) (.slice (some ⟨W1a.heap.size,0,none⟩) 1 1) ks [key] (by rfl) (by rfl) hO1 (Sl.one (F:=λ_=>False) (x:=key) (enc:=encS) (sz:=1) hl1 (λf=>f)) (by simp only[List.length_singleton];omega) (by have:=xW3alcb.size;omega) (λf=>f) ?_
    rw[List.length_singleton]
    intro a2 c2 W4alcbd hO2 hm2 hat2
    have xW4alcbd:Ext w1 W4alcbd:=Mods.past xW3alcb (hm2.mono (λk hk=>(hO1.lt k hk).1))
    have n1:=(HB1.out.ext' xW4alcbd).box.cell (o:=2) (v:=.slice ka ks.length kc) rfl
    have nf:=(HB1.out.ext' xW4alcbd).box.frozen
    refine hK.out _ _ (by first|exact ((HB1.out.ext' xW4alcbd).elt.cell (o:=1) (v:=.string key) rfl)|go_keep) (λhHeld=>?_)
    clear hK
    try go_frame
    refine wpAnyH_take (i:=9) (oi:=⟨some 25,_,_,_,_,_⟩) (v:=?_) rfl (by kernel_rfl) (by kernel_rfl) (by kernel_rfl) (λ_ _ _ h=>h) (Or.inl ⟨by rfl,?_⟩) (by assumption) ?_
    rotate_left
    ·intro w hSw;(try dsimp only at hSw);go_simp;(try (with_reducible rfl))
    rotate_left
    try go_frame
    refine wpAnyH_take (i:=10) (oi:=⟨some 26,_,_,_,_,_⟩) (v:=?_) rfl (by kernel_rfl) (by kernel_rfl) (by kernel_rfl) (λ_ _ _ h=>h) (Or.inl ⟨by rfl,?_⟩) (by assumption) ?_
    rotate_left
    ·intro w hSw;(try dsimp only at hSw);go_simp;(try (with_reducible rfl))
    rotate_left
    try go_frame
    refine wpAnyH_ready (rs:=[11]) (by kernel_rfl) (by simp) ?_
    refine AllReadyH.cons (o:=⟨none,_,_,_,_,_⟩) rfl (λK hK=>?_) AllReadyH.nil
    go_simp
    refine hK.out _ _ (by first|exact (((HB1.out.ext' xW4alcbd).putK (HBL2.out) hO2).elt.cell (o:=1) (v:=.string key) rfl)|go_keep) (λhHeld=>?_)
    clear hK
    try go_frame
    have hfin:=(HB1.out.ext' xW4alcbd).putK (HBL2.out) hO2
    refine wpAnyH_done (by kernel_rfl) ?_ _
    have HFIN:=Lib.hid hfin
    clear hfin hO1 hO2
    go_wp2_with fail
    go_meet
    exact⟨a2,c2,HFIN⟩
   refine AllReadyH.cons (o:=⟨some 23,_,_,_,_,_⟩) rfl (λK hK=>?_) AllReadyH.nil
   go_simp
   refine hK.out _ _ (by first|exact ((HB1.out.ext' (xW1a.alloc _)).elt.cell (o:=1) (v:=.string key) rfl)|go_keep) (λhHeld=>?_)
   clear hK
   try go_frame
   obtain⟨W2ac,hW2ac⟩:∃W,W=W1a.alloc (.cells #[.string key] 9):=⟨_,rfl⟩
   rw[← hW2ac]
   have xW2ac:Ext w1 W2ac:=by rw[hW2ac];exact xW1a.alloc _
   have hl1:Blk W2ac W1a.heap.size #[.string key] 9:=by rw[hW2ac];exact Blk.new W1a _ _
   have zW2ac:W1a.heap.size<W2ac.heap.size:=by rw[hW2ac];simp
   have hl0:=hl0.ext (show Ext W1a W2ac by rw[hW2ac];exact (Mods.refl _ _).alloc _)
   clear hW2ac
   have n1:=(HB1.out.ext' xW2ac).box.cell (o:=2) (v:=.slice ka ks.length kc) rfl
   have nf:=(HB1.out.ext' xW2ac).box.frozen
   refine wpAnyH_ready (rs:=[3]) (by kernel_rfl) (by simp) ?_
   refine AllReadyH.cons (o:=⟨some 19,_,_,_,_,_⟩) rfl (λK hK=>?_) AllReadyH.nil
   go_simp
   refine hK.out _ _ (by first|exact ((HB1.out.ext' xW2ac).elt.cell (o:=1) (v:=.string key) rfl)|go_keep) (λhHeld=>?_)
   clear hK
   try go_frame
   refine wpAnyH_ready (rs:=[4]) (by kernel_rfl) (by simp) ?_
   refine AllReadyH.cons (o:=⟨some 20,_,_,_,_,_⟩) rfl (λK hK=>?_) AllReadyH.nil
   refine step_app2 Tryz.elS encS_ok (by rfl) _ _ (by rfl) w1.heap.size (.slice (some ⟨Wd.heap.size,0,none⟩) 0 0) (.slice ka ks.length kc) [] ks (by rfl) (by rfl) (Own.lit 1 encS encS_ok.len hl0 (by have:=xWd.size;omega)) (HSK.out.ext xW2ac) (by simp only[List.length_nil];omega) (by have:=xW2ac.size;omega) (λf=>f) ?_
   rw[List.nil_append,List.length_nil,Nat.zero_add]
   intro a1 c1 W3aclb hO1 hm1 hat1
   have xW3aclb:Ext w1 W3aclb:=Mods.past xW2ac (hm1.mono (λk hk=>by simp[Value.ownBlock] at hk;have:=xWd.size;omega))
   have hl1:=hl1.mods hm1 (λhk=>by simp[Value.ownBlock] at hk;omega)
   have n1:=(HB1.out.ext' xW3aclb).box.cell (o:=2) (v:=.slice ka ks.length kc) rfl
   have nf:=(HB1.out.ext' xW3aclb).box.frozen
   refine hK.out _ _ (by first|exact ((HB1.out.ext' xW3aclb).elt.cell (o:=1) (v:=.string key) rfl)|go_keep) (λhHeld=>?_)
   clear hK
   try go_frame
   refine wpAnyH_ready (rs:=[8]) (by kernel_rfl) (by simp) ?_
   refine AllReadyH.cons (o:=⟨some 24,_,_,_,_,_⟩) rfl (λK hK=>?_) AllReadyH.nil
   refine step_app2 Tryz.elS encS_ok (by rfl) _ _ (by rfl) w1.heap.size (.slice a1 ks.length c1) (.slice (some ⟨W1a.heap.size,0,none⟩) 1 1) ks [key] (by rfl) (by rfl) hO1 (Sl.one (F:=λ_=>False) (x:=key) (enc:=encS) (sz:=1) hl1 (λf=>f)) (by simp only[List.length_singleton];omega) (by have:=xW3aclb.size;omega) (λf=>f) ?_
   rw[List.length_singleton]
   intro a2 c2 W4aclbd hO2 hm2 hat2
   have xW4aclbd:Ext w1 W4aclbd:=Mods.past xW3aclb (hm2.mono (λk hk=>(hO1.lt k hk).1))
   have n1:=(HB1.out.ext' xW4aclbd).box.cell (o:=2) (v:=.slice ka ks.length kc) rfl
   have nf:=(HB1.out.ext' xW4aclbd).box.frozen
   refine hK.out _ _ (by first|exact ((HB1.out.ext' xW4aclbd).elt.cell (o:=1) (v:=.string key) rfl)|go_keep) (λhHeld=>?_)
   clear hK
   try go_frame
   refine wpAnyH_take (i:=9) (oi:=⟨some 25,_,_,_,_,_⟩) (v:=?_) rfl (by kernel_rfl) (by kernel_rfl) (by kernel_rfl) (λ_ _ _ h=>h) (Or.inl ⟨by rfl,?_⟩) (by assumption) ?_
   rotate_left
   ·intro w hSw;(try dsimp only at hSw);go_simp;(try (with_reducible rfl))
   rotate_left
   try go_frame
   refine wpAnyH_take (i:=10) (oi:=⟨some 26,_,_,_,_,_⟩) (v:=?_) rfl (by kernel_rfl) (by kernel_rfl) (by kernel_rfl) (λ_ _ _ h=>h) (Or.inl ⟨by rfl,?_⟩) (by assumption) ?_
   rotate_left
   ·intro w hSw;(try dsimp only at hSw);go_simp;(try (with_reducible rfl))
   rotate_left
   try go_frame
   refine wpAnyH_ready (rs:=[11]) (by kernel_rfl) (by simp) ?_
   refine AllReadyH.cons (o:=⟨none,_,_,_,_,_⟩) rfl (λK hK=>?_) AllReadyH.nil
   go_simp
   refine hK.out _ _ (by first|exact (((HB1.out.ext' xW4aclbd).putK (HBL2.out) hO2).elt.cell (o:=1) (v:=.string key) rfl)|go_keep) (λhHeld=>?_)
   clear hK
   try go_frame
   have hfin:=(HB1.out.ext' xW4aclbd).putK (HBL2.out) hO2
   refine wpAnyH_done (by kernel_rfl) ?_ _
   have HFIN:=Lib.hid hfin
   clear hfin hO1 hO2
   go_wp2_with fail
   go_meet
   exact⟨a2,c2,HFIN⟩
  refine AllReadyH.cons (o:=⟨some 19,_,_,_,_,_⟩) rfl (λK hK=>?_) ?_
  ·skip
   go_simp
   refine hK.out _ _ (by first|exact ((HB1.out.ext' xWd).elt.cell (o:=1) (v:=.string key) rfl)|go_keep) (λhHeld=>?_)
   clear hK
   try go_frame
   refine wpAnyH_ready (rs:=[0,7]) (by kernel_rfl) (by simp) ?_
   refine AllReadyH.cons (o:=⟨some 16,_,_,_,_,_⟩) rfl (λK hK=>?_) ?_
   ·skip
    go_simp
    refine hK.out _ _ (by first|exact ((HB1.out.ext' (xWd.alloc _)).elt.cell (o:=1) (v:=.string key) rfl)|go_keep) (λhHeld=>?_)
    clear hK
    try go_frame
    obtain⟨W1la,hW1la⟩:∃W,W=Wd.alloc (.cells #[] 9):=⟨_,rfl⟩
    rw[← hW1la]
    have xW1la:Ext w1 W1la:=by rw[hW1la];exact xWd.alloc _
    have hl0:Blk W1la Wd.heap.size #[] 9:=by rw[hW1la];exact Blk.new Wd _ _
    have zW1la:Wd.heap.size<W1la.heap.size:=by rw[hW1la];simp
    clear hW1la
    have n1:=(HB1.out.ext' xW1la).box.cell (o:=2) (v:=.slice ka ks.length kc) rfl
    have nf:=(HB1.out.ext' xW1la).box.frozen
    refine wpAnyH_ready (rs:=[4,7]) (by kernel_rfl) (by simp) ?_
    refine AllReadyH.cons (o:=⟨some 20,_,_,_,_,_⟩) rfl (λK hK=>?_) ?_
    ·skip
     refine step_app2 Tryz.elS encS_ok (by rfl) _ _ (by rfl) w1.heap.size (.slice (some ⟨Wd.heap.size,0,none⟩) 0 0) (.slice ka ks.length kc) [] ks (by rfl) (by rfl) (Own.lit 1 encS encS_ok.len hl0 (by have:=xWd.size;omega)) (HSK.out.ext xW1la) (by simp only[List.length_nil];omega) (by have:=xW1la.size;omega) (λf=>f) ?_
     rw[List.nil_append,List.length_nil,Nat.zero_add]
     intro a1 c1 W2lab hO1 hm1 hat1
     have xW2lab:Ext w1 W2lab:=Mods.past xW1la (hm1.mono (λk hk=>by simp[Value.ownBlock] at hk;have:=xWd.size;omega))
     have n1:=(HB1.out.ext' xW2lab).box.cell (o:=2) (v:=.slice ka ks.length kc) rfl
     have nf:=(HB1.out.ext' xW2lab).box.frozen
     refine hK.out _ _ (by first|exact ((HB1.out.ext' xW2lab).elt.cell (o:=1) (v:=.string key) rfl)|go_keep) (λhHeld=>?_)
     clear hK
     try go_frame
     refine wpAnyH_ready (rs:=[7]) (by kernel_rfl) (by simp) ?_
     refine AllReadyH.cons (o:=⟨some 23,_,_,_,_,_⟩) rfl (λK hK=>?_) AllReadyH.nil
     go_simp
     refine hK.out _ _ (by first|exact ((HB1.out.ext' (xW2lab.alloc _)).elt.cell (o:=1) (v:=.string key) rfl)|go_keep) (λhHeld=>?_)
     clear hK
     try go_frame
     obtain⟨W3labc,hW3labc⟩:∃W,W=W2lab.alloc (.cells #[.string key] 9):=⟨_,rfl⟩
     rw[← hW3labc]
     have xW3labc:Ext w1 W3labc:=by rw[hW3labc];exact xW2lab.alloc _
     have hl1:Blk W3labc W2lab.heap.size #[.string key] 9:=by rw[hW3labc];exact Blk.new W2lab _ _
     have zW3labc:W2lab.heap.size<W3labc.heap.size:=by rw[hW3labc];simp
     have hO1:=hO1.ext (show Ext W2lab W3labc by rw[hW3labc];exact (Mods.refl _ _).alloc _)
     clear hW3labc
     have n1:=(HB1.out.ext' xW3labc).box.cell (o:=2) (v:=.slice ka ks.length kc) rfl
     have nf:=(HB1.out.ext' xW3labc).box.frozen
     refine wpAnyH_ready (rs:=[8]) (by kernel_rfl) (by simp) ?_
     refine AllReadyH.cons (o:=⟨some 24,_,_,_,_,_⟩) rfl (λK hK=>?_) AllReadyH.nil
     refine step_app2 Tryz.elS encS_ok (by rfl) _ _ (by rfl) w1.heap.size (.slice a1 ks.length c1) (.slice (some ⟨W2lab.heap.size,0,none⟩) 1 1) ks [key] (by rfl) (by rfl) hO1 (Sl.one (F:=λ_=>False) (x:=key) (enc:=encS) (sz:=1) hl1 (λf=>f)) (by simp only[List.length_singleton];omega) (by have:=xW3labc.size;omega) (λf=>f) ?_
     rw[List.length_singleton]
     intro a2 c2 W4labcd hO2 hm2 hat2
     have xW4labcd:Ext w1 W4labcd:=Mods.past xW3labc (hm2.mono (λk hk=>(hO1.lt k hk).1))
     have n1:=(HB1.out.ext' xW4labcd).box.cell (o:=2) (v:=.slice ka ks.length kc) rfl
     have nf:=(HB1.out.ext' xW4labcd).box.frozen
     refine hK.out _ _ (by first|exact ((HB1.out.ext' xW4labcd).elt.cell (o:=1) (v:=.string key) rfl)|go_keep) (λhHeld=>?_)
     clear hK
     try go_frame
     refine wpAnyH_take (i:=9) (oi:=⟨some 25,_,_,_,_,_⟩) (v:=?_) rfl (by kernel_rfl) (by kernel_rfl) (by kernel_rfl) (λ_ _ _ h=>h) (Or.inl ⟨by rfl,?_⟩) (by assumption) ?_
     rotate_left
     ·intro w hSw;(try dsimp only at hSw);go_simp;(try (with_reducible rfl))
     rotate_left
     try go_frame
     refine wpAnyH_take (i:=10) (oi:=⟨some 26,_,_,_,_,_⟩) (v:=?_) rfl (by kernel_rfl) (by kernel_rfl) (by kernel_rfl) (λ_ _ _ h=>h) (Or.inl ⟨by rfl,?_⟩) (by assumption) ?_
     rotate_left
     ·intro w hSw;(try dsimp only at hSw);go_simp;(try (with_reducible rfl))
     rotate_left
     try go_frame
     refine wpAnyH_ready (rs:=[11]) (by kernel_rfl) (by simp) ?_
     refine AllReadyH.cons (o:=⟨none,_,_,_,_,_⟩) rfl (λK hK=>?_) AllReadyH.nil
     go_simp
     refine hK.out _ _ (by first|exact (((HB1.out.ext' xW4labcd).putK (HBL2.out) hO2).elt.cell (o:=1) (v:=.string key) rfl)|go_keep) (λhHeld=>?_)
     clear hK
     try go_frame
     have hfin:=(HB1.out.ext' xW4labcd).putK (HBL2.out) hO2
     refine wpAnyH_done (by kernel_rfl) ?_ _
     have HFIN:=Lib.hid hfin
     clear hfin hO1 hO2
     go_wp2_with fail
     go_meet
     exact⟨a2,c2,HFIN⟩
    refine AllReadyH.cons (o:=⟨some 23,_,_,_,_,_⟩) rfl (λK hK=>?_) AllReadyH.nil
    go_simp
    refine hK.out _ _ (by first|exact ((HB1.out.ext' (xW1la.alloc _)).elt.cell (o:=1) (v:=.string key) rfl)|go_keep) (λhHeld=>?_)
    clear hK
    try go_frame
    obtain⟨W2lac,hW2lac⟩:∃W,W=W1la.alloc (.cells #[.string key] 9):=⟨_,rfl⟩
    rw[← hW2lac]
    have xW2lac:Ext w1 W2lac:=by rw[hW2lac];exact xW1la.alloc _
    have hl1:Blk W2lac W1la.heap.size #[.string key] 9:=by rw[hW2lac];exact Blk.new W1la _ _
    have zW2lac:W1la.heap.size<W2lac.heap.size:=by rw[hW2lac];simp
    have hl0:=hl0.ext (show Ext W1la W2lac by rw[hW2lac];exact (Mods.refl _ _).alloc _)
    clear hW2lac
    have n1:=(HB1.out.ext' xW2lac).box.cell (o:=2) (v:=.slice ka ks.length kc) rfl
    have nf:=(HB1.out.ext' xW2lac).box.frozen
    refine wpAnyH_ready (rs:=[4]) (by kernel_rfl) (by simp) ?_
    refine AllReadyH.cons (o:=⟨some 20,_,_,_,_,_⟩) rfl (λK hK=>?_) AllReadyH.nil
    refine step_app2 Tryz.elS encS_ok (by rfl) _ _ (by rfl) w1.heap.size (.slice (some ⟨Wd.heap.size,0,none⟩) 0 0) (.slice ka ks.length kc) [] ks (by rfl) (by rfl) (Own.lit 1 encS encS_ok.len hl0 (by have:=xWd.size;omega)) (HSK.out.ext xW2lac) (by simp only[List.length_nil];omega) (by have:=xW2lac.size;omega) (λf=>f) ?_
    rw[List.nil_append,List.length_nil,Nat.zero_add]
    intro a1 c1 W3lacb hO1 hm1 hat1
    have xW3lacb:Ext w1 W3lacb:=Mods.past xW2lac (hm1.mono (λk hk=>by simp[Value.ownBlock] at hk;have:=xWd.size;omega))
    have hl1:=hl1.mods hm1 (λhk=>by simp[Value.ownBlock] at hk;omega)
    have n1:=(HB1.out.ext' xW3lacb).box.cell (o:=2) (v:=.slice ka ks.length kc) rfl
    have nf:=(HB1.out.ext' xW3lacb).box.frozen
    refine hK.out _ _ (by first|exact ((HB1.out.ext' xW3lacb).elt.cell (o:=1) (v:=.string key) rfl)|go_keep) (λhHeld=>?_)
    clear hK
    try go_frame
    refine wpAnyH_ready (rs:=[8]) (by kernel_rfl) (by simp) ?_
    refine AllReadyH.cons (o:=⟨some 24,_,_,_,_,_⟩) rfl (λK hK=>?_) AllReadyH.nil
    refine step_app2 Tryz.elS encS_ok (by rfl) _ _ (by rfl) w1.heap.size (.slice a1 ks.length c1) (.slice (some ⟨W1la.heap.size,0,none⟩) 1 1) ks [key] (by rfl) (by rfl) hO1 (Sl.one (F:=λ_=>False) (x:=key) (enc:=encS) (sz:=1) hl1 (λf=>f)) (by simp only[List.length_singleton];omega) (by have:=xW3lacb.size;omega) (λf=>f) ?_
    rw[List.length_singleton]
    intro a2 c2 W4lacbd hO2 hm2 hat2
    have xW4lacbd:Ext w1 W4lacbd:=Mods.past xW3lacb (hm2.mono (λk hk=>(hO1.lt k hk).1))
    have n1:=(HB1.out.ext' xW4lacbd).box.cell (o:=2) (v:=.slice ka ks.length kc) rfl
    have nf:=(HB1.out.ext' xW4lacbd).box.frozen
    refine hK.out _ _ (by first|exact ((HB1.out.ext' xW4lacbd).elt.cell (o:=1) (v:=.string key) rfl)|go_keep) (λhHeld=>?_)
    clear hK
    try go_frame
    refine wpAnyH_take (i:=9) (oi:=⟨some 25,_,_,_,_,_⟩) (v:=?_) rfl (by kernel_rfl) (by kernel_rfl) (by kernel_rfl) (λ_ _ _ h=>h) (Or.inl ⟨by rfl,?_⟩) (by assumption) ?_
    rotate_left
    ·intro w hSw;(try dsimp only at hSw);go_simp;(try (with_reducible rfl))
    rotate_left
    try go_frame
    refine wpAnyH_take (i:=10) (oi:=⟨some 26,_,_,_,_,_⟩) (v:=?_) rfl (by kernel_rfl) (by kernel_rfl) (by kernel_rfl) (λ_ _ _ h=>h) (Or.inl ⟨by rfl,?_⟩) (by assumption) ?_
    rotate_left
    ·intro w hSw;(try dsimp only at hSw);go_simp;(try (with_reducible rfl))
    rotate_left
    try go_frame
    refine wpAnyH_ready (rs:=[11]) (by kernel_rfl) (by simp) ?_
    refine AllReadyH.cons (o:=⟨none,_,_,_,_,_⟩) rfl (λK hK=>?_) AllReadyH.nil
    go_simp
    refine hK.out _ _ (by first|exact (((HB1.out.ext' xW4lacbd).putK (HBL2.out) hO2).elt.cell (o:=1) (v:=.string key) rfl)|go_keep) (λhHeld=>?_)
    clear hK
    try go_frame
    have hfin:=(HB1.out.ext' xW4lacbd).putK (HBL2.out) hO2
    refine wpAnyH_done (by kernel_rfl) ?_ _
    have HFIN:=Lib.hid hfin
    clear hfin hO1 hO2
    go_wp2_with fail
    go_meet
    exact⟨a2,c2,HFIN⟩
   refine AllReadyH.cons (o:=⟨some 23,_,_,_,_,_⟩) rfl (λK hK=>?_) AllReadyH.nil
   go_simp
   refine hK.out _ _ (by first|exact ((HB1.out.ext' (xWd.alloc _)).elt.cell (o:=1) (v:=.string key) rfl)|go_keep) (λhHeld=>?_)
   clear hK
   try go_frame
   obtain⟨W1lc,hW1lc⟩:∃W,W=Wd.alloc (.cells #[.string key] 9):=⟨_,rfl⟩
   rw[← hW1lc]
   have xW1lc:Ext w1 W1lc:=by rw[hW1lc];exact xWd.alloc _
   have hl1:Blk W1lc Wd.heap.size #[.string key] 9:=by rw[hW1lc];exact Blk.new Wd _ _
   have zW1lc:Wd.heap.size<W1lc.heap.size:=by rw[hW1lc];simp
   clear hW1lc
   have n1:=(HB1.out.ext' xW1lc).box.cell (o:=2) (v:=.slice ka ks.length kc) rfl
   have nf:=(HB1.out.ext' xW1lc).box.frozen
   refine wpAnyH_ready (rs:=[0]) (by kernel_rfl) (by simp) ?_
   refine AllReadyH.cons (o:=⟨some 16,_,_,_,_,_⟩) rfl (λK hK=>?_) AllReadyH.nil
   go_simp
   refine hK.out _ _ (by first|exact ((HB1.out.ext' (xW1lc.alloc _)).elt.cell (o:=1) (v:=.string key) rfl)|go_keep) (λhHeld=>?_)
   clear hK
   try go_frame
   obtain⟨W2lca,hW2lca⟩:∃W,W=W1lc.alloc (.cells #[] 9):=⟨_,rfl⟩
   rw[← hW2lca]
   have xW2lca:Ext w1 W2lca:=by rw[hW2lca];exact xW1lc.alloc _
   have hl0:Blk W2lca W1lc.heap.size #[] 9:=by rw[hW2lca];exact Blk.new W1lc _ _
   have zW2lca:W1lc.heap.size<W2lca.heap.size:=by rw[hW2lca];simp
   have hl1:=hl1.ext (show Ext W1lc W2lca by rw[hW2lca];exact (Mods.refl _ _).alloc _)
   clear hW2lca
   have n1:=(HB1.out.ext' xW2lca).box.cell (o:=2) (v:=.slice ka ks.length kc) rfl
   have nf:=(HB1.out.ext' xW2lca).box.frozen
   refine wpAnyH_ready (rs:=[4]) (by kernel_rfl) (by simp) ?_
   refine AllReadyH.cons (o:=⟨some 20,_,_,_,_,_⟩) rfl (λK hK=>?_) AllReadyH.nil
   refine step_app2 Tryz.elS encS_ok (by rfl) _ _ (by rfl) w1.heap.size (.slice (some ⟨W1lc.heap.size,0,none⟩) 0 0) (.slice ka ks.length kc) [] ks (by rfl) (by rfl) (Own.lit 1 encS encS_ok.len hl0 (by have:=xW1lc.size;omega)) (HSK.out.ext xW2lca) (by simp only[List.length_nil];omega) (by have:=xW2lca.size;omega) (λf=>f) ?_
   rw[List.nil_append,List.length_nil,Nat.zero_add]
   intro a1 c1 W3lcab hO1 hm1 hat1
   have xW3lcab:Ext w1 W3lcab:=Mods.past xW2lca (hm1.mono (λk hk=>by simp[Value.ownBlock] at hk;have:=xW1lc.size;omega))
   have hl1:=hl1.mods hm1 (λhk=>by simp[Value.ownBlock] at hk;omega)
   have n1:=(HB1.out.ext' xW3lcab).box.cell (o:=2) (v:=.slice ka ks.length kc) rfl
   have nf:=(HB1.out.ext' xW3lcab).box.frozen
   refine hK.out _ _ (by first|exact ((HB1.out.ext' xW3lcab).elt.cell (o:=1) (v:=.string key) rfl)|go_keep) (λhHeld=>?_)
   clear hK
   try go_frame
   refine wpAnyH_ready (rs:=[8]) (by kernel_rfl) (by simp) ?_
   refine AllReadyH.cons (o:=⟨some 24,_,_,_,_,_⟩) rfl (λK hK=>?_) AllReadyH.nil
   refine step_app2 Tryz.elS encS_ok (by rfl) _ _ (by rfl) w1.heap.size (.slice a1 ks.length c1) (.slice (some ⟨Wd.heap.size,0,none⟩) 1 1) ks [key] (by rfl) (by rfl) hO1 (Sl.one (F:=λ_=>False) (x:=key) (enc:=encS) (sz:=1) hl1 (λf=>f)) (by simp only[List.length_singleton];omega) (by have:=xW3lcab.size;omega) (λf=>f) ?_
   rw[List.length_singleton]
   intro a2 c2 W4lcabd hO2 hm2 hat2
   have xW4lcabd:Ext w1 W4lcabd:=Mods.past xW3lcab (hm2.mono (λk hk=>(hO1.lt k hk).1))
   have n1:=(HB1.out.ext' xW4lcabd).box.cell (o:=2) (v:=.slice ka ks.length kc) rfl
   have nf:=(HB1.out.ext' xW4lcabd).box.frozen
   refine hK.out _ _ (by first|exact ((HB1.out.ext' xW4lcabd).elt.cell (o:=1) (v:=.string key) rfl)|go_keep) (λhHeld=>?_)
   clear hK
   try go_frame
   refine wpAnyH_take (i:=9) (oi:=⟨some 25,_,_,_,_,_⟩) (v:=?_) rfl (by kernel_rfl) (by kernel_rfl) (by kernel_rfl) (λ_ _ _ h=>h) (Or.inl ⟨by rfl,?_⟩) (by assumption) ?_
   rotate_left
   ·intro w hSw;(try dsimp only at hSw);go_simp;(try (with_reducible rfl))
   rotate_left
   try go_frame
   refine wpAnyH_take (i:=10) (oi:=⟨some 26,_,_,_,_,_⟩) (v:=?_) rfl (by kernel_rfl) (by kernel_rfl) (by kernel_rfl) (λ_ _ _ h=>h) (Or.inl ⟨by rfl,?_⟩) (by assumption) ?_
   rotate_left
   ·intro w hSw;(try dsimp only at hSw);go_simp;(try (with_reducible rfl))
   rotate_left
   try go_frame
   refine wpAnyH_ready (rs:=[11]) (by kernel_rfl) (by simp) ?_
   refine AllReadyH.cons (o:=⟨none,_,_,_,_,_⟩) rfl (λK hK=>?_) AllReadyH.nil
   go_simp
   refine hK.out _ _ (by first|exact (((HB1.out.ext' xW4lcabd).putK (HBL2.out) hO2).elt.cell (o:=1) (v:=.string key) rfl)|go_keep) (λhHeld=>?_)
   clear hK
   try go_frame
   have hfin:=(HB1.out.ext' xW4lcabd).putK (HBL2.out) hO2
   refine wpAnyH_done (by kernel_rfl) ?_ _
   have HFIN:=Lib.hid hfin
   clear hfin hO1 hO2
   go_wp2_with fail
   go_meet
   exact⟨a2,c2,HFIN⟩
  refine AllReadyH.cons (o:=⟨some 23,_,_,_,_,_⟩) rfl (λK hK=>?_) AllReadyH.nil
  go_simp
  refine hK.out _ _ (by first|exact ((HB1.out.ext' (xWd.alloc _)).elt.cell (o:=1) (v:=.string key) rfl)|go_keep) (λhHeld=>?_)
  clear hK
  try go_frame
  obtain⟨W1c,hW1c⟩:∃W,W=Wd.alloc (.cells #[.string key] 9):=⟨_,rfl⟩
  rw[← hW1c]
  have xW1c:Ext w1 W1c:=by rw[hW1c];exact xWd.alloc _
  have hl1:Blk W1c Wd.heap.size #[.string key] 9:=by rw[hW1c];exact Blk.new Wd _ _
  have zW1c:Wd.heap.size<W1c.heap.size:=by rw[hW1c];simp
  clear hW1c
  have n1:=(HB1.out.ext' xW1c).box.cell (o:=2) (v:=.slice ka ks.length kc) rfl
  have nf:=(HB1.out.ext' xW1c).box.frozen
  refine wpAnyH_ready (rs:=[0,3]) (by kernel_rfl) (by simp) ?_
  refine AllReadyH.cons (o:=⟨some 16,_,_,_,_,_⟩) rfl (λK hK=>?_) ?_
  ·skip
   go_simp
   refine hK.out _ _ (by first|exact ((HB1.out.ext' (xW1c.alloc _)).elt.cell (o:=1) (v:=.string key) rfl)|go_keep) (λhHeld=>?_)
   clear hK
   try go_frame
   obtain⟨W2ca,hW2ca⟩:∃W,W=W1c.alloc (.cells #[] 9):=⟨_,rfl⟩
   rw[← hW2ca]
   have xW2ca:Ext w1 W2ca:=by rw[hW2ca];exact xW1c.alloc _
   have hl0:Blk W2ca W1c.heap.size #[] 9:=by rw[hW2ca];exact Blk.new W1c _ _
   have zW2ca:W1c.heap.size<W2ca.heap.size:=by rw[hW2ca];simp
   have hl1:=hl1.ext (show Ext W1c W2ca by rw[hW2ca];exact (Mods.refl _ _).alloc _)
   clear hW2ca
   have n1:=(HB1.out.ext' xW2ca).box.cell (o:=2) (v:=.slice ka ks.length kc) rfl
   have nf:=(HB1.out.ext' xW2ca).box.frozen
   refine wpAnyH_ready (rs:=[3]) (by kernel_rfl) (by simp) ?_
   refine AllReadyH.cons (o:=⟨some 19,_,_,_,_,_⟩) rfl (λK hK=>?_) AllReadyH.nil
   go_simp
   refine hK.out _ _ (by first|exact ((HB1.out.ext' xW2ca).elt.cell (o:=1) (v:=.string key) rfl)|go_keep) (λhHeld=>?_)
   clear hK
   try go_frame
   refine wpAnyH_ready (rs:=[4]) (by kernel_rfl) (by simp) ?_
   refine AllReadyH.cons (o:=⟨some 20,_,_,_,_,_⟩) rfl (λK hK=>?_) AllReadyH.nil
   refine step_app2 Tryz.elS encS_ok (by rfl) _ _ (by rfl) w1.heap.size (.slice (some ⟨W1c.heap.size,0,none⟩) 0 0) (.slice ka ks.length kc) [] ks (by rfl) (by rfl) (Own.lit 1 encS encS_ok.len hl0 (by have:=xW1c.size;omega)) (HSK.out.ext xW2ca) (by simp only[List.length_nil];omega) (by have:=xW2ca.size;omega) (λf=>f) ?_
   rw[List.nil_append,List.length_nil,Nat.zero_add]
   intro a1 c1 W3calb hO1 hm1 hat1
   have xW3calb:Ext w1 W3calb:=Mods.past xW2ca (hm1.mono (λk hk=>by simp[Value.ownBlock] at hk;have:=xW1c.size;omega))
   have hl1:=hl1.mods hm1 (λhk=>by simp[Value.ownBlock] at hk;omega)
   have n1:=(HB1.out.ext' xW3calb).box.cell (o:=2) (v:=.slice ka ks.length kc) rfl
   have nf:=(HB1.out.ext' xW3calb).box.frozen
   refine hK.out _ _ (by first|exact ((HB1.out.ext' xW3calb).elt.cell (o:=1) (v:=.string key) rfl)|go_keep) (λhHeld=>?_)
   clear hK
   try go_frame
   refine wpAnyH_ready (rs:=[8]) (by kernel_rfl) (by simp) ?_
   refine AllReadyH.cons (o:=⟨some 24,_,_,_,_,_⟩) rfl (λK hK=>?_) AllReadyH.nil
   refine step_app2 Tryz.elS encS_ok (by rfl) _ _ (by rfl) w1.heap.size (.slice a1 ks.length c1) (.slice (some ⟨Wd.heap.size,0,none⟩) 1 1) ks [key] (by rfl) (by rfl) hO1 (Sl.one (F:=λ_=>False) (x:=key) (enc:=encS) (sz:=1) hl1 (λf=>f)) (by simp only[List.length_singleton];omega) (by have:=xW3calb.size;omega) (λf=>f) ?_
   rw[List.length_singleton]
   intro a2 c2 W4calbd hO2 hm2 hat2
   have xW4calbd:Ext w1 W4calbd:=Mods.past xW3calb (hm2.mono (λk hk=>(hO1.lt k hk).1))
   have n1:=(HB1.out.ext' xW4calbd).box.cell (o:=2) (v:=.slice ka ks.length kc) rfl
   have nf:=(HB1.out.ext' xW4calbd).box.frozen
   refine hK.out _ _ (by first|exact ((HB1.out.ext' xW4calbd).elt.cell (o:=1) (v:=.string key) rfl)|go_keep) (λhHeld=>?_)
   clear hK
   try go_frame
   refine wpAnyH_take (i:=9) (oi:=⟨some 25,_,_,_,_,_⟩) (v:=?_) rfl (by kernel_rfl) (by kernel_rfl) (by kernel_rfl) (λ_ _ _ h=>h) (Or.inl ⟨by rfl,?_⟩) (by assumption) ?_
   rotate_left
   ·intro w hSw;(try dsimp only at hSw);go_simp;(try (with_reducible rfl))
   rotate_left
   try go_frame
   refine wpAnyH_take (i:=10) (oi:=⟨some 26,_,_,_,_,_⟩) (v:=?_) rfl (by kernel_rfl) (by kernel_rfl) (by kernel_rfl) (λ_ _ _ h=>h) (Or.inl ⟨by rfl,?_⟩) (by assumption) ?_
   rotate_left
   ·intro w hSw;(try dsimp only at hSw);go_simp;(try (with_reducible rfl))
   rotate_left
   try go_frame
   refine wpAnyH_ready (rs:=[11]) (by kernel_rfl) (by simp) ?_
   refine AllReadyH.cons (o:=⟨none,_,_,_,_,_⟩) rfl (λK hK=>?_) AllReadyH.nil
   go_simp
   refine hK.out _ _ (by first|exact (((HB1.out.ext' xW4calbd).putK (HBL2.out) hO2).elt.cell (o:=1) (v:=.string key) rfl)|go_keep) (λhHeld=>?_)
   clear hK
   try go_frame
   have hfin:=(HB1.out.ext' xW4calbd).putK (HBL2.out) hO2
   refine wpAnyH_done (by kernel_rfl) ?_ _
   have HFIN:=Lib.hid hfin
   clear hfin hO1 hO2
   go_wp2_with fail
   go_meet
   exact⟨a2,c2,HFIN⟩
  refine AllReadyH.cons (o:=⟨some 19,_,_,_,_,_⟩) rfl (λK hK=>?_) AllReadyH.nil
  go_simp
  refine hK.out _ _ (by first|exact ((HB1.out.ext' xW1c).elt.cell (o:=1) (v:=.string key) rfl)|go_keep) (λhHeld=>?_)
  clear hK
  try go_frame
  refine wpAnyH_ready (rs:=[0]) (by kernel_rfl) (by simp) ?_
  refine AllReadyH.cons (o:=⟨some 16,_,_,_,_,_⟩) rfl (λK hK=>?_) AllReadyH.nil
  go_simp
  refine hK.out _ _ (by first|exact ((HB1.out.ext' (xW1c.alloc _)).elt.cell (o:=1) (v:=.string key) rfl)|go_keep) (λhHeld=>?_)
  clear hK
  try go_frame
  obtain⟨W2cla,hW2cla⟩:∃W,W=W1c.alloc (.cells #[] 9):=⟨_,rfl⟩
  rw[← hW2cla]
  have xW2cla:Ext w1 W2cla:=by rw[hW2cla];exact xW1c.alloc _
  have hl0:Blk W2cla W1c.heap.size #[] 9:=by rw[hW2cla];exact Blk.new W1c _ _
  have zW2cla:W1c.heap.size<W2cla.heap.size:=by rw[hW2cla];simp
  have hl1:=hl1.ext (show Ext W1c W2cla by rw[hW2cla];exact (Mods.refl _ _).alloc _)
  clear hW2cla
  have n1:=(HB1.out.ext' xW2cla).box.cell (o:=2) (v:=.slice ka ks.length kc) rfl
  have nf:=(HB1.out.ext' xW2cla).box.frozen
  refine wpAnyH_ready (rs:=[4]) (by kernel_rfl) (by simp) ?_
  refine AllReadyH.cons (o:=⟨some 20,_,_,_,_,_⟩) rfl (λK hK=>?_) AllReadyH.nil
  refine step_app2 Tryz.elS encS_ok (by rfl) _ _ (by rfl) w1.heap.size (.slice (some ⟨W1c.heap.size,0,none⟩) 0 0) (.slice ka ks.length kc) [] ks (by rfl) (by rfl) (Own.lit 1 encS encS_ok.len hl0 (by have:=xW1c.size;omega)) (HSK.out.ext xW2cla) (by simp only[List.length_nil];omega) (by have:=xW2cla.size;omega) (λf=>f) ?_
  rw[List.nil_append,List.length_nil,Nat.zero_add]
  intro a1 c1 W3clab hO1 hm1 hat1
  have xW3clab:Ext w1 W3clab:=Mods.past xW2cla (hm1.mono (λk hk=>by simp[Value.ownBlock] at hk;have:=xW1c.size;omega))
  have hl1:=hl1.mods hm1 (λhk=>by simp[Value.ownBlock] at hk;omega)
  have n1:=(HB1.out.ext' xW3clab).box.cell (o:=2) (v:=.slice ka ks.length kc) rfl
  have nf:=(HB1.out.ext' xW3clab).box.frozen
  refine hK.out _ _ (by first|exact ((HB1.out.ext' xW3clab).elt.cell (o:=1) (v:=.string key) rfl)|go_keep) (λhHeld=>?_)
  clear hK
  try go_frame
  refine wpAnyH_ready (rs:=[8]) (by kernel_rfl) (by simp) ?_
  refine AllReadyH.cons (o:=⟨some 24,_,_,_,_,_⟩) rfl (λK hK=>?_) AllReadyH.nil
  refine step_app2 Tryz.elS encS_ok (by rfl) _ _ (by rfl) w1.heap.size (.slice a1 ks.length c1) (.slice (some ⟨Wd.heap.size,0,none⟩) 1 1) ks [key] (by rfl) (by rfl) hO1 (Sl.one (F:=λ_=>False) (x:=key) (enc:=encS) (sz:=1) hl1 (λf=>f)) (by simp only[List.length_singleton];omega) (by have:=xW3clab.size;omega) (λf=>f) ?_
  rw[List.length_singleton]
  intro a2 c2 W4clabd hO2 hm2 hat2
  have xW4clabd:Ext w1 W4clabd:=Mods.past xW3clab (hm2.mono (λk hk=>(hO1.lt k hk).1))
  have n1:=(HB1.out.ext' xW4clabd).box.cell (o:=2) (v:=.slice ka ks.length kc) rfl
  have nf:=(HB1.out.ext' xW4clabd).box.frozen
  refine hK.out _ _ (by first|exact ((HB1.out.ext' xW4clabd).elt.cell (o:=1) (v:=.string key) rfl)|go_keep) (λhHeld=>?_)
  clear hK
  try go_frame
  refine wpAnyH_take (i:=9) (oi:=⟨some 25,_,_,_,_,_⟩) (v:=?_) rfl (by kernel_rfl) (by kernel_rfl) (by kernel_rfl) (λ_ _ _ h=>h) (Or.inl ⟨by rfl,?_⟩) (by assumption) ?_
  rotate_left
  ·intro w hSw;(try dsimp only at hSw);go_simp;(try (with_reducible rfl))
  rotate_left
  try go_frame
  refine wpAnyH_take (i:=10) (oi:=⟨some 26,_,_,_,_,_⟩) (v:=?_) rfl (by kernel_rfl) (by kernel_rfl) (by kernel_rfl) (λ_ _ _ h=>h) (Or.inl ⟨by rfl,?_⟩) (by assumption) ?_
  rotate_left
  ·intro w hSw;(try dsimp only at hSw);go_simp;(try (with_reducible rfl))
  rotate_left
  try go_frame
  refine wpAnyH_ready (rs:=[11]) (by kernel_rfl) (by simp) ?_
  refine AllReadyH.cons (o:=⟨none,_,_,_,_,_⟩) rfl (λK hK=>?_) AllReadyH.nil
  go_simp
  refine hK.out _ _ (by first|exact (((HB1.out.ext' xW4clabd).putK (HBL2.out) hO2).elt.cell (o:=1) (v:=.string key) rfl)|go_keep) (λhHeld=>?_)
  clear hK
  try go_frame
  have hfin:=(HB1.out.ext' xW4clabd).putK (HBL2.out) hO2
  refine wpAnyH_done (by kernel_rfl) ?_ _
  have HFIN:=Lib.hid hfin
  clear hfin hO1 hO2
  go_wp2_with fail
  go_meet
  exact⟨a2,c2,HFIN⟩
 case rest =>
  obtain⟨a,c,HB2⟩:=hcut
  have y0:=HB2.out.box.cell (o:=0) rfl
  have y1:=HB2.out.box.cell (o:=1) rfl
  have y2:=HB2.out.box.cell (o:=2) rfl
  have y3:=HB2.out.box.cell (o:=3) rfl
  have y4:=HB2.out.box.cell (o:=4) rfl
  have rf:=HB2.out.res.frozen
  have r0:=HB2.out.res.cell (o:=0) (v:=.bool false) rfl
  have r1:=HB2.out.res.cell (o:=1) (v:=.slice none 0 0) rfl
  have r2:=HB2.out.res.cell (o:=2) (v:=.slice none 0 0) rfl
  have r3:=HB2.out.res.cell (o:=3) (v:=.slice none 0 0) rfl
  have r4:=HB2.out.res.cell (o:=4) (v:=.string ⟨#[]⟩) rfl
  have HRT:=Lib.hid HB2.out.ret
  unfold slV at y1 y2 y3
  go_wp2_with fail
  refine bodyPost_ret (results_cell_row rfl _ _ (X+1+1) 197 _ (0,0) _ rfl HRT.out.1 Tryz.underlying197 rfl Tryz.partSz5) rfl ?_
  exact⟨_,rfl,HRT.out.2.1,HRT.out.2.2⟩
theorem above1_any(id:Nat)(key:ByteArray) : Calls Tryz.prog 110 #[.agg #[.int .i64 (id:Int),.string key]] w λen w'=>∃v,en=.returned v∧PtO w' w.heap.size v (ptI [(id,key)])∧Ext w w':=by
 obtain⟨W,hW⟩:∃W,W=((w.alloc (.cells #[.int .i64 (id:Int),.string key] 151)).alloc (.cells #[.bool false,.slice none 0 0,.slice none 0 0,.slice (some ⟨w.heap.size+1+1,0,none⟩) 1 1,.string key] 197)).alloc (.cells #[.int .i64 (id:Int)] 3):=⟨_,rfl⟩
 have HM:Hid (Ext w W):=Lib.hid (by rw[hW];exact (((Mods.refl _ w).alloc _).alloc _).alloc _)
 have HF:Hid (Blk W (w.heap.size+1) #[.bool false,.slice none 0 0,.slice none 0 0,.slice (some ⟨w.heap.size+1+1,0,none⟩) 1 1,.string key] 197):=Lib.hid (by rw[hW];exact Blk.alloc (heap_at (by simp)) _)
 have HL:Hid (Blk W (w.heap.size+1+1) #[.int .i64 (id:Int)] 3):=Lib.hid (by rw[hW];exact heap_at (by simp))
 have HO:Hid (Own NoF W w.heap.size 3 1 encI (.slice (some ⟨w.heap.size+1+1,0,none⟩) 1 1) [(id:Int)]):=Lib.hid (Own.made (l:=[(id:Int)]) HL.out (by omega) (λf=>f) (Nat.le_refl _) (by simp[maxLen]) rfl rfl encI_ok.len)
 have HW:=Lib.hid hW
 clear hW
 go_enter Tryz.func110, Tryz.ntmps110
 go_wp2_with fail
 rw[← HW.out]
 refine bodyPost_ret (results_cell_row rfl _ _ (w.heap.size+1) 197 _ (0,0) _ rfl HF.out Tryz.underlying197 rfl Tryz.partSz5) rfl ?_
 exact⟨_,rfl,⟨⟨false,(none,0,0),(none,0,0),(some ⟨w.heap.size+1+1,0,none⟩,1,1),key⟩,rfl,rfl,rfl,Own.nil _ _ _ _ _ _,Own.nil _ _ _ _ _ _,HO.out⟩,HM.out⟩
end
end Go.Proofs.YtchklfmggpconaaGreatDoor
