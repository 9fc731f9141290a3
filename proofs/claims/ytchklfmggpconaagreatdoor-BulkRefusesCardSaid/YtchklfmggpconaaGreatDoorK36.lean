import Derived.Test.YtchklfmggpconaaGreatDoorK35
import Derived.Deep.RegionHeld3
namespace Go.Proofs.YtchklfmggpconaaGreatDoor
open Lib renaming hid→oh
set_option maxHeartbeats 8000000
set_option maxRecDepth 100000
section
open Go.RowKit
attribute [local go_sem ↓] Go.wp_at_zero Go.wp_at_succ
def encKd(x:KidA):List Value:=[.int .i64 (x.1:Int),.string x.2]
theorem encKd_ok:EncOk encKd 2:=⟨λ_=>rfl,by intro x u hu;simp[encKd] at hu;rcases hu with rfl|rfl <;> rfl⟩
theorem sumKg_len:∀es:List ByteArray,5 * (es.length:Int)≤sumK es
 | []=>by simp[sumK]
 | x :: es=>by
  have:=sumKg_len es;simp only[sumK,List.length_cons];omega
theorem smallI{g:List KidA}(h:∀x∈g,keyB x.2=true)(hw:weightN (mkI g)≤3000):okPt (ptI g):=by
 have hw':=hw;rw[mkI_wt] at hw;have hl:=sumKg_len (g.tail.map (·.2));rw[List.length_map,List.length_tail] at hl;refine⟨by show 0≤2000;omega,by show (g.tail.map (·.2)).length≤2000;rw[List.length_map,List.length_tail];omega,by show (g.map λk=>(k.1:Int)).length≤2000;rw[List.length_map];omega,by show weightN (mkI g)≤_;omega,?_⟩;show (firstG (·.2) g).size≤10000;cases g with
 | nil=>show (0:Nat)≤10000;omega
 | cons x g =>
  have:=(keyB_iff x.2).1 (h x List.mem_cons_self);show x.2.size≤10000;omega
section
variable {w:World}
theorem above2_pt{b0:Nat}{xb:PtV}{gl:List KidA}(e:KidA)(hx:PtR w b0 xb (ptI gl))(hb:b0≤w.heap.size)(hn:gl.length≤100000)(hne:gl≠[]) : Calls Tryz.prog 111 #[ptV xb,.agg #[.int .i64 (e.1:Int),.string e.2]] w λen w'=>∃v,en=.returned v∧PtO w' b0 v (ptI (gl++[e]))∧Ext w w':=by
 obtain⟨lf,xe,⟨ka,kn,kc⟩,⟨ia,jn,ic⟩,s⟩:=xb;have h1:lf=false:=hx.lf;have h2:s=firstG (·.2) gl:=hx.fst;obtain⟨a',c',h3,_,_⟩:=hx.k.form;obtain⟨a2,c2,h6,_,_⟩:=hx.i.form;injection h3 with h3 h4 h5;injection h6 with h6 h7 h8;have h4:kn=(gl.tail.map (·.2)).length:=h4;have h7:jn=(gl.map λk=>(k.1:Int)).length:=h7;subst h1 h2 h4 h7;have:=above2_any (gl.tail.map (·.2)) (gl.map λk=>(k.1:Int)) (e.1:Int) e.2 ka ia kc ic xe (firstG (·.2) gl) b0 hx hb (by rw[List.length_map,List.length_tail];omega) (by rw[List.length_map];omega);unfold ptI mkI;rw[first_app _ hne,tail_append hne,List.map_append,List.map_append];exact this
end
def PtNewI(w:World)(b0:Nat)(n:PtA)(wx:World)(Y:Nat):Prop:=∃x:PtV,Ext w wx∧Blk wx Y #[.bool x.lf,slV x.e,slV x.k,slV x.i,.string x.s] 197 ∧ PtR wx b0 x n
section
variable {P P' F F':Nat→Prop}{ad:Nat→Addr}{w w':World}{c s:Nat}{G:GA}{l:List Nat}
theorem fillI_any(hL:Env F ad w)(h:PgR F w P c s G l)(gen:Nat)(hz:256≤G.size∧G.size≤1024)(ev:Value)(es:List KidA)(hev:Sl F w 2 encKd ev es)(hes:∀e∈es,keyB e.2=true)(hlen:es.length≤100000) :
  Calls Tryz.prog 109 #[pgV c s gen,ev,.func (.func 110) #[] #[],.func (.func 111) #[] #[]] w λe w'=>∃v,e=.returned v∧PtsO w' w.heap.size v ((groupsG mkI ((G.size:Int)-24) es).map ptI)∧Ext w w':=by
 obtain⟨b0,hb0⟩:∃b0,b0=w.heap.size:=⟨_,rfl⟩;obtain⟨X,hX⟩:∃X,X=w.heap.size:=⟨_,rfl⟩;obtain⟨z,hzz⟩:∃z,z=(G.size:Int)-24:=⟨_,rfl⟩;rw[← hzz,← hb0];obtain⟨w0,hw0⟩:∃w0,w0=w.alloc (.cells #[.pointer (some ⟨c,0,none⟩),.pointer (some ⟨s,0,none⟩),.int .u64 (gen:Int)] 31):=⟨_,rfl⟩;have m0:Ext w w0:=by rw[hw0];exact (Mods.refl _ w).alloc _
 have hBX:Blk w0 X #[.pointer (some ⟨c,0,none⟩),.pointer (some ⟨s,0,none⟩),.int .u64 (gen:Int)] 31:=by rw[hw0,hX];exact Blk.new w _ _
 have HM0:=oh m0;have HW0:=oh hw0;have HXX:=oh hX;have HBX:=oh hBX;have HENV:=oh hL;have HB0:Hid (b0≤w.heap.size):=oh (by omega);have HB0b:Hid (w.heap.size≤b0):=oh (by omega);have HZ:=oh hzz;have HES:=oh hes;have HEV:=oh hev;have HSZ:=oh (λW (m:Ext w W)=>bSize_any (w:=W) (h.at m) gen);have HEVN:=oh (λW (m:Ext w W) (lv:Value) (L:List PtA) (hv:PtsO W b0 lv L) (hok:∀n∈L,okPt n) (hl:L.length≤100000)=>even_any (w:=W) (hL.mods m.ext) (h.at m) gen hz lv b0 L hv (Nat.le_trans HB0.out m.size) hok hl);rw[← hzz] at HEVN;obtain⟨ea,ec,rfl,h1,h2,h3, -⟩:=hev;unfold maxLen at h2;unfold pgV at HSZ HEVN ⊢;have HFIT:Hid (∀k,∀g∈fillG mkI z [] (es.take k),weightN (mkI g)≤z∧g≠[]):=oh (λk g hg=>⟨fillG_fit' mkI z (λe=>keyB e.2=true) (λx hx=>by rw[mkI_wt];simp[sumK];omega) (es.take k) [] (λx hx=>hes x (List.mem_of_mem_take hx)) (by simp) g hg,fillG_ne mkI z (es.take k) [] (by simp) g hg⟩);clear hL h m0 hw0 hBX hX hb0 hzz hes
 go_enter Tryz.func109, Tryz.ntmps109
 go_wp2_with fail;rw[← HW0.out,← HXX.out];go_loopg [9,16] es.length (λm v9 v16 wr=>∃(k:Nat),k+m=es.length∧v16=.int .i64 (k:Int)∧Hid (PtsO wr b0 v9 ((fillG mkI z [] (es.take k)).map ptI)∧Ext w wr∧Blk wr X #[.pointer (some ⟨c,0,none⟩),.pointer (some ⟨s,0,none⟩),.int .u64 (gen:Int)] 31))
 case atStart=>exact⟨0,by omega,rfl,oh ⟨⟨[],PtsR.nil _ _⟩,HM0.out,HBX.out⟩⟩
 case round =>
  obtain⟨k,hkm,rfl,HR⟩:=hrel;obtain⟨⟨xs,hxs⟩,hwr,hbx⟩:=HR.out;obtain⟨va,vc,rfl,v1,v2⟩:=hxs.row.form;unfold maxLen at v2;obtain⟨out,hout⟩:∃out,out=fillG mkI z [] (es.take k):=⟨_,rfl⟩;rw[← hout] at hxs;have hxl:xs.length=out.length:=by have:=hxs.len;simpa using this
  have hol:out.length≤100000:=by
   have:=fillG_len mkI z (es.take k) [];rw[← hout,List.length_take] at this;simp only[List.length_nil] at this;omega
  by_cases hlt:k<es.length
  ·obtain⟨e,he⟩:∃e,e=es[k]:=⟨_,rfl⟩;obtain⟨qb,qoff,hqa,hc⟩:=HEV.out.elem hlt hwr;rw[← he] at hc;have d0:=hc 0 (.int .i64 (e.1:Int)) rfl;have d1:=hc 1 (.string e.2) rfl;simp only[Nat.add_zero] at d0;subst hqa;have HEE:Hid (keyB e.2=true):=oh (HES.out e (by rw[he];exact List.getElem_mem hlt));have HTK:Hid (es.take (k+1)=es.take k++[e]):=oh (by rw[he];exact take_one es k es[k] (by simp[hlt]));obtain⟨Q,hQ⟩:∃Q,Q=wr.heap.size:=⟨_,rfl⟩;obtain⟨wq,hwq⟩:∃wq,wq=wr.alloc (.cells #[.int .i64 (e.1:Int),.string e.2] 151):=⟨_,rfl⟩;have hrq:Ext wr wq:=by rw[hwq];exact (Mods.refl _ _).alloc _
   have hbq:Blk wq Q #[.int .i64 (e.1:Int),.string e.2] 151:=by rw[hwq,hQ];exact Blk.new wr _ _
   have i1:(0:Int)≤(k:Int):=by omega
   have i2:(k:Int)<(es.length:Int):=by omega
   have HXQ:=oh (hwr.trans hrq);have HPQ:=oh (hxs.ext hrq);have hbx2:=hbx.ext hrq;have HBQ:=oh hbx2;have HELT:=oh hbq;have P0:=oh (hbx2.cell (o:=0) (v:=.pointer (some ⟨c,0,none⟩)) rfl);have P1:=oh (hbx2.cell (o:=1) (v:=.pointer (some ⟨s,0,none⟩)) rfl);have P2:=oh (hbx2.cell (o:=2) (v:=.int .u64 (gen:Int)) rfl);have E0:=oh (hbq.cell (o:=0) (v:=.int .i64 (e.1:Int)) rfl);have E1:=oh (hbq.cell (o:=1) (v:=.string e.2) rfl);have HWQ:=oh hwq;have HQQ:=oh hQ;have HBEG:=oh (λW=>above1_any (w:=W) e.1 e.2);have HOUT:=oh hout;have HXL:=oh hxl;clear hxs hwr hbx hc he hQ hwq hrq hbq hbx2 hout hxl;rcases two_orL' out with rfl|⟨pre,gl,rfl⟩
   ·obtain rfl:xs=[]:=List.length_eq_zero_iff.1 (by have:=HXL.out;simpa using this);have HNX:Hid (fillG mkI z [] (es.take (k+1))=[]++[[e]]):=oh (by rw[HTK.out,fillG_app,← HOUT.out];rfl);simp only[List.length_nil];go_wp2_with fail;rw[← HWQ.out,← HQQ.out];have e0:=E0.out;have e1:=E1.out;go_wp2_with fail;refine (HBEG.out _).mono ?_;rintro en w3 ⟨bv,rfl,⟨xn,rfl,hpn⟩,hm3⟩;have HX3:=oh (HXQ.out.trans hm3);have HP3:=oh (HPQ.out.ext hm3);have HB3:=oh (HBQ.out.ext hm3);have HPN:=oh (hpn.rebase (show b0≤wq.heap.size from Nat.le_trans HB0.out HXQ.out.size));clear hpn hm3;unfold ptV;have hl3:Blk (w3.alloc (.cells #[.bool xn.lf,slV xn.e,slV xn.k,slV xn.i,.string xn.s] 197)) w3.heap.size #[.bool xn.lf,slV xn.e,slV xn.k,slV xn.i,.string xn.s] 197:=Blk.new w3 _ _;have HL3:=oh hl3;have HMA:Hid (Ext w3 (w3.alloc (.cells #[.bool xn.lf,slV xn.e,slV xn.k,slV xn.i,.string xn.s] 197))):=oh ((Mods.refl _ w3).alloc _);clear hl3;go_wp2_with (at_builtin;refine wpl_app2 Tryz.elPt encPt_ok rfl _ _ rfl b0 _ _ ([]:List PtV) [xn] rfl rfl (HP3.out.row.ext HMA.out) (Sl.one (F:=λ_=>False) (x:=xn) (enc:=encPt) (sz:=5) HL3.out (λf=>f)) (by simp only[List.length_cons,List.length_nil];omega) (by have:=HB0.out;have:=HX3.out.size;have:=HMA.out.size;omega) (λf=>f) ?_;simp only[List.length_cons,List.length_nil,Nat.zero_add];intro a6 c6 w6 hO6 hm6 hat6);have HS6:Hid (PtsO w6 b0 (.slice a6 (0+1) c6) ((fillG mkI z [] (es.take (k+1))).map ptI)∧Ext w w6∧Blk w6 X #[.pointer (some ⟨c,0,none⟩),.pointer (some ⟨s,0,none⟩),.int .u64 (gen:Int)] 31):=oh ⟨⟨([]:List PtV)++[xn],by
     rw[HNX.out,List.map_append];exact (HP3.out.ext HMA.out).app hm6 (by simpa using hO6) (HPN.out.ext HMA.out)⟩,Mods.past (HX3.out.trans HMA.out) (hm6.mono (λk hk=>Nat.le_trans HB0b.out (((HP3.out.row.ext HMA.out).lt k hk).1))),(HB3.out.ext HMA.out).mods hm6 (λhk=>(HP3.out.row.ext HMA.out).notB (HB3.out.ext HMA.out) (by decide) _ hk rfl)⟩
    clear hO6 hm6 hat6;go_wp2_with fail;go_roundg (gk-1)
    case measure=>omega
    case rel=>exact⟨k+1,by omega,by go_num,HS6⟩
   ·obtain⟨ys,xb,rfl⟩:∃ys xb,xs=ys++[xb]:=by
     rcases two_orL' xs with rfl|h
     ·have:=HXL.out;simp at this
     ·exact h
    obtain⟨p,hp⟩:∃p,p=ys.length:=⟨_,rfl⟩;have hpl:(ys++[xb]).length=p+1:=by rw[hp];simp
    have hpr:pre.length=p:=by have:=HXL.out;simp at this;omega
    have hpb:p≤100000:=by simp at hol;omega
    obtain⟨g,rfl⟩:=HPQ.out.row.some' (by simp);have hgb:(ys++[xb])[p]? = some xb:=by rw[hp];simp
    have hlb:((pre++[gl]).map ptI)[p]? = some (ptI gl):=by rw[← hpr];simp
    have HB:=oh (HPQ.out.at_ p xb _ hgb hlb);have hsl:=HPQ.out.row.sl encPt_ok.len (by rw[hpl];omega);have HPP:Hid (PtsR wq b0 (.slice (some ⟨g,0,none⟩) (p+1) vc) (ys++[xb]) ((pre++[gl]).map ptI)):=oh (by have:=HPQ.out;rwa [hpl] at this);rw[hpl] at hsl v1;have B0:=oh (hsl.cellsAt hgb 0 _ rfl);have B1:=oh (hsl.cellsAt hgb 1 _ rfl);have B2:=oh (hsl.cellsAt hgb 2 _ rfl);have B3:=oh (hsl.cellsAt hgb 3 _ rfl);have B4:=oh (hsl.cellsAt hgb 4 _ rfl);simp only[Nat.zero_add,Nat.add_zero] at B0 B1 B2 B3 B4;have hfg:=HFIT.out k gl (by rw[← HOUT.out];simp);have HGL:Hid (gl≠[]):=oh hfg.2;have HOKG:Hid (weightN (mkI gl)≤1000):=oh (by have:=HZ.out;omega);have HMORE:=oh (λW (m:Ext wq W)=>above2_pt e (HB.out.ext m) (Nat.le_trans HB0.out (HXQ.out.trans m).size) (by have:=HOKG.out;rw[mkI_wt] at this;have:=sumKg_len (gl.tail.map (·.2));rw[List.length_map,List.length_tail] at this;omega) HGL.out);unfold ptV at HMORE;have HSUB:Hid (∀x∈gl,keyB x.2=true):=oh (λx hx=>HES.out x (by
     have hf:=fillG_flat mkI z (es.take k) [];rw[← HOUT.out] at hf;have:x∈(pre++[gl]).flatten:=by simp[hx]
     rw[hf] at this;exact List.mem_of_mem_take (by simpa using this)))
    have j1:IntKind.i64.wrap (p:Int)=(p:Int):=IntWalk.i64_in _ (by omega);have j2:(0:Int)≤(p:Int):=by omega
    have j3:(p:Int)<(p:Int)+1:=by omega
    have HPL:=oh (And.intro hpl (And.intro hpr hp));rw[hpl];clear hsl hgb hlb hfg hp hpl hpr;go_wp2_with fail;rw[← HWQ.out,← HQQ.out];go_wp2_with fail;go_cut [13] (λv13 wx=>∃Y,v13=.pointer (some ⟨Y,0,none⟩)∧Hid (PtNewI wq b0 (ptI (gl++[e])) wx Y))
    case first =>
     refine wp_region_held_drew (S:=(λw'=>w'.cell? ⟨Q,0,none⟩=some (.int .i64 (e.1:Int))∧w'.cell? ⟨Q,1,none⟩=some (.string e.2)∧w'.cell? ⟨g,p * 5,none⟩=some (.bool xb.lf)∧w'.cell? ⟨g,p * 5+1,none⟩=some (slV xb.e)∧w'.cell? ⟨g,p * 5+2,none⟩=some (slV xb.k)∧w'.cell? ⟨g,p * 5+3,none⟩=some (slV xb.i)∧w'.cell? ⟨g,p * 5+4,none⟩=some (.string xb.s))) (by kernel_rfl) ⟨cellE (Mods.refl _ _).drew E0.out,cellE (Mods.refl _ _).drew E1.out,cellE (Mods.refl _ _).drew B0.out,cellE (Mods.refl _ _).drew B1.out,cellE (Mods.refl _ _).drew B2.out,cellE (Mods.refl _ _).drew B3.out,cellE (Mods.refl _ _).drew B4.out⟩ (λhHeld=>?_);obtain⟨Wd,hWd⟩:∃W,W=wq.drew:=⟨_,rfl⟩;rw[← hWd] at hHeld ⊢;have xWd:Ext wq Wd:=by rw[hWd];exact (Mods.refl _ _).drew
     clear hWd;refine tkH 0 ⟨some 25,_,_,_,_,_⟩ ?_;try go_frame
     refine tkH 1 ⟨some 26,_,_,_,_,_⟩ ?_;try go_frame
     refine tkH 2 ⟨some 27,_,_,_,_,_⟩ ?_;try go_frame
     refine tkH 3 ⟨some 28,_,_,_,_,_⟩ ?_;try go_frame
     refine tkH 4 ⟨some 29,_,_,_,_,_⟩ ?_;try go_frame
     refine tkH 5 ⟨some 30,_,_,_,_,_⟩ ?_;try go_frame
     refine wpAnyH_ready (rs:=[6,7]) (by kernel_rfl) (by simp) ?_;refine AllReadyH.cons (o:=⟨some 31,_,_,_,_,_⟩) rfl (λK hK=>?_) ?_
     ·skip;go_simp;go_at_call 111
      (with_reducible refine (HMORE.out _ xWd).mono ?_)
      rintro en U1c ⟨mv,rfl,⟨xn,rfl,hpn⟩,mU1c⟩;have xU1c:=xWd.trans mU1c;refine hK.out _ _ (by first|exact⟨cellE xU1c E0.out,cellE xU1c E1.out,cellE xU1c B0.out,cellE xU1c B1.out,cellE xU1c B2.out,cellE xU1c B3.out,cellE xU1c B4.out⟩|go_keep) (λhHeld=>?_);clear hK;try go_frame
      refine wpAnyH_ready (rs:=[7]) (by kernel_rfl) (by simp) ?_;refine AllReadyH.cons (o:=⟨some 13,_,_,_,_,_⟩) rfl (λK hK=>?_) AllReadyH.nil;go_simp;refine hK.out _ _ (by first|exact⟨cellE (xU1c.alloc _) E0.out,cellE (xU1c.alloc _) E1.out,cellE (xU1c.alloc _) B0.out,cellE (xU1c.alloc _) B1.out,cellE (xU1c.alloc _) B2.out,cellE (xU1c.alloc _) B3.out,cellE (xU1c.alloc _) B4.out⟩|go_keep) (λhHeld=>?_);clear hK;try go_frame
      obtain⟨U2ca,hU2ca⟩:∃W,W=U1c.alloc (.cells ptZc 197):=⟨_,rfl⟩;unfold ptZc at hU2ca;rw[← hU2ca];have xU2ca:Ext wq U2ca:=by rw[hU2ca];exact xU1c.alloc _
      have hal:Blk U2ca U1c.heap.size ptZc 197:=by rw[hU2ca];exact Blk.new U1c _ _
      have hpn:=hpn.ext (show Ext U1c U2ca by rw[hU2ca];exact (Mods.refl _ _).alloc _);clear hU2ca;refine wpAnyH_ready (rs:=[8]) (by kernel_rfl) (by simp) ?_;refine AllReadyH.cons (o:=⟨none,_,_,_,_,_⟩) rfl (λK hK=>?_) AllReadyH.nil;have r0:=hal.cell (o:=0) (v:=.bool false) rfl;have r1:=hal.cell (o:=1) (v:=.slice none 0 0) rfl;have r2:=hal.cell (o:=2) (v:=.slice none 0 0) rfl;have r3:=hal.cell (o:=3) (v:=.slice none 0 0) rfl;have r4:=hal.cell (o:=4) (v:=.string ⟨#[]⟩) rfl;have rf:=hal.frozen;have hnw:Ext wq (((((U2ca.setCell ⟨U1c.heap.size,0,none⟩ (.bool xn.lf)).setCell ⟨U1c.heap.size,1,none⟩ (slV xn.e)).setCell ⟨U1c.heap.size,2,none⟩ (slV xn.k)).setCell ⟨U1c.heap.size,3,none⟩ (slV xn.i)).setCell ⟨U1c.heap.size,4,none⟩ (.string xn.s)):=Mods.set5 xU2ca (R:=U1c.heap.size) (.inl (show wq.heap.size≤U1c.heap.size from xU1c.size)) _ _ _ _ _;unfold ptV;go_simp;refine hK.out _ _ (by first|exact⟨cellE hnw E0.out,cellE hnw E1.out,cellE hnw B0.out,cellE hnw B1.out,cellE hnw B2.out,cellE hnw B3.out,cellE hnw B4.out⟩|go_keep) (λhHeld=>?_);clear hK;try go_frame
      have hfin:PtNewI wq b0 (ptI (gl++[e])) _ U1c.heap.size:=⟨xn,hnw,hal.set5 (.bool xn.lf) (slV xn.e) (slV xn.k) (slV xn.i) (.string xn.s),hpn.blk hal (Mods.set5 (F:=λk=>k=U1c.heap.size) (Mods.refl _ _) (R:=U1c.heap.size) (.inr rfl) (.bool xn.lf) (slV xn.e) (slV xn.k) (slV xn.i) (.string xn.s)) (by decide) (by decide) (by decide)⟩;refine wpAnyH_done (by kernel_rfl) ?_ _;have HFIN:=oh hfin;clear hfin hal hpn;go_wp2_with fail;go_meet;exact⟨_,rfl,HFIN⟩
     refine AllReadyH.cons (o:=⟨some 13,_,_,_,_,_⟩) rfl (λK hK=>?_) AllReadyH.nil;go_simp;refine hK.out _ _ (by first|exact⟨cellE (xWd.alloc _) E0.out,cellE (xWd.alloc _) E1.out,cellE (xWd.alloc _) B0.out,cellE (xWd.alloc _) B1.out,cellE (xWd.alloc _) B2.out,cellE (xWd.alloc _) B3.out,cellE (xWd.alloc _) B4.out⟩|go_keep) (λhHeld=>?_);clear hK;try go_frame
     obtain⟨U1a,hU1a⟩:∃W,W=Wd.alloc (.cells ptZc 197):=⟨_,rfl⟩;unfold ptZc at hU1a;rw[← hU1a];have xU1a:Ext wq U1a:=by rw[hU1a];exact xWd.alloc _
     have hal:Blk U1a Wd.heap.size ptZc 197:=by rw[hU1a];exact Blk.new Wd _ _
     clear hU1a;refine wpAnyH_ready (rs:=[6]) (by kernel_rfl) (by simp) ?_;refine AllReadyH.cons (o:=⟨some 31,_,_,_,_,_⟩) rfl (λK hK=>?_) AllReadyH.nil;go_simp;go_at_call 111
     (with_reducible refine (HMORE.out _ xU1a).mono ?_)
     rintro en U2ac ⟨mv,rfl,⟨xn,rfl,hpn⟩,mU2ac⟩;have xU2ac:=xU1a.trans mU2ac;have hal:=hal.ext mU2ac;refine hK.out _ _ (by first|exact⟨cellE xU2ac E0.out,cellE xU2ac E1.out,cellE xU2ac B0.out,cellE xU2ac B1.out,cellE xU2ac B2.out,cellE xU2ac B3.out,cellE xU2ac B4.out⟩|go_keep) (λhHeld=>?_);clear hK;try go_frame
     refine wpAnyH_ready (rs:=[8]) (by kernel_rfl) (by simp) ?_;refine AllReadyH.cons (o:=⟨none,_,_,_,_,_⟩) rfl (λK hK=>?_) AllReadyH.nil;have r0:=hal.cell (o:=0) (v:=.bool false) rfl;have r1:=hal.cell (o:=1) (v:=.slice none 0 0) rfl;have r2:=hal.cell (o:=2) (v:=.slice none 0 0) rfl;have r3:=hal.cell (o:=3) (v:=.slice none 0 0) rfl;have r4:=hal.cell (o:=4) (v:=.string ⟨#[]⟩) rfl;have rf:=hal.frozen;have hnw:Ext wq (((((U2ac.setCell ⟨Wd.heap.size,0,none⟩ (.bool xn.lf)).setCell ⟨Wd.heap.size,1,none⟩ (slV xn.e)).setCell ⟨Wd.heap.size,2,none⟩ (slV xn.k)).setCell ⟨Wd.heap.size,3,none⟩ (slV xn.i)).setCell ⟨Wd.heap.size,4,none⟩ (.string xn.s)):=Mods.set5 xU2ac (R:=Wd.heap.size) (.inl (show wq.heap.size≤Wd.heap.size from xWd.size)) _ _ _ _ _;unfold ptV;go_simp;refine hK.out _ _ (by first|exact⟨cellE hnw E0.out,cellE hnw E1.out,cellE hnw B0.out,cellE hnw B1.out,cellE hnw B2.out,cellE hnw B3.out,cellE hnw B4.out⟩|go_keep) (λhHeld=>?_);clear hK;try go_frame
     have hfin:PtNewI wq b0 (ptI (gl++[e])) _ Wd.heap.size:=⟨xn,hnw,hal.set5 (.bool xn.lf) (slV xn.e) (slV xn.k) (slV xn.i) (.string xn.s),hpn.blk hal (Mods.set5 (F:=λk=>k=Wd.heap.size) (Mods.refl _ _) (R:=Wd.heap.size) (.inr rfl) (.bool xn.lf) (slV xn.e) (slV xn.k) (slV xn.i) (.string xn.s)) (by decide) (by decide) (by decide)⟩;refine wpAnyH_done (by kernel_rfl) ?_ _;have HFIN:=oh hfin;clear hfin hal hpn;go_wp2_with fail;go_meet;exact⟨_,rfl,HFIN⟩
    case rest =>
     obtain⟨Y,rfl,HN⟩:=hcut;obtain⟨xn,x8,hbn,hpn⟩:=HN.out;obtain⟨w8,rfl⟩:∃w8:World,w8=wc:=⟨_,rfl⟩;have N0:=oh (hbn.cell (o:=0) rfl);have N1:=oh (hbn.cell (o:=1) rfl);have N2:=oh (hbn.cell (o:=2) rfl);have N3:=oh (hbn.cell (o:=3) rfl);have N4:=oh (hbn.cell (o:=4) rfl);have XW8:=oh (HXQ.out.trans x8);have HBN:=oh hbn;have HPN:=oh hpn;have HP8:=oh (HPP.out.ext x8);have HB8:=oh (HBQ.out.ext x8);have P0:=oh (cellE x8 P0.out);have P1:=oh (cellE x8 P1.out);have P2:=oh (cellE x8 P2.out);have E0:=oh (cellE x8 E0.out);have E1:=oh (cellE x8 E1.out);have HSM:=oh (smallI (g:=gl++[e]) (by intro x hx;rcases List.mem_append.1 hx with hx|hx;exact HSUB.out x hx;rw[List.mem_singleton.1 hx];exact HEE.out) (by have:=HOKG.out;have:=(keyB_iff e.2).1 HEE.out;rw[mkI_wt] at *;rw[tail_append HGL.out,List.map_append,sumK_append];simp only[sumK,List.map_cons,List.map_nil];omega));have HFT:Hid (∀W,Ext w8 W → Calls Tryz.prog 97 #[.agg #[.bool xn.lf,slV xn.e,slV xn.k,slV xn.i],.int .i64 (G.size:Int)] W λen w'=>en=.returned (.bool (decide (weightN (mkI (gl++[e]))≤z)))∧Ext W w'):=oh (λW m=>by
      have h:=HPN.out.ext m;have:=fits_any (F:=NoF) (mkI (gl++[e])) (slV xn.e) (slV xn.k) (slV xn.i) W (h.e.sl encE_ok.len (Nat.le_trans HSM.out.1 (by omega))) (h.k.sl encS_ok.len (Nat.le_trans HSM.out.2.1 (by omega))) (Int.le_trans HSM.out.2.2.2.1 (by omega)) (G.size:Int) (by omega) (by omega);rw[show (mkI (gl++[e])).leaf=xn.lf from h.lf.symm,← HZ.out] at this;exact this)
     clear x8 hbn hpn;go_wp2_with fail;refine wp_region_held_drew (S:=(λw'=>w'.cell? ⟨X,0,none⟩=some (.pointer (some ⟨c,0,none⟩))∧w'.cell? ⟨X,1,none⟩=some (.pointer (some ⟨s,0,none⟩))∧w'.cell? ⟨X,2,none⟩=some (.int .u64 (gen:Int))∧w'.cell? ⟨Y,0,none⟩=some (.bool xn.lf)∧w'.cell? ⟨Y,1,none⟩=some (slV xn.e)∧w'.cell? ⟨Y,2,none⟩=some (slV xn.k)∧w'.cell? ⟨Y,3,none⟩=some (slV xn.i))) (by kernel_rfl) ⟨cellE (Mods.refl _ _).drew P0.out,cellE (Mods.refl _ _).drew P1.out,cellE (Mods.refl _ _).drew P2.out,cellE (Mods.refl _ _).drew N0.out,cellE (Mods.refl _ _).drew N1.out,cellE (Mods.refl _ _).drew N2.out,cellE (Mods.refl _ _).drew N3.out⟩ (λhHeld=>?_);obtain⟨Wd,hWd⟩:∃W,W=w8.drew:=⟨_,rfl⟩;rw[← hWd] at hHeld ⊢;have xWd:Ext w8 Wd:=by rw[hWd];exact (Mods.refl _ _).drew
     clear hWd;refine tkH 0 ⟨some 32,_,_,_,_,_⟩ ?_;try go_frame
     refine tkH 1 ⟨some 33,_,_,_,_,_⟩ ?_;try go_frame
     refine tkH 2 ⟨some 34,_,_,_,_,_⟩ ?_;try go_frame
     refine wpAnyH_ready (rs:=[3]) (by kernel_rfl) (by simp) ?_;refine AllReadyH.cons (o:=⟨some 35,_,_,_,_,_⟩) rfl (λK hK=>?_) AllReadyH.nil;go_simp;go_at_call 157
     (with_reducible refine (HSZ.out _ (XW8.out.trans xWd)).mono ?_)
     rintro en V1 ⟨rfl,mV1⟩;have xV1:=xWd.trans mV1;refine hK.out _ _ (by first|exact⟨cellE xV1 P0.out,cellE xV1 P1.out,cellE xV1 P2.out,cellE xV1 N0.out,cellE xV1 N1.out,cellE xV1 N2.out,cellE xV1 N3.out⟩|go_keep) (λhHeld=>?_);clear hK;try go_frame
     refine wpAnyH_ready (rs:=[4]) (by kernel_rfl) (by simp) ?_;refine AllReadyH.cons (o:=⟨some 36,_,_,_,_,_⟩) rfl (λK hK=>?_) AllReadyH.nil;go_simp;go_at_call 97
     (with_reducible refine (HFT.out _ xV1).mono ?_)
     rintro en V2 ⟨rfl,mV2⟩;have xV2:=xV1.trans mV2;refine hK.out _ _ (by first|exact⟨cellE xV2 P0.out,cellE xV2 P1.out,cellE xV2 P2.out,cellE xV2 N0.out,cellE xV2 N1.out,cellE xV2 N2.out,cellE xV2 N3.out⟩|go_keep) (λhHeld=>?_);clear hK;try go_frame
     refine wpAnyH_done (by kernel_rfl) ?_ _;have HX8:=oh xV2;clear xV1 xV2 mV1 mV2 xWd;obtain⟨w9,rfl⟩:∃w9:World,w9=V2:=⟨_,rfl⟩;have HX9:=oh (XW8.out.trans HX8.out);have HP9:=oh (HP8.out.ext HX8.out);have HB9:=oh (HB8.out.ext HX8.out);have HPN:=oh (HPN.out.ext HX8.out);have n0:=cellE HX8.out N0.out;have n1:=cellE HX8.out N1.out;have n2:=cellE HX8.out N2.out;have n3:=cellE HX8.out N3.out;have n4:=cellE HX8.out N4.out;have e0:=cellE HX8.out E0.out;have e1:=cellE HX8.out E1.out;by_cases hfit:weightN (mkI (gl++[e]))≤z
     ·have HNX:Hid (fillG mkI z [] (es.take (k+1))=pre++[gl++[e]]):=oh (by
       rw[HTK.out,fillG_app,← HOUT.out];simp[fillG,hfit])
      obtain⟨g',c',hgs, -, -,hg3,hg4,hgf⟩:=HP9.out.row.some (by simp);injection hgs with hgs hgn hgc;injection hgs with hgs;injection hgs with hgs;subst hgs hgc;have hsl:=HP9.out.row.sl encPt_ok.len (by have:=HPL.out.1;omega);have hgb:(ys++[xb])[p]? = some xb:=by rw[HPL.out.2.2];simp
      have b0':=hsl.cellsAt hgb 0 _ rfl;have b1':=hsl.cellsAt hgb 1 _ rfl;have b2':=hsl.cellsAt hgb 2 _ rfl;have b3':=hsl.cellsAt hgb 3 _ rfl;have b4':=hsl.cellsAt hgb 4 _ rfl;simp only[Nat.zero_add,Nat.add_zero] at b0' b1' b2' b3' b4';have f0:=hgf (p * 5);have f1:=hgf (p * 5+1);have f2:=hgf (p * 5+2);have f3:=hgf (p * 5+3);have f4:=hgf (p * 5+4);have hput:=Own.put5 HP9.out.row xn;have hmod:=Mods.put5 (g:=g) w9 (ys.length * 5) (p+1) vc (.bool xn.lf) (slV xn.e) (slV xn.k) (slV xn.i) (.string xn.s);rw[← HPL.out.2.2] at hput hmod;have HS6:Hid (PtsO (((((w9.setCell ⟨g,p * 5,none⟩ (.bool xn.lf)).setCell ⟨g,p * 5+1,none⟩ (slV xn.e)).setCell ⟨g,p * 5+2,none⟩ (slV xn.k)).setCell ⟨g,p * 5+3,none⟩ (slV xn.i)).setCell ⟨g,p * 5+4,none⟩ (.string xn.s)) b0 (.slice (some ⟨g,0,none⟩) (p+1) vc) ((fillG mkI z [] (es.take (k+1))).map ptI)∧Ext w (((((w9.setCell ⟨g,p * 5,none⟩ (.bool xn.lf)).setCell ⟨g,p * 5+1,none⟩ (slV xn.e)).setCell ⟨g,p * 5+2,none⟩ (slV xn.k)).setCell ⟨g,p * 5+3,none⟩ (slV xn.i)).setCell ⟨g,p * 5+4,none⟩ (.string xn.s))∧Blk (((((w9.setCell ⟨g,p * 5,none⟩ (.bool xn.lf)).setCell ⟨g,p * 5+1,none⟩ (slV xn.e)).setCell ⟨g,p * 5+2,none⟩ (slV xn.k)).setCell ⟨g,p * 5+3,none⟩ (slV xn.i)).setCell ⟨g,p * 5+4,none⟩ (.string xn.s)) X #[.pointer (some ⟨c,0,none⟩),.pointer (some ⟨s,0,none⟩),.int .u64 (gen:Int)] 31):=oh ⟨⟨ys++[xn],by
       rw[HNX.out,List.map_append];have:=HP9.out;rw[List.map_append] at this;exact this.last hmod hput HPN.out⟩,Mods.past HX9.out (hmod.mono (λk hk=>Nat.le_trans HB0b.out ((HP9.out.row.lt k hk).1))),HB9.out.mods hmod (λhk=>HP9.out.row.notB HB9.out (by decide) _ hk rfl)⟩
      clear hsl hgb hput hmod hgn hg3 hg4 hgf;go_wp2_with fail;go_roundg (gk-1)
      case measure=>omega
      case rel=>exact⟨k+1,by omega,by go_num,HS6⟩
     ·have HNX:Hid (fillG mkI z [] (es.take (k+1))=(pre++[gl])++[[e]]):=oh (by
       rw[HTK.out,fillG_app,← HOUT.out];simp[fillG,hfit])
      go_wp2_with fail;refine (HBEG.out _).mono ?_;rintro en w3 ⟨bv,rfl,⟨xn,rfl,hpn⟩,hm3⟩;have HX3:=oh (HX9.out.trans hm3);have HP3:=oh (HP9.out.ext hm3);have HB3:=oh (HB9.out.ext hm3);have HPN:=oh (hpn.rebase (show b0≤w9.heap.size from Nat.le_trans HB0.out HX9.out.size));clear hpn hm3;unfold ptV;have hl3:Blk (w3.alloc (.cells #[.bool xn.lf,slV xn.e,slV xn.k,slV xn.i,.string xn.s] 197)) w3.heap.size #[.bool xn.lf,slV xn.e,slV xn.k,slV xn.i,.string xn.s] 197:=Blk.new w3 _ _;have HL3:=oh hl3;have HMA:Hid (Ext w3 (w3.alloc (.cells #[.bool xn.lf,slV xn.e,slV xn.k,slV xn.i,.string xn.s] 197))):=oh ((Mods.refl _ w3).alloc _);clear hl3;go_wp2_with (at_builtin;refine wpl_app2 Tryz.elPt encPt_ok rfl _ _ rfl b0 _ _ (ys++[xb]) [xn] rfl rfl (HP3.out.row.ext HMA.out) (Sl.one (F:=λ_=>False) (x:=xn) (enc:=encPt) (sz:=5) HL3.out (λf=>f)) (by have:=HPL.out.1;simp only[List.length_cons,List.length_nil];omega) (by have:=HB0.out;have:=HX3.out.size;have:=HMA.out.size;omega) (λf=>f) ?_;simp only[List.length_cons,List.length_nil,Nat.zero_add];intro a6 c6 w6 hO6 hm6 hat6);have HS6:Hid (PtsO w6 b0 (.slice a6 (ys.length+1+1) c6) ((fillG mkI z [] (es.take (k+1))).map ptI)∧Ext w w6∧Blk w6 X #[.pointer (some ⟨c,0,none⟩),.pointer (some ⟨s,0,none⟩),.int .u64 (gen:Int)] 31):=oh ⟨⟨(ys++[xb])++[xn],by
       rw[HNX.out,List.map_append];exact (HP3.out.ext HMA.out).app hm6 (by simpa using hO6) (HPN.out.ext HMA.out)⟩,Mods.past (HX3.out.trans HMA.out) (hm6.mono (λk hk=>Nat.le_trans HB0b.out (((HP3.out.row.ext HMA.out).lt k hk).1))),(HB3.out.ext HMA.out).mods hm6 (λhk=>(HP3.out.row.ext HMA.out).notB (HB3.out.ext HMA.out) (by decide) _ hk rfl)⟩
      clear hO6 hm6 hat6;go_wp2_with fail;go_roundg (gk-1)
      case measure=>omega
      case rel=>exact⟨k+1,by omega,by go_num,HS6⟩
  ·have hk:k=es.length:=by omega
   have HXE:=oh hxs;have HXW:=oh hwr;have hall:es.take k=es:=by rw[hk,List.take_length]
   have b0':=hbx.cell (o:=0) (v:=.pointer (some ⟨c,0,none⟩)) rfl;have b1':=hbx.cell (o:=1) (v:=.pointer (some ⟨s,0,none⟩)) rfl;have b2':=hbx.cell (o:=2) (v:=.int .u64 (gen:Int)) rfl;have hok:∀n∈out.map ptI,okPt n:=λn hn=>by
    obtain⟨g,hg,rfl⟩:=List.mem_map.1 hn;have hfg:=HFIT.out k g (by rw[← hout];exact hg);refine smallI (λx hx=>HES.out x ?_) (by have:=HZ.out;omega);have hf:=fillG_flat mkI z (es.take k) [];rw[← hout] at hf;have:x∈out.flatten:=List.mem_flatten.2 ⟨g,hg,hx⟩;rw[hf] at this;exact List.mem_of_mem_take (by simpa using this)
   have HEV2:=oh (HEVN.out wr hwr _ _ ⟨xs,hxs⟩ hok (by rw[List.length_map];exact hol));have HGR:Hid (evenN z (out.map ptI)=(groupsG mkI z es).map ptI):=oh (by
    rw[even_I out (λg hg=>(HFIT.out k g (by rw[← hout];exact hg)).2),hout,hall];rfl)
   clear hxs hwr hbx hout hok hxl hall hk;go_wp2_with fail;refine HEV2.out.mono ?_;rintro en w3 ⟨v,rfl,hv,hm3⟩;have HV:=oh hv;have HM3:=oh hm3;clear hv hm3;go_wp2_with fail;go_ret;exact⟨_,rfl,by rw[← HGR.out];exact HV.out,HXW.out.trans HM3.out⟩
end
section
variable {P F:Nat→Prop}{ad:Nat→Addr}{w:World}{c s:Nat}{G:GA}{l:List Nat}
theorem babove_any(hL:Env F ad w)(h:PgR F w P c s G l)(gen:Nat)(hz:256≤G.size∧G.size≤1024)(ev:Value)(es:List KidA)(hev:Sl F w 2 encKd ev es)(hes:∀e∈es,keyB e.2=true)(hlen:es.length≤100000) :
  Calls Tryz.prog 69 #[pgV c s gen,ev] w λe w'=>∃v,e=.returned v∧PtsO w' w.heap.size v ((groupsG mkI ((G.size:Int)-24) es).map ptI)∧Ext w w':=by
 have m0:Ext w (w.alloc (.cells #[.pointer (some ⟨c,0,none⟩),.pointer (some ⟨s,0,none⟩),.int .u64 (gen:Int)] 31)):=(Mods.refl _ w).alloc _;have HF:=fillI_any (hL.mods m0.ext) (h.at m0) gen hz ev es (hev.ext m0) hes hlen;unfold pgV at HF ⊢;have HF:=oh HF;have HM0:=oh m0;clear hL h m0 hev
 go_enter Tryz.func69, Tryz.ntmps69
 go_wp2_with fail;refine HF.out.mono ?_;rintro en w1 ⟨v,rfl,⟨xs,hxs⟩,hm⟩;have HX:=oh (hxs.rebase (show w.heap.size≤_ from HM0.out.size));have HM:=oh hm;clear hxs hm;go_wp2_with fail;go_ret;exact⟨_,rfl,⟨xs,HX.out⟩,HM0.out.trans HM.out⟩
end
end
section
open Go.RowKit
theorem downs_split(gen:Nat):∀(a b:List PtA) (G:GA) (l:List Nat) {G':GA} {l':List Nat} {ks:List KidA},downsP gen G l (a++b)=.inl (G',l',ks) →
  ∃G1 l1 ks1 ks2,downsP gen G l a=.inl (G1,l1,ks1)∧downsP gen G1 l1 b=.inl (G',l',ks2)∧ks=ks1++ks2
 | [],b,G,l,G',l',ks,h=>⟨G,l,[],ks,rfl,h,rfl⟩
 | x :: a,b,G,l,G',l',ks,h=>by
  rw[List.cons_append,downsP] at h;cases hd:downI G l 0 x.1 with
  | none=>rw[hd] at h;cases h
  | some i =>
   rw[hd] at h;simp only at h;cases hr:downsP gen (downG G l gen 0 x.1) (downL G l 0 x.1) (a++b) with
   | inr k=>rw[hr] at h;cases h
   | inl y =>
    obtain⟨G2,l2,ks0⟩:=y;rw[hr] at h;injection h with h;injection h with h1 h2;injection h2 with h2 h3;subst h1 h2 h3;obtain⟨G1,l1,ks1,ks2,e1,e2,rfl⟩:=downs_split gen a b _ _ hr;exact⟨G1,l1,(i,x.2) :: ks1,ks2,by rw[downsP,hd];simp only;rw[e1],e2,rfl⟩
theorem downs_one{gen:Nat}{G:GA}{l:List Nat}{x:PtA}{G':GA}{l':List Nat}{ks:List KidA}(h:downsP gen G l [x]=.inl (G',l',ks)):∃i,downI G l 0 x.1=some i∧G'=downG G l gen 0 x.1∧l'=downL G l 0 x.1∧ks=[(i,x.2)]:=by
 rw[downsP] at h;cases hd:downI G l 0 x.1 with
 | none=>rw[hd] at h;cases h
 | some i =>
  rw[hd] at h;simp only[downsP] at h;injection h with h;injection h with h1 h2;injection h2 with h2 h3;exact⟨i,rfl,h1.symm,h2.symm,h3.symm⟩
theorem downL_len(G:GA)(l:List Nat)(n:NodeA):(downL G l 0 n).length=l.length:=by
 unfold downL placeL;split
 ·rw[if_pos rfl];unfold spTake;split <;> simp
 ·rfl
theorem downs_lim(gen:Nat):∀(a:List PtA) (G:GA) (l:List Nat) {G':GA} {l':List Nat} {ks:List KidA},downsP gen G l a=.inl (G',l',ks)→G'.size=G.size∧G'.blocks=G.blocks∧l'.length=l.length∧G'.cost≤G.cost+a.length∧ks.length=a.length
 | [],G,l,G',l',ks,h=>by
  injection h with h;injection h with h1 h2;injection h2 with h2 h3;subst h1 h2 h3;exact⟨rfl,rfl,rfl,Nat.le_refl _,rfl⟩
 | x :: a,G,l,G',l',ks,h=>by
  obtain⟨G1,l1,ks1,ks2,e1,e2,rfl⟩:=downs_split gen [x] a G l h;obtain⟨i,_,rfl,rfl,rfl⟩:=downs_one e1;obtain⟨h1,h2,h3,h4,h5⟩:=downs_lim gen a _ _ e2;obtain⟨g1,g2,g3⟩:=downG_cost G l gen 0 x.1;refine⟨h1.trans g1,h2.trans g2,h3.trans (downL_len G l x.1),?_,?_⟩
  ·simp only[List.length_cons];omega
  ·simp only[List.length_cons,List.length_append,List.length_nil,h5];omega
end
section
open Go.RowKit
attribute [local go_sem ↓] Go.wp_at_zero Go.wp_at_succ
structure PtsS(F:Nat→Prop)(w:World)(v:Value)(xs:List PtV)(L:List PtA):Prop where
 row:Sl F w 5 encPt v xs
 len:xs.length=L.length
 at_:∀(i:Nat) (x:PtV) (n:PtA),xs[i]? = some x→L[i]? = some n→x.lf=n.1.leaf∧x.s=n.2∧Sl F w 4 encE (slV x.e) n.1.entries∧Sl F w 1 encS (slV x.k) n.1.keys∧Sl F w 1 encI (slV x.i) n.1.kids
theorem Tryz.mkKd:(Tryz.prog.info? 151).map (λi=>(i.zero,i.size,i.bytes))=some (some (.agg #[.int .i64 0,.string ⟨#[]⟩]),2,24):=by kernel_rfl
theorem Tryz.elKd:ElT Tryz.prog 144 151 (.agg #[.int .i64 0,.string ⟨#[]⟩]) 2 24:=⟨Tryz.underlying144,Tryz.mkKd,rfl,by decide,by decide⟩
section
variable {P P' F F':Nat→Prop}{ad:Nat→Addr}{w w':World}{c s:Nat}{G G':GA}{l l':List Nat}{b0:Nat}{v:Value}{xs:List PtV}{L:List PtA}
theorem PtsR.sl(h:PtsR w b0 v xs L)(hF:∀k,F k→k<b0)(hok:∀n∈L,okPt n)(hl:L.length≤100000):PtsS F w v xs L :=
 ⟨h.row.slF hF encPt_ok.len (by rw[h.len];omega),h.len,λi x n h1 h2=>by
  have hp:=h.at_ i x n h1 h2;obtain⟨o1,o2,o3,_,_⟩:=hok n (List.mem_of_getElem? h2);exact⟨hp.lf,hp.fst,hp.e.slF hF encE_ok.len (by omega),hp.k.slF hF encS_ok.len (by omega),hp.i.slF hF encI_ok.len (by omega)⟩⟩
theorem PtsS.nxt(h:PtsS F w v xs L)(n:Nxt P P' F F' ad w w')(hP:∀k,P k→F k):PtsS F' w' v xs L :=
 ⟨n.sl hP h.row,h.len,λi x m h1 h2=>by
  obtain⟨a,b,c,d,e⟩:=h.at_ i x m h1 h2;exact⟨a,b,n.sl hP c,n.sl hP d,n.sl hP e⟩⟩
theorem PtsS.ext(h:PtsS F w v xs L)(m:Ext w w'):PtsS F w' v xs L :=
 ⟨h.row.ext m,h.len,λi x q h1 h2=>by
  obtain⟨a,b,c,d,e⟩:=h.at_ i x q h1 h2;exact⟨a,b,c.ext m,d.ext m,e.ext m⟩⟩
theorem PtsS.step(h:PtsS F w v xs L)(m:Mods F w w')(hG:∀k,k<w.heap.size→¬ F k→¬ F' k):PtsS F' w' v xs L :=
 ⟨h.row.step m hG,h.len,λi x q h1 h2=>by
  obtain⟨a,b,c,d,e⟩:=h.at_ i x q h1 h2;exact⟨a,b,c.step m hG,d.step m hG,e.step m hG⟩⟩
def DnS(F P:Nat→Prop)(ad:Nat→Addr)(w wr:World)(X c s gen:Nat)(v:Value)(xs:List PtV)(L:List PtA)(G1:GA)(l1:List Nat)(kv:Value)(ks:List KidA):Prop :=
 ∃(P1 F1:Nat→Prop),PgR F1 wr P1 c s G1 l1∧Nxt P P1 F F1 ad w wr∧PtsS F1 wr v xs L∧Blk wr X #[.pointer (some ⟨c,0,none⟩),.pointer (some ⟨s,0,none⟩),.int .u64 (gen:Int)] 31 ∧ ¬ P1 X∧LocR w F1 P1 wr 151 2 encKd kv ks
theorem down15_any(hL:Env F ad w)(hP:∀k,P k→F k)(h:PgR F w P c s G l)(gen:Nat)(hgen:gen<18446744073709551616)(hll:l.length≤G.blocks)(v:Value)(xs:List PtV)(L:List PtA)(hv:PtsS F w v xs L)(hok:∀n∈L,okPt n)(hlen:L.length≤100000)(hco:G.cost+L.length<1000000)(ks:List KidA)(hd:downsP gen G l L=.inl (G',l',ks)) :
  Calls Tryz.prog 67 #[pgV c s gen,v] w (PgDone F P ad w c s G' l' (λF' w' e=>∃kv,e=.returned (.tuple #[kv,.nilIface])∧Sl F' w' 2 encKd kv ks)):=by
 obtain⟨X,hX⟩:∃X,X=w.heap.size:=⟨_,rfl⟩;obtain⟨w0,hw0⟩:∃w0,w0=w.alloc (.cells #[.pointer (some ⟨c,0,none⟩),.pointer (some ⟨s,0,none⟩),.int .u64 (gen:Int)] 31):=⟨_,rfl⟩;have m0:Ext w w0:=by rw[hw0];exact (Mods.refl _ w).alloc _
 have hN:=Nxt.ext hL hP m0;have hBX:Blk w0 X #[.pointer (some ⟨c,0,none⟩),.pointer (some ⟨s,0,none⟩),.int .u64 (gen:Int)] 31:=by rw[hw0,hX];exact Blk.new w _ _
 have HS0:Hid (DnS F P ad w w0 X c s gen v xs L G l (.slice none 0 0) []):=oh ⟨P,F,h.at m0,hN,hv.ext m0,hBX,λhp=>by have:=h.bd _ hp;omega,LocR.nil _ _ _ _ _ _ _⟩;have HD:=oh hd;have HOK:=oh hok;have HXX:=oh hX;have HW0:=oh hw0;have HLL:=oh hll;have HCO:=oh hco;have HXL:=oh hv.len;have HEV:=oh hL;obtain⟨va,vc,rfl,v1,v2,v3, -⟩:=hv.row;unfold maxLen at v2;clear hL hP h m0 hN hBX hd hok hX hw0 hll hco hv;unfold pgV
 go_enter Tryz.func67, Tryz.ntmps67
 go_wp2_with fail;rw[← HW0.out,← HXX.out];go_loopg [6,13] xs.length (λm v6 v13 wr=>∃(k:Nat) (G1:GA) (l1:List Nat) (ks1:List KidA) (kv:Value),k+m=xs.length∧kv=v6∧v13=.int .i64 (k:Int)∧Hid (downsP gen G l (L.take k)=.inl (G1,l1,ks1))∧Hid (DnS F P ad w wr X c s gen (.slice va xs.length vc) xs L G1 l1 kv ks1))
 case atStart=>exact⟨0,G,l,[],_,by omega,rfl,rfl,oh rfl,HS0⟩
 case round =>
  obtain⟨k,G1,l1,ks1,kv,hkm,rfl,rfl,HD1,HS⟩:=hrel;by_cases hlt:k<xs.length
  ·obtain⟨P1,F1,hG1,hN1,hS1,hB1,hPX,hLR⟩:=HS.out;have hltL:k<L.length:=by have:=HXL.out;omega
   obtain⟨x,hx⟩:∃x,xs[k]? = some x:=⟨_,List.getElem?_eq_getElem hlt⟩;obtain⟨n,hn⟩:∃n,L[k]? = some n:=⟨_,List.getElem?_eq_getElem hltL⟩;obtain⟨hlf,hfs,hse,hsk,hsi⟩:=hS1.at_ k x n hx hn;obtain⟨qb,qoff,hqa,hqF,hc⟩:=hS1.row.elemF hlt;have hxk:xs[k]=x:=by rw[List.getElem?_eq_getElem hlt] at hx;injection hx
   rw[hxk] at hc;have d0:=hc 0 (.bool x.lf) rfl;have d1:=hc 1 (slV x.e) rfl;have d2:=hc 2 (slV x.k) rfl;have d3:=hc 3 (slV x.i) rfl;have d4:=hc 4 (.string x.s) rfl;simp only[Nat.add_zero] at d0;subst hqa;obtain⟨kva,kvc,rfl,kv1,kv2⟩:=hLR.1.form;obtain⟨b,hb⟩:∃b,b=wr.heap.size:=⟨_,rfl⟩;obtain⟨wq,hwq⟩:∃wq,wq=wr.alloc (.cells #[.bool x.lf,slV x.e,slV x.k,slV x.i,.string x.s] 197):=⟨_,rfl⟩;have hrq:Ext wr wq:=by rw[hwq];exact (Mods.refl _ _).alloc _
   have hbq:Blk wq b #[.bool x.lf,slV x.e,slV x.k,slV x.i,.string x.s] 197:=by rw[hwq,hb];exact Blk.new wr _ _
   have hnb:¬ P1 b:=λhp=>by have:=hN1.env.lt b (hN1.sub b hp);omega
   have b0':=(hB1.ext hrq).cell (o:=0) (v:=.pointer (some ⟨c,0,none⟩)) rfl;have b1':=(hB1.ext hrq).cell (o:=1) (v:=.pointer (some ⟨s,0,none⟩)) rfl;have b2':=(hB1.ext hrq).cell (o:=2) (v:=.int .u64 (gen:Int)) rfl;rw[hwq] at b0' b1' b2';have hst:L.take (k+1)++L.drop (k+1)=L:=List.take_append_drop _ _;have htk:L.take (k+1)=L.take k++[n]:=take_one L k n hn;obtain⟨G2,l2,ka,kb,t1,t2,t3⟩:=downs_split gen (L.take (k+1)) (L.drop (k+1)) G l (by rw[hst];exact HD.out);rw[htk] at t1;obtain⟨G3,l3,kc,kd,u1,u2,u3⟩:=downs_split gen (L.take k) [n] G l t1;rw[HD1.out] at u1;injection u1 with u1;injection u1 with u1 u4;injection u4 with u4 u5;subst u1 u4 u5;obtain⟨i,i1,i2,i3,i4⟩:=downs_one u2;have HDN:Hid (downsP gen G l (L.take (k+1))=.inl (G2,l2,ks1++[(i,n.2)])):=oh (by rw[htk,t1,u3,i4]);obtain⟨g1,g2,g3,g4,g5⟩:=downs_lim gen (L.take k) G l HD1.out;have hko:=HOK.out n (List.mem_of_getElem? hn);have HKL:Hid (ks1.length≤100000):=oh (by rw[g5,List.length_take];omega);have HDA:=down_any (hN1.env.mods hrq.ext) hN1.sub (hG1.at hrq) gen 0 hgen n.1 (slV x.e) (slV x.k) (slV x.i) (hse.ext hrq) (hsk.ext hrq) (hsi.ext hrq) (λhr=>by have:=weight_len (form_right hr);have:=hko.2.2.2.1;omega) (.inl rfl) (.inl rfl) (by omega) (by rw[g3,g2];exact HLL.out) (by have:=HCO.out;rw[List.length_take] at g4;omega);rw[← i2,← i3,i1,← hlf] at HDA;unfold pgV at HDA;rw[show ((0:Nat):Int)=0 from rfl] at HDA;have HDA:=oh HDA;have HNQ:=oh (hN1.trans (Nxt.ext hN1.env hN1.sub hrq));have HSQ:=oh (hS1.ext hrq);have HBQ:=oh (hB1.ext hrq);have HEQ:=oh hbq;have HNB:=oh (And.intro hPX hnb);have HLQ:=oh (hLR.ext hrq);have HWQ:=oh hwq;have HBB:=oh hb;have HFS:Hid (x.s=n.2):=oh hfs;have z1:(0:Int)≤(k:Int):=by omega
   have z2:(k:Int)<(xs.length:Int):=by omega
   clear hG1 hN1 hS1 hB1 hPX hLR hx hn hse hsk hsi hc hxk hrq hbq hnb hwq hb hst htk t1 t2 t3 u2 u3 i1 i2 i3 i4 g1 g2 g3 g4 g5 hko hqF hltL hlf hfs;go_wp2_with fail;rw[← HWQ.out,← HBB.out];refine HDA.out.mono ?_;rintro en w4 ⟨P4,F4,hG4,hN4,⟨i4,h4,rfl⟩|⟨h4,_⟩⟩
   ·injection h4 with h4;subst h4;have hB4:=hN4.blk HEQ.out HNB.out.2;have f4:=hB4.cell (o:=4) (v:=.string x.s) rfl;have HG4:=oh hG4;have HN4:=oh (HNQ.out.trans hN4);have HS4:=oh (HSQ.out.nxt hN4 HNQ.out.sub);have HB4:=oh (hN4.blk HBQ.out HNB.out.1);have HP4:=oh (hN4.not HBQ.out.lt HNB.out.1);have HL4:=oh (HLQ.out.nxt hN4);have hl4:Blk (w4.alloc (.cells #[.int .i64 (i:Int),.string x.s] 151)) w4.heap.size #[.int .i64 (i:Int),.string x.s] 151:=Blk.new w4 _ _;have HLB:=oh hl4;have HMA:Hid (Ext w4 (w4.alloc (.cells #[.int .i64 (i:Int),.string x.s] 151))):=oh ((Mods.refl _ w4).alloc _);clear hG4 hN4 hB4 hl4;go_wp2_with (at_builtin;refine wpl_app2 Tryz.elKd encKd_ok rfl _ _ rfl w.heap.size _ _ ks1 [(i,x.s)] rfl rfl (HL4.out.1.ext HMA.out) (Sl.one (F:=λ_=>False) (x:=((i,x.s):KidA)) (enc:=encKd) (sz:=2) HLB.out (λf=>f)) (by have:=HKL.out;simp only[List.length_cons,List.length_nil];omega) (by have:=HN4.out.size;have:=HMA.out.size;omega) (λf=>f) ?_;simp only[List.length_cons,List.length_nil,Nat.zero_add];intro a6 c6 w6 hO6 hm6 hat6);have hN5:=HN4.out.trans (Nxt.ext HN4.out.env HN4.out.sub HMA.out);have happ:=(HL4.out.ext HMA.out).app hN5 (by simpa using hO6) hm6 hat6 (Nat.le_refl _);have HS6:Hid (DnS F P ad w w6 X c s gen (.slice (some ⟨qb,qoff,none⟩) xs.length vc) xs L G2 l2 (.slice a6 (ks1.length+1) c6) (ks1++[(i,n.2)])):=oh ⟨P4,plusV F4 (.slice a6 (ks1.length+1) c6),(HG4.out.at HMA.out).app (HL4.out.ext HMA.out) hm6 hat6 (Nat.le_refl _),happ.1,by
      refine (HS4.out.ext HMA.out).step (hm6.mono (λk hk=>(HL4.out.2 k hk).1)) (λk hk hn hf=>?_);rcases hf with hf|hf
      ·exact hn hf
      ·rcases hat6 with e|e
       ·exact hn (HL4.out.2 k (e ▸ hf)).1
       ·rw[e] at hf;injection hf with hf;omega,(HB4.out.ext HMA.out).mods hm6 (λhk=>(HL4.out.1.ext HMA.out).notB (HB4.out.ext HMA.out) (by decide) _ hk rfl),HP4.out,by rw[← HFS.out];exact happ.2⟩
    clear hO6 hm6 hat6 hN5 happ;go_wp2_with fail;go_roundg (gk-1)
    case measure=>omega
    case rel=>exact⟨k+1,G2,l2,ks1++[(i,n.2)],_,by omega,rfl,by go_num,HDN,HS6⟩
   ·cases h4
  ·have hk:k=xs.length:=by omega
   obtain⟨P1,F1,hG1,hN1,hS1,hB1,hPX,hLR⟩:=HS.out;have hall:L.take k=L:=by rw[hk,HXL.out,List.take_length]
   have he:=HD1.out;rw[hall,HD.out] at he;injection he with he;injection he with e1 e2;injection e2 with e2 e3;subst e1 e2 e3;have hkl:=(downs_lim gen L G l HD.out).2.2.2.2;have HFIN:Hid (PgR F1 wr P1 c s G' l'∧Nxt P P1 F F1 ad w wr∧Own (λ_=>False) wr w.heap.size 151 2 encKd kv ks∧(∀g,kv.ownBlock=some g→F1 g∧¬ P1 g)):=oh ⟨hG1,hN1,hLR.1,hLR.2⟩;have HKL:Hid (ks.length≤100000):=oh (by omega);clear hG1 hN1 hS1 hB1 hPX hLR hall hkl;go_wp2_with fail;refine bodyPost_ret (v:=.tuple #[kv,.nilIface]) (by simp[results,Tryz.results67,go_sem]) rfl ?_;obtain⟨q1,q2,q3,q4⟩:=HFIN.out;exact⟨P1,λk=>F k∨P1 k,q1.anti (λk hk=>hk.elim (q2.grow k) (q2.sub k)),q2.least,kv,rfl,Own.sl (F:=λk=>F k∨P1 k) ⟨q3.1,λg hg hf=>hf.elim (λhf=>by have h1:=(q3.lt g hg).1;have h2:=HEV.out.lt g hf;omega) (λhp=>(q4 g hg).2 hp)⟩ encKd_ok.len (by have:=HKL.out;omega)⟩
end
end
end Go.Proofs.YtchklfmggpconaaGreatDoor
