import Derived.Test.YtchklfmggpconaaGreatDoorK29
import Derived.Deep.RegionHeld3
import Derived.Deep.CutBlock
import Derived.Deep.DeepCutAuto
namespace Go.Proofs.YtchklfmggpconaaGreatDoor
open Lib renaming hid→oh
set_option maxHeartbeats 8000000
set_option maxRecDepth 100000
section
open Go.RowKit
attribute [local go_sem ↓] Go.wp_at_zero Go.wp_at_succ
theorem Tryz.entSz:(Tryz.prog.info? 141).map (·.size)=some 4:=by kernel_rfl
abbrev entC(e:EntryA):Array Value:=#[.string e.key,.string e.value,.int .i64 e.chain,.int .i64 e.size]
abbrev entZc:Array Value:=#[.string ⟨#[]⟩,.string ⟨#[]⟩,.int .i64 0,.int .i64 0]
def EntP(F P:Nat→Prop)(ad:Nat→Addr)(w:World)(c s:Nat)(G:GA)(l:List Nat)(r:StA EntryA)(e:Ending)(w':World):Prop :=
  ∃(P' F':Nat→Prop) (G':GA) (l':List Nat),PgR F' w' P' c s G' l'∧Nxt P P' F F' ad w w' ∧
    ((∃ en, r = .inl (G', l', en) ∧ e = .returned (.tuple #[.agg (entC en), .nilIface])) ∨
     (∃k en f el,r=.inr k∧FrG G l G' l'∧G'.cost≤G.cost∧e=.returned (.tuple #[.agg (entC en),faultV f])∧ErrC F' ad w' (faultV f) el k))
end
section
open Go.RowKit
abbrev PtA:=NodeA × ByteArray
def wholeN(a b:PtA):NodeA:=if a.1.leaf=true then ⟨true,a.1.entries++b.1.entries,[],[]⟩ else ⟨false,[],a.1.keys++[b.2]++b.1.keys,a.1.kids++b.1.kids⟩
def evenN(z:Int)(L:List PtA):List PtA:=match L.reverse with
 | b :: a :: r=>if lightN b.1 (z+24)=true then (if weightN (wholeN a b)≤z then r.reverse++[(wholeN a b,a.2)] else match cutA (wholeN a b) with
   | none=>L
   | some h=>r.reverse++[(h.1,a.2),(h.2.2,h.2.1)]) else L
 | _=>L
theorem evenN_few{z:Int}{L:List PtA}(h:L.length<2):evenN z L=L:=by
 match L,h with
 | [],_=>rfl
 | [x],_=>rfl
 | x :: y :: r,h=>simp at h;omega
theorem evenN_two(z : Int)(r : List PtA)(a b : PtA) : evenN z (r ++ [a, b]) = if lightN b.1 (z + 24) = true then (if weightN (wholeN a b) ≤ z then r ++ [(wholeN a b, a.2)] else match cutA (wholeN a b) with
      | none=>r++[a,b]
      | some h=>r++[(h.1,a.2),(h.2.2,h.2.1)]) else r++[a,b]:=by
  unfold evenN
  simp only[List.reverse_append,List.reverse_cons,List.reverse_nil,List.nil_append,List.cons_append,List.reverse_reverse]
def ptL(g:List EntryA):PtA:=(mkL g,firstG (·.key) g)
def ptI(g:List KidA):PtA:=(mkI g,firstG (·.2) g)
theorem cutAt_in{n:NodeA}{k:Nat}(h:cutAt n=some k):cutFrom n≤k∧k<cutFrom n+cutMany n:=by
 unfold cutAt at h;split at h
 ·rename_i hc;injection h with h;rw[← h];exact cut_place n hc.2
 ·cases h
theorem first_take{α:Type}(fst:α→ByteArray){g:List α}{k:Nat}(hk:0<k):firstG fst (g.take k)=firstG fst g:=by
 obtain⟨k,rfl⟩:∃j,k=j+1:=⟨k-1,by omega⟩;cases g <;> rfl
theorem first_app{α:Type}(fst:α→ByteArray){a b:List α}(h:a≠[]):firstG fst (a++b)=firstG fst a:=by
 cases a with
 | nil=>exact absurd rfl h
 | cons x a=>rfl
theorem first_drop{α:Type}(fst:α→ByteArray){g:List α}{k:Nat}(hk:k<g.length):firstG fst (g.drop k)=fst g[k]:=by
 rw[List.drop_eq_getElem_cons hk];rfl
theorem even_of{α:Type}{mk:List α→NodeA}{fst:α→ByteArray}{z:Int}(hw:∀a b:List α,a≠[]→b≠[]→wholeN (mk a,firstG fst a) (mk b,firstG fst b)=mk (a++b))
  (hc:∀(g:List α) (k:Nat),cutAt (mk g)=some k→apartA (mk g) k=(mk (g.take k),firstG fst (g.drop k),mk (g.drop k))∧0<k) (gs:List (List α)) (hne:∀g∈gs,g≠[]) :
  evenN z (gs.map λg=>(mk g,firstG fst g))=(evenG mk z gs).map λg=>(mk g,firstG fst g):=by
 rcases two_or gs with rfl|⟨g,rfl⟩|⟨r,a,b,rfl⟩
 ·rfl
 ·rfl
 ·have ha:=hne a (by simp);have hb:=hne b (by simp);rw[List.map_append,List.map_cons,List.map_cons,List.map_nil,evenN_two];simp only[hw a b ha hb];by_cases hl:lightN (mk b) (z+24)=true
  ·rw[if_pos hl];by_cases hz:weightN (mk (a++b))≤z
   ·rw[if_pos hz];rcases evenG_last mk z r a b hl with ⟨_,h2⟩|⟨h1,_⟩
    ·rw[h2,List.map_append,List.map_cons,List.map_nil,first_app fst ha]
    ·omega
   ·rw[if_neg hz];rw[cutA_at];cases hk:cutAt (mk (a++b)) with
    | none =>
     have:evenG mk z (r++[a,b])=r++[a,b]:=by
      unfold evenG;simp only[List.reverse_append,List.reverse_cons,List.reverse_nil,List.nil_append,List.cons_append,List.reverse_reverse];rw[if_pos hl,if_neg hz,hk]
     rw[this];simp
    | some k =>
     obtain⟨h1,h2⟩:=hc _ _ hk;rcases evenG_last mk z r a b hl with ⟨h3,_⟩|⟨_,h3⟩
     ·omega
     ·rw[h3 k hk];simp only[Option.map_some,h1,List.map_append,List.map_cons,List.map_nil,first_take fst h2,first_app fst ha]
  ·rw[if_neg hl,evenG_heavy mk z r a b (by simpa using hl)];simp
theorem even_L{z:Int}(gs:List (List EntryA))(hne:∀g∈gs,g≠[]):evenN z (gs.map ptL)=(evenG mkL z gs).map ptL:=by
 refine even_of (λa b _ _=>rfl) (λg k hk=>?_) gs hne;have hp:=cutAt_in hk;have e1:cutFrom (mkL g)=1:=rfl;have e2:cutMany (mkL g)=g.length-1:=rfl;have hkl:k<g.length:=by omega
 refine⟨?_,by omega⟩;unfold apartA;rw[if_pos (show (mkL g).leaf=true from rfl),first_drop (λe:EntryA=>e.key) hkl];show (_,(match g[k]? with|some e=>e.key|none=>_),_)=_;rw[List.getElem?_eq_getElem hkl];rfl
theorem even_I{z:Int}(gs:List (List KidA))(hne:∀g∈gs,g≠[]):evenN z (gs.map ptI)=(evenG mkI z gs).map ptI:=by
 refine even_of (λa b ha hb=>?_) (λg k hk=>?_) gs hne
 ·obtain⟨y,b,rfl⟩:=List.exists_cons_of_ne_nil hb;unfold wholeN mkI;rw[if_neg (by simp),tail_append ha];simp[firstG]
 ·have hp:=cutAt_in hk;have e1:cutFrom (mkI g)=2:=rfl;have e2:cutMany (mkI g)=(g.map λk=>(k.1:Int)).length-3:=rfl;rw[List.length_map] at e2;have hkl:k<g.length:=by omega
  refine⟨?_,by omega⟩;unfold apartA;rw[if_neg (by simp[mkI]),first_drop (λe:KidA=>e.2) hkl];unfold mkI;simp only[tail_take1,List.map_take,List.map_drop];congr 1
  congr 1
  ·rw[List.getD,List.getElem?_map,List.getElem?_tail,show k-1+1=k by omega,List.getElem?_eq_getElem hkl];rfl
  ·rw[List.tail_drop,← List.drop_one,← List.map_drop,List.drop_drop,Nat.add_comm 1 k]
theorem fillG_app{α:Type}(mk:List α→NodeA)(z:Int):∀(l m:List α) (out:List (List α)),fillG mk z out (l++m)=fillG mk z (fillG mk z out l) m
 | [],m,out=>rfl
 | x :: l,m,out=>by
  rw[List.cons_append,fillG,fillG];cases out.getLast? with
  | none=>exact fillG_app mk z l m _
  | some g =>
   simp only;split
   ·exact fillG_app mk z l m _
   ·exact fillG_app mk z l m _
theorem fillG_len{α:Type}(mk:List α→NodeA)(z:Int):∀(l:List α) (out:List (List α)),(fillG mk z out l).length≤out.length+l.length
 | [],out=>by simp[fillG]
 | x :: l,out=>by
  rw[fillG];cases hg:out.getLast? with
  | none =>
   have:=fillG_len mk z l (out++[[x]]);simp only[List.length_append,List.length_cons,List.length_nil] at this ⊢;omega
  | some g =>
   simp only;split
   ·have:=fillG_len mk z l (out.dropLast++[g++[x]]);have hp:0<out.length:=List.length_pos_iff.2 (λe=>by rw[e] at hg;simp at hg);simp only[List.length_append,List.length_cons,List.length_nil,List.length_dropLast] at this ⊢;omega
   ·have:=fillG_len mk z l (out++[[x]]);simp only[List.length_append,List.length_cons,List.length_nil] at this ⊢;omega
end
section
open Go.RowKit
attribute [local go_sem ↓] Go.wp_at_zero Go.wp_at_succ
abbrev ptZc:Array Value:=#[.bool false,.slice none 0 0,.slice none 0 0,.slice none 0 0,.string ⟨#[]⟩]
def PtO(w:World)(base:Nat)(v:Value)(n:PtA):Prop:=∃x:PtV,v=ptV x∧PtR w base x n
theorem Tryz.partSz5:(Tryz.prog.info? 197).map (·.size)=some 5:=by kernel_rfl
theorem Blk.ents{W:World}{b:Nat}{e:EntryA}{T:TypeId}(h:Blk W b (entC e) T):W.cell? ⟨b,0,none⟩=some (.string e.key)∧W.cell? ⟨b,1,none⟩=some (.string e.value)∧W.cell? ⟨b,2,none⟩=some (.int .i64 e.chain)∧W.cell? ⟨b,3,none⟩=some (.int .i64 e.size) :=
 ⟨h.cell rfl,h.cell rfl,h.cell rfl,h.cell rfl⟩
structure PtBox(w:World)(b0 X:Nat)(EB:Array Value)(ET:TypeId)(wx:World)(x:PtV)(n:PtA):Prop where
 ext:Ext w wx
 hX:w.heap.size≤X
 hb:b0≤w.heap.size
 box:Blk wx X #[.bool x.lf,slV x.e,slV x.k,slV x.i,.string x.s] 197
 elt:Blk wx (X+1) EB ET
 res:Blk wx (X+1+1) ptZc 197
 pt:PtR wx b0 x n
section
variable {w wx wz:World}{b0 X base:Nat}{EB:Array Value}{ET:TypeId}{x:PtV}{n:PtA}{a:Option Addr}{k c:Nat}
theorem PtBox.ext'(h:PtBox w b0 X EB ET wx x n)(m:Ext wx wz):PtBox w b0 X EB ET wz x n:=⟨h.ext.trans m,h.hX,h.hb,h.box.ext m,h.elt.ext m,h.res.ext m,h.pt.ext m⟩
theorem PtBox.turn(h:PtBox w b0 X EB ET wx x n)(o:Nat)(v:Value):Mods (λk=>k=X) wx (wx.setCell ⟨X,o,none⟩ v)∧Ext w (wx.setCell ⟨X,o,none⟩ v)∧Blk (wx.setCell ⟨X,o,none⟩ v) (X+1) EB ET∧Blk (wx.setCell ⟨X,o,none⟩ v) (X+1+1) ptZc 197 ∧ PtR (wx.setCell ⟨X,o,none⟩ v) b0 x n:=by
 have m:Mods (λk=>k=X) wx (wx.setCell ⟨X,o,none⟩ v):=Mods.setCell (F:=λk=>k=X) (p:=⟨X,o,none⟩) (Mods.refl _ _) (.inr rfl) v;exact⟨m,h.ext.setCell (p:=⟨X,o,none⟩) (.inl h.hX) v,h.elt.mods m (by omega),h.res.mods m (by omega),h.pt.blk h.box m (by decide) (by decide) (by decide)⟩
theorem PtBox.putE(h:PtBox w b0 X EB ET wx x n)(hb:b0≤base){es:List EntryA}(o:Own NoF wx base 141 4 encE (.slice a k c) es):PtBox w b0 X EB ET (wx.setCell ⟨X,1,none⟩ (.slice a k c)) { x with e:=(a,k,c) } ({ n.1 with entries:=es },n.2):=by
 obtain⟨m,m2,e1,e2,p⟩:=h.turn 1 (.slice a k c);exact⟨m2,h.hX,h.hb,by simpa[slV] using h.box.set 1 (.slice a k c),e1,e2,⟨p.lf,p.fst,(o.mods m (λg hg=>o.notB h.box (by decide) g hg)).rebase hb,p.k,p.i⟩⟩
theorem PtBox.putK(h:PtBox w b0 X EB ET wx x n)(hb:b0≤base){ks:List ByteArray}(o:Own NoF wx base 9 1 encS (.slice a k c) ks):PtBox w b0 X EB ET (wx.setCell ⟨X,2,none⟩ (.slice a k c)) { x with k:=(a,k,c) } ({ n.1 with keys:=ks },n.2):=by
 obtain⟨m,m2,e1,e2,p⟩:=h.turn 2 (.slice a k c);exact⟨m2,h.hX,h.hb,by simpa[slV] using h.box.set 2 (.slice a k c),e1,e2,⟨p.lf,p.fst,p.e,(o.mods m (λg hg=>o.notB h.box (by decide) g hg)).rebase hb,p.i⟩⟩
theorem PtBox.putI(h:PtBox w b0 X EB ET wx x n)(hb:b0≤base){is:List Int}(o:Own NoF wx base 3 1 encI (.slice a k c) is):PtBox w b0 X EB ET (wx.setCell ⟨X,3,none⟩ (.slice a k c)) { x with i:=(a,k,c) } ({ n.1 with kids:=is },n.2):=by
 obtain⟨m,m2,e1,e2,p⟩:=h.turn 3 (.slice a k c);exact⟨m2,h.hX,h.hb,by simpa[slV] using h.box.set 3 (.slice a k c),e1,e2,⟨p.lf,p.fst,p.e,p.k,(o.mods m (λg hg=>o.notB h.box (by decide) g hg)).rebase hb⟩⟩
theorem PtBox.ret(h:PtBox w b0 X EB ET wx x n):Blk (((((wx.setCell ⟨X+1+1,0,none⟩ (.bool x.lf)).setCell ⟨X+1+1,1,none⟩ (slV x.e)).setCell ⟨X+1+1,2,none⟩ (slV x.k)).setCell ⟨X+1+1,3,none⟩ (slV x.i)).setCell ⟨X+1+1,4,none⟩ (.string x.s)) (X+1+1) #[.bool x.lf,slV x.e,slV x.k,slV x.i,.string x.s] 197 ∧
  PtO (((((wx.setCell ⟨X+1+1,0,none⟩ (.bool x.lf)).setCell ⟨X+1+1,1,none⟩ (slV x.e)).setCell ⟨X+1+1,2,none⟩ (slV x.k)).setCell ⟨X+1+1,3,none⟩ (slV x.i)).setCell ⟨X+1+1,4,none⟩ (.string x.s)) b0 (ptV x) n ∧
  Ext w (((((wx.setCell ⟨X+1+1,0,none⟩ (.bool x.lf)).setCell ⟨X+1+1,1,none⟩ (slV x.e)).setCell ⟨X+1+1,2,none⟩ (slV x.k)).setCell ⟨X+1+1,3,none⟩ (slV x.i)).setCell ⟨X+1+1,4,none⟩ (.string x.s)):=by
 have m:=Mods.set5 (F:=λk=>k=X+1+1) (Mods.refl _ wx) (R:=X+1+1) (.inr rfl) (.bool x.lf) (slV x.e) (slV x.k) (slV x.i) (.string x.s);exact⟨h.res.set5 _ _ _ _ _,⟨x,rfl,h.pt.blk h.res m (by decide) (by decide) (by decide)⟩,Mods.set5 h.ext (R:=X+1+1) (.inl (by have:=h.hX;omega)) _ _ _ _ _⟩
end
section
variable {F:Nat→Prop}{w w':World}
theorem leaves1_any(e:EntryA) : Calls Tryz.prog 107 #[.agg (entC e)] w λen w'=>∃v,en=.returned v∧PtO w' w.heap.size v (ptL [e])∧Ext w w':=by
 obtain⟨W,hW⟩:∃W,W=((w.alloc (.cells (entC e) 141)).alloc (.cells #[.bool true,.slice (some ⟨w.heap.size+1+1,0,none⟩) 1 1,.slice none 0 0,.slice none 0 0,.string e.key] 197)).alloc (.cells #[.string e.key,.string e.value,.int .i64 e.chain,.int .i64 e.size] 141):=⟨_,rfl⟩;have HM:Hid (Ext w W):=oh (by rw[hW];exact (((Mods.refl _ w).alloc _).alloc _).alloc _);have HF:Hid (Blk W (w.heap.size+1) #[.bool true,.slice (some ⟨w.heap.size+1+1,0,none⟩) 1 1,.slice none 0 0,.slice none 0 0,.string e.key] 197):=oh (by rw[hW];exact Blk.alloc (heap_at (by simp)) _);have HL:Hid (Blk W (w.heap.size+1+1) (entC e) 141):=oh (by rw[hW];exact heap_at (by simp));have HO:Hid (Own NoF W w.heap.size 141 4 encE (.slice (some ⟨w.heap.size+1+1,0,none⟩) 1 1) [e]):=oh (Own.made (l:=[e]) HL.out (by omega) (λf=>f) (Nat.le_refl _) (by simp[maxLen]) rfl rfl encE_ok.len);have HW:=oh hW;clear hW
 go_enter Tryz.func107, Tryz.ntmps107
 go_wp2_with fail;rw[← HW.out];refine bodyPost_ret (results_cell_row rfl _ _ (w.heap.size+1) 197 _ (0,0) _ rfl HF.out Tryz.underlying197 rfl Tryz.partSz5) rfl ?_;exact⟨_,rfl,⟨⟨true,(some ⟨w.heap.size+1+1,0,none⟩,1,1),(none,0,0),(none,0,0),e.key⟩,rfl,rfl,rfl,HO.out,Own.nil _ _ _ _ _ _,Own.nil _ _ _ _ _ _⟩,HM.out⟩
theorem leaves2_any(es:List EntryA)(e:EntryA)(ea:Option Addr)(ec:Nat)(xk xi:SlT)(s:ByteArray)(b0:Nat)(hx:PtR w b0 ⟨true,(ea,es.length,ec),xk,xi,s⟩ (mkL es,s))(hb:b0≤w.heap.size)(hn:es.length≤100000) :
  Calls Tryz.prog 108 #[.agg #[.bool true,.slice ea es.length ec,slV xk,slV xi,.string s],.agg (entC e)] w λen w'=>∃v,en=.returned v∧PtO w' b0 v (mkL (es++[e]),s)∧Ext w w':=by
 obtain⟨ka,kn,kc⟩:=xk;obtain⟨ja,jn,jc⟩:=xi;unfold slV;simp only;obtain⟨X,hX⟩:∃X,X=w.heap.size:=⟨_,rfl⟩;obtain⟨w0,hw0⟩:∃w0,w0=((w.alloc (.cells #[.bool true,.slice ea es.length ec,.slice ka kn kc,.slice ja jn jc,.string s] 197)).alloc (.cells (entC e) 141)).alloc (.cells ptZc 197):=⟨_,rfl⟩;have m0:Ext w w0:=by rw[hw0];exact (((Mods.refl _ w).alloc _).alloc _).alloc _
 have HBX:Hid (PtBox w b0 X (entC e) 141 w0 ⟨true,(ea,es.length,ec),(ka,kn,kc),(ja,jn,jc),s⟩ (mkL es,s)):=oh ⟨m0,by omega,hb,by rw[hw0,hX];exact ((Blk.new w _ _).alloc _).alloc _,by rw[hw0,hX];exact Blk.alloc (heap_at (by simp)) _,by rw[hw0,hX];exact heap_at (by simp),hx.ext m0⟩;have HSE:Hid (Sl (λ_=>False) w0 4 encE (.slice ea es.length ec) es):=oh (HBX.out.pt.e.sl encE_ok.len (by show es.length≤_;omega));have HBL:Hid (b0≤w0.heap.size):=oh (Nat.le_trans hb m0.size);unfold ptZc at hw0;have HW0:=oh hw0;have HX:=oh hX;clear hw0 hx m0 hb hX
 go_enter Tryz.func108, Tryz.ntmps108
 go_wp2_with fail;rw[← HW0.out,← HX.out];go_cut [] (λwx=>∃a c,Hid (PtBox w b0 X (entC e) 141 wx ⟨true,(a,es.length+1,c),(ka,kn,kc),(ja,jn,jc),s⟩ (mkL (es++[e]),s)))
 case first =>
  refine wp_region_held_drew (S:=(λw'=>w'.cell? ⟨X+1,0,none⟩=some (.string e.key)∧w'.cell? ⟨X+1,1,none⟩=some (.string e.value)∧w'.cell? ⟨X+1,2,none⟩=some (.int .i64 e.chain)∧w'.cell? ⟨X+1,3,none⟩=some (.int .i64 e.size))) (by kernel_rfl) (HBX.out.ext' (Mods.refl _ _).drew).elt.ents (λhHeld=>?_);obtain⟨Wd,hWd⟩:∃W,W=w0.drew:=⟨_,rfl⟩;rw[← hWd] at hHeld ⊢;have xWd:Ext w0 Wd:=by rw[hWd];exact (Mods.refl _ _).drew
  clear hWd;have n1:=(HBX.out.ext' xWd).box.cell (o:=1) (v:=.slice ea es.length ec) rfl;have nf:=(HBX.out.ext' xWd).box.frozen;refine tkH 1 ⟨some 6,_,_,_,_,_⟩ ?_;try go_frame
  refine tkH 2 ⟨some 7,_,_,_,_,_⟩ ?_;try go_frame
  refine tkH 5 ⟨some 10,_,_,_,_,_⟩ ?_;try go_frame
  refine wpAnyH_inv (I:=λl a w=>∃b0 b3 b4 b6 b7 p5 p8 p9 p11 p12,l=#[b0,true,true,b3,b4,true,b6,b7,false,false,false]∧a = { tmps:=#[.agg #[.bool true,.slice ea es.length ec,.slice ka kn kc,.slice ja jn jc,.string s],.agg (entC e),.pointer (some ⟨X,0,none⟩),.pointer (some ⟨X+1,0,none⟩),.pointer (some ⟨X+1+1,0,none⟩),p5,.pointer (some ⟨X,0,none⟩),.pointer (some ⟨X,1,none⟩),p8,p9,.agg (entC e),p11,p12,undef,undef,undef],defers:=[] }∧App2 141 4 encE Wd es e (.slice ea es.length ec) b0 b3 b4 b6 b7 p5 p8 p9 p11 p12 w) (stop:=λl=>l=#[true,true,true,true,true,true,true,true,false,false,false]) (λi l a w hr hI hs=>?_) (λl a w hI hr hs=>?_) (λn l a w hI hs hn=>?_) _ _ _ _ ⟨false,false,false,false,false,_,_,_,_,_,by kernel_rfl,rfl,App2.start (Mods.refl _ _)⟩ (by decide)
  ·obtain⟨b0,b3,b4,b6,b7,p5,p8,p9,p11,p12,rfl,rfl,hA⟩:=hI;obtain⟨h1,o,ho,h2⟩:=mem_ready.1 hr;clear hr;match i,h1,ho with
   | 1,h1,ho|2,h1,ho|5,h1,ho=>cases h1
   | 0,h1,ho =>
    injection ho with ho;subst ho;refine wpOp_step rfl (λK hK=>?_);have HK:=oh hK;clear hK;go_simp;try go_frame
    exact HK.out _ _ ⟨(HBX.out.ext' (xWd.trans (hA.lit0 encE_ok.len).ext)).elt.ents,true,b3,b4,b6,b7,_,p8,p9,p11,p12,rfl,rfl,hA.lit0 encE_ok.len⟩
   | 3,h1,ho =>
    injection ho with ho;subst ho;refine wpOp_step rfl (λK hK=>?_);have HK:=oh hK;clear hK;have n1:=(HBX.out.ext' (xWd.trans hA.ext)).box.cell (o:=1) (v:=.slice ea es.length ec) rfl;go_simp;try go_frame
    exact HK.out _ _ ⟨(HBX.out.ext' (xWd.trans hA.ld.ext)).elt.ents,b0,true,b4,b6,b7,p5,_,p9,p11,p12,rfl,rfl,hA.ld⟩
   | 4,h1,ho =>
    injection ho with ho;subst ho;refine wpOp_step rfl (λK hK=>?_);have HK:=oh hK;clear hK;obtain rfl:b0=true:=h2 ⟨0,.data⟩ (by simp) rfl;obtain rfl:b3=true:=h2 ⟨3,.data⟩ (by simp) rfl;obtain rfl:b4=false:=h1;obtain rfl:=hA.f3 rfl;refine step_app2 Tryz.elE encE_ok (by rfl) _ _ (by rfl) Wd.heap.size p5 (.slice ea es.length ec) [] es (by rfl) (by rfl) (hA.f0 rfl rfl) (HSE.out.ext (xWd.trans hA.ext)) (by simp only[List.length_nil];omega) hA.ext.size (λf=>f) ?_;rw[List.nil_append,List.length_nil,Nat.zero_add];intro a1 c1 W1 hO hm _;try go_frame
    exact HK.out _ _ ⟨(HBX.out.ext' (xWd.trans (hA.app1 hO hm).ext)).elt.ents,true,true,true,b6,b7,p5,_,_,p11,p12,rfl,rfl,hA.app1 hO hm⟩
   | 6,h1,ho =>
    injection ho with ho;subst ho;refine wpOp_step rfl (λK hK=>?_);have HK:=oh hK;clear hK;go_simp;try go_frame
    exact HK.out _ _ ⟨(HBX.out.ext' (xWd.trans hA.lit1.ext)).elt.ents,b0,b3,b4,true,b7,p5,p8,p9,_,p12,rfl,rfl,hA.lit1⟩
   | 7,h1,ho =>
    injection ho with ho;subst ho;refine wpOp_step rfl (λK hK=>?_);have HK:=oh hK;clear hK;obtain rfl:b4=true:=h2 ⟨4,.data⟩ (by simp) rfl;obtain rfl:b6=true:=h2 ⟨6,.data⟩ (by simp) rfl;obtain rfl:b7=false:=h1;obtain⟨a1,c1,rfl,hO1⟩:=hA.f4 rfl rfl;obtain⟨g,rfl,hB, -⟩:=hA.f6 rfl rfl;refine step_app2 Tryz.elE encE_ok (by rfl) _ _ (by rfl) Wd.heap.size (.slice a1 es.length c1) (.slice (some ⟨g,0,none⟩) 1 1) es [e] (by rfl) (by rfl) hO1 (Sl.one (F:=λ_=>False) (x:=e) (enc:=encE) (sz:=4) hB (λf=>f)) (by simp only[List.length_singleton];omega) hA.ext.size (λf=>f) ?_;rw[List.length_singleton];intro a2 c2 W1 hO hm _;try go_frame
    exact HK.out _ _ ⟨(HBX.out.ext' (xWd.trans (hA.app2 hO hm).ext)).elt.ents,b0,b3,true,true,true,p5,p8,_,_,_,rfl,rfl,hA.app2 hO hm⟩
   | 8,h1,ho =>
    injection ho with ho;subst ho;obtain rfl:b0=true:=h2 ⟨0,.phase⟩ (by simp) rfl;obtain rfl:b3=true:=h2 ⟨3,.phase⟩ (by simp) rfl;obtain rfl:b4=true:=h2 ⟨4,.phase⟩ (by simp) rfl;obtain rfl:b6=true:=h2 ⟨6,.phase⟩ (by simp) rfl;obtain rfl:b7=true:=h2 ⟨7,.phase⟩ (by simp) rfl;exact absurd rfl hs
   | 9,h1,ho =>
    injection ho with ho;subst ho;have:=h2 ⟨8,.data⟩ (by simp) rfl;cases this
   | 10,h1,ho =>
    injection ho with ho;subst ho;have:=h2 ⟨9,.data⟩ (by simp) rfl;cases this
   | n+11,h1,ho=>cases h1
  ·obtain⟨b0,b3,b4,b6,b7,p5,p8,p9,p11,p12,rfl,rfl,hA⟩:=hI;exfalso;clear hA;cases b0 <;> cases b3 <;> cases b4 <;> cases b6 <;> cases b7 <;> first|exact hs rfl|(revert hr;decide +kernel)
  ·obtain⟨b0,b3,b4,b6,b7,p5,p8,p9,p11,p12,rfl,rfl,hA⟩:=hI;simp only[Array.mk.injEq,List.cons.injEq,and_true,true_and] at hs;obtain⟨rfl,rfl,rfl,rfl,rfl⟩:=hs;obtain⟨m,rfl⟩:∃m,n=m+3:=⟨n-3,by have h3:leftR #[true,true,true,true,true,true,true,true,false,false,false]=3:=rfl;omega⟩;obtain⟨a2,c2,rfl,hO2⟩:=hA.f7 rfl;have xW:=xWd.trans hA.ext;have n1:=(HBX.out.ext' xW).box.cell (o:=1) (v:=.slice ea es.length ec) rfl;have nf:=(HBX.out.ext' xW).box.frozen;have hHeld:=(HBX.out.ext' xW).elt.ents;refine tkH 8 ⟨some 13,_,_,_,_,_⟩ ?_;try go_frame
   refine tkH 9 ⟨some 14,_,_,_,_,_⟩ ?_;try go_frame
   refine wpAnyH_ready (rs:=[10]) (by kernel_rfl) (by simp) ?_;refine AllReadyH.cons (o:=⟨none,_,_,_,_,_⟩) rfl (λK hK=>?_) AllReadyH.nil;go_simp;have hfin:=(HBX.out.ext' xW).putE HBL.out (hO2.rebase xWd.size);refine hK.out _ _ hfin.elt.ents (λhHeld=>?_);clear hK;try go_frame
   refine wpAnyH_done (by kernel_rfl) ?_ _;have HFIN:=oh hfin;clear hfin hO2 hA;go_wp2_with fail;go_meet;exact⟨a2,c2,HFIN⟩
 case rest =>
  obtain⟨a,c,HB2⟩:=hcut;have y0:=HB2.out.box.cell (o:=0) rfl;have y1:=HB2.out.box.cell (o:=1) rfl;have y2:=HB2.out.box.cell (o:=2) rfl;have y3:=HB2.out.box.cell (o:=3) rfl;have y4:=HB2.out.box.cell (o:=4) rfl;have rf:=HB2.out.res.frozen;have r0:=HB2.out.res.cell (o:=0) (v:=.bool false) rfl;have r1:=HB2.out.res.cell (o:=1) (v:=.slice none 0 0) rfl;have r2:=HB2.out.res.cell (o:=2) (v:=.slice none 0 0) rfl;have r3:=HB2.out.res.cell (o:=3) (v:=.slice none 0 0) rfl;have r4:=HB2.out.res.cell (o:=4) (v:=.string ⟨#[]⟩) rfl;have HRT:=oh HB2.out.ret;unfold slV at y1 y2 y3;go_wp2_with fail;refine bodyPost_ret (results_cell_row rfl _ _ (X+1+1) 197 _ (0,0) _ rfl HRT.out.1 Tryz.underlying197 rfl Tryz.partSz5) rfl ?_;exact⟨_,rfl,HRT.out.2.1,HRT.out.2.2⟩
theorem above2_any(ks:List ByteArray)(is:List Int)(id:Int)(key:ByteArray)(ka ia:Option Addr)(kc ic:Nat)(xe:SlT)(s:ByteArray)(b0:Nat)(hx:PtR w b0 ⟨false,xe,(ka,ks.length,kc),(ia,is.length,ic),s⟩ (⟨false,[],ks,is⟩,s))(hb:b0≤w.heap.size)(hn:ks.length≤100000)(hn2:is.length≤100000) :
  Calls Tryz.prog 111 #[.agg #[.bool false,slV xe,.slice ka ks.length kc,.slice ia is.length ic,.string s],.agg #[.int .i64 id,.string key]] w λen w'=>∃v,en=.returned v∧PtO w' b0 v (⟨false,[],ks++[key],is++[id]⟩,s)∧Ext w w':=by
 obtain⟨ea,en,ec⟩:=xe;unfold slV;simp only;obtain⟨X,hX⟩:∃X,X=w.heap.size:=⟨_,rfl⟩;obtain⟨w0,hw0⟩:∃w0,w0=((w.alloc (.cells #[.bool false,.slice ea en ec,.slice ka ks.length kc,.slice ia is.length ic,.string s] 197)).alloc (.cells #[.int .i64 id,.string key] 151)).alloc (.cells ptZc 197):=⟨_,rfl⟩;have m0:Ext w w0:=by rw[hw0];exact (((Mods.refl _ w).alloc _).alloc _).alloc _
 have HBX:Hid (PtBox w b0 X #[.int .i64 id,.string key] 151 w0 ⟨false,(ea,en,ec),(ka,ks.length,kc),(ia,is.length,ic),s⟩ (⟨false,[],ks,is⟩,s)):=oh ⟨m0,by omega,hb,by rw[hw0,hX];exact ((Blk.new w _ _).alloc _).alloc _,by rw[hw0,hX];exact Blk.alloc (heap_at (by simp)) _,by rw[hw0,hX];exact heap_at (by simp),hx.ext m0⟩;have HSE:Hid (Sl (λ_=>False) w0 1 encI (.slice ia is.length ic) is):=oh (HBX.out.pt.i.sl encI_ok.len (by show is.length≤_;omega));have HBL:Hid (b0≤w0.heap.size):=oh (Nat.le_trans hb m0.size);unfold ptZc at hw0;have HW0:=oh hw0;have HX:=oh hX;clear hw0 hx m0 hb hX
 go_enter Tryz.func111, Tryz.ntmps111
 go_wp2_with fail;rw[← HW0.out,← HX.out];go_cut [] (λwx=>∃a c,Hid (PtBox w b0 X #[.int .i64 id,.string key] 151 wx ⟨false,(ea,en,ec),(ka,ks.length,kc),(a,is.length+1,c),s⟩ (⟨false,[],ks,is++[id]⟩,s)))
 case first =>
  refine wp_region_held_drew (S:=(λw'=>w'.cell? ⟨X+1,0,none⟩=some (.int .i64 id))) (by kernel_rfl) ((HBX.out.ext' (Mods.refl _ _).drew).elt.cell (o:=0) (v:=.int .i64 id) rfl) (λhHeld=>?_);obtain⟨Wd,hWd⟩:∃W,W=w0.drew:=⟨_,rfl⟩;rw[← hWd] at hHeld ⊢;have xWd:Ext w0 Wd:=by rw[hWd];exact (Mods.refl _ _).drew
  clear hWd;have n1:=(HBX.out.ext' xWd).box.cell (o:=3) (v:=.slice ia is.length ic) rfl;have nf:=(HBX.out.ext' xWd).box.frozen;refine tkH 1 ⟨some 6,_,_,_,_,_⟩ ?_;try go_frame
  refine tkH 2 ⟨some 7,_,_,_,_,_⟩ ?_;try go_frame
  refine tkH 5 ⟨some 10,_,_,_,_,_⟩ ?_;try go_frame
  refine tkH 6 ⟨some 11,_,_,_,_,_⟩ ?_;try go_frame
  refine wpAnyH_inv (I:=λl a w=>∃b0 b3 b4 b6 b7 p5 p8 p9 p11 p12,l=#[b0,true,true,b3,b4,true,true,b6,b7,false,false,false]∧a = { tmps:=#[.agg #[.bool false,.slice ea en ec,.slice ka ks.length kc,.slice ia is.length ic,.string s],.agg #[.int .i64 id,.string key],.pointer (some ⟨X,0,none⟩),.pointer (some ⟨X+1,0,none⟩),.pointer (some ⟨X+1+1,0,none⟩),p5,.pointer (some ⟨X,0,none⟩),.pointer (some ⟨X,3,none⟩),p8,p9,.pointer (some ⟨X+1,0,none⟩),.int .i64 id,p11,p12,undef,undef,undef,undef,undef,undef,undef,undef,undef,undef,undef,undef,undef,undef],defers:=[] }∧App2 3 1 encI Wd is id (.slice ia is.length ic) b0 b3 b4 b6 b7 p5 p8 p9 p11 p12 w) (stop:=λl=>l=#[true,true,true,true,true,true,true,true,true,false,false,false]) (λi l a w hr hI hs=>?_) (λl a w hI hr hs=>?_) (λn l a w hI hs hn=>?_) _ _ _ _ ⟨false,false,false,false,false,_,_,_,_,_,by kernel_rfl,rfl,App2.start (Mods.refl _ _)⟩ (by decide)
  ·obtain⟨b0,b3,b4,b6,b7,p5,p8,p9,p11,p12,rfl,rfl,hA⟩:=hI;obtain⟨h1,o,ho,h2⟩:=mem_ready.1 hr;clear hr;match i,h1,ho with
   | 1,h1,ho|2,h1,ho|5,h1,ho|6,h1,ho=>cases h1
   | 0,h1,ho =>
    injection ho with ho;subst ho;refine wpOp_step rfl (λK hK=>?_);have HK:=oh hK;clear hK;go_simp;try go_frame
    exact HK.out _ _ ⟨((HBX.out.ext' (xWd.trans (hA.lit0 encI_ok.len).ext)).elt.cell (o:=0) (v:=.int .i64 id) rfl),true,b3,b4,b6,b7,_,p8,p9,p11,p12,rfl,rfl,hA.lit0 encI_ok.len⟩
   | 3,h1,ho =>
    injection ho with ho;subst ho;refine wpOp_step rfl (λK hK=>?_);have HK:=oh hK;clear hK;have n1:=(HBX.out.ext' (xWd.trans hA.ext)).box.cell (o:=3) (v:=.slice ia is.length ic) rfl;go_simp;try go_frame
    exact HK.out _ _ ⟨((HBX.out.ext' (xWd.trans hA.ld.ext)).elt.cell (o:=0) (v:=.int .i64 id) rfl),b0,true,b4,b6,b7,p5,_,p9,p11,p12,rfl,rfl,hA.ld⟩
   | 4,h1,ho =>
    injection ho with ho;subst ho;refine wpOp_step rfl (λK hK=>?_);have HK:=oh hK;clear hK;obtain rfl:b0=true:=h2 ⟨0,.data⟩ (by simp) rfl;obtain rfl:b3=true:=h2 ⟨3,.data⟩ (by simp) rfl;obtain rfl:b4=false:=h1;obtain rfl:=hA.f3 rfl;refine step_app2 Tryz.elI encI_ok (by rfl) _ _ (by rfl) Wd.heap.size p5 (.slice ia is.length ic) [] is (by rfl) (by rfl) (hA.f0 rfl rfl) (HSE.out.ext (xWd.trans hA.ext)) (by simp only[List.length_nil];omega) hA.ext.size (λf=>f) ?_;rw[List.nil_append,List.length_nil,Nat.zero_add];intro a1 c1 W1 hO hm _;try go_frame
    exact HK.out _ _ ⟨((HBX.out.ext' (xWd.trans (hA.app1 hO hm).ext)).elt.cell (o:=0) (v:=.int .i64 id) rfl),true,true,true,b6,b7,p5,_,_,p11,p12,rfl,rfl,hA.app1 hO hm⟩
   | 7,h1,ho =>
    injection ho with ho;subst ho;refine wpOp_step rfl (λK hK=>?_);have HK:=oh hK;clear hK;go_simp;try go_frame
    exact HK.out _ _ ⟨((HBX.out.ext' (xWd.trans hA.lit1.ext)).elt.cell (o:=0) (v:=.int .i64 id) rfl),b0,b3,b4,true,b7,p5,p8,p9,_,p12,rfl,rfl,hA.lit1⟩
   | 8,h1,ho =>
    injection ho with ho;subst ho;refine wpOp_step rfl (λK hK=>?_);have HK:=oh hK;clear hK;obtain rfl:b4=true:=h2 ⟨4,.data⟩ (by simp) rfl;obtain rfl:b6=true:=h2 ⟨7,.data⟩ (by simp) rfl;obtain rfl:b7=false:=h1;obtain⟨a1,c1,rfl,hO1⟩:=hA.f4 rfl rfl;obtain⟨g,rfl,hB, -⟩:=hA.f6 rfl rfl;refine step_app2 Tryz.elI encI_ok (by rfl) _ _ (by rfl) Wd.heap.size (.slice a1 is.length c1) (.slice (some ⟨g,0,none⟩) 1 1) is [id] (by rfl) (by rfl) hO1 (Sl.one (F:=λ_=>False) (x:=id) (enc:=encI) (sz:=1) hB (λf=>f)) (by simp only[List.length_singleton];omega) hA.ext.size (λf=>f) ?_;rw[List.length_singleton];intro a2 c2 W1 hO hm _;try go_frame
    exact HK.out _ _ ⟨((HBX.out.ext' (xWd.trans (hA.app2 hO hm).ext)).elt.cell (o:=0) (v:=.int .i64 id) rfl),b0,b3,true,true,true,p5,p8,_,_,_,rfl,rfl,hA.app2 hO hm⟩
   | 9,h1,ho =>
    injection ho with ho;subst ho;obtain rfl:b0=true:=h2 ⟨0,.phase⟩ (by simp) rfl;obtain rfl:b3=true:=h2 ⟨3,.phase⟩ (by simp) rfl;obtain rfl:b4=true:=h2 ⟨4,.phase⟩ (by simp) rfl;obtain rfl:b6=true:=h2 ⟨7,.phase⟩ (by simp) rfl;obtain rfl:b7=true:=h2 ⟨8,.phase⟩ (by simp) rfl;exact absurd rfl hs
   | 10,h1,ho =>
    injection ho with ho;subst ho;have:=h2 ⟨9,.data⟩ (by simp) rfl;cases this
   | 11,h1,ho =>
    injection ho with ho;subst ho;have:=h2 ⟨10,.data⟩ (by simp) rfl;cases this
   | n+12,h1,ho=>cases h1
  ·obtain⟨b0,b3,b4,b6,b7,p5,p8,p9,p11,p12,rfl,rfl,hA⟩:=hI;exfalso;clear hA;cases b0 <;> cases b3 <;> cases b4 <;> cases b6 <;> cases b7 <;> first|exact hs rfl|(revert hr;decide +kernel)
  ·obtain⟨b0,b3,b4,b6,b7,p5,p8,p9,p11,p12,rfl,rfl,hA⟩:=hI;simp only[Array.mk.injEq,List.cons.injEq,and_true,true_and] at hs;obtain⟨rfl,rfl,rfl,rfl,rfl⟩:=hs;obtain⟨m,rfl⟩:∃m,n=m+3:=⟨n-3,by have h3:leftR #[true,true,true,true,true,true,true,true,true,false,false,false]=3:=rfl;omega⟩;obtain⟨a2,c2,rfl,hO2⟩:=hA.f7 rfl;have xW:=xWd.trans hA.ext;have n1:=(HBX.out.ext' xW).box.cell (o:=3) (v:=.slice ia is.length ic) rfl;have nf:=(HBX.out.ext' xW).box.frozen;have hHeld:=((HBX.out.ext' xW).elt.cell (o:=0) (v:=.int .i64 id) rfl);refine tkH 9 ⟨some 14,_,_,_,_,_⟩ ?_;try go_frame
   refine tkH 10 ⟨some 15,_,_,_,_,_⟩ ?_;try go_frame
   refine wpAnyH_ready (rs:=[11]) (by kernel_rfl) (by simp) ?_;refine AllReadyH.cons (o:=⟨none,_,_,_,_,_⟩) rfl (λK hK=>?_) AllReadyH.nil;go_simp;have hfin:=(HBX.out.ext' xW).putI HBL.out (hO2.rebase xWd.size);refine hK.out _ _ (hfin.elt.cell (o:=0) (v:=.int .i64 id) rfl) (λhHeld=>?_);clear hK;try go_frame
   refine wpAnyH_done (by kernel_rfl) ?_ _;have HFIN:=oh hfin;clear hfin hO2 hA;go_wp2_with fail;go_meet;exact⟨a2,c2,HFIN⟩
 case rest =>
 obtain⟨ia2,ic2,HB1⟩:=hcut;have HSK:Hid (Sl (λ_=>False) wc 1 encS (.slice ka ks.length kc) ks):=oh (HB1.out.pt.k.sl encS_ok.len (by show ks.length≤_;omega));have HBL2:Hid (b0≤wc.heap.size):=oh (Nat.le_trans HB1.out.hb HB1.out.ext.size);obtain⟨w1,rfl⟩:∃w1:World,w1=wc:=⟨_,rfl⟩;go_wp2_with fail;go_cut [] (λwx=>∃a c,Hid (PtBox w b0 X #[.int .i64 id,.string key] 151 wx ⟨false,(ea,en,ec),(a,ks.length+1,c),(ia2,is.length+1,ic2),s⟩ (⟨false,[],ks++[key],is++[id]⟩,s)))
 case first =>
  refine wp_region_held_drew (S:=(λw'=>w'.cell? ⟨X+1,1,none⟩=some (.string key))) (by kernel_rfl) ((HB1.out.ext' (Mods.refl _ _).drew).elt.cell (o:=1) (v:=.string key) rfl) (λhHeld=>?_);obtain⟨Wd,hWd⟩:∃W,W=w1.drew:=⟨_,rfl⟩;rw[← hWd] at hHeld ⊢;have xWd:Ext w1 Wd:=by rw[hWd];exact (Mods.refl _ _).drew
  clear hWd;have n1:=(HB1.out.ext' xWd).box.cell (o:=2) (v:=.slice ka ks.length kc) rfl;have nf:=(HB1.out.ext' xWd).box.frozen;refine tkH 1 ⟨some 17,_,_,_,_,_⟩ ?_;try go_frame
  refine tkH 2 ⟨some 18,_,_,_,_,_⟩ ?_;try go_frame
  refine tkH 5 ⟨some 21,_,_,_,_,_⟩ ?_;try go_frame
  refine tkH 6 ⟨some 22,_,_,_,_,_⟩ ?_;try go_frame
  refine wpAnyH_inv (I:=λl a w=>∃b0 b3 b4 b6 b7 p5 p8 p9 p11 p12,l=#[b0,true,true,b3,b4,true,true,b6,b7,false,false,false]∧a = { tmps:=#[.agg #[.bool false,.slice ea en ec,.slice ka ks.length kc,.slice ia is.length ic,.string s],.agg #[.int .i64 id,.string key],.pointer (some ⟨X,0,none⟩),.pointer (some ⟨X+1,0,none⟩),.pointer (some ⟨X+1+1,0,none⟩),u5,u6,u7,u8,u9,u10,u11,u12,u13,u14,u15,p5,.pointer (some ⟨X,0,none⟩),.pointer (some ⟨X,2,none⟩),p8,p9,.pointer (some ⟨X+1,1,none⟩),.string key,p11,p12,u25,u26,u27],defers:=[] }∧App2 9 1 encS Wd ks key (.slice ka ks.length kc) b0 b3 b4 b6 b7 p5 p8 p9 p11 p12 w) (stop:=λl=>l=#[true,true,true,true,true,true,true,true,true,false,false,false]) (λi l a w hr hI hs=>?_) (λl a w hI hr hs=>?_) (λn l a w hI hs hn=>?_) _ _ _ _ ⟨false,false,false,false,false,_,_,_,_,_,by kernel_rfl,rfl,App2.start (Mods.refl _ _)⟩ (by decide)
  ·obtain⟨b0,b3,b4,b6,b7,p5,p8,p9,p11,p12,rfl,rfl,hA⟩:=hI;obtain⟨h1,o,ho,h2⟩:=mem_ready.1 hr;clear hr;match i,h1,ho with
   | 1,h1,ho|2,h1,ho|5,h1,ho|6,h1,ho=>cases h1
   | 0,h1,ho =>
    injection ho with ho;subst ho;refine wpOp_step rfl (λK hK=>?_);have HK:=oh hK;clear hK;go_simp;try go_frame
    exact HK.out _ _ ⟨((HB1.out.ext' (xWd.trans (hA.lit0 encS_ok.len).ext)).elt.cell (o:=1) (v:=.string key) rfl),true,b3,b4,b6,b7,_,p8,p9,p11,p12,rfl,rfl,hA.lit0 encS_ok.len⟩
   | 3,h1,ho =>
    injection ho with ho;subst ho;refine wpOp_step rfl (λK hK=>?_);have HK:=oh hK;clear hK;have n1:=(HB1.out.ext' (xWd.trans hA.ext)).box.cell (o:=2) (v:=.slice ka ks.length kc) rfl;go_simp;try go_frame
    exact HK.out _ _ ⟨((HB1.out.ext' (xWd.trans hA.ld.ext)).elt.cell (o:=1) (v:=.string key) rfl),b0,true,b4,b6,b7,p5,_,p9,p11,p12,rfl,rfl,hA.ld⟩
   | 4,h1,ho =>
    injection ho with ho;subst ho;refine wpOp_step rfl (λK hK=>?_);have HK:=oh hK;clear hK;obtain rfl:b0=true:=h2 ⟨0,.data⟩ (by simp) rfl;obtain rfl:b3=true:=h2 ⟨3,.data⟩ (by simp) rfl;obtain rfl:b4=false:=h1;obtain rfl:=hA.f3 rfl;refine step_app2 Tryz.elS encS_ok (by rfl) _ _ (by rfl) Wd.heap.size p5 (.slice ka ks.length kc) [] ks (by rfl) (by rfl) (hA.f0 rfl rfl) (HSK.out.ext (xWd.trans hA.ext)) (by simp only[List.length_nil];omega) hA.ext.size (λf=>f) ?_;rw[List.nil_append,List.length_nil,Nat.zero_add];intro a1 c1 W1 hO hm _;try go_frame
    exact HK.out _ _ ⟨((HB1.out.ext' (xWd.trans (hA.app1 hO hm).ext)).elt.cell (o:=1) (v:=.string key) rfl),true,true,true,b6,b7,p5,_,_,p11,p12,rfl,rfl,hA.app1 hO hm⟩
   | 7,h1,ho =>
    injection ho with ho;subst ho;refine wpOp_step rfl (λK hK=>?_);have HK:=oh hK;clear hK;go_simp;try go_frame
    exact HK.out _ _ ⟨((HB1.out.ext' (xWd.trans hA.lit1.ext)).elt.cell (o:=1) (v:=.string key) rfl),b0,b3,b4,true,b7,p5,p8,p9,_,p12,rfl,rfl,hA.lit1⟩
   | 8,h1,ho =>
    injection ho with ho;subst ho;refine wpOp_step rfl (λK hK=>?_);have HK:=oh hK;clear hK;obtain rfl:b4=true:=h2 ⟨4,.data⟩ (by simp) rfl;obtain rfl:b6=true:=h2 ⟨7,.data⟩ (by simp) rfl;obtain rfl:b7=false:=h1;obtain⟨a1,c1,rfl,hO1⟩:=hA.f4 rfl rfl;obtain⟨g,rfl,hB, -⟩:=hA.f6 rfl rfl;refine step_app2 Tryz.elS encS_ok (by rfl) _ _ (by rfl) Wd.heap.size (.slice a1 ks.length c1) (.slice (some ⟨g,0,none⟩) 1 1) ks [key] (by rfl) (by rfl) hO1 (Sl.one (F:=λ_=>False) (x:=key) (enc:=encS) (sz:=1) hB (λf=>f)) (by simp only[List.length_singleton];omega) hA.ext.size (λf=>f) ?_;rw[List.length_singleton];intro a2 c2 W1 hO hm _;try go_frame
    exact HK.out _ _ ⟨((HB1.out.ext' (xWd.trans (hA.app2 hO hm).ext)).elt.cell (o:=1) (v:=.string key) rfl),b0,b3,true,true,true,p5,p8,_,_,_,rfl,rfl,hA.app2 hO hm⟩
   | 9,h1,ho =>
    injection ho with ho;subst ho;obtain rfl:b0=true:=h2 ⟨0,.phase⟩ (by simp) rfl;obtain rfl:b3=true:=h2 ⟨3,.phase⟩ (by simp) rfl;obtain rfl:b4=true:=h2 ⟨4,.phase⟩ (by simp) rfl;obtain rfl:b6=true:=h2 ⟨7,.phase⟩ (by simp) rfl;obtain rfl:b7=true:=h2 ⟨8,.phase⟩ (by simp) rfl;exact absurd rfl hs
   | 10,h1,ho =>
    injection ho with ho;subst ho;have:=h2 ⟨9,.data⟩ (by simp) rfl;cases this
   | 11,h1,ho =>
    injection ho with ho;subst ho;have:=h2 ⟨10,.data⟩ (by simp) rfl;cases this
   | n+12,h1,ho=>cases h1
  ·obtain⟨b0,b3,b4,b6,b7,p5,p8,p9,p11,p12,rfl,rfl,hA⟩:=hI;exfalso;clear hA;cases b0 <;> cases b3 <;> cases b4 <;> cases b6 <;> cases b7 <;> first|exact hs rfl|(revert hr;decide +kernel)
  ·obtain⟨b0,b3,b4,b6,b7,p5,p8,p9,p11,p12,rfl,rfl,hA⟩:=hI;simp only[Array.mk.injEq,List.cons.injEq,and_true,true_and] at hs;obtain⟨rfl,rfl,rfl,rfl,rfl⟩:=hs;obtain⟨m,rfl⟩:∃m,n=m+3:=⟨n-3,by have h3:leftR #[true,true,true,true,true,true,true,true,true,false,false,false]=3:=rfl;omega⟩;obtain⟨a2,c2,rfl,hO2⟩:=hA.f7 rfl;have xW:=xWd.trans hA.ext;have n1:=(HB1.out.ext' xW).box.cell (o:=2) (v:=.slice ka ks.length kc) rfl;have nf:=(HB1.out.ext' xW).box.frozen;have hHeld:=((HB1.out.ext' xW).elt.cell (o:=1) (v:=.string key) rfl);refine tkH 9 ⟨some 25,_,_,_,_,_⟩ ?_;try go_frame
   refine tkH 10 ⟨some 26,_,_,_,_,_⟩ ?_;try go_frame
   refine wpAnyH_ready (rs:=[11]) (by kernel_rfl) (by simp) ?_;refine AllReadyH.cons (o:=⟨none,_,_,_,_,_⟩) rfl (λK hK=>?_) AllReadyH.nil;go_simp;have hfin:=(HB1.out.ext' xW).putK HBL2.out (hO2.rebase xWd.size);refine hK.out _ _ (hfin.elt.cell (o:=1) (v:=.string key) rfl) (λhHeld=>?_);clear hK;try go_frame
   refine wpAnyH_done (by kernel_rfl) ?_ _;have HFIN:=oh hfin;clear hfin hO2 hA;go_wp2_with fail;go_meet;exact⟨a2,c2,HFIN⟩
 case rest =>
  obtain⟨a,c,HB2⟩:=hcut;have y0:=HB2.out.box.cell (o:=0) rfl;have y1:=HB2.out.box.cell (o:=1) rfl;have y2:=HB2.out.box.cell (o:=2) rfl;have y3:=HB2.out.box.cell (o:=3) rfl;have y4:=HB2.out.box.cell (o:=4) rfl;have rf:=HB2.out.res.frozen;have r0:=HB2.out.res.cell (o:=0) (v:=.bool false) rfl;have r1:=HB2.out.res.cell (o:=1) (v:=.slice none 0 0) rfl;have r2:=HB2.out.res.cell (o:=2) (v:=.slice none 0 0) rfl;have r3:=HB2.out.res.cell (o:=3) (v:=.slice none 0 0) rfl;have r4:=HB2.out.res.cell (o:=4) (v:=.string ⟨#[]⟩) rfl;have HRT:=oh HB2.out.ret;unfold slV at y1 y2 y3;go_wp2_with fail;refine bodyPost_ret (results_cell_row rfl _ _ (X+1+1) 197 _ (0,0) _ rfl HRT.out.1 Tryz.underlying197 rfl Tryz.partSz5) rfl ?_;exact⟨_,rfl,HRT.out.2.1,HRT.out.2.2⟩
theorem above1_any(id:Nat)(key:ByteArray) : Calls Tryz.prog 110 #[.agg #[.int .i64 (id:Int),.string key]] w λen w'=>∃v,en=.returned v∧PtO w' w.heap.size v (ptI [(id,key)])∧Ext w w':=by
 obtain⟨W,hW⟩:∃W,W=((w.alloc (.cells #[.int .i64 (id:Int),.string key] 151)).alloc (.cells #[.bool false,.slice none 0 0,.slice none 0 0,.slice (some ⟨w.heap.size+1+1,0,none⟩) 1 1,.string key] 197)).alloc (.cells #[.int .i64 (id:Int)] 3):=⟨_,rfl⟩;have HM:Hid (Ext w W):=oh (by rw[hW];exact (((Mods.refl _ w).alloc _).alloc _).alloc _);have HF:Hid (Blk W (w.heap.size+1) #[.bool false,.slice none 0 0,.slice none 0 0,.slice (some ⟨w.heap.size+1+1,0,none⟩) 1 1,.string key] 197):=oh (by rw[hW];exact Blk.alloc (heap_at (by simp)) _);have HL:Hid (Blk W (w.heap.size+1+1) #[.int .i64 (id:Int)] 3):=oh (by rw[hW];exact heap_at (by simp));have HO:Hid (Own NoF W w.heap.size 3 1 encI (.slice (some ⟨w.heap.size+1+1,0,none⟩) 1 1) [(id:Int)]):=oh (Own.made (l:=[(id:Int)]) HL.out (by omega) (λf=>f) (Nat.le_refl _) (by simp[maxLen]) rfl rfl encI_ok.len);have HW:=oh hW;clear hW
 go_enter Tryz.func110, Tryz.ntmps110
 go_wp2_with fail;rw[← HW.out];refine bodyPost_ret (results_cell_row rfl _ _ (w.heap.size+1) 197 _ (0,0) _ rfl HF.out Tryz.underlying197 rfl Tryz.partSz5) rfl ?_;exact⟨_,rfl,⟨⟨false,(none,0,0),(none,0,0),(some ⟨w.heap.size+1+1,0,none⟩,1,1),key⟩,rfl,rfl,rfl,Own.nil _ _ _ _ _ _,Own.nil _ _ _ _ _ _,HO.out⟩,HM.out⟩
end
end
end Go.Proofs.YtchklfmggpconaaGreatDoor
