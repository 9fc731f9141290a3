import Derived.Test.YtchklfmggpconaaGreatDoorK30
import Derived.Deep.RegionHeld3
import Derived.Deep.CutBlock
import Derived.Deep.DeepCutAuto
namespace Go.Proofs.YtchklfmggpconaaGreatDoor
open Lib renaming hid->oh
set_option maxHeartbeats 8000000
set_option maxRecDepth 100000
section
open Go.RowKit
attribute [local go_sem ↓] Go.wp_at_zero Go.wp_at_succ
theorem Tryz.entSz:(Tryz.prog.info? 141).map (·.size)=some 4:=by kernel_rfl
section
variable {P P' F F':Nat->Prop}{ad:Nat->Addr}{w w':World}{c s:Nat}{G:GA}{l:List Nat}
theorem zMt(gen:Nat)(key v:ByteArray)(hv:v.size<=24) :
  Calls Tryz.prog 91 #[qR c s gen,.string key,.string v] w λe w'=>e=.returned (.tuple #[.agg #[.string key,.string v,.int .i64 0,.int .i64 0],.nilIface])/\zJ w w':=by
 have hv2:(v.size:Int)<=24:=by omega
 have HB:Hid (zL ((w.alloc (gP c s gen)).alloc (.cells #[.string key,.string v,.int .i64 0,.int .i64 0] 141)) (w.heap.size+1) #[.string key,.string v,.int .i64 0,.int .i64 0] 141):=oh (zK (by simp));have HM:Hid (zJ w ((w.alloc (gP c s gen)).alloc (.cells #[.string key,.string v,.int .i64 0,.int .i64 0] 141))):=oh (((zA.refl _ w).alloc _).alloc _);clear hv;unfold qR
 go_enter Tryz.func91, Tryz.ntmps91
 go_wp2_with fail;refine bodyPost_ret (zG rfl _ _ (w.heap.size+1) 141 _ _ rfl HB.out Tryz.underlying141 rfl Tryz.entSz) rfl ?_;exact⟨rfl,HM.out⟩
end
abbrev zC6(e:zI):Array Value:=#[.string e.key,.string e.value,.int .i64 e.chain,.int .i64 e.size]
abbrev zNp:Array Value:=#[.string ⟨#[]⟩,.string ⟨#[]⟩,.int .i64 0,.int .i64 0]
def zQ2(F P:Nat->Prop)(ad:Nat->Addr)(w:World)(c s:Nat)(G:GA)(l:List Nat)(r:StA zI)(e:Ending)(w':World):Prop :=
  ∃(P' F':Nat->Prop) (G':GA) (l':List Nat),yS F' w' P' c s G' l'/\zR P P' F F' ad w w' /\
    ((∃ en, r = .inl (G', l', en) /\ e = .returned (.tuple #[.agg (zC6 en), .nilIface])) \/
     (∃k en f el,r=.inr k/\FrG G l G' l'/\G'.cost<=G.cost/\e=.returned (.tuple #[.agg (zC6 en),zQ f])/\qQ F' ad w' (zQ f) el k))
section
variable {P P' F F':Nat->Prop}{ad:Nat->Addr}{w w':World}{c s:Nat}{G:GA}{l:List Nat}
theorem zMu(hL:yW F ad w)(hP:∀k,P k->F k)(h:yS F w P c s G l)(gen:Nat)(hgen:gen<18446744073709551616)(key v:ByteArray)(h25:25<=v.size)(h4096:v.size<=4096)(hlow:zGK l)(hlb:l.length=G.blocks)(hco:G.cost+100<=1000000) :
  Calls Tryz.prog 91 #[qR c s gen,.string key,.string v] w (zQ2 F P ad w c s G l (jF G l gen key v)):=by
 obtain⟨w1,hw1⟩:∃w1,w1=(w.alloc (gP c s gen)).alloc (.cells zNp 141):=⟨_,rfl⟩;have m0:zJ w w1:=by rw[hw1];exact ((zA.refl _ w).alloc _).alloc _
 have hz:w1.heap.size=w.heap.size+2:=by rw[hw1];simp
 have hN:zR P P F (λk=>F k\/(w.heap.size<=k/\k<w1.heap.size)) ad w w1:=zR.new hL hP (Q:=λk=>w.heap.size<=k/\k<w1.heap.size) m0 (λk hk=>hk.1) (λk hk=>hk.2);have HR:=oh (show jN (λk=>F k\/(w.heap.size<=k/\k<w1.heap.size)) P w w1 (w.heap.size+1) zNp 141 from ⟨by rw[hw1];exact zK (by simp),.inr ⟨by omega,by omega⟩,λhp=>by have:=h.bd _ hp;omega,by omega⟩);have hB:zL w1 w.heap.size (gP c s gen) 31:=by rw[hw1];exact (zL.new w _ _).alloc _
 have HG:=oh (h.plusNew hP (Q:=λk=>w.heap.size<=k/\k<w1.heap.size) m0 (λk hk=>hk.1));have HN:=oh hN;have HWR:=oh (zGi hN.env hN.sub HG.out gen hgen v h25 h4096 hlow.ok hlb hco);have b0:=hB.cell (o:=0) rfl;have b1:=hB.cell (o:=1) rfl;have b2:=hB.cell (o:=2) rfl;have hvi:¬ (v.size:Int)<=24:=by omega
 have HEP:Hid (jF G l gen key v=match zAf (zCP v.size G.size).toNat l with
  | some (ids,l1)=>.inl (zAG gen v.data.toList (G.size-28) ids ids.length G,l1,⟨key,e0,((ids.getD 0 0:Nat):Int),(v.size:Int)⟩)
  | none=>.inr 3):=oh (by unfold jF;rw[if_neg (by omega)];rfl)
 have HW1:=oh hw1;clear hL hP h m0 hN hw1 hB hlow hlb hco;unfold qR at HWR ⊢
 go_enter Tryz.func91, Tryz.ntmps91
 go_wp2_with fail;rw[<- HW1.out];refine HWR.out.mono ?_;rintro e w2 ⟨P2,F2,G2,l2,hG2,hN2,hr⟩;have hR2:=HR.out.nxt hN2;have HG2:=oh hG2;have HN2:=oh (HN.out.trans hN2);have r0:=hR2.blk.cell (o:=0) rfl;have r1:=hR2.blk.cell (o:=1) rfl;have r2:=hR2.blk.cell (o:=2) rfl;have r3:=hR2.blk.cell (o:=3) rfl;have rf:=hR2.blk.frozen;have HR2:=oh hR2;clear hG2 hN2 hR2;rcases hr with ⟨ids,h1,_,_,rfl,rfl⟩|⟨a,f,h1,rfl,rfl,h4,rfl,hE⟩
 .have HS:=oh (HEP.out.trans (by rw[h1]));clear h1;go_wp2_with fail;have mR:=zA.set4 (F:=λk=>k=w.heap.size+1) (zA.refl _ w2) (R:=w.heap.size+1) (.inr rfl) (.string key) (.string ⟨#[]⟩) (.int .i64 ((ids.getD 0 0:Nat):Int)) (.int .i64 (v.size:Int));have bR:=HR2.out.blk.set4 (.string key) (.string ⟨#[]⟩) (.int .i64 ((ids.getD 0 0:Nat):Int)) (.int .i64 (v.size:Int));refine bodyPost_ret (zG rfl _ _ (w.heap.size+1) 141 _ _ rfl bR Tryz.underlying141 rfl Tryz.entSz) rfl ?_;exact⟨P2,F2,_,_,HG2.out.var HR2.out mR,HN2.out.var HR2.out mR,.inl ⟨_,HS.out,rfl⟩⟩
 .have HS:=oh (HEP.out.trans (by rw[h1]));have HFR:=oh (zEI a G _ h4);have HE:=oh hE;clear h1 h4 hE;go_wp2_with fail;have mR:=zA.set4 (F:=λk=>k=w.heap.size+1) (zA.refl _ w2) (R:=w.heap.size+1) (.inr rfl) (.string key) (.string ⟨#[]⟩) (.int .i64 0) (.int .i64 (v.size:Int));have bR:=HR2.out.blk.set4 (.string key) (.string ⟨#[]⟩) (.int .i64 0) (.int .i64 (v.size:Int));refine bodyPost_ret (zG rfl _ _ (w.heap.size+1) 141 _ _ rfl bR Tryz.underlying141 rfl Tryz.entSz) rfl ?_;exact⟨P2,F2,_,_,HG2.out.var HR2.out mR,HN2.out.var HR2.out mR,.inr ⟨3,⟨key,⟨#[]⟩,0,(v.size:Int)⟩,f,_,HS.out,HFR.out,by rw[(zBw a G).2.2.1];exact uJ _,rfl,HE.out.mods (HR2.out.mF mR)⟩⟩
theorem zO1(hL:yW F ad w)(hP:∀k,P k->F k)(h:yS F w P c s G l)(gen:Nat)(hgen:gen<18446744073709551616)(key v:ByteArray)(h4096:v.size<=4096)(hlow:zGK l)(hlb:l.length=G.blocks)(hco:G.cost+100<=1000000) :
  Calls Tryz.prog 91 #[qR c s gen,.string key,.string v] w (zQ2 F P ad w c s G l (jF G l gen key v)):=by
 by_cases h24:v.size<=24
 .refine (zMt gen key v h24).mono ?_;rintro e w' ⟨rfl,hm⟩;have hN:=zR.ext hL hP hm;refine⟨P,F,G,l,h.at hm,hN,.inl ⟨⟨key,v,0,0⟩,?_,rfl⟩⟩;unfold jF;rw[if_pos h24]
 .exact zMu hL hP h gen hgen key v (by omega) h4096 hlow hlb hco
end
end
section
open Go.RowKit
abbrev PtA:=zF × ByteArray
def qP(a b:PtA):zF:=if a.1.leaf=true then ⟨true,a.1.entries++b.1.entries,[],[]⟩ else ⟨false,[],a.1.keys++[b.2]++b.1.keys,a.1.kids++b.1.kids⟩
def zCp(z:Int)(L:List PtA):List PtA:=match L.reverse with
 | b :: a :: r=>if zAT b.1 (z+24)=true then (if zD (qP a b)<=z then r.reverse++[(qP a b,a.2)] else match zDX (qP a b) with
   | none=>L
   | some h=>r.reverse++[(h.1,a.2),(h.2.2,h.2.1)]) else L
 | _=>L
theorem zO2{z:Int}{L:List PtA}(h:L.length<2):zCp z L=L:=by
 match L,h with
 | [],_=>rfl
 | [x],_=>rfl
 | x :: y :: r,h=>simp at h;omega
theorem zEh(z : Int)(r : List PtA)(a b : PtA) : zCp z (r ++ [a, b]) = if zAT b.1 (z + 24) = true then (if zD (qP a b) <= z then r ++ [(qP a b, a.2)] else match zDX (qP a b) with
      | none=>r++[a,b]
      | some h=>r++[(h.1,a.2),(h.2.2,h.2.1)]) else r++[a,b]:=by
  unfold zCp
  simp only[r6,tR,pL,uT,wN,pH]
def ptL(g:List zI):PtA:=(jD g,yQ (·.key) g)
def ptI(g:List jQ):PtA:=(mkI g,yQ (·.2) g)
theorem zFz{n:zF}{k:Nat}(h:zCG n=some k):qA n<=k/\k<qA n+qZ n:=by
 unfold zCG at h;split at h
 .rename_i hc;injection h with h;rw[<- h];exact zIf n hc.2
 .cases h
theorem zMv{α:Type}(fst:α->ByteArray){g:List α}{k:Nat}(hk:0<k):yQ fst (g.take k)=yQ fst g:=by
 obtain⟨k,rfl⟩:∃j,k=j+1:=⟨k-1,by omega⟩;cases g <;> rfl
theorem zEi{α:Type}(fst:α->ByteArray){a b:List α}(h:a≠[]):yQ fst (a++b)=yQ fst a:=by
 cases a with
 | nil=>exact absurd rfl h
 | cons x a=>rfl
theorem zH1{α:Type}(fst:α->ByteArray){g:List α}{k:Nat}(hk:k<g.length):yQ fst (g.drop k)=fst g[k]:=by
 rw[wO hk];rfl
theorem zNq{α:Type}{mk:List α->zF}{fst:α->ByteArray}{z:Int}(hw:∀a b:List α,a≠[]->b≠[]->qP (mk a,yQ fst a) (mk b,yQ fst b)=mk (a++b))
  (hc:∀(g:List α) (k:Nat),zCG (mk g)=some k->zS (mk g) k=(mk (g.take k),yQ fst (g.drop k),mk (g.drop k))/\0<k) (gs:List (List α)) (hne:∀g∈gs,g≠[]) :
  zCp z (gs.map λg=>(mk g,yQ fst g))=(zCI mk z gs).map λg=>(mk g,yQ fst g):=by
 rcases zMn gs with rfl|⟨g,rfl⟩|⟨r,a,b,rfl⟩
 .rfl
 .rfl
 .have ha:=hne a (by simp);have hb:=hne b (by simp);rw[wF,uW,uW,tW,zEh];simp only[hw a b ha hb];by_cases hl:zAT (mk b) (z+24)=true
  .rw[if_pos hl];by_cases hz:zD (mk (a++b))<=z
   .rw[if_pos hz];rcases zDo mk z r a b hl with ⟨_,h2⟩|⟨h1,_⟩
    .rw[h2,wF,uW,tW,zEi fst ha]
    .omega
   .rw[if_neg hz];rw[zNj];cases hk:zCG (mk (a++b)) with
    | none =>
     have:zCI mk z (r++[a,b])=r++[a,b]:=by
      unfold zCI;simp only[r6,tR,pL,uT,wN,pH];rw[if_pos hl,if_neg hz,hk]
     rw[this];simp
    | some k =>
     obtain⟨h1,h2⟩:=hc _ _ hk;rcases zDo mk z r a b hl with ⟨h3,_⟩|⟨_,h3⟩
     .omega
     .rw[h3 k hk];simp only[Option.map_some,h1,wF,uW,tW,zMv fst h2,zEi fst ha]
  .rw[if_neg hl,zEK mk z r a b (by simpa using hl)];simp
theorem zRe{z:Int}(gs:List (List zI))(hne:∀g∈gs,g≠[]):zCp z (gs.map ptL)=(zCI jD z gs).map ptL:=by
 refine zNq (λa b _ _=>rfl) (λg k hk=>?_) gs hne;have hp:=zFz hk;have e1:qA (jD g)=1:=rfl;have e2:qZ (jD g)=g.length-1:=rfl;have hkl:k<g.length:=by omega
 refine⟨?_,by omega⟩;unfold zS;rw[if_pos (show (jD g).leaf=true from rfl),zH1 (λe:zI=>e.key) hkl];show (_,(match g[k]? with|some e=>e.key|none=>_),_)=_;rw[uA hkl];rfl
theorem zRf{z:Int}(gs:List (List jQ))(hne:∀g∈gs,g≠[]):zCp z (gs.map ptI)=(zCI mkI z gs).map ptI:=by
 refine zNq (λa b ha hb=>?_) (λg k hk=>?_) gs hne
 .obtain⟨y,b,rfl⟩:=tM hb;unfold qP mkI;rw[if_neg (by simp),zBV ha];simp[yQ]
 .have hp:=zFz hk;have e1:qA (mkI g)=2:=rfl;have e2:qZ (mkI g)=(g.map λk=>(k.1:Int)).length-3:=rfl;rw[uU] at e2;have hkl:k<g.length:=by omega
  refine⟨?_,by omega⟩;unfold zS;rw[if_neg (by simp[mkI]),zH1 (λe:jQ=>e.2) hkl];unfold mkI;simp only[zFK,pP,rX];congr 1
  congr 1
  .rw[List.getD,pE,List.getElem?_tail,show k-1+1=k by omega,uA hkl];rfl
  .rw[List.tail_drop,<- List.drop_one,<- rX,pY,pZ 1 k]
theorem zA8{α:Type}(mk:List α->zF)(z:Int):∀(l m:List α) (out:List (List α)),yP mk z out (l++m)=yP mk z (yP mk z out l) m
 | [],m,out=>rfl
 | x :: l,m,out=>by
  rw[wN,yP,yP];cases out.getLast? with
  | none=>exact zA8 mk z l m _
  | some g =>
   simp only;split
   .exact zA8 mk z l m _
   .exact zA8 mk z l m _
theorem zCf{α:Type}(mk:List α->zF)(z:Int):∀(l:List α) (out:List (List α)),(yP mk z out l).length<=out.length+l.length
 | [],out=>by simp[yP]
 | x :: l,out=>by
  rw[yP];cases hg:out.getLast? with
  | none =>
   have:=zCf mk z l (out++[[x]]);simp only[uC,uD,uE] at this ⊢;omega
  | some g =>
   simp only;split
   .have:=zCf mk z l (out.dropLast++[g++[x]]);have hp:0<out.length:=tE.2 (λe=>by rw[e] at hg;simp at hg);simp only[uC,uD,uE,List.length_dropLast] at this ⊢;omega
   .have:=zCf mk z l (out++[[x]]);simp only[uC,uD,uE] at this ⊢;omega
end
section
open Go.RowKit
attribute [local go_sem ↓] Go.wp_at_zero Go.wp_at_succ
abbrev zO3:Array Value:=#[.bool false,.slice none 0 0,.slice none 0 0,.slice none 0 0,.string ⟨#[]⟩]
def PtO(w:World)(base:Nat)(v:Value)(n:PtA):Prop:=∃x:PtV,v=ptV x/\PtR w base x n
theorem Tryz.partSz5:(Tryz.prog.info? 197).map (·.size)=some 5:=by kernel_rfl
theorem zL.ents{W:World}{b:Nat}{e:zI}{T:TypeId}(h:zL W b (zC6 e) T):W.cell? ⟨b,0,none⟩=some (.string e.key)/\W.cell? ⟨b,1,none⟩=some (.string e.value)/\W.cell? ⟨b,2,none⟩=some (.int .i64 e.chain)/\W.cell? ⟨b,3,none⟩=some (.int .i64 e.size) :=
 ⟨h.cell rfl,h.cell rfl,h.cell rfl,h.cell rfl⟩
structure zBJ(w:World)(b0 X:Nat)(EB:Array Value)(ET:TypeId)(wx:World)(x:PtV)(n:PtA):Prop where
 ext:zJ w wx
 hX:w.heap.size<=X
 hb:b0<=w.heap.size
 box:zL wx X #[.bool x.lf,zW x.e,zW x.k,zW x.i,.string x.s] 197
 elt:zL wx (X+1) EB ET
 res:zL wx (X+1+1) zO3 197
 pt:PtR wx b0 x n
section
variable {w wx wz:World}{b0 X base:Nat}{EB:Array Value}{ET:TypeId}{x:PtV}{n:PtA}{a:Option Addr}{k c:Nat}
theorem zBJ.ext'(h:zBJ w b0 X EB ET wx x n)(m:zJ wx wz):zBJ w b0 X EB ET wz x n:=⟨h.ext.trans m,h.hX,h.hb,h.box.ext m,h.elt.ext m,h.res.ext m,h.pt.ext m⟩
theorem zBJ.turn(h:zBJ w b0 X EB ET wx x n)(o:Nat)(v:Value):zA (λk=>k=X) wx (wx.setCell ⟨X,o,none⟩ v)/\zJ w (wx.setCell ⟨X,o,none⟩ v)/\zL (wx.setCell ⟨X,o,none⟩ v) (X+1) EB ET/\zL (wx.setCell ⟨X,o,none⟩ v) (X+1+1) zO3 197 /\ PtR (wx.setCell ⟨X,o,none⟩ v) b0 x n:=by
 have m:zA (λk=>k=X) wx (wx.setCell ⟨X,o,none⟩ v):=zA.setCell (F:=λk=>k=X) (p:=⟨X,o,none⟩) (zA.refl _ _) (.inr rfl) v;exact⟨m,h.ext.setCell (p:=⟨X,o,none⟩) (.inl h.hX) v,h.elt.mods m (by omega),h.res.mods m (by omega),h.pt.blk h.box m (by decide) (by decide) (by decide)⟩
theorem zBJ.putE(h:zBJ w b0 X EB ET wx x n)(hb:b0<=base){es:List zI}(o:zU NoF wx base 141 4 vA (.slice a k c) es):zBJ w b0 X EB ET (wx.setCell ⟨X,1,none⟩ (.slice a k c)) { x with e:=(a,k,c) } ({ n.1 with entries:=es },n.2):=by
 obtain⟨m,m2,e1,e2,p⟩:=h.turn 1 (.slice a k c);exact⟨m2,h.hX,h.hb,by simpa[zW] using h.box.set 1 (.slice a k c),e1,e2,⟨p.lf,p.fst,(o.mods m (λg hg=>o.notB h.box (by decide) g hg)).rebase hb,p.k,p.i⟩⟩
theorem zBJ.putK(h:zBJ w b0 X EB ET wx x n)(hb:b0<=base){ks:List ByteArray}(o:zU NoF wx base 9 1 qK (.slice a k c) ks):zBJ w b0 X EB ET (wx.setCell ⟨X,2,none⟩ (.slice a k c)) { x with k:=(a,k,c) } ({ n.1 with keys:=ks },n.2):=by
 obtain⟨m,m2,e1,e2,p⟩:=h.turn 2 (.slice a k c);exact⟨m2,h.hX,h.hb,by simpa[zW] using h.box.set 2 (.slice a k c),e1,e2,⟨p.lf,p.fst,p.e,(o.mods m (λg hg=>o.notB h.box (by decide) g hg)).rebase hb,p.i⟩⟩
theorem zBJ.putI(h:zBJ w b0 X EB ET wx x n)(hb:b0<=base){is:List Int}(o:zU NoF wx base 3 1 yB (.slice a k c) is):zBJ w b0 X EB ET (wx.setCell ⟨X,3,none⟩ (.slice a k c)) { x with i:=(a,k,c) } ({ n.1 with kids:=is },n.2):=by
 obtain⟨m,m2,e1,e2,p⟩:=h.turn 3 (.slice a k c);exact⟨m2,h.hX,h.hb,by simpa[zW] using h.box.set 3 (.slice a k c),e1,e2,⟨p.lf,p.fst,p.e,p.k,(o.mods m (λg hg=>o.notB h.box (by decide) g hg)).rebase hb⟩⟩
theorem zBJ.ret(h:zBJ w b0 X EB ET wx x n):zL (((((wx.setCell ⟨X+1+1,0,none⟩ (.bool x.lf)).setCell ⟨X+1+1,1,none⟩ (zW x.e)).setCell ⟨X+1+1,2,none⟩ (zW x.k)).setCell ⟨X+1+1,3,none⟩ (zW x.i)).setCell ⟨X+1+1,4,none⟩ (.string x.s)) (X+1+1) #[.bool x.lf,zW x.e,zW x.k,zW x.i,.string x.s] 197 /\
  PtO (((((wx.setCell ⟨X+1+1,0,none⟩ (.bool x.lf)).setCell ⟨X+1+1,1,none⟩ (zW x.e)).setCell ⟨X+1+1,2,none⟩ (zW x.k)).setCell ⟨X+1+1,3,none⟩ (zW x.i)).setCell ⟨X+1+1,4,none⟩ (.string x.s)) b0 (ptV x) n /\
  zJ w (((((wx.setCell ⟨X+1+1,0,none⟩ (.bool x.lf)).setCell ⟨X+1+1,1,none⟩ (zW x.e)).setCell ⟨X+1+1,2,none⟩ (zW x.k)).setCell ⟨X+1+1,3,none⟩ (zW x.i)).setCell ⟨X+1+1,4,none⟩ (.string x.s)):=by
 have m:=zA.set5 (F:=λk=>k=X+1+1) (zA.refl _ wx) (R:=X+1+1) (.inr rfl) (.bool x.lf) (zW x.e) (zW x.k) (zW x.i) (.string x.s);exact⟨h.res.set5 _ _ _ _ _,⟨x,rfl,h.pt.blk h.res m (by decide) (by decide) (by decide)⟩,zA.set5 h.ext (R:=X+1+1) (.inl (by have:=h.hX;omega)) _ _ _ _ _⟩
end
section
variable {F:Nat->Prop}{w w':World}
theorem zLW(e:zI) : Calls Tryz.prog 107 #[.agg (zC6 e)] w λen w'=>∃v,en=.returned v/\PtO w' w.heap.size v (ptL [e])/\zJ w w':=by
 obtain⟨W,hW⟩:∃W,W=((w.alloc (.cells (zC6 e) 141)).alloc (.cells #[.bool true,.slice (some ⟨w.heap.size+1+1,0,none⟩) 1 1,.slice none 0 0,.slice none 0 0,.string e.key] 197)).alloc (.cells #[.string e.key,.string e.value,.int .i64 e.chain,.int .i64 e.size] 141):=⟨_,rfl⟩;have HM:Hid (zJ w W):=oh (by rw[hW];exact (((zA.refl _ w).alloc _).alloc _).alloc _);have HF:Hid (zL W (w.heap.size+1) #[.bool true,.slice (some ⟨w.heap.size+1+1,0,none⟩) 1 1,.slice none 0 0,.slice none 0 0,.string e.key] 197):=oh (by rw[hW];exact zL.alloc (zK (by simp)) _);have HL:Hid (zL W (w.heap.size+1+1) (zC6 e) 141):=oh (by rw[hW];exact zK (by simp));have HO:Hid (zU NoF W w.heap.size 141 4 vA (.slice (some ⟨w.heap.size+1+1,0,none⟩) 1 1) [e]):=oh (zU.made (l:=[e]) HL.out (by omega) (λf=>f) (uJ _) (by simp[maxLen]) rfl rfl yU.len);have HW:=oh hW;clear hW
 go_enter Tryz.func107, Tryz.ntmps107
 go_wp2_with fail;rw[<- HW.out];refine bodyPost_ret (results_cell_row rfl _ _ (w.heap.size+1) 197 _ (0,0) _ rfl HF.out Tryz.underlying197 rfl Tryz.partSz5) rfl ?_;exact⟨_,rfl,⟨⟨true,(some ⟨w.heap.size+1+1,0,none⟩,1,1),(none,0,0),(none,0,0),e.key⟩,rfl,rfl,rfl,HO.out,zU.nil _ _ _ _ _ _,zU.nil _ _ _ _ _ _⟩,HM.out⟩
theorem zLX(es:List zI)(e:zI)(ea:Option Addr)(ec:Nat)(xk xi:SlT)(s:ByteArray)(b0:Nat)(hx:PtR w b0 ⟨true,(ea,es.length,ec),xk,xi,s⟩ (jD es,s))(hb:b0<=w.heap.size)(hn:es.length<=100000) :
  Calls Tryz.prog 108 #[.agg #[.bool true,.slice ea es.length ec,zW xk,zW xi,.string s],.agg (zC6 e)] w λen w'=>∃v,en=.returned v/\PtO w' b0 v (jD (es++[e]),s)/\zJ w w':=by
 obtain⟨ka,kn,kc⟩:=xk;obtain⟨ja,jn,jc⟩:=xi;unfold zW;simp only;obtain⟨X,hX⟩:∃X,X=w.heap.size:=⟨_,rfl⟩;obtain⟨w0,hw0⟩:∃w0,w0=((w.alloc (.cells #[.bool true,.slice ea es.length ec,.slice ka kn kc,.slice ja jn jc,.string s] 197)).alloc (.cells (zC6 e) 141)).alloc (.cells zO3 197):=⟨_,rfl⟩;have m0:zJ w w0:=by rw[hw0];exact (((zA.refl _ w).alloc _).alloc _).alloc _
 have HBX:Hid (zBJ w b0 X (zC6 e) 141 w0 ⟨true,(ea,es.length,ec),(ka,kn,kc),(ja,jn,jc),s⟩ (jD es,s)):=oh ⟨m0,by omega,hb,by rw[hw0,hX];exact ((zL.new w _ _).alloc _).alloc _,by rw[hw0,hX];exact zL.alloc (zK (by simp)) _,by rw[hw0,hX];exact zK (by simp),hx.ext m0⟩;have HSE:Hid (Sl (λ_=>False) w0 4 vA (.slice ea es.length ec) es):=oh (HBX.out.pt.e.sl yU.len (by show es.length<=_;omega));have HBL:Hid (b0<=w0.heap.size):=oh (uM hb m0.size);unfold zO3 at hw0;have HW0:=oh hw0;have HX:=oh hX;clear hw0 hx m0 hb hX
 go_enter Tryz.func108, Tryz.ntmps108
 go_wp2_with fail;rw[<- HW0.out,<- HX.out];go_cut [] (λwx=>∃a c,Hid (zBJ w b0 X (zC6 e) 141 wx ⟨true,(a,es.length+1,c),(ka,kn,kc),(ja,jn,jc),s⟩ (jD (es++[e]),s)))
 case first =>
  refine wp_region_held_drew (S:=(λw'=>w'.cell? ⟨X+1,0,none⟩=some (.string e.key)/\w'.cell? ⟨X+1,1,none⟩=some (.string e.value)/\w'.cell? ⟨X+1,2,none⟩=some (.int .i64 e.chain)/\w'.cell? ⟨X+1,3,none⟩=some (.int .i64 e.size))) (by kernel_rfl) (HBX.out.ext' (zA.refl _ _).drew).elt.ents (λhHeld=>?_);obtain⟨Wd,hWd⟩:∃W,W=w0.drew:=⟨_,rfl⟩;rw[<- hWd] at hHeld ⊢;have xWd:zJ w0 Wd:=by rw[hWd];exact (zA.refl _ _).drew
  clear hWd;have n1:=(HBX.out.ext' xWd).box.cell (o:=1) (v:=.slice ea es.length ec) rfl;have nf:=(HBX.out.ext' xWd).box.frozen;refine tkH 1 ⟨some 6,_,_,_,_,_⟩ ?_;try go_frame
  refine tkH 2 ⟨some 7,_,_,_,_,_⟩ ?_;try go_frame
  refine tkH 5 ⟨some 10,_,_,_,_,_⟩ ?_;try go_frame
  refine zEw (I:=λl a w=>∃b0 b3 b4 b6 b7 p5 p8 p9 p11 p12,l=#[b0,true,true,b3,b4,true,b6,b7,false,false,false]/\a = { tmps:=#[.agg #[.bool true,.slice ea es.length ec,.slice ka kn kc,.slice ja jn jc,.string s],.agg (zC6 e),.pointer (some ⟨X,0,none⟩),.pointer (some ⟨X+1,0,none⟩),.pointer (some ⟨X+1+1,0,none⟩),p5,.pointer (some ⟨X,0,none⟩),.pointer (some ⟨X,1,none⟩),p8,p9,.agg (zC6 e),p11,p12,undef,undef,undef],defers:=[] }/\zCo 141 4 vA Wd es e (.slice ea es.length ec) b0 b3 b4 b6 b7 p5 p8 p9 p11 p12 w) (stop:=λl=>l=#[true,true,true,true,true,true,true,true,false,false,false]) (λi l a w hr hI hs=>?_) (λl a w hI hr hs=>?_) (λn l a w hI hs hn=>?_) _ _ _ _ ⟨false,false,false,false,false,_,_,_,_,_,by kernel_rfl,rfl,zCo.start (zA.refl _ _)⟩ (by decide)
  .obtain⟨b0,b3,b4,b6,b7,p5,p8,p9,p11,p12,rfl,rfl,hA⟩:=hI;obtain⟨h1,o,ho,h2⟩:=mem_ready.1 hr;clear hr;match i,h1,ho with
   | 1,h1,ho|2,h1,ho|5,h1,ho=>cases h1
   | 0,h1,ho =>
    injection ho with ho;subst ho;refine wpOp_step rfl (λK hK=>?_);have HK:=oh hK;clear hK;go_simp;try go_frame
    exact HK.out _ _ ⟨(HBX.out.ext' (xWd.trans (hA.lit0 yU.len).ext)).elt.ents,true,b3,b4,b6,b7,_,p8,p9,p11,p12,rfl,rfl,hA.lit0 yU.len⟩
   | 3,h1,ho =>
    injection ho with ho;subst ho;refine wpOp_step rfl (λK hK=>?_);have HK:=oh hK;clear hK;have n1:=(HBX.out.ext' (xWd.trans hA.ext)).box.cell (o:=1) (v:=.slice ea es.length ec) rfl;go_simp;try go_frame
    exact HK.out _ _ ⟨(HBX.out.ext' (xWd.trans hA.ld.ext)).elt.ents,b0,true,b4,b6,b7,p5,_,p9,p11,p12,rfl,rfl,hA.ld⟩
   | 4,h1,ho =>
    injection ho with ho;subst ho;refine wpOp_step rfl (λK hK=>?_);have HK:=oh hK;clear hK;obtain rfl:b0=true:=h2 ⟨0,.data⟩ (by simp) rfl;obtain rfl:b3=true:=h2 ⟨3,.data⟩ (by simp) rfl;obtain rfl:b4=false:=h1;obtain rfl:=hA.f3 rfl;refine yT Tryz.elE yU (by rfl) _ _ (by rfl) Wd.heap.size p5 (.slice ea es.length ec) [] es (by rfl) (by rfl) (hA.f0 rfl rfl) (HSE.out.ext (xWd.trans hA.ext)) (by simp only[uE];omega) hA.ext.size (λf=>f) ?_;rw[uT,uE,uR];intro a1 c1 W1 hO hm _;try go_frame
    exact HK.out _ _ ⟨(HBX.out.ext' (xWd.trans (hA.app1 hO hm).ext)).elt.ents,true,true,true,b6,b7,p5,_,_,p11,p12,rfl,rfl,hA.app1 hO hm⟩
   | 6,h1,ho =>
    injection ho with ho;subst ho;refine wpOp_step rfl (λK hK=>?_);have HK:=oh hK;clear hK;go_simp;try go_frame
    exact HK.out _ _ ⟨(HBX.out.ext' (xWd.trans hA.lit1.ext)).elt.ents,b0,b3,b4,true,b7,p5,p8,p9,_,p12,rfl,rfl,hA.lit1⟩
   | 7,h1,ho =>
    injection ho with ho;subst ho;refine wpOp_step rfl (λK hK=>?_);have HK:=oh hK;clear hK;obtain rfl:b4=true:=h2 ⟨4,.data⟩ (by simp) rfl;obtain rfl:b6=true:=h2 ⟨6,.data⟩ (by simp) rfl;obtain rfl:b7=false:=h1;obtain⟨a1,c1,rfl,hO1⟩:=hA.f4 rfl rfl;obtain⟨g,rfl,hB, -⟩:=hA.f6 rfl rfl;refine yT Tryz.elE yU (by rfl) _ _ (by rfl) Wd.heap.size (.slice a1 es.length c1) (.slice (some ⟨g,0,none⟩) 1 1) es [e] (by rfl) (by rfl) hO1 (Sl.one (F:=λ_=>False) (x:=e) (enc:=vA) (sz:=4) hB (λf=>f)) (by simp only[tA];omega) hA.ext.size (λf=>f) ?_;rw[tA];intro a2 c2 W1 hO hm _;try go_frame
    exact HK.out _ _ ⟨(HBX.out.ext' (xWd.trans (hA.app2 hO hm).ext)).elt.ents,b0,b3,true,true,true,p5,p8,_,_,_,rfl,rfl,hA.app2 hO hm⟩
   | 8,h1,ho =>
    injection ho with ho;subst ho;obtain rfl:b0=true:=h2 ⟨0,.phase⟩ (by simp) rfl;obtain rfl:b3=true:=h2 ⟨3,.phase⟩ (by simp) rfl;obtain rfl:b4=true:=h2 ⟨4,.phase⟩ (by simp) rfl;obtain rfl:b6=true:=h2 ⟨6,.phase⟩ (by simp) rfl;obtain rfl:b7=true:=h2 ⟨7,.phase⟩ (by simp) rfl;exact absurd rfl hs
   | 9,h1,ho =>
    injection ho with ho;subst ho;have:=h2 ⟨8,.data⟩ (by simp) rfl;cases this
   | 10,h1,ho =>
    injection ho with ho;subst ho;have:=h2 ⟨9,.data⟩ (by simp) rfl;cases this
   | n+11,h1,ho=>cases h1
  .obtain⟨b0,b3,b4,b6,b7,p5,p8,p9,p11,p12,rfl,rfl,hA⟩:=hI;exfalso;clear hA;cases b0 <;> cases b3 <;> cases b4 <;> cases b6 <;> cases b7 <;> first|exact hs rfl|(revert hr;decide +kernel)
  .obtain⟨b0,b3,b4,b6,b7,p5,p8,p9,p11,p12,rfl,rfl,hA⟩:=hI;simp only[Array.mk.injEq,List.cons.injEq,and_true,true_and] at hs;obtain⟨rfl,rfl,rfl,rfl,rfl⟩:=hs;obtain⟨m,rfl⟩:∃m,n=m+3:=⟨n-3,by have h3:zEn #[true,true,true,true,true,true,true,true,false,false,false]=3:=rfl;omega⟩;obtain⟨a2,c2,rfl,hO2⟩:=hA.f7 rfl;have xW:=xWd.trans hA.ext;have n1:=(HBX.out.ext' xW).box.cell (o:=1) (v:=.slice ea es.length ec) rfl;have nf:=(HBX.out.ext' xW).box.frozen;have hHeld:=(HBX.out.ext' xW).elt.ents;refine tkH 8 ⟨some 13,_,_,_,_,_⟩ ?_;try go_frame
   refine tkH 9 ⟨some 14,_,_,_,_,_⟩ ?_;try go_frame
   refine wpAnyH_ready (rs:=[10]) (by kernel_rfl) (by simp) ?_;refine AllReadyH.cons (o:=⟨none,_,_,_,_,_⟩) rfl (λK hK=>?_) AllReadyH.nil;go_simp;have hfin:=(HBX.out.ext' xW).putE HBL.out (hO2.rebase xWd.size);refine hK.out _ _ hfin.elt.ents (λhHeld=>?_);clear hK;try go_frame
   refine wpAnyH_done (by kernel_rfl) ?_ _;have HFIN:=oh hfin;clear hfin hO2 hA;go_wp2_with fail;go_meet;exact⟨a2,c2,HFIN⟩
 case rest =>
  obtain⟨a,c,HB2⟩:=hcut;have y0:=HB2.out.box.cell (o:=0) rfl;have y1:=HB2.out.box.cell (o:=1) rfl;have y2:=HB2.out.box.cell (o:=2) rfl;have y3:=HB2.out.box.cell (o:=3) rfl;have y4:=HB2.out.box.cell (o:=4) rfl;have rf:=HB2.out.res.frozen;have r0:=HB2.out.res.cell (o:=0) (v:=.bool false) rfl;have r1:=HB2.out.res.cell (o:=1) (v:=.slice none 0 0) rfl;have r2:=HB2.out.res.cell (o:=2) (v:=.slice none 0 0) rfl;have r3:=HB2.out.res.cell (o:=3) (v:=.slice none 0 0) rfl;have r4:=HB2.out.res.cell (o:=4) (v:=.string ⟨#[]⟩) rfl;have HRT:=oh HB2.out.ret;unfold zW at y1 y2 y3;go_wp2_with fail;refine bodyPost_ret (results_cell_row rfl _ _ (X+1+1) 197 _ (0,0) _ rfl HRT.out.1 Tryz.underlying197 rfl Tryz.partSz5) rfl ?_;exact⟨_,rfl,HRT.out.2.1,HRT.out.2.2⟩
theorem zMw(ks:List ByteArray)(is:List Int)(id:Int)(key:ByteArray)(ka ia:Option Addr)(kc ic:Nat)(xe:SlT)(s:ByteArray)(b0:Nat)(hx:PtR w b0 ⟨false,xe,(ka,ks.length,kc),(ia,is.length,ic),s⟩ (⟨false,[],ks,is⟩,s))(hb:b0<=w.heap.size)(hn:ks.length<=100000)(hn2:is.length<=100000) :
  Calls Tryz.prog 111 #[.agg #[.bool false,zW xe,.slice ka ks.length kc,.slice ia is.length ic,.string s],.agg #[.int .i64 id,.string key]] w λen w'=>∃v,en=.returned v/\PtO w' b0 v (⟨false,[],ks++[key],is++[id]⟩,s)/\zJ w w':=by
 obtain⟨ea,en,ec⟩:=xe;unfold zW;simp only;obtain⟨X,hX⟩:∃X,X=w.heap.size:=⟨_,rfl⟩;obtain⟨w0,hw0⟩:∃w0,w0=((w.alloc (.cells #[.bool false,.slice ea en ec,.slice ka ks.length kc,.slice ia is.length ic,.string s] 197)).alloc (.cells #[.int .i64 id,.string key] 151)).alloc (.cells zO3 197):=⟨_,rfl⟩;have m0:zJ w w0:=by rw[hw0];exact (((zA.refl _ w).alloc _).alloc _).alloc _
 have HBX:Hid (zBJ w b0 X #[.int .i64 id,.string key] 151 w0 ⟨false,(ea,en,ec),(ka,ks.length,kc),(ia,is.length,ic),s⟩ (⟨false,[],ks,is⟩,s)):=oh ⟨m0,by omega,hb,by rw[hw0,hX];exact ((zL.new w _ _).alloc _).alloc _,by rw[hw0,hX];exact zL.alloc (zK (by simp)) _,by rw[hw0,hX];exact zK (by simp),hx.ext m0⟩;have HSE:Hid (Sl (λ_=>False) w0 1 yB (.slice ia is.length ic) is):=oh (HBX.out.pt.i.sl yG.len (by show is.length<=_;omega));have HBL:Hid (b0<=w0.heap.size):=oh (uM hb m0.size);unfold zO3 at hw0;have HW0:=oh hw0;have HX:=oh hX;clear hw0 hx m0 hb hX
 go_enter Tryz.func111, Tryz.ntmps111
 go_wp2_with fail;rw[<- HW0.out,<- HX.out];go_cut [] (λwx=>∃a c,Hid (zBJ w b0 X #[.int .i64 id,.string key] 151 wx ⟨false,(ea,en,ec),(ka,ks.length,kc),(a,is.length+1,c),s⟩ (⟨false,[],ks,is++[id]⟩,s)))
 case first =>
  refine wp_region_held_drew (S:=(λw'=>w'.cell? ⟨X+1,0,none⟩=some (.int .i64 id))) (by kernel_rfl) ((HBX.out.ext' (zA.refl _ _).drew).elt.cell (o:=0) (v:=.int .i64 id) rfl) (λhHeld=>?_);obtain⟨Wd,hWd⟩:∃W,W=w0.drew:=⟨_,rfl⟩;rw[<- hWd] at hHeld ⊢;have xWd:zJ w0 Wd:=by rw[hWd];exact (zA.refl _ _).drew
  clear hWd;have n1:=(HBX.out.ext' xWd).box.cell (o:=3) (v:=.slice ia is.length ic) rfl;have nf:=(HBX.out.ext' xWd).box.frozen;refine tkH 1 ⟨some 6,_,_,_,_,_⟩ ?_;try go_frame
  refine tkH 2 ⟨some 7,_,_,_,_,_⟩ ?_;try go_frame
  refine tkH 5 ⟨some 10,_,_,_,_,_⟩ ?_;try go_frame
  refine tkH 6 ⟨some 11,_,_,_,_,_⟩ ?_;try go_frame
  refine zEw (I:=λl a w=>∃b0 b3 b4 b6 b7 p5 p8 p9 p11 p12,l=#[b0,true,true,b3,b4,true,true,b6,b7,false,false,false]/\a = { tmps:=#[.agg #[.bool false,.slice ea en ec,.slice ka ks.length kc,.slice ia is.length ic,.string s],.agg #[.int .i64 id,.string key],.pointer (some ⟨X,0,none⟩),.pointer (some ⟨X+1,0,none⟩),.pointer (some ⟨X+1+1,0,none⟩),p5,.pointer (some ⟨X,0,none⟩),.pointer (some ⟨X,3,none⟩),p8,p9,.pointer (some ⟨X+1,0,none⟩),.int .i64 id,p11,p12,undef,undef,undef,undef,undef,undef,undef,undef,undef,undef,undef,undef,undef,undef],defers:=[] }/\zCo 3 1 yB Wd is id (.slice ia is.length ic) b0 b3 b4 b6 b7 p5 p8 p9 p11 p12 w) (stop:=λl=>l=#[true,true,true,true,true,true,true,true,true,false,false,false]) (λi l a w hr hI hs=>?_) (λl a w hI hr hs=>?_) (λn l a w hI hs hn=>?_) _ _ _ _ ⟨false,false,false,false,false,_,_,_,_,_,by kernel_rfl,rfl,zCo.start (zA.refl _ _)⟩ (by decide)
  .obtain⟨b0,b3,b4,b6,b7,p5,p8,p9,p11,p12,rfl,rfl,hA⟩:=hI;obtain⟨h1,o,ho,h2⟩:=mem_ready.1 hr;clear hr;match i,h1,ho with
   | 1,h1,ho|2,h1,ho|5,h1,ho|6,h1,ho=>cases h1
   | 0,h1,ho =>
    injection ho with ho;subst ho;refine wpOp_step rfl (λK hK=>?_);have HK:=oh hK;clear hK;go_simp;try go_frame
    exact HK.out _ _ ⟨((HBX.out.ext' (xWd.trans (hA.lit0 yG.len).ext)).elt.cell (o:=0) (v:=.int .i64 id) rfl),true,b3,b4,b6,b7,_,p8,p9,p11,p12,rfl,rfl,hA.lit0 yG.len⟩
   | 3,h1,ho =>
    injection ho with ho;subst ho;refine wpOp_step rfl (λK hK=>?_);have HK:=oh hK;clear hK;have n1:=(HBX.out.ext' (xWd.trans hA.ext)).box.cell (o:=3) (v:=.slice ia is.length ic) rfl;go_simp;try go_frame
    exact HK.out _ _ ⟨((HBX.out.ext' (xWd.trans hA.ld.ext)).elt.cell (o:=0) (v:=.int .i64 id) rfl),b0,true,b4,b6,b7,p5,_,p9,p11,p12,rfl,rfl,hA.ld⟩
   | 4,h1,ho =>
    injection ho with ho;subst ho;refine wpOp_step rfl (λK hK=>?_);have HK:=oh hK;clear hK;obtain rfl:b0=true:=h2 ⟨0,.data⟩ (by simp) rfl;obtain rfl:b3=true:=h2 ⟨3,.data⟩ (by simp) rfl;obtain rfl:b4=false:=h1;obtain rfl:=hA.f3 rfl;refine yT Tryz.elI yG (by rfl) _ _ (by rfl) Wd.heap.size p5 (.slice ia is.length ic) [] is (by rfl) (by rfl) (hA.f0 rfl rfl) (HSE.out.ext (xWd.trans hA.ext)) (by simp only[uE];omega) hA.ext.size (λf=>f) ?_;rw[uT,uE,uR];intro a1 c1 W1 hO hm _;try go_frame
    exact HK.out _ _ ⟨((HBX.out.ext' (xWd.trans (hA.app1 hO hm).ext)).elt.cell (o:=0) (v:=.int .i64 id) rfl),true,true,true,b6,b7,p5,_,_,p11,p12,rfl,rfl,hA.app1 hO hm⟩
   | 7,h1,ho =>
    injection ho with ho;subst ho;refine wpOp_step rfl (λK hK=>?_);have HK:=oh hK;clear hK;go_simp;try go_frame
    exact HK.out _ _ ⟨((HBX.out.ext' (xWd.trans hA.lit1.ext)).elt.cell (o:=0) (v:=.int .i64 id) rfl),b0,b3,b4,true,b7,p5,p8,p9,_,p12,rfl,rfl,hA.lit1⟩
   | 8,h1,ho =>
    injection ho with ho;subst ho;refine wpOp_step rfl (λK hK=>?_);have HK:=oh hK;clear hK;obtain rfl:b4=true:=h2 ⟨4,.data⟩ (by simp) rfl;obtain rfl:b6=true:=h2 ⟨7,.data⟩ (by simp) rfl;obtain rfl:b7=false:=h1;obtain⟨a1,c1,rfl,hO1⟩:=hA.f4 rfl rfl;obtain⟨g,rfl,hB, -⟩:=hA.f6 rfl rfl;refine yT Tryz.elI yG (by rfl) _ _ (by rfl) Wd.heap.size (.slice a1 is.length c1) (.slice (some ⟨g,0,none⟩) 1 1) is [id] (by rfl) (by rfl) hO1 (Sl.one (F:=λ_=>False) (x:=id) (enc:=yB) (sz:=1) hB (λf=>f)) (by simp only[tA];omega) hA.ext.size (λf=>f) ?_;rw[tA];intro a2 c2 W1 hO hm _;try go_frame
    exact HK.out _ _ ⟨((HBX.out.ext' (xWd.trans (hA.app2 hO hm).ext)).elt.cell (o:=0) (v:=.int .i64 id) rfl),b0,b3,true,true,true,p5,p8,_,_,_,rfl,rfl,hA.app2 hO hm⟩
   | 9,h1,ho =>
    injection ho with ho;subst ho;obtain rfl:b0=true:=h2 ⟨0,.phase⟩ (by simp) rfl;obtain rfl:b3=true:=h2 ⟨3,.phase⟩ (by simp) rfl;obtain rfl:b4=true:=h2 ⟨4,.phase⟩ (by simp) rfl;obtain rfl:b6=true:=h2 ⟨7,.phase⟩ (by simp) rfl;obtain rfl:b7=true:=h2 ⟨8,.phase⟩ (by simp) rfl;exact absurd rfl hs
   | 10,h1,ho =>
    injection ho with ho;subst ho;have:=h2 ⟨9,.data⟩ (by simp) rfl;cases this
   | 11,h1,ho =>
    injection ho with ho;subst ho;have:=h2 ⟨10,.data⟩ (by simp) rfl;cases this
   | n+12,h1,ho=>cases h1
  .obtain⟨b0,b3,b4,b6,b7,p5,p8,p9,p11,p12,rfl,rfl,hA⟩:=hI;exfalso;clear hA;cases b0 <;> cases b3 <;> cases b4 <;> cases b6 <;> cases b7 <;> first|exact hs rfl|(revert hr;decide +kernel)
  .obtain⟨b0,b3,b4,b6,b7,p5,p8,p9,p11,p12,rfl,rfl,hA⟩:=hI;simp only[Array.mk.injEq,List.cons.injEq,and_true,true_and] at hs;obtain⟨rfl,rfl,rfl,rfl,rfl⟩:=hs;obtain⟨m,rfl⟩:∃m,n=m+3:=⟨n-3,by have h3:zEn #[true,true,true,true,true,true,true,true,true,false,false,false]=3:=rfl;omega⟩;obtain⟨a2,c2,rfl,hO2⟩:=hA.f7 rfl;have xW:=xWd.trans hA.ext;have n1:=(HBX.out.ext' xW).box.cell (o:=3) (v:=.slice ia is.length ic) rfl;have nf:=(HBX.out.ext' xW).box.frozen;have hHeld:=((HBX.out.ext' xW).elt.cell (o:=0) (v:=.int .i64 id) rfl);refine tkH 9 ⟨some 14,_,_,_,_,_⟩ ?_;try go_frame
   refine tkH 10 ⟨some 15,_,_,_,_,_⟩ ?_;try go_frame
   refine wpAnyH_ready (rs:=[11]) (by kernel_rfl) (by simp) ?_;refine AllReadyH.cons (o:=⟨none,_,_,_,_,_⟩) rfl (λK hK=>?_) AllReadyH.nil;go_simp;have hfin:=(HBX.out.ext' xW).putI HBL.out (hO2.rebase xWd.size);refine hK.out _ _ (hfin.elt.cell (o:=0) (v:=.int .i64 id) rfl) (λhHeld=>?_);clear hK;try go_frame
   refine wpAnyH_done (by kernel_rfl) ?_ _;have HFIN:=oh hfin;clear hfin hO2 hA;go_wp2_with fail;go_meet;exact⟨a2,c2,HFIN⟩
 case rest =>
 obtain⟨ia2,ic2,HB1⟩:=hcut;have HSK:Hid (Sl (λ_=>False) wc 1 qK (.slice ka ks.length kc) ks):=oh (HB1.out.pt.k.sl yV.len (by show ks.length<=_;omega));have HBL2:Hid (b0<=wc.heap.size):=oh (uM HB1.out.hb HB1.out.ext.size);obtain⟨w1,rfl⟩:∃w1:World,w1=wc:=⟨_,rfl⟩;go_wp2_with fail;go_cut [] (λwx=>∃a c,Hid (zBJ w b0 X #[.int .i64 id,.string key] 151 wx ⟨false,(ea,en,ec),(a,ks.length+1,c),(ia2,is.length+1,ic2),s⟩ (⟨false,[],ks++[key],is++[id]⟩,s)))
 case first =>
  refine wp_region_held_drew (S:=(λw'=>w'.cell? ⟨X+1,1,none⟩=some (.string key))) (by kernel_rfl) ((HB1.out.ext' (zA.refl _ _).drew).elt.cell (o:=1) (v:=.string key) rfl) (λhHeld=>?_);obtain⟨Wd,hWd⟩:∃W,W=w1.drew:=⟨_,rfl⟩;rw[<- hWd] at hHeld ⊢;have xWd:zJ w1 Wd:=by rw[hWd];exact (zA.refl _ _).drew
  clear hWd;have n1:=(HB1.out.ext' xWd).box.cell (o:=2) (v:=.slice ka ks.length kc) rfl;have nf:=(HB1.out.ext' xWd).box.frozen;refine tkH 1 ⟨some 17,_,_,_,_,_⟩ ?_;try go_frame
  refine tkH 2 ⟨some 18,_,_,_,_,_⟩ ?_;try go_frame
  refine tkH 5 ⟨some 21,_,_,_,_,_⟩ ?_;try go_frame
  refine tkH 6 ⟨some 22,_,_,_,_,_⟩ ?_;try go_frame
  refine zEw (I:=λl a w=>∃b0 b3 b4 b6 b7 p5 p8 p9 p11 p12,l=#[b0,true,true,b3,b4,true,true,b6,b7,false,false,false]/\a = { tmps:=#[.agg #[.bool false,.slice ea en ec,.slice ka ks.length kc,.slice ia is.length ic,.string s],.agg #[.int .i64 id,.string key],.pointer (some ⟨X,0,none⟩),.pointer (some ⟨X+1,0,none⟩),.pointer (some ⟨X+1+1,0,none⟩),u5,u6,u7,u8,u9,u10,u11,u12,u13,u14,u15,p5,.pointer (some ⟨X,0,none⟩),.pointer (some ⟨X,2,none⟩),p8,p9,.pointer (some ⟨X+1,1,none⟩),.string key,p11,p12,u25,u26,u27],defers:=[] }/\zCo 9 1 qK Wd ks key (.slice ka ks.length kc) b0 b3 b4 b6 b7 p5 p8 p9 p11 p12 w) (stop:=λl=>l=#[true,true,true,true,true,true,true,true,true,false,false,false]) (λi l a w hr hI hs=>?_) (λl a w hI hr hs=>?_) (λn l a w hI hs hn=>?_) _ _ _ _ ⟨false,false,false,false,false,_,_,_,_,_,by kernel_rfl,rfl,zCo.start (zA.refl _ _)⟩ (by decide)
  .obtain⟨b0,b3,b4,b6,b7,p5,p8,p9,p11,p12,rfl,rfl,hA⟩:=hI;obtain⟨h1,o,ho,h2⟩:=mem_ready.1 hr;clear hr;match i,h1,ho with
   | 1,h1,ho|2,h1,ho|5,h1,ho|6,h1,ho=>cases h1
   | 0,h1,ho =>
    injection ho with ho;subst ho;refine wpOp_step rfl (λK hK=>?_);have HK:=oh hK;clear hK;go_simp;try go_frame
    exact HK.out _ _ ⟨((HB1.out.ext' (xWd.trans (hA.lit0 yV.len).ext)).elt.cell (o:=1) (v:=.string key) rfl),true,b3,b4,b6,b7,_,p8,p9,p11,p12,rfl,rfl,hA.lit0 yV.len⟩
   | 3,h1,ho =>
    injection ho with ho;subst ho;refine wpOp_step rfl (λK hK=>?_);have HK:=oh hK;clear hK;have n1:=(HB1.out.ext' (xWd.trans hA.ext)).box.cell (o:=2) (v:=.slice ka ks.length kc) rfl;go_simp;try go_frame
    exact HK.out _ _ ⟨((HB1.out.ext' (xWd.trans hA.ld.ext)).elt.cell (o:=1) (v:=.string key) rfl),b0,true,b4,b6,b7,p5,_,p9,p11,p12,rfl,rfl,hA.ld⟩
   | 4,h1,ho =>
    injection ho with ho;subst ho;refine wpOp_step rfl (λK hK=>?_);have HK:=oh hK;clear hK;obtain rfl:b0=true:=h2 ⟨0,.data⟩ (by simp) rfl;obtain rfl:b3=true:=h2 ⟨3,.data⟩ (by simp) rfl;obtain rfl:b4=false:=h1;obtain rfl:=hA.f3 rfl;refine yT Tryz.elS yV (by rfl) _ _ (by rfl) Wd.heap.size p5 (.slice ka ks.length kc) [] ks (by rfl) (by rfl) (hA.f0 rfl rfl) (HSK.out.ext (xWd.trans hA.ext)) (by simp only[uE];omega) hA.ext.size (λf=>f) ?_;rw[uT,uE,uR];intro a1 c1 W1 hO hm _;try go_frame
    exact HK.out _ _ ⟨((HB1.out.ext' (xWd.trans (hA.app1 hO hm).ext)).elt.cell (o:=1) (v:=.string key) rfl),true,true,true,b6,b7,p5,_,_,p11,p12,rfl,rfl,hA.app1 hO hm⟩
   | 7,h1,ho =>
    injection ho with ho;subst ho;refine wpOp_step rfl (λK hK=>?_);have HK:=oh hK;clear hK;go_simp;try go_frame
    exact HK.out _ _ ⟨((HB1.out.ext' (xWd.trans hA.lit1.ext)).elt.cell (o:=1) (v:=.string key) rfl),b0,b3,b4,true,b7,p5,p8,p9,_,p12,rfl,rfl,hA.lit1⟩
   | 8,h1,ho =>
    injection ho with ho;subst ho;refine wpOp_step rfl (λK hK=>?_);have HK:=oh hK;clear hK;obtain rfl:b4=true:=h2 ⟨4,.data⟩ (by simp) rfl;obtain rfl:b6=true:=h2 ⟨7,.data⟩ (by simp) rfl;obtain rfl:b7=false:=h1;obtain⟨a1,c1,rfl,hO1⟩:=hA.f4 rfl rfl;obtain⟨g,rfl,hB, -⟩:=hA.f6 rfl rfl;refine yT Tryz.elS yV (by rfl) _ _ (by rfl) Wd.heap.size (.slice a1 ks.length c1) (.slice (some ⟨g,0,none⟩) 1 1) ks [key] (by rfl) (by rfl) hO1 (Sl.one (F:=λ_=>False) (x:=key) (enc:=qK) (sz:=1) hB (λf=>f)) (by simp only[tA];omega) hA.ext.size (λf=>f) ?_;rw[tA];intro a2 c2 W1 hO hm _;try go_frame
    exact HK.out _ _ ⟨((HB1.out.ext' (xWd.trans (hA.app2 hO hm).ext)).elt.cell (o:=1) (v:=.string key) rfl),b0,b3,true,true,true,p5,p8,_,_,_,rfl,rfl,hA.app2 hO hm⟩
   | 9,h1,ho =>
    injection ho with ho;subst ho;obtain rfl:b0=true:=h2 ⟨0,.phase⟩ (by simp) rfl;obtain rfl:b3=true:=h2 ⟨3,.phase⟩ (by simp) rfl;obtain rfl:b4=true:=h2 ⟨4,.phase⟩ (by simp) rfl;obtain rfl:b6=true:=h2 ⟨7,.phase⟩ (by simp) rfl;obtain rfl:b7=true:=h2 ⟨8,.phase⟩ (by simp) rfl;exact absurd rfl hs
   | 10,h1,ho =>
    injection ho with ho;subst ho;have:=h2 ⟨9,.data⟩ (by simp) rfl;cases this
   | 11,h1,ho =>
    injection ho with ho;subst ho;have:=h2 ⟨10,.data⟩ (by simp) rfl;cases this
   | n+12,h1,ho=>cases h1
  .obtain⟨b0,b3,b4,b6,b7,p5,p8,p9,p11,p12,rfl,rfl,hA⟩:=hI;exfalso;clear hA;cases b0 <;> cases b3 <;> cases b4 <;> cases b6 <;> cases b7 <;> first|exact hs rfl|(revert hr;decide +kernel)
  .obtain⟨b0,b3,b4,b6,b7,p5,p8,p9,p11,p12,rfl,rfl,hA⟩:=hI;simp only[Array.mk.injEq,List.cons.injEq,and_true,true_and] at hs;obtain⟨rfl,rfl,rfl,rfl,rfl⟩:=hs;obtain⟨m,rfl⟩:∃m,n=m+3:=⟨n-3,by have h3:zEn #[true,true,true,true,true,true,true,true,true,false,false,false]=3:=rfl;omega⟩;obtain⟨a2,c2,rfl,hO2⟩:=hA.f7 rfl;have xW:=xWd.trans hA.ext;have n1:=(HB1.out.ext' xW).box.cell (o:=2) (v:=.slice ka ks.length kc) rfl;have nf:=(HB1.out.ext' xW).box.frozen;have hHeld:=((HB1.out.ext' xW).elt.cell (o:=1) (v:=.string key) rfl);refine tkH 9 ⟨some 25,_,_,_,_,_⟩ ?_;try go_frame
   refine tkH 10 ⟨some 26,_,_,_,_,_⟩ ?_;try go_frame
   refine wpAnyH_ready (rs:=[11]) (by kernel_rfl) (by simp) ?_;refine AllReadyH.cons (o:=⟨none,_,_,_,_,_⟩) rfl (λK hK=>?_) AllReadyH.nil;go_simp;have hfin:=(HB1.out.ext' xW).putK HBL2.out (hO2.rebase xWd.size);refine hK.out _ _ (hfin.elt.cell (o:=1) (v:=.string key) rfl) (λhHeld=>?_);clear hK;try go_frame
   refine wpAnyH_done (by kernel_rfl) ?_ _;have HFIN:=oh hfin;clear hfin hO2 hA;go_wp2_with fail;go_meet;exact⟨a2,c2,HFIN⟩
 case rest =>
  obtain⟨a,c,HB2⟩:=hcut;have y0:=HB2.out.box.cell (o:=0) rfl;have y1:=HB2.out.box.cell (o:=1) rfl;have y2:=HB2.out.box.cell (o:=2) rfl;have y3:=HB2.out.box.cell (o:=3) rfl;have y4:=HB2.out.box.cell (o:=4) rfl;have rf:=HB2.out.res.frozen;have r0:=HB2.out.res.cell (o:=0) (v:=.bool false) rfl;have r1:=HB2.out.res.cell (o:=1) (v:=.slice none 0 0) rfl;have r2:=HB2.out.res.cell (o:=2) (v:=.slice none 0 0) rfl;have r3:=HB2.out.res.cell (o:=3) (v:=.slice none 0 0) rfl;have r4:=HB2.out.res.cell (o:=4) (v:=.string ⟨#[]⟩) rfl;have HRT:=oh HB2.out.ret;unfold zW at y1 y2 y3;go_wp2_with fail;refine bodyPost_ret (results_cell_row rfl _ _ (X+1+1) 197 _ (0,0) _ rfl HRT.out.1 Tryz.underlying197 rfl Tryz.partSz5) rfl ?_;exact⟨_,rfl,HRT.out.2.1,HRT.out.2.2⟩
theorem zMx(id:Nat)(key:ByteArray) : Calls Tryz.prog 110 #[.agg #[.int .i64 (id:Int),.string key]] w λen w'=>∃v,en=.returned v/\PtO w' w.heap.size v (ptI [(id,key)])/\zJ w w':=by
 obtain⟨W,hW⟩:∃W,W=((w.alloc (.cells #[.int .i64 (id:Int),.string key] 151)).alloc (.cells #[.bool false,.slice none 0 0,.slice none 0 0,.slice (some ⟨w.heap.size+1+1,0,none⟩) 1 1,.string key] 197)).alloc (.cells #[.int .i64 (id:Int)] 3):=⟨_,rfl⟩;have HM:Hid (zJ w W):=oh (by rw[hW];exact (((zA.refl _ w).alloc _).alloc _).alloc _);have HF:Hid (zL W (w.heap.size+1) #[.bool false,.slice none 0 0,.slice none 0 0,.slice (some ⟨w.heap.size+1+1,0,none⟩) 1 1,.string key] 197):=oh (by rw[hW];exact zL.alloc (zK (by simp)) _);have HL:Hid (zL W (w.heap.size+1+1) #[.int .i64 (id:Int)] 3):=oh (by rw[hW];exact zK (by simp));have HO:Hid (zU NoF W w.heap.size 3 1 yB (.slice (some ⟨w.heap.size+1+1,0,none⟩) 1 1) [(id:Int)]):=oh (zU.made (l:=[(id:Int)]) HL.out (by omega) (λf=>f) (uJ _) (by simp[maxLen]) rfl rfl yG.len);have HW:=oh hW;clear hW
 go_enter Tryz.func110, Tryz.ntmps110
 go_wp2_with fail;rw[<- HW.out];refine bodyPost_ret (results_cell_row rfl _ _ (w.heap.size+1) 197 _ (0,0) _ rfl HF.out Tryz.underlying197 rfl Tryz.partSz5) rfl ?_;exact⟨_,rfl,⟨⟨false,(none,0,0),(none,0,0),(some ⟨w.heap.size+1+1,0,none⟩,1,1),key⟩,rfl,rfl,rfl,zU.nil _ _ _ _ _ _,zU.nil _ _ _ _ _ _,HO.out⟩,HM.out⟩
end
end
end Go.Proofs.YtchklfmggpconaaGreatDoor
