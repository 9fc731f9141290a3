import Derived.Test.YtchklfmggpconaaGreatDoorK34
namespace Go.Proofs.YtchklfmggpconaaGreatDoor
open Lib renaming hid->oh
set_option maxHeartbeats 8000000
set_option maxRecDepth 100000
open Go.RowKit
attribute [local go_sem ↓] Go.wp_at_zero Go.wp_at_succ
theorem zF1{α:Type}(out:List α):out=[]\/∃r a,out=r++[a]:=by
 cases h:out.reverse with
 | nil=>exact .inl (by simpa using h)
 | cons b t=>exact .inr ⟨t.reverse,b,by have:=congrArg List.reverse h;simpa using this⟩
theorem zM1{g:List zI}(h:∀x∈g,yC x=true)(hw:zD (jD g)<=3000):zEm (ptL g):=by
 rw[jM] at hw;have hl:=zBj g;refine⟨by show g.length<=2000;omega,by show 0<=2000;omega,by show 0<=2000;omega,by show zD (jD g)<=_;rw[jM];omega,?_⟩;show (yQ (·.key) g).size<=10000;cases g with
 | nil=>show (0:Nat)<=10000;omega
 | cons x g =>
  have:=h x uF;unfold yC at this;simp only[uK] at this;have:=(vC x.key).1 this.1;show x.key.size<=10000;omega
section
variable {w:World}
theorem zM2{b0:Nat}{xb:PtV}{gl:List zI}(e:zI)(hx:PtR w b0 xb (ptL gl))(hb:b0<=w.heap.size)(hn:gl.length<=100000)(hne:gl≠[]) : Calls Tryz.prog 108 #[ptV xb,.agg (zC6 e)] w λen w'=>∃v,en=.returned v/\PtO w' b0 v (ptL (gl++[e]))/\zJ w w':=by
 obtain⟨lf,⟨a,n,c⟩,xk,xi,s⟩:=xb;have h1:lf=true:=hx.lf;have h2:s=yQ (·.key) gl:=hx.fst;obtain⟨a',c',h3,_,_⟩:=hx.e.form;injection h3 with h3 h4 h5;have h4:n=gl.length:=h4;subst h1 h2 h4;have:=zLX gl e a c xk xi (yQ (·.key) gl) b0 hx hb hn;unfold ptL;rw[zEi _ hne];exact this
end
def zM3(w:World)(b0:Nat)(n:PtA)(wx:World)(Y:Nat):Prop:=∃x:PtV,zJ w wx/\zL wx Y #[.bool x.lf,zW x.e,zW x.k,zW x.i,.string x.s] 197 /\ PtR wx b0 x n
section
variable {P P' F F':Nat->Prop}{ad:Nat->Addr}{w w':World}{c s:Nat}{G:GA}{l:List Nat}
theorem zPA(hL:yW F ad w)(h:yS F w P c s G l)(gen:Nat)(hz:256<=G.size/\G.size<=1024)(ev:Value)(es:List zI)(hev:Sl F w 4 vA ev es)(hes:∀e∈es,yC e=true)(hlen:es.length<=100000) :
  Calls Tryz.prog 106 #[qR c s gen,ev,.func (.func 107) #[] #[],.func (.func 108) #[] #[]] w λe w'=>∃v,e=.returned v/\zC5 w' w.heap.size v ((zV jD ((G.size:Int)-24) es).map ptL)/\zJ w w':=by
 obtain⟨b0,hb0⟩:∃b0,b0=w.heap.size:=⟨_,rfl⟩;obtain⟨X,hX⟩:∃X,X=w.heap.size:=⟨_,rfl⟩;obtain⟨z,hzz⟩:∃z,z=(G.size:Int)-24:=⟨_,rfl⟩;rw[<- hzz,<- hb0];obtain⟨w0,hw0⟩:∃w0,w0=w.alloc (gP c s gen):=⟨_,rfl⟩;have m0:zJ w w0:=by rw[hw0];exact (zA.refl _ w).alloc _
 have hBX:zL w0 X (gP c s gen) 31:=by rw[hw0,hX];exact zL.new w _ _
 have HM0:=oh m0;have HW0:=oh hw0;have HXX:=oh hX;have HBX:=oh hBX;have HENV:=oh hL;have HB0:Hid (b0<=w.heap.size):=oh (by omega);have HB0b:Hid (w.heap.size<=b0):=oh (by omega);have HZ:=oh hzz;have HES:=oh hes;have HEV:=oh hev;have HSZ:=oh (λW (m:zJ w W)=>zGP (w:=W) (h.at m) gen);have HEVN:=oh (λW (m:zJ w W) (lv:Value) (L:List PtA) (hv:zC5 W b0 lv L) (hok:∀n∈L,zEm n) (hl:L.length<=100000)=>zLZ (w:=W) (hL.mods m.ext) (h.at m) gen hz lv b0 L hv (uM HB0.out m.size) hok hl);rw[<- hzz] at HEVN;obtain⟨ea,ec,rfl,h1,h2,h3, -⟩:=hev;unfold maxLen at h2;unfold qR at HSZ HEVN ⊢;have HFIT:Hid (∀k,∀g∈yP jD z [] (es.take k),zD (jD g)<=z/\g≠[]):=oh (λk g hg=>⟨zAl jD z (λe=>yC e=true) (λx hx=>by have:=zBS hx;rw[jM];simp only[zY];omega) (es.take k) [] (λx hx=>hes x (tC hx)) (by simp) g hg,zA2 jD z (es.take k) [] (by simp) g hg⟩);clear hL h m0 hw0 hBX hX hb0 hzz hes
 go_enter Tryz.func106, Tryz.ntmps106
 go_wp2_with fail;rw[<- HW0.out,<- HXX.out];go_loopg [9,16] es.length (λm v9 v16 wr=>∃(k:Nat),k+m=es.length/\v16=.int .i64 (k:Int)/\Hid (zC5 wr b0 v9 ((yP jD z [] (es.take k)).map ptL)/\zJ w wr/\zL wr X (gP c s gen) 31))
 case atStart=>exact⟨0,by omega,rfl,oh ⟨⟨[],zB1.nil _ _⟩,HM0.out,HBX.out⟩⟩
 case round =>
  obtain⟨k,hkm,rfl,HR⟩:=hrel;obtain⟨⟨xs,hxs⟩,hwr,hbx⟩:=HR.out;obtain⟨va,vc,rfl,v1,v2⟩:=hxs.row.form;unfold maxLen at v2;obtain⟨out,hout⟩:∃out,out=yP jD z [] (es.take k):=⟨_,rfl⟩;rw[<- hout] at hxs;have hxl:xs.length=out.length:=by have:=hxs.len;simpa using this
  have hol:out.length<=100000:=by
   have:=zCf jD z (es.take k) [];rw[<- hout,uP] at this;simp only[uE] at this;omega
  by_cases hlt:k<es.length
  .obtain⟨e,he⟩:∃e,e=es[k]:=⟨_,rfl⟩;obtain⟨qb,qoff,hqa,hc⟩:=HEV.out.elem hlt hwr;rw[<- he] at hc;have d0:=hc 0 (.string e.key) rfl;have d1:=hc 1 (.string e.value) rfl;have d2:=hc 2 (.int .i64 e.chain) rfl;have d3:=hc 3 (.int .i64 e.size) rfl;simp only[uO] at d0;subst hqa;have HEE:Hid (yC e=true):=oh (HES.out e (by rw[he];exact wH hlt));have HTK:Hid (es.take (k+1)=es.take k++[e]):=oh (by rw[he];exact yJ es k es[k] (by simp[hlt]));obtain⟨Q,hQ⟩:∃Q,Q=wr.heap.size:=⟨_,rfl⟩;obtain⟨wq,hwq⟩:∃wq,wq=wr.alloc (.cells #[.string e.key,.string e.value,.int .i64 e.chain,.int .i64 e.size] 141):=⟨_,rfl⟩;have hrq:zJ wr wq:=by rw[hwq];exact (zA.refl _ _).alloc _
   have hbq:zL wq Q #[.string e.key,.string e.value,.int .i64 e.chain,.int .i64 e.size] 141:=by rw[hwq,hQ];exact zL.new wr _ _
   have i1:(0:Int)<=(k:Int):=by omega
   have i2:(k:Int)<(es.length:Int):=by omega
   have HXQ:=oh (hwr.trans hrq);have HPQ:=oh (hxs.ext hrq);have hbx2:=hbx.ext hrq;have HBQ:=oh hbx2;have HELT:=oh hbq;have P0:=oh (hbx2.cell (o:=0) (v:=.pointer (some ⟨c,0,none⟩)) rfl);have P1:=oh (hbx2.cell (o:=1) (v:=.pointer (some ⟨s,0,none⟩)) rfl);have P2:=oh (hbx2.cell (o:=2) (v:=.int .u64 (gen:Int)) rfl);have E0:=oh (hbq.cell (o:=0) (v:=.string e.key) rfl);have E1:=oh (hbq.cell (o:=1) (v:=.string e.value) rfl);have E2:=oh (hbq.cell (o:=2) (v:=.int .i64 e.chain) rfl);have E3:=oh (hbq.cell (o:=3) (v:=.int .i64 e.size) rfl);have HWQ:=oh hwq;have HQQ:=oh hQ;have HBEG:=oh (λW=>zLW (w:=W) e);have HOUT:=oh hout;have HXL:=oh hxl;clear hxs hwr hbx hc he hQ hwq hrq hbq hbx2 hout hxl;rcases zF1 out with rfl|⟨pre,gl,rfl⟩
   .obtain rfl:xs=[]:=wL.1 (by have:=HXL.out;simpa using this);have HNX:Hid (yP jD z [] (es.take (k+1))=[]++[[e]]):=oh (by rw[HTK.out,zA8,<- HOUT.out];rfl);simp only[uE];go_wp2_with fail;rw[<- HWQ.out,<- HQQ.out];have e0:=E0.out;have e1:=E1.out;have e2:=E2.out;have e3:=E3.out;go_wp2_with fail;refine (HBEG.out _).mono ?_;rintro en w3 ⟨bv,rfl,⟨xn,rfl,hpn⟩,hm3⟩;have HX3:=oh (HXQ.out.trans hm3);have HP3:=oh (HPQ.out.ext hm3);have HB3:=oh (HBQ.out.ext hm3);have HPN:=oh (hpn.rebase (show b0<=wq.heap.size from uM HB0.out HXQ.out.size));clear hpn hm3;unfold ptV;have hl3:zL (w3.alloc (.cells #[.bool xn.lf,zW xn.e,zW xn.k,zW xn.i,.string xn.s] 197)) w3.heap.size #[.bool xn.lf,zW xn.e,zW xn.k,zW xn.i,.string xn.s] 197:=zL.new w3 _ _;have HL3:=oh hl3;have HMA:Hid (zJ w3 (w3.alloc (.cells #[.bool xn.lf,zW xn.e,zW xn.k,zW xn.i,.string xn.s] 197))):=oh ((zA.refl _ w3).alloc _);clear hl3;go_wp2_with (at_builtin;refine yH Tryz.elPt jG rfl _ _ rfl b0 _ _ ([]:List PtV) [xn] rfl rfl (HP3.out.row.ext HMA.out) (Sl.one (F:=λ_=>False) (x:=xn) (enc:=zCT) (sz:=5) HL3.out (λf=>f)) (by simp only[uD,uE];omega) (by have:=HB0.out;have:=HX3.out.size;have:=HMA.out.size;omega) (λf=>f) ?_;simp only[uD,uE,uR];intro a6 c6 w6 hO6 hm6 hat6);have HS6:Hid (zC5 w6 b0 (.slice a6 (0+1) c6) ((yP jD z [] (es.take (k+1))).map ptL)/\zJ w w6/\zL w6 X (gP c s gen) 31):=oh ⟨⟨([]:List PtV)++[xn],by
     rw[HNX.out,wF];exact (HP3.out.ext HMA.out).app hm6 (by simpa using hO6) (HPN.out.ext HMA.out)⟩,zA.past (HX3.out.trans HMA.out) (hm6.mono (λk hk=>uM HB0b.out (((HP3.out.row.ext HMA.out).lt k hk).1))),(HB3.out.ext HMA.out).mods hm6 (λhk=>(HP3.out.row.ext HMA.out).notB (HB3.out.ext HMA.out) (by decide) _ hk rfl)⟩
    clear hO6 hm6 hat6;go_wp2_with fail;go_roundg (gk-1)
    case measure=>omega
    case rel=>exact⟨k+1,by omega,by go_num,HS6⟩
   .obtain⟨ys,xb,rfl⟩:∃ys xb,xs=ys++[xb]:=by
     rcases zF1 xs with rfl|h
     .have:=HXL.out;simp at this
     .exact h
    obtain⟨p,hp⟩:∃p,p=ys.length:=⟨_,rfl⟩;have hpl:(ys++[xb]).length=p+1:=by rw[hp];simp
    have hpr:pre.length=p:=by have:=HXL.out;simp at this;omega
    have hpb:p<=100000:=by simp at hol;omega
    obtain⟨g,rfl⟩:=HPQ.out.row.some' (by simp);have hgb:(ys++[xb])[p]? = some xb:=by rw[hp];simp
    have hlb:((pre++[gl]).map ptL)[p]? = some (ptL gl):=by rw[<- hpr];simp
    have HB:=oh (HPQ.out.at_ p xb _ hgb hlb);have hsl:=HPQ.out.row.sl jG.len (by rw[hpl];omega);have HPP:Hid (zB1 wq b0 (.slice (some ⟨g,0,none⟩) (p+1) vc) (ys++[xb]) ((pre++[gl]).map ptL)):=oh (by have:=HPQ.out;rwa [hpl] at this);rw[hpl] at hsl v1;have B0:=oh (hsl.cellsAt hgb 0 _ rfl);have B1:=oh (hsl.cellsAt hgb 1 _ rfl);have B2:=oh (hsl.cellsAt hgb 2 _ rfl);have B3:=oh (hsl.cellsAt hgb 3 _ rfl);have B4:=oh (hsl.cellsAt hgb 4 _ rfl);simp only[uR,uO] at B0 B1 B2 B3 B4;have hfg:=HFIT.out k gl (by rw[<- HOUT.out];simp);have HGL:Hid (gl≠[]):=oh hfg.2;have HOKG:Hid (zD (jD gl)<=1000):=oh (by have:=HZ.out;omega);have HMORE:=oh (λW (m:zJ wq W)=>zM2 e (HB.out.ext m) (uM HB0.out (HXQ.out.trans m).size) (by have:=HOKG.out;rw[jM] at this;have:=zBj gl;omega) HGL.out);unfold ptV at HMORE;have HSUB:Hid (∀x∈gl,yC x=true):=oh (λx hx=>HES.out x (by
     have hf:=vN jD z (es.take k) [];rw[<- HOUT.out] at hf;have:x∈(pre++[gl]).flatten:=by simp[hx]
     rw[hf] at this;exact tC (by simpa using this)))
    have j1:IntKind.i64.wrap (p:Int)=(p:Int):=IntWalk.i64_in _ (by omega);have j2:(0:Int)<=(p:Int):=by omega
    have j3:(p:Int)<(p:Int)+1:=by omega
    have HPL:=oh (And.intro hpl (And.intro hpr hp));rw[hpl];clear hsl hgb hlb hfg hp hpl hpr;go_wp2_with fail;rw[<- HWQ.out,<- HQQ.out];go_wp2_with fail;go_cut [13] (λv13 wx=>∃Y,v13=.pointer (some ⟨Y,0,none⟩)/\Hid (zM3 wq b0 (ptL (gl++[e])) wx Y))
    case first =>
     have HS9:=λ(W:World) (m:zJ wq W)=>And.intro (zC m E0.out) (And.intro (zC m E1.out) (And.intro (zC m E2.out) (And.intro (zC m E3.out) (And.intro (zC m B0.out) (And.intro (zC m B1.out) (And.intro (zC m B2.out) (And.intro (zC m B3.out) (zC m B4.out))))))))
     have zd:=HS9 _ (zA.refl _ wq).drew;have za:=HS9 _ ((zA.refl _ wq).alloc (.cells #[.bool false,.slice none 0 0,.slice none 0 0,.slice none 0 0,.string ⟨#[]⟩] 197)).drew;go_region_held3 (λw'=>w'.cell? ⟨Q,0,none⟩=some (.string e.key)/\w'.cell? ⟨Q,1,none⟩=some (.string e.value)/\w'.cell? ⟨Q,2,none⟩=some (.int .i64 e.chain)/\w'.cell? ⟨Q,3,none⟩=some (.int .i64 e.size)/\w'.cell? ⟨g,p * 5,none⟩=some (.bool xb.lf)/\w'.cell? ⟨g,p * 5+1,none⟩=some (zW xb.e)/\w'.cell? ⟨g,p * 5+2,none⟩=some (zW xb.k)/\w'.cell? ⟨g,p * 5+3,none⟩=some (zW xb.i)/\w'.cell? ⟨g,p * 5+4,none⟩=some (.string xb.s))
      (first|(with_reducible exact zd)|(with_reducible exact za)|(with_reducible exact z5)|(with_reducible exact z7)|(with_reducible exact z6)|fail)
      (first
       | (go_at_call 108;(with_reducible refine (HMORE.out _ ((zA.refl _ wq).drew)).mono ?_);rintro en U ⟨mv,rfl,⟨xn,rfl,hpn⟩,mU⟩;have x5:=((zA.refl _ wq).drew).trans mU;have z5:=HS9 _ x5;have z7:=HS9 _ (x5.alloc (.cells #[.bool false,.slice none 0 0,.slice none 0 0,.slice none 0 0,.string ⟨#[]⟩] 197));have x6:=x5.alloc (.cells #[.bool xn.lf,zW xn.e,zW xn.k,zW xn.i,.string xn.s] 197);have z6:=HS9 _ x6;have HFIN:=oh (show zM3 wq b0 (ptL (gl++[e])) _ U.heap.size from ⟨xn,x6,zL.new U _ _,hpn.ext ((zA.refl _ U).alloc _)⟩);unfold ptV)
       | (go_at_call 108;(with_reducible refine (HMORE.out _ (((zA.refl _ wq).alloc (.cells #[.bool false,.slice none 0 0,.slice none 0 0,.slice none 0 0,.string ⟨#[]⟩] 197)).drew)).mono ?_);rintro en U ⟨mv,rfl,⟨xn,rfl,hpn⟩,mU⟩;have x5:=(((zA.refl _ wq).alloc (.cells #[.bool false,.slice none 0 0,.slice none 0 0,.slice none 0 0,.string ⟨#[]⟩] 197)).drew).trans mU;have z5:=HS9 _ x5;have hB:zL (U) wq.heap.size #[.bool false,.slice none 0 0,.slice none 0 0,.slice none 0 0,.string ⟨#[]⟩] 197:=(zL.new wq _ _).drew.ext mU;have r0:=hB.cell (o:=0) (v:=.bool false) rfl;have r1:=hB.cell (o:=1) (v:=.slice none 0 0) rfl;have r2:=hB.cell (o:=2) (v:=.slice none 0 0) rfl;have r3:=hB.cell (o:=3) (v:=.slice none 0 0) rfl;have r4:=hB.cell (o:=4) (v:=.string ⟨#[]⟩) rfl;have rf:=hB.frozen;have x7:zJ wq (U):=x5;have z7:=HS9 _ x7;have x6:=zA.set5 x7 (R:=wq.heap.size) (.inl (by first|exact uJ _|exact x5.size)) (.bool xn.lf) (zW xn.e) (zW xn.k) (zW xn.i) (.string xn.s);have z6:=HS9 _ x6;have HFIN:=oh (show zM3 wq b0 (ptL (gl++[e])) _ wq.heap.size from ⟨xn,x6,hB.set5 (.bool xn.lf) (zW xn.e) (zW xn.k) (zW xn.i) (.string xn.s),(hpn.ext (show zJ U (U) from zA.refl _ _)).blk hB (zA.set5 (F:=λk=>k=wq.heap.size) (zA.refl _ _) (R:=wq.heap.size) (.inr rfl) (.bool xn.lf) (zW xn.e) (zW xn.k) (zW xn.i) (.string xn.s)) (by decide) (by decide) (by decide)⟩);unfold ptV)
       | fail)
     all_goals
      go_wp2_with fail;go_meet;exact⟨_,rfl,HFIN⟩
    case rest =>
     obtain⟨Y,rfl,HN⟩:=hcut;obtain⟨xn,x8,hbn,hpn⟩:=HN.out;obtain⟨w8,rfl⟩:∃w8:World,w8=wc:=⟨_,rfl⟩;have N0:=oh (hbn.cell (o:=0) rfl);have N1:=oh (hbn.cell (o:=1) rfl);have N2:=oh (hbn.cell (o:=2) rfl);have N3:=oh (hbn.cell (o:=3) rfl);have N4:=oh (hbn.cell (o:=4) rfl);have XW8:=oh (HXQ.out.trans x8);have HBN:=oh hbn;have HPN:=oh hpn;have HP8:=oh (HPP.out.ext x8);have HB8:=oh (HBQ.out.ext x8);have P0:=oh (zC x8 P0.out);have P1:=oh (zC x8 P1.out);have P2:=oh (zC x8 P2.out);have E0:=oh (zC x8 E0.out);have E1:=oh (zC x8 E1.out);have E2:=oh (zC x8 E2.out);have E3:=oh (zC x8 E3.out);have HSM:=oh (zM1 (g:=gl++[e]) (by intro x hx;rcases uG.1 hx with hx|hx;exact HSUB.out x hx;rw[wS.1 hx];exact HEE.out) (by have:=HOKG.out;have:=zBS HEE.out;rw[jM] at *;rw[yM];simp only[zY];omega));have HFT:Hid (∀W,zJ w8 W -> Calls Tryz.prog 97 #[.agg #[.bool xn.lf,zW xn.e,zW xn.k,zW xn.i],.int .i64 (G.size:Int)] W λen w'=>en=.returned (.bool (decide (zD (jD (gl++[e]))<=z)))/\zJ W w'):=oh (λW m=>by
      have h:=HPN.out.ext m;have:=zCC (F:=NoF) (jD (gl++[e])) (zW xn.e) (zW xn.k) (zW xn.i) W (h.e.sl yU.len (uM HSM.out.1 (by omega))) (h.k.sl yV.len (uM HSM.out.2.1 (by omega))) (nT HSM.out.2.2.2.1 (by omega)) (G.size:Int) (by omega) (by omega);rw[show (jD (gl++[e])).leaf=xn.lf from h.lf.symm,<- HZ.out] at this;exact this)
     clear x8 hbn hpn;go_wp2_with fail;refine wp_region_held_drew (S:=(λw'=>w'.cell? ⟨X,0,none⟩=some (.pointer (some ⟨c,0,none⟩))/\w'.cell? ⟨X,1,none⟩=some (.pointer (some ⟨s,0,none⟩))/\w'.cell? ⟨X,2,none⟩=some (.int .u64 (gen:Int))/\w'.cell? ⟨Y,0,none⟩=some (.bool xn.lf)/\w'.cell? ⟨Y,1,none⟩=some (zW xn.e)/\w'.cell? ⟨Y,2,none⟩=some (zW xn.k)/\w'.cell? ⟨Y,3,none⟩=some (zW xn.i))) (by kernel_rfl) ⟨zC (zA.refl _ _).drew P0.out,zC (zA.refl _ _).drew P1.out,zC (zA.refl _ _).drew P2.out,zC (zA.refl _ _).drew N0.out,zC (zA.refl _ _).drew N1.out,zC (zA.refl _ _).drew N2.out,zC (zA.refl _ _).drew N3.out⟩ (λhHeld=>?_);obtain⟨Wd,hWd⟩:∃W,W=w8.drew:=⟨_,rfl⟩;rw[<- hWd] at hHeld ⊢;have xWd:zJ w8 Wd:=by rw[hWd];exact (zA.refl _ _).drew
     clear hWd;refine tkH 0 ⟨some 32,_,_,_,_,_⟩ ?_;try go_frame
     refine tkH 1 ⟨some 33,_,_,_,_,_⟩ ?_;try go_frame
     refine tkH 2 ⟨some 34,_,_,_,_,_⟩ ?_;try go_frame
     refine wpAnyH_ready (rs:=[3]) (by kernel_rfl) (by simp) ?_;refine AllReadyH.cons (o:=⟨some 35,_,_,_,_,_⟩) rfl (λK hK=>?_) AllReadyH.nil;go_simp;go_at_call 157
     (with_reducible refine (HSZ.out _ (XW8.out.trans xWd)).mono ?_)
     rintro en V1 ⟨rfl,mV1⟩;have xV1:=xWd.trans mV1;refine hK.out _ _ (by first|exact⟨zC xV1 P0.out,zC xV1 P1.out,zC xV1 P2.out,zC xV1 N0.out,zC xV1 N1.out,zC xV1 N2.out,zC xV1 N3.out⟩|go_keep) (λhHeld=>?_);clear hK;try go_frame
     refine wpAnyH_ready (rs:=[4]) (by kernel_rfl) (by simp) ?_;refine AllReadyH.cons (o:=⟨some 36,_,_,_,_,_⟩) rfl (λK hK=>?_) AllReadyH.nil;go_simp;go_at_call 97
     (with_reducible refine (HFT.out _ xV1).mono ?_)
     rintro en V2 ⟨rfl,mV2⟩;have xV2:=xV1.trans mV2;refine hK.out _ _ (by first|exact⟨zC xV2 P0.out,zC xV2 P1.out,zC xV2 P2.out,zC xV2 N0.out,zC xV2 N1.out,zC xV2 N2.out,zC xV2 N3.out⟩|go_keep) (λhHeld=>?_);clear hK;try go_frame
     refine wpAnyH_done (by kernel_rfl) ?_ _;have HX8:=oh xV2;clear xV1 xV2 mV1 mV2 xWd;obtain⟨w9,rfl⟩:∃w9:World,w9=V2:=⟨_,rfl⟩;have HX9:=oh (XW8.out.trans HX8.out);have HP9:=oh (HP8.out.ext HX8.out);have HB9:=oh (HB8.out.ext HX8.out);have HPN:=oh (HPN.out.ext HX8.out);have n0:=zC HX8.out N0.out;have n1:=zC HX8.out N1.out;have n2:=zC HX8.out N2.out;have n3:=zC HX8.out N3.out;have n4:=zC HX8.out N4.out;have e0:=zC HX8.out E0.out;have e1:=zC HX8.out E1.out;have e2:=zC HX8.out E2.out;have e3:=zC HX8.out E3.out;by_cases hfit:zD (jD (gl++[e]))<=z
     .have HNX:Hid (yP jD z [] (es.take (k+1))=pre++[gl++[e]]):=oh (by
       rw[HTK.out,zA8,<- HOUT.out];simp[yP,hfit])
      obtain⟨g',c',hgs, -, -,hg3,hg4,hgf⟩:=HP9.out.row.some (by simp);injection hgs with hgs hgn hgc;injection hgs with hgs;injection hgs with hgs;subst hgs hgc;have hsl:=HP9.out.row.sl jG.len (by have:=HPL.out.1;omega);have hgb:(ys++[xb])[p]? = some xb:=by rw[HPL.out.2.2];simp
      have b0':=hsl.cellsAt hgb 0 _ rfl;have b1':=hsl.cellsAt hgb 1 _ rfl;have b2':=hsl.cellsAt hgb 2 _ rfl;have b3':=hsl.cellsAt hgb 3 _ rfl;have b4':=hsl.cellsAt hgb 4 _ rfl;simp only[uR,uO] at b0' b1' b2' b3' b4';have f0:=hgf (p * 5);have f1:=hgf (p * 5+1);have f2:=hgf (p * 5+2);have f3:=hgf (p * 5+3);have f4:=hgf (p * 5+4);have hput:=zU.put5 HP9.out.row xn;have hmod:=zA.put5 (g:=g) w9 (ys.length * 5) (p+1) vc (.bool xn.lf) (zW xn.e) (zW xn.k) (zW xn.i) (.string xn.s);rw[<- HPL.out.2.2] at hput hmod;have HS6:Hid (zC5 (((((w9.setCell ⟨g,p * 5,none⟩ (.bool xn.lf)).setCell ⟨g,p * 5+1,none⟩ (zW xn.e)).setCell ⟨g,p * 5+2,none⟩ (zW xn.k)).setCell ⟨g,p * 5+3,none⟩ (zW xn.i)).setCell ⟨g,p * 5+4,none⟩ (.string xn.s)) b0 (.slice (some ⟨g,0,none⟩) (p+1) vc) ((yP jD z [] (es.take (k+1))).map ptL)/\zJ w (((((w9.setCell ⟨g,p * 5,none⟩ (.bool xn.lf)).setCell ⟨g,p * 5+1,none⟩ (zW xn.e)).setCell ⟨g,p * 5+2,none⟩ (zW xn.k)).setCell ⟨g,p * 5+3,none⟩ (zW xn.i)).setCell ⟨g,p * 5+4,none⟩ (.string xn.s))/\zL (((((w9.setCell ⟨g,p * 5,none⟩ (.bool xn.lf)).setCell ⟨g,p * 5+1,none⟩ (zW xn.e)).setCell ⟨g,p * 5+2,none⟩ (zW xn.k)).setCell ⟨g,p * 5+3,none⟩ (zW xn.i)).setCell ⟨g,p * 5+4,none⟩ (.string xn.s)) X (gP c s gen) 31):=oh ⟨⟨ys++[xn],by
       rw[HNX.out,wF];have:=HP9.out;rw[wF] at this;exact this.last hmod hput HPN.out⟩,zA.past HX9.out (hmod.mono (λk hk=>uM HB0b.out ((HP9.out.row.lt k hk).1))),HB9.out.mods hmod (λhk=>HP9.out.row.notB HB9.out (by decide) _ hk rfl)⟩
      clear hsl hgb hput hmod hgn hg3 hg4 hgf;go_wp2_with fail;go_roundg (gk-1)
      case measure=>omega
      case rel=>exact⟨k+1,by omega,by go_num,HS6⟩
     .have HNX:Hid (yP jD z [] (es.take (k+1))=(pre++[gl])++[[e]]):=oh (by
       rw[HTK.out,zA8,<- HOUT.out];simp[yP,hfit])
      go_wp2_with fail;refine (HBEG.out _).mono ?_;rintro en w3 ⟨bv,rfl,⟨xn,rfl,hpn⟩,hm3⟩;have HX3:=oh (HX9.out.trans hm3);have HP3:=oh (HP9.out.ext hm3);have HB3:=oh (HB9.out.ext hm3);have HPN:=oh (hpn.rebase (show b0<=w9.heap.size from uM HB0.out HX9.out.size));clear hpn hm3;unfold ptV;have hl3:zL (w3.alloc (.cells #[.bool xn.lf,zW xn.e,zW xn.k,zW xn.i,.string xn.s] 197)) w3.heap.size #[.bool xn.lf,zW xn.e,zW xn.k,zW xn.i,.string xn.s] 197:=zL.new w3 _ _;have HL3:=oh hl3;have HMA:Hid (zJ w3 (w3.alloc (.cells #[.bool xn.lf,zW xn.e,zW xn.k,zW xn.i,.string xn.s] 197))):=oh ((zA.refl _ w3).alloc _);clear hl3;go_wp2_with (at_builtin;refine yH Tryz.elPt jG rfl _ _ rfl b0 _ _ (ys++[xb]) [xn] rfl rfl (HP3.out.row.ext HMA.out) (Sl.one (F:=λ_=>False) (x:=xn) (enc:=zCT) (sz:=5) HL3.out (λf=>f)) (by have:=HPL.out.1;simp only[uD,uE];omega) (by have:=HB0.out;have:=HX3.out.size;have:=HMA.out.size;omega) (λf=>f) ?_;simp only[uD,uE,uR];intro a6 c6 w6 hO6 hm6 hat6);have HS6:Hid (zC5 w6 b0 (.slice a6 (ys.length+1+1) c6) ((yP jD z [] (es.take (k+1))).map ptL)/\zJ w w6/\zL w6 X (gP c s gen) 31):=oh ⟨⟨(ys++[xb])++[xn],by
       rw[HNX.out,wF];exact (HP3.out.ext HMA.out).app hm6 (by simpa using hO6) (HPN.out.ext HMA.out)⟩,zA.past (HX3.out.trans HMA.out) (hm6.mono (λk hk=>uM HB0b.out (((HP3.out.row.ext HMA.out).lt k hk).1))),(HB3.out.ext HMA.out).mods hm6 (λhk=>(HP3.out.row.ext HMA.out).notB (HB3.out.ext HMA.out) (by decide) _ hk rfl)⟩
      clear hO6 hm6 hat6;go_wp2_with fail;go_roundg (gk-1)
      case measure=>omega
      case rel=>exact⟨k+1,by omega,by go_num,HS6⟩
  .have hk:k=es.length:=by omega
   have HXE:=oh hxs;have HXW:=oh hwr;have hall:es.take k=es:=by rw[hk,wU]
   have b0':=hbx.cell (o:=0) (v:=.pointer (some ⟨c,0,none⟩)) rfl;have b1':=hbx.cell (o:=1) (v:=.pointer (some ⟨s,0,none⟩)) rfl;have b2':=hbx.cell (o:=2) (v:=.int .u64 (gen:Int)) rfl;have hok:∀n∈out.map ptL,zEm n:=λn hn=>by
    obtain⟨g,hg,rfl⟩:=wY.1 hn;have hfg:=HFIT.out k g (by rw[<- hout];exact hg);refine zM1 (λx hx=>HES.out x ?_) (by have:=HZ.out;omega);have hf:=vN jD z (es.take k) [];rw[<- hout] at hf;have:x∈out.flatten:=rG.2 ⟨g,hg,hx⟩;rw[hf] at this;exact tC (by simpa using this)
   have HEV2:=oh (HEVN.out wr hwr _ _ ⟨xs,hxs⟩ hok (by rw[uU];exact hol));have HGR:Hid (zCp z (out.map ptL)=(zV jD z es).map ptL):=oh (by
    rw[zRe out (λg hg=>(HFIT.out k g (by rw[<- hout];exact hg)).2),hout,hall];rfl)
   clear hxs hwr hbx hout hok hxl hall hk;go_wp2_with fail;refine HEV2.out.mono ?_;rintro en w3 ⟨v,rfl,hv,hm3⟩;have HV:=oh hv;have HM3:=oh hm3;clear hv hm3;go_wp2_with fail;go_ret;exact⟨_,rfl,by rw[<- HGR.out];exact HV.out,HXW.out.trans HM3.out⟩
end
section
variable {P F:Nat->Prop}{ad:Nat->Addr}{w:World}{c s:Nat}{G:GA}{l:List Nat}
theorem zLa(hL:yW F ad w)(h:yS F w P c s G l)(gen:Nat)(hz:256<=G.size/\G.size<=1024)(ev:Value)(es:List zI)(hev:Sl F w 4 vA ev es)(hes:∀e∈es,yC e=true)(hlen:es.length<=100000) :
  Calls Tryz.prog 68 #[qR c s gen,ev] w λe w'=>∃v,e=.returned v/\zC5 w' w.heap.size v ((zV jD ((G.size:Int)-24) es).map ptL)/\zJ w w':=by
 have m0:zJ w (w.alloc (gP c s gen)):=(zA.refl _ w).alloc _;have HF:=zPA (hL.mods m0.ext) (h.at m0) gen hz ev es (hev.ext m0) hes hlen;unfold qR at HF ⊢;have HF:=oh HF;have HM0:=oh m0;clear hL h m0 hev
 go_enter Tryz.func68, Tryz.ntmps68
 go_wp2_with fail;refine HF.out.mono ?_;rintro en w1 ⟨v,rfl,⟨xs,hxs⟩,hm⟩;have HX:=oh (hxs.rebase (show w.heap.size<=_ from HM0.out.size));have HM:=oh hm;clear hxs hm;go_wp2_with fail;go_ret;exact⟨_,rfl,⟨xs,HX.out⟩,HM0.out.trans HM.out⟩
end
def zEO(x:jQ):List Value:=[.int .i64 (x.1:Int),.string x.2]
theorem zLb:zBo zEO 2:=⟨λ_=>rfl,by intro x u hu;simp[zEO] at hu;rcases hu with rfl|rfl <;> rfl⟩
theorem zGQ:∀es:List ByteArray,5 * (es.length:Int)<=yA es
 | []=>by simp[yA]
 | x :: es=>by
  have:=zGQ es;simp only[yA,uD];omega
theorem zM4{g:List jQ}(h:∀x∈g,qC x.2=true)(hw:zD (mkI g)<=3000):zEm (ptI g):=by
 have hw':=hw;rw[zBk] at hw;have hl:=zGQ (g.tail.map (·.2));rw[uU,rI] at hl;refine⟨by show 0<=2000;omega,by show (g.tail.map (·.2)).length<=2000;rw[uU,rI];omega,by show (g.map λk=>(k.1:Int)).length<=2000;rw[uU];omega,by show zD (mkI g)<=_;omega,?_⟩;show (yQ (·.2) g).size<=10000;cases g with
 | nil=>show (0:Nat)<=10000;omega
 | cons x g =>
  have:=(vC x.2).1 (h x uF);show x.2.size<=10000;omega
section
variable {w:World}
theorem zPB{b0:Nat}{xb:PtV}{gl:List jQ}(e:jQ)(hx:PtR w b0 xb (ptI gl))(hb:b0<=w.heap.size)(hn:gl.length<=100000)(hne:gl≠[]) : Calls Tryz.prog 111 #[ptV xb,.agg #[.int .i64 (e.1:Int),.string e.2]] w λen w'=>∃v,en=.returned v/\PtO w' b0 v (ptI (gl++[e]))/\zJ w w':=by
 obtain⟨lf,xe,⟨ka,kn,kc⟩,⟨ia,jn,ic⟩,s⟩:=xb;have h1:lf=false:=hx.lf;have h2:s=yQ (·.2) gl:=hx.fst;obtain⟨a',c',h3,_,_⟩:=hx.k.form;obtain⟨a2,c2,h6,_,_⟩:=hx.i.form;injection h3 with h3 h4 h5;injection h6 with h6 h7 h8;have h4:kn=(gl.tail.map (·.2)).length:=h4;have h7:jn=(gl.map λk=>(k.1:Int)).length:=h7;subst h1 h2 h4 h7;have:=zMw (gl.tail.map (·.2)) (gl.map λk=>(k.1:Int)) (e.1:Int) e.2 ka ia kc ic xe (yQ (·.2) gl) b0 hx hb (by rw[uU,rI];omega) (by rw[uU];omega);unfold ptI mkI;rw[zEi _ hne,zBV hne,wF,wF];exact this
end
def zM5(w:World)(b0:Nat)(n:PtA)(wx:World)(Y:Nat):Prop:=∃x:PtV,zJ w wx/\zL wx Y #[.bool x.lf,zW x.e,zW x.k,zW x.i,.string x.s] 197 /\ PtR wx b0 x n
section
variable {P P' F F':Nat->Prop}{ad:Nat->Addr}{w w':World}{c s:Nat}{G:GA}{l:List Nat}
theorem zPC(hL:yW F ad w)(h:yS F w P c s G l)(gen:Nat)(hz:256<=G.size/\G.size<=1024)(ev:Value)(es:List jQ)(hev:Sl F w 2 zEO ev es)(hes:∀e∈es,qC e.2=true)(hlen:es.length<=100000) :
  Calls Tryz.prog 109 #[qR c s gen,ev,.func (.func 110) #[] #[],.func (.func 111) #[] #[]] w λe w'=>∃v,e=.returned v/\zC5 w' w.heap.size v ((zV mkI ((G.size:Int)-24) es).map ptI)/\zJ w w':=by
 obtain⟨b0,hb0⟩:∃b0,b0=w.heap.size:=⟨_,rfl⟩;obtain⟨X,hX⟩:∃X,X=w.heap.size:=⟨_,rfl⟩;obtain⟨z,hzz⟩:∃z,z=(G.size:Int)-24:=⟨_,rfl⟩;rw[<- hzz,<- hb0];obtain⟨w0,hw0⟩:∃w0,w0=w.alloc (gP c s gen):=⟨_,rfl⟩;have m0:zJ w w0:=by rw[hw0];exact (zA.refl _ w).alloc _
 have hBX:zL w0 X (gP c s gen) 31:=by rw[hw0,hX];exact zL.new w _ _
 have HM0:=oh m0;have HW0:=oh hw0;have HXX:=oh hX;have HBX:=oh hBX;have HENV:=oh hL;have HB0:Hid (b0<=w.heap.size):=oh (by omega);have HB0b:Hid (w.heap.size<=b0):=oh (by omega);have HZ:=oh hzz;have HES:=oh hes;have HEV:=oh hev;have HSZ:=oh (λW (m:zJ w W)=>zGP (w:=W) (h.at m) gen);have HEVN:=oh (λW (m:zJ w W) (lv:Value) (L:List PtA) (hv:zC5 W b0 lv L) (hok:∀n∈L,zEm n) (hl:L.length<=100000)=>zLZ (w:=W) (hL.mods m.ext) (h.at m) gen hz lv b0 L hv (uM HB0.out m.size) hok hl);rw[<- hzz] at HEVN;obtain⟨ea,ec,rfl,h1,h2,h3, -⟩:=hev;unfold maxLen at h2;unfold qR at HSZ HEVN ⊢;have HFIT:Hid (∀k,∀g∈yP mkI z [] (es.take k),zD (mkI g)<=z/\g≠[]):=oh (λk g hg=>⟨zAl mkI z (λe=>qC e.2=true) (λx hx=>by rw[zBk];simp[yA];omega) (es.take k) [] (λx hx=>hes x (tC hx)) (by simp) g hg,zA2 mkI z (es.take k) [] (by simp) g hg⟩);clear hL h m0 hw0 hBX hX hb0 hzz hes
 go_enter Tryz.func109, Tryz.ntmps109
 go_wp2_with fail;rw[<- HW0.out,<- HXX.out];go_loopg [9,16] es.length (λm v9 v16 wr=>∃(k:Nat),k+m=es.length/\v16=.int .i64 (k:Int)/\Hid (zC5 wr b0 v9 ((yP mkI z [] (es.take k)).map ptI)/\zJ w wr/\zL wr X (gP c s gen) 31))
 case atStart=>exact⟨0,by omega,rfl,oh ⟨⟨[],zB1.nil _ _⟩,HM0.out,HBX.out⟩⟩
 case round =>
  obtain⟨k,hkm,rfl,HR⟩:=hrel;obtain⟨⟨xs,hxs⟩,hwr,hbx⟩:=HR.out;obtain⟨va,vc,rfl,v1,v2⟩:=hxs.row.form;unfold maxLen at v2;obtain⟨out,hout⟩:∃out,out=yP mkI z [] (es.take k):=⟨_,rfl⟩;rw[<- hout] at hxs;have hxl:xs.length=out.length:=by have:=hxs.len;simpa using this
  have hol:out.length<=100000:=by
   have:=zCf mkI z (es.take k) [];rw[<- hout,uP] at this;simp only[uE] at this;omega
  by_cases hlt:k<es.length
  .obtain⟨e,he⟩:∃e,e=es[k]:=⟨_,rfl⟩;obtain⟨qb,qoff,hqa,hc⟩:=HEV.out.elem hlt hwr;rw[<- he] at hc;have d0:=hc 0 (.int .i64 (e.1:Int)) rfl;have d1:=hc 1 (.string e.2) rfl;simp only[uO] at d0;subst hqa;have HEE:Hid (qC e.2=true):=oh (HES.out e (by rw[he];exact wH hlt));have HTK:Hid (es.take (k+1)=es.take k++[e]):=oh (by rw[he];exact yJ es k es[k] (by simp[hlt]));obtain⟨Q,hQ⟩:∃Q,Q=wr.heap.size:=⟨_,rfl⟩;obtain⟨wq,hwq⟩:∃wq,wq=wr.alloc (.cells #[.int .i64 (e.1:Int),.string e.2] 151):=⟨_,rfl⟩;have hrq:zJ wr wq:=by rw[hwq];exact (zA.refl _ _).alloc _
   have hbq:zL wq Q #[.int .i64 (e.1:Int),.string e.2] 151:=by rw[hwq,hQ];exact zL.new wr _ _
   have i1:(0:Int)<=(k:Int):=by omega
   have i2:(k:Int)<(es.length:Int):=by omega
   have HXQ:=oh (hwr.trans hrq);have HPQ:=oh (hxs.ext hrq);have hbx2:=hbx.ext hrq;have HBQ:=oh hbx2;have HELT:=oh hbq;have P0:=oh (hbx2.cell (o:=0) (v:=.pointer (some ⟨c,0,none⟩)) rfl);have P1:=oh (hbx2.cell (o:=1) (v:=.pointer (some ⟨s,0,none⟩)) rfl);have P2:=oh (hbx2.cell (o:=2) (v:=.int .u64 (gen:Int)) rfl);have E0:=oh (hbq.cell (o:=0) (v:=.int .i64 (e.1:Int)) rfl);have E1:=oh (hbq.cell (o:=1) (v:=.string e.2) rfl);have HWQ:=oh hwq;have HQQ:=oh hQ;have HBEG:=oh (λW=>zMx (w:=W) e.1 e.2);have HOUT:=oh hout;have HXL:=oh hxl;clear hxs hwr hbx hc he hQ hwq hrq hbq hbx2 hout hxl;rcases zF1 out with rfl|⟨pre,gl,rfl⟩
   .obtain rfl:xs=[]:=wL.1 (by have:=HXL.out;simpa using this);have HNX:Hid (yP mkI z [] (es.take (k+1))=[]++[[e]]):=oh (by rw[HTK.out,zA8,<- HOUT.out];rfl);simp only[uE];go_wp2_with fail;rw[<- HWQ.out,<- HQQ.out];have e0:=E0.out;have e1:=E1.out;go_wp2_with fail;refine (HBEG.out _).mono ?_;rintro en w3 ⟨bv,rfl,⟨xn,rfl,hpn⟩,hm3⟩;have HX3:=oh (HXQ.out.trans hm3);have HP3:=oh (HPQ.out.ext hm3);have HB3:=oh (HBQ.out.ext hm3);have HPN:=oh (hpn.rebase (show b0<=wq.heap.size from uM HB0.out HXQ.out.size));clear hpn hm3;unfold ptV;have hl3:zL (w3.alloc (.cells #[.bool xn.lf,zW xn.e,zW xn.k,zW xn.i,.string xn.s] 197)) w3.heap.size #[.bool xn.lf,zW xn.e,zW xn.k,zW xn.i,.string xn.s] 197:=zL.new w3 _ _;have HL3:=oh hl3;have HMA:Hid (zJ w3 (w3.alloc (.cells #[.bool xn.lf,zW xn.e,zW xn.k,zW xn.i,.string xn.s] 197))):=oh ((zA.refl _ w3).alloc _);clear hl3;go_wp2_with (at_builtin;refine yH Tryz.elPt jG rfl _ _ rfl b0 _ _ ([]:List PtV) [xn] rfl rfl (HP3.out.row.ext HMA.out) (Sl.one (F:=λ_=>False) (x:=xn) (enc:=zCT) (sz:=5) HL3.out (λf=>f)) (by simp only[uD,uE];omega) (by have:=HB0.out;have:=HX3.out.size;have:=HMA.out.size;omega) (λf=>f) ?_;simp only[uD,uE,uR];intro a6 c6 w6 hO6 hm6 hat6);have HS6:Hid (zC5 w6 b0 (.slice a6 (0+1) c6) ((yP mkI z [] (es.take (k+1))).map ptI)/\zJ w w6/\zL w6 X (gP c s gen) 31):=oh ⟨⟨([]:List PtV)++[xn],by
     rw[HNX.out,wF];exact (HP3.out.ext HMA.out).app hm6 (by simpa using hO6) (HPN.out.ext HMA.out)⟩,zA.past (HX3.out.trans HMA.out) (hm6.mono (λk hk=>uM HB0b.out (((HP3.out.row.ext HMA.out).lt k hk).1))),(HB3.out.ext HMA.out).mods hm6 (λhk=>(HP3.out.row.ext HMA.out).notB (HB3.out.ext HMA.out) (by decide) _ hk rfl)⟩
    clear hO6 hm6 hat6;go_wp2_with fail;go_roundg (gk-1)
    case measure=>omega
    case rel=>exact⟨k+1,by omega,by go_num,HS6⟩
   .obtain⟨ys,xb,rfl⟩:∃ys xb,xs=ys++[xb]:=by
     rcases zF1 xs with rfl|h
     .have:=HXL.out;simp at this
     .exact h
    obtain⟨p,hp⟩:∃p,p=ys.length:=⟨_,rfl⟩;have hpl:(ys++[xb]).length=p+1:=by rw[hp];simp
    have hpr:pre.length=p:=by have:=HXL.out;simp at this;omega
    have hpb:p<=100000:=by simp at hol;omega
    obtain⟨g,rfl⟩:=HPQ.out.row.some' (by simp);have hgb:(ys++[xb])[p]? = some xb:=by rw[hp];simp
    have hlb:((pre++[gl]).map ptI)[p]? = some (ptI gl):=by rw[<- hpr];simp
    have HB:=oh (HPQ.out.at_ p xb _ hgb hlb);have hsl:=HPQ.out.row.sl jG.len (by rw[hpl];omega);have HPP:Hid (zB1 wq b0 (.slice (some ⟨g,0,none⟩) (p+1) vc) (ys++[xb]) ((pre++[gl]).map ptI)):=oh (by have:=HPQ.out;rwa [hpl] at this);rw[hpl] at hsl v1;have B0:=oh (hsl.cellsAt hgb 0 _ rfl);have B1:=oh (hsl.cellsAt hgb 1 _ rfl);have B2:=oh (hsl.cellsAt hgb 2 _ rfl);have B3:=oh (hsl.cellsAt hgb 3 _ rfl);have B4:=oh (hsl.cellsAt hgb 4 _ rfl);simp only[uR,uO] at B0 B1 B2 B3 B4;have hfg:=HFIT.out k gl (by rw[<- HOUT.out];simp);have HGL:Hid (gl≠[]):=oh hfg.2;have HOKG:Hid (zD (mkI gl)<=1000):=oh (by have:=HZ.out;omega);have HMORE:=oh (λW (m:zJ wq W)=>zPB e (HB.out.ext m) (uM HB0.out (HXQ.out.trans m).size) (by have:=HOKG.out;rw[zBk] at this;have:=zGQ (gl.tail.map (·.2));rw[uU,rI] at this;omega) HGL.out);unfold ptV at HMORE;have HSUB:Hid (∀x∈gl,qC x.2=true):=oh (λx hx=>HES.out x (by
     have hf:=vN mkI z (es.take k) [];rw[<- HOUT.out] at hf;have:x∈(pre++[gl]).flatten:=by simp[hx]
     rw[hf] at this;exact tC (by simpa using this)))
    have j1:IntKind.i64.wrap (p:Int)=(p:Int):=IntWalk.i64_in _ (by omega);have j2:(0:Int)<=(p:Int):=by omega
    have j3:(p:Int)<(p:Int)+1:=by omega
    have HPL:=oh (And.intro hpl (And.intro hpr hp));rw[hpl];clear hsl hgb hlb hfg hp hpl hpr;go_wp2_with fail;rw[<- HWQ.out,<- HQQ.out];go_wp2_with fail;go_cut [13] (λv13 wx=>∃Y,v13=.pointer (some ⟨Y,0,none⟩)/\Hid (zM5 wq b0 (ptI (gl++[e])) wx Y))
    case first =>
     have HS9:=λ(W:World) (m:zJ wq W)=>And.intro (zC m E0.out) (And.intro (zC m E1.out) (And.intro (zC m B0.out) (And.intro (zC m B1.out) (And.intro (zC m B2.out) (And.intro (zC m B3.out) (zC m B4.out))))))
     have zd:=HS9 _ (zA.refl _ wq).drew;have za:=HS9 _ ((zA.refl _ wq).alloc (.cells #[.bool false,.slice none 0 0,.slice none 0 0,.slice none 0 0,.string ⟨#[]⟩] 197)).drew;go_region_held3 (λw'=>w'.cell? ⟨Q,0,none⟩=some (.int .i64 (e.1:Int))/\w'.cell? ⟨Q,1,none⟩=some (.string e.2)/\w'.cell? ⟨g,p * 5,none⟩=some (.bool xb.lf)/\w'.cell? ⟨g,p * 5+1,none⟩=some (zW xb.e)/\w'.cell? ⟨g,p * 5+2,none⟩=some (zW xb.k)/\w'.cell? ⟨g,p * 5+3,none⟩=some (zW xb.i)/\w'.cell? ⟨g,p * 5+4,none⟩=some (.string xb.s))
      (first|(with_reducible exact zd)|(with_reducible exact za)|(with_reducible exact z5)|(with_reducible exact z7)|(with_reducible exact z6)|fail)
      (first
       | (go_at_call 111;(with_reducible refine (HMORE.out _ ((zA.refl _ wq).drew)).mono ?_);rintro en U ⟨mv,rfl,⟨xn,rfl,hpn⟩,mU⟩;have x5:=((zA.refl _ wq).drew).trans mU;have z5:=HS9 _ x5;have z7:=HS9 _ (x5.alloc (.cells #[.bool false,.slice none 0 0,.slice none 0 0,.slice none 0 0,.string ⟨#[]⟩] 197));have x6:=x5.alloc (.cells #[.bool xn.lf,zW xn.e,zW xn.k,zW xn.i,.string xn.s] 197);have z6:=HS9 _ x6;have HFIN:=oh (show zM5 wq b0 (ptI (gl++[e])) _ U.heap.size from ⟨xn,x6,zL.new U _ _,hpn.ext ((zA.refl _ U).alloc _)⟩);unfold ptV)
       | (go_at_call 111;(with_reducible refine (HMORE.out _ (((zA.refl _ wq).alloc (.cells #[.bool false,.slice none 0 0,.slice none 0 0,.slice none 0 0,.string ⟨#[]⟩] 197)).drew)).mono ?_);rintro en U ⟨mv,rfl,⟨xn,rfl,hpn⟩,mU⟩;have x5:=(((zA.refl _ wq).alloc (.cells #[.bool false,.slice none 0 0,.slice none 0 0,.slice none 0 0,.string ⟨#[]⟩] 197)).drew).trans mU;have z5:=HS9 _ x5;have hB:=(zL.new wq #[.bool false,.slice none 0 0,.slice none 0 0,.slice none 0 0,.string ⟨#[]⟩] 197).drew.ext mU;have r0:=hB.cell (o:=0) (v:=.bool false) rfl;have r1:=hB.cell (o:=1) (v:=.slice none 0 0) rfl;have r2:=hB.cell (o:=2) (v:=.slice none 0 0) rfl;have r3:=hB.cell (o:=3) (v:=.slice none 0 0) rfl;have r4:=hB.cell (o:=4) (v:=.string ⟨#[]⟩) rfl;have rf:=hB.frozen;have x6:=zA.set5 x5 (R:=wq.heap.size) (.inl (uJ _)) (.bool xn.lf) (zW xn.e) (zW xn.k) (zW xn.i) (.string xn.s);have z6:=HS9 _ x6;have HFIN:=oh (show zM5 wq b0 (ptI (gl++[e])) _ wq.heap.size from ⟨xn,x6,hB.set5 (.bool xn.lf) (zW xn.e) (zW xn.k) (zW xn.i) (.string xn.s),hpn.blk hB (zA.set5 (F:=λk=>k=wq.heap.size) (zA.refl _ _) (R:=wq.heap.size) (.inr rfl) (.bool xn.lf) (zW xn.e) (zW xn.k) (zW xn.i) (.string xn.s)) (by decide) (by decide) (by decide)⟩);unfold ptV)
       | fail)
     all_goals
      go_wp2_with fail;go_meet;exact⟨_,rfl,HFIN⟩
    case rest =>
     obtain⟨Y,rfl,HN⟩:=hcut;obtain⟨xn,x8,hbn,hpn⟩:=HN.out;obtain⟨w8,rfl⟩:∃w8:World,w8=wc:=⟨_,rfl⟩;have N0:=oh (hbn.cell (o:=0) rfl);have N1:=oh (hbn.cell (o:=1) rfl);have N2:=oh (hbn.cell (o:=2) rfl);have N3:=oh (hbn.cell (o:=3) rfl);have N4:=oh (hbn.cell (o:=4) rfl);have XW8:=oh (HXQ.out.trans x8);have HBN:=oh hbn;have HPN:=oh hpn;have HP8:=oh (HPP.out.ext x8);have HB8:=oh (HBQ.out.ext x8);have P0:=oh (zC x8 P0.out);have P1:=oh (zC x8 P1.out);have P2:=oh (zC x8 P2.out);have E0:=oh (zC x8 E0.out);have E1:=oh (zC x8 E1.out);have HSM:=oh (zM4 (g:=gl++[e]) (by intro x hx;rcases uG.1 hx with hx|hx;exact HSUB.out x hx;rw[wS.1 hx];exact HEE.out) (by have:=HOKG.out;have:=(vC e.2).1 HEE.out;rw[zBk] at *;rw[zBV HGL.out,wF,qI];simp only[yA,uW,tW];omega));have HFT:Hid (∀W,zJ w8 W -> Calls Tryz.prog 97 #[.agg #[.bool xn.lf,zW xn.e,zW xn.k,zW xn.i],.int .i64 (G.size:Int)] W λen w'=>en=.returned (.bool (decide (zD (mkI (gl++[e]))<=z)))/\zJ W w'):=oh (λW m=>by
      have h:=HPN.out.ext m;have:=zCC (F:=NoF) (mkI (gl++[e])) (zW xn.e) (zW xn.k) (zW xn.i) W (h.e.sl yU.len (uM HSM.out.1 (by omega))) (h.k.sl yV.len (uM HSM.out.2.1 (by omega))) (nT HSM.out.2.2.2.1 (by omega)) (G.size:Int) (by omega) (by omega);rw[show (mkI (gl++[e])).leaf=xn.lf from h.lf.symm,<- HZ.out] at this;exact this)
     clear x8 hbn hpn;go_wp2_with fail;refine wp_region_held_drew (S:=(λw'=>w'.cell? ⟨X,0,none⟩=some (.pointer (some ⟨c,0,none⟩))/\w'.cell? ⟨X,1,none⟩=some (.pointer (some ⟨s,0,none⟩))/\w'.cell? ⟨X,2,none⟩=some (.int .u64 (gen:Int))/\w'.cell? ⟨Y,0,none⟩=some (.bool xn.lf)/\w'.cell? ⟨Y,1,none⟩=some (zW xn.e)/\w'.cell? ⟨Y,2,none⟩=some (zW xn.k)/\w'.cell? ⟨Y,3,none⟩=some (zW xn.i))) (by kernel_rfl) ⟨zC (zA.refl _ _).drew P0.out,zC (zA.refl _ _).drew P1.out,zC (zA.refl _ _).drew P2.out,zC (zA.refl _ _).drew N0.out,zC (zA.refl _ _).drew N1.out,zC (zA.refl _ _).drew N2.out,zC (zA.refl _ _).drew N3.out⟩ (λhHeld=>?_);obtain⟨Wd,hWd⟩:∃W,W=w8.drew:=⟨_,rfl⟩;rw[<- hWd] at hHeld ⊢;have xWd:zJ w8 Wd:=by rw[hWd];exact (zA.refl _ _).drew
     clear hWd;refine tkH 0 ⟨some 32,_,_,_,_,_⟩ ?_;try go_frame
     refine tkH 1 ⟨some 33,_,_,_,_,_⟩ ?_;try go_frame
     refine tkH 2 ⟨some 34,_,_,_,_,_⟩ ?_;try go_frame
     refine wpAnyH_ready (rs:=[3]) (by kernel_rfl) (by simp) ?_;refine AllReadyH.cons (o:=⟨some 35,_,_,_,_,_⟩) rfl (λK hK=>?_) AllReadyH.nil;go_simp;go_at_call 157
     (with_reducible refine (HSZ.out _ (XW8.out.trans xWd)).mono ?_)
     rintro en V1 ⟨rfl,mV1⟩;have xV1:=xWd.trans mV1;refine hK.out _ _ (by first|exact⟨zC xV1 P0.out,zC xV1 P1.out,zC xV1 P2.out,zC xV1 N0.out,zC xV1 N1.out,zC xV1 N2.out,zC xV1 N3.out⟩|go_keep) (λhHeld=>?_);clear hK;try go_frame
     refine wpAnyH_ready (rs:=[4]) (by kernel_rfl) (by simp) ?_;refine AllReadyH.cons (o:=⟨some 36,_,_,_,_,_⟩) rfl (λK hK=>?_) AllReadyH.nil;go_simp;go_at_call 97
     (with_reducible refine (HFT.out _ xV1).mono ?_)
     rintro en V2 ⟨rfl,mV2⟩;have xV2:=xV1.trans mV2;refine hK.out _ _ (by first|exact⟨zC xV2 P0.out,zC xV2 P1.out,zC xV2 P2.out,zC xV2 N0.out,zC xV2 N1.out,zC xV2 N2.out,zC xV2 N3.out⟩|go_keep) (λhHeld=>?_);clear hK;try go_frame
     refine wpAnyH_done (by kernel_rfl) ?_ _;have HX8:=oh xV2;clear xV1 xV2 mV1 mV2 xWd;obtain⟨w9,rfl⟩:∃w9:World,w9=V2:=⟨_,rfl⟩;have HX9:=oh (XW8.out.trans HX8.out);have HP9:=oh (HP8.out.ext HX8.out);have HB9:=oh (HB8.out.ext HX8.out);have HPN:=oh (HPN.out.ext HX8.out);have n0:=zC HX8.out N0.out;have n1:=zC HX8.out N1.out;have n2:=zC HX8.out N2.out;have n3:=zC HX8.out N3.out;have n4:=zC HX8.out N4.out;have e0:=zC HX8.out E0.out;have e1:=zC HX8.out E1.out;by_cases hfit:zD (mkI (gl++[e]))<=z
     .have HNX:Hid (yP mkI z [] (es.take (k+1))=pre++[gl++[e]]):=oh (by
       rw[HTK.out,zA8,<- HOUT.out];simp[yP,hfit])
      obtain⟨g',c',hgs, -, -,hg3,hg4,hgf⟩:=HP9.out.row.some (by simp);injection hgs with hgs hgn hgc;injection hgs with hgs;injection hgs with hgs;subst hgs hgc;have hsl:=HP9.out.row.sl jG.len (by have:=HPL.out.1;omega);have hgb:(ys++[xb])[p]? = some xb:=by rw[HPL.out.2.2];simp
      have b0':=hsl.cellsAt hgb 0 _ rfl;have b1':=hsl.cellsAt hgb 1 _ rfl;have b2':=hsl.cellsAt hgb 2 _ rfl;have b3':=hsl.cellsAt hgb 3 _ rfl;have b4':=hsl.cellsAt hgb 4 _ rfl;simp only[uR,uO] at b0' b1' b2' b3' b4';have f0:=hgf (p * 5);have f1:=hgf (p * 5+1);have f2:=hgf (p * 5+2);have f3:=hgf (p * 5+3);have f4:=hgf (p * 5+4);have hput:=zU.put5 HP9.out.row xn;have hmod:=zA.put5 (g:=g) w9 (ys.length * 5) (p+1) vc (.bool xn.lf) (zW xn.e) (zW xn.k) (zW xn.i) (.string xn.s);rw[<- HPL.out.2.2] at hput hmod;have HS6:Hid (zC5 (((((w9.setCell ⟨g,p * 5,none⟩ (.bool xn.lf)).setCell ⟨g,p * 5+1,none⟩ (zW xn.e)).setCell ⟨g,p * 5+2,none⟩ (zW xn.k)).setCell ⟨g,p * 5+3,none⟩ (zW xn.i)).setCell ⟨g,p * 5+4,none⟩ (.string xn.s)) b0 (.slice (some ⟨g,0,none⟩) (p+1) vc) ((yP mkI z [] (es.take (k+1))).map ptI)/\zJ w (((((w9.setCell ⟨g,p * 5,none⟩ (.bool xn.lf)).setCell ⟨g,p * 5+1,none⟩ (zW xn.e)).setCell ⟨g,p * 5+2,none⟩ (zW xn.k)).setCell ⟨g,p * 5+3,none⟩ (zW xn.i)).setCell ⟨g,p * 5+4,none⟩ (.string xn.s))/\zL (((((w9.setCell ⟨g,p * 5,none⟩ (.bool xn.lf)).setCell ⟨g,p * 5+1,none⟩ (zW xn.e)).setCell ⟨g,p * 5+2,none⟩ (zW xn.k)).setCell ⟨g,p * 5+3,none⟩ (zW xn.i)).setCell ⟨g,p * 5+4,none⟩ (.string xn.s)) X (gP c s gen) 31):=oh ⟨⟨ys++[xn],by
       rw[HNX.out,wF];have:=HP9.out;rw[wF] at this;exact this.last hmod hput HPN.out⟩,zA.past HX9.out (hmod.mono (λk hk=>uM HB0b.out ((HP9.out.row.lt k hk).1))),HB9.out.mods hmod (λhk=>HP9.out.row.notB HB9.out (by decide) _ hk rfl)⟩
      clear hsl hgb hput hmod hgn hg3 hg4 hgf;go_wp2_with fail;go_roundg (gk-1)
      case measure=>omega
      case rel=>exact⟨k+1,by omega,by go_num,HS6⟩
     .have HNX:Hid (yP mkI z [] (es.take (k+1))=(pre++[gl])++[[e]]):=oh (by
       rw[HTK.out,zA8,<- HOUT.out];simp[yP,hfit])
      go_wp2_with fail;refine (HBEG.out _).mono ?_;rintro en w3 ⟨bv,rfl,⟨xn,rfl,hpn⟩,hm3⟩;have HX3:=oh (HX9.out.trans hm3);have HP3:=oh (HP9.out.ext hm3);have HB3:=oh (HB9.out.ext hm3);have HPN:=oh (hpn.rebase (show b0<=w9.heap.size from uM HB0.out HX9.out.size));clear hpn hm3;unfold ptV;have hl3:zL (w3.alloc (.cells #[.bool xn.lf,zW xn.e,zW xn.k,zW xn.i,.string xn.s] 197)) w3.heap.size #[.bool xn.lf,zW xn.e,zW xn.k,zW xn.i,.string xn.s] 197:=zL.new w3 _ _;have HL3:=oh hl3;have HMA:Hid (zJ w3 (w3.alloc (.cells #[.bool xn.lf,zW xn.e,zW xn.k,zW xn.i,.string xn.s] 197))):=oh ((zA.refl _ w3).alloc _);clear hl3;go_wp2_with (at_builtin;refine yH Tryz.elPt jG rfl _ _ rfl b0 _ _ (ys++[xb]) [xn] rfl rfl (HP3.out.row.ext HMA.out) (Sl.one (F:=λ_=>False) (x:=xn) (enc:=zCT) (sz:=5) HL3.out (λf=>f)) (by have:=HPL.out.1;simp only[uD,uE];omega) (by have:=HB0.out;have:=HX3.out.size;have:=HMA.out.size;omega) (λf=>f) ?_;simp only[uD,uE,uR];intro a6 c6 w6 hO6 hm6 hat6);have HS6:Hid (zC5 w6 b0 (.slice a6 (ys.length+1+1) c6) ((yP mkI z [] (es.take (k+1))).map ptI)/\zJ w w6/\zL w6 X (gP c s gen) 31):=oh ⟨⟨(ys++[xb])++[xn],by
       rw[HNX.out,wF];exact (HP3.out.ext HMA.out).app hm6 (by simpa using hO6) (HPN.out.ext HMA.out)⟩,zA.past (HX3.out.trans HMA.out) (hm6.mono (λk hk=>uM HB0b.out (((HP3.out.row.ext HMA.out).lt k hk).1))),(HB3.out.ext HMA.out).mods hm6 (λhk=>(HP3.out.row.ext HMA.out).notB (HB3.out.ext HMA.out) (by decide) _ hk rfl)⟩
      clear hO6 hm6 hat6;go_wp2_with fail;go_roundg (gk-1)
      case measure=>omega
      case rel=>exact⟨k+1,by omega,by go_num,HS6⟩
  .have hk:k=es.length:=by omega
   have HXE:=oh hxs;have HXW:=oh hwr;have hall:es.take k=es:=by rw[hk,wU]
   have b0':=hbx.cell (o:=0) (v:=.pointer (some ⟨c,0,none⟩)) rfl;have b1':=hbx.cell (o:=1) (v:=.pointer (some ⟨s,0,none⟩)) rfl;have b2':=hbx.cell (o:=2) (v:=.int .u64 (gen:Int)) rfl;have hok:∀n∈out.map ptI,zEm n:=λn hn=>by
    obtain⟨g,hg,rfl⟩:=wY.1 hn;have hfg:=HFIT.out k g (by rw[<- hout];exact hg);refine zM4 (λx hx=>HES.out x ?_) (by have:=HZ.out;omega);have hf:=vN mkI z (es.take k) [];rw[<- hout] at hf;have:x∈out.flatten:=rG.2 ⟨g,hg,hx⟩;rw[hf] at this;exact tC (by simpa using this)
   have HEV2:=oh (HEVN.out wr hwr _ _ ⟨xs,hxs⟩ hok (by rw[uU];exact hol));have HGR:Hid (zCp z (out.map ptI)=(zV mkI z es).map ptI):=oh (by
    rw[zRf out (λg hg=>(HFIT.out k g (by rw[<- hout];exact hg)).2),hout,hall];rfl)
   clear hxs hwr hbx hout hok hxl hall hk;go_wp2_with fail;refine HEV2.out.mono ?_;rintro en w3 ⟨v,rfl,hv,hm3⟩;have HV:=oh hv;have HM3:=oh hm3;clear hv hm3;go_wp2_with fail;go_ret;exact⟨_,rfl,by rw[<- HGR.out];exact HV.out,HXW.out.trans HM3.out⟩
end
section
variable {P F:Nat->Prop}{ad:Nat->Addr}{w:World}{c s:Nat}{G:GA}{l:List Nat}
theorem zM6(hL:yW F ad w)(h:yS F w P c s G l)(gen:Nat)(hz:256<=G.size/\G.size<=1024)(ev:Value)(es:List jQ)(hev:Sl F w 2 zEO ev es)(hes:∀e∈es,qC e.2=true)(hlen:es.length<=100000) :
  Calls Tryz.prog 69 #[qR c s gen,ev] w λe w'=>∃v,e=.returned v/\zC5 w' w.heap.size v ((zV mkI ((G.size:Int)-24) es).map ptI)/\zJ w w':=by
 have m0:zJ w (w.alloc (gP c s gen)):=(zA.refl _ w).alloc _;have HF:=zPC (hL.mods m0.ext) (h.at m0) gen hz ev es (hev.ext m0) hes hlen;unfold qR at HF ⊢;have HF:=oh HF;have HM0:=oh m0;clear hL h m0 hev
 go_enter Tryz.func69, Tryz.ntmps69
 go_wp2_with fail;refine HF.out.mono ?_;rintro en w1 ⟨v,rfl,⟨xs,hxs⟩,hm⟩;have HX:=oh (hxs.rebase (show w.heap.size<=_ from HM0.out.size));have HM:=oh hm;clear hxs hm;go_wp2_with fail;go_ret;exact⟨_,rfl,⟨xs,HX.out⟩,HM0.out.trans HM.out⟩
end
end Go.Proofs.YtchklfmggpconaaGreatDoor
