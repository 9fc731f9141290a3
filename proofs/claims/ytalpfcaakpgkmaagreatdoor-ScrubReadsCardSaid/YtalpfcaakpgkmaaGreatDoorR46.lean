import Derived.Test.YtalpfcaakpgkmaaGreatDoorR45
import Derived.Test.YtalpfcaakpgkmaaGreatDoorR41
import Derived.Deep.RegionLawGrows
import Derived.Deep.RegionHeld3
import Derived.BigQuiet
namespace Go.Proofs.YtalpfcaakpgkmaaGreatDoor
open Lib renaming hid->oh
set_option maxHeartbeats 4000000
set_option maxRecDepth 100000
section
open Go.RowKit Go.Maps
attribute [local go_sem ↓] Go.wp_at_zero Go.wp_at_succ
end
section
open Go.RowKit
section
variable {G H:GA}{gen:Nat}
theorem zDv.seen{e:zM}{v:ByteArray}{ids:List Nat}(h:zDv G gen e v ids):∀i∈ids,∃p,G.view i=some (.inl p):=by
 intro i hi;rcases h with ⟨_,_,rfl⟩|⟨_,h⟩
 .simp at hi
 .obtain⟨g,_,hp⟩:=h.page;obtain⟨k,hk,rfl⟩:=wF hi;have:=hp k hk;rw[show ids.getD k 0=ids[k] by simp[List.getD,hk]] at this;exact⟨_,this⟩
theorem vU.seen{es:List zM}{ps:List zL}{q:List Nat}(h:vU G gen es ps q):∀i∈q,∃p,G.view i=some (.inl p):=by
 induction h with
 | nil=>intro i hi;simp at hi
 | cons _ h2 _ ih=>intro i hi;exact (uM.1 hi).elim (h2.seen i) (ih i)
theorem qY.seen{T:zDR}{lo:ByteArray}{hi:Option ByteArray}{kk:List ByteArray}{cc:List Int}{ps:List zL}{q:List Nat}(hT:∀lo hi c ps q,T lo hi c ps q->∀i∈q,∃p,G.view i=some (.inl p))(h:qY T lo hi kk cc ps q):∀i∈q,∃p,G.view i=some (.inl p):=by
 induction h with
 | one h=>exact hT _ _ _ _ _ h
 | cons h1 _ _ ih=>intro i hi;exact (uM.1 hi).elim (hT _ _ _ _ _ h1 i) (ih i)
theorem vX.seen:∀(d:Nat) (lo:ByteArray) (hi:Option ByteArray) (id:Nat) (ps:List zL) (q:List Nat),vX G gen d lo hi id ps q->∀i∈q,∃p,G.view i=some (.inl p)
 | 0,_,_,_,_,_,h=>h.elim
 | d+1,lo,hi,id,ps,pgs,h=>by
  obtain⟨n,q,h1,_,rfl,h3⟩:=h;intro i hi;rcases uQ.1 hi with rfl|hi
  .obtain⟨p,hp,_⟩:=h1.page;exact⟨_,hp⟩
  .rcases h3 with ⟨_,_,_,h4,_⟩|⟨_,h4⟩
   .exact h4.seen i hi
   .exact h4.seen (vX.seen d) i hi
theorem TD.seen{root d:Nat}{ps:List zL}{pgs:List Nat}(h:TD G gen root d ps pgs):∀i∈pgs,∃p,G.view i=some (.inl p):=by
 rcases h.tree with ⟨_,_,_,rfl⟩|⟨_,h⟩
 .intro i hi;simp at hi
 .exact vX.seen _ _ _ _ _ _ h
end
structure zFL(D:zJ)(s:yG)(m:qW)(dd:Nat)(ps:List zL)(pgs:List Nat):Prop where
 well:zHA D s m
 td:TD (zAI D) s.gen s.root dd ps pgs
 hi:∀i∈pgs,6<=i
 keys:s.keys=ps.length
theorem zPh[zQ]{C:qL}{G:GA}(hI:yJ C)(hR:qZ C G){id:Nat}{p:zY}{b:List UInt8}(hv:G.view id=some (.inl p))(hl:G.look id=some b):zV (C.disk.look id) id=.inl p:=by
 have h1:=hR.view id _ hv;have h2:=(hR.look id b (.inl hl)).2;unfold qL.vw at h1;split at h1
 .rename_i s hf;have hs:=List.find?_some hf;obtain⟨j,hj,e⟩:=wF (List.mem_of_find?_eq_some hf);have C3:C.slots[j]? = some s:=by rw[<- e];exact uB hj
  obtain⟨a1,a2⟩:=yR.1 hs;have hc:=hI.clean j s C3 a1 (h2 j s C3 hs);rw[a2,uH] at hc;rw[hc];exact h1
 .exact h1
section
variable {P F:NP}{ad:Nat->Addr}{w:World}{d S c sp n z:Nat}{s:yG}{G:GA}{l:List Nat}
theorem zR2[i0:zQ]{hh root dd:Nat}{ps:List zL}{pgs pgs0:List Nat}(hL:yH F ad w)(hP:∀k,P k->F k)(h:zGR F w P z n S d c sp s hh (zE2 G) l root dd ps pgs pgs0)(hr:s.root=root)(hk:s.keys=ps.length)(hT:TD G s.gen root dd ps pgs)(hg:s.gen<1000000) :
  ∃D Pd m,DkS w Pd d D/\(∀k,Pd k->F k)/\zFL D s m dd ps pgs/\D.blocks=n/\D.size=z:=by
 obtain⟨m,Ac,Bb,Cj,Ck⟩:=h.gho.low;have h6:=Ac.low;obtain⟨C,hS,hI,hR,Bc,Dl⟩:=h.st.open h.gho.disk;obtain⟨Pd,hD,Cl, -⟩:=hS.dk hL hP;have hb:C.disk.blocks=n:=hR.blocks.trans h.lawn.blk;have hz:C.disk.size=z:=hR.size.trans h.lawn.size;have hw:C.disk.waiting=[]:=by
  have h1:=hR.cost;unfold qL.cost at h1;have h2:(zE2 G).cost=0:=rfl;exact tE (by omega)
 have Bd:∀j,j<6->C.disk.look j=zCY j:=λj hj=>(hR.look j (zCY j) (.inr ⟨by omega,rfl⟩)).1
 have Au:=zBA s.gen 0 (by omega);have Cm:=zBA s.gen 1 (by omega);refine⟨C.disk,Pd,m,hD,Cl,⟨⟨⟨hI.off,hI.lit,hw,hI.lenL,hI.len,hI.b8,hI.b256,hI.s256,hI.s1024⟩,h.gho.blk.trans hb.symm,h.gho.siz.trans hz.symm,h.gho.ok,by omega,?_,?_,Bb,Cj,Ck,?_,?_⟩,?_,h.lawn.hi,hk⟩,hb,hz⟩
 .rw[Bd 0 (by omega)];exact Ac.sup0
 .rw[Bd 1 (by omega)];exact Ac.sup1
 .rw[Bd _ Au.2,Ac.map0,h.gho.siz,hz]
 .rw[Bd _ Cm.2,Ac.map1,h.gho.siz,hz]
 .rw[hr];refine hT.mono (uD _) (by show C.disk.blocks=_;exact hR.blocks) (by show C.disk.size=_;exact hR.size) (λi hi=>?_);obtain⟨p,hp⟩:=hT.seen i hi;have Bh:=(hT.lt i hi).2;have Cn:i<C.disk.blocks:=by rw[hR.blocks];exact Bh
  have hv:(zE2 G).view i=some (.inl p):=hp;have hl:(zE2 G).look i=some (jX p G.size):=by
   show (match G.view i with|some (.inl p)=>some (jX p G.size)|_=>G.look i)=_;rw[hp]
  rw[hp];show (if i<C.disk.blocks then some (zV (C.disk.look i) i) else none)=_;rw[if_pos Cn,zPh hI hR hv hl]
end
end
section
open Go.RowKit
attribute [local go_sem ↓] Go.wp_at_zero Go.wp_at_succ
theorem Tryz.geoSz:(Tryz.prog.info? 53).map (·.size)=some 2:=by kernel_rfl
theorem zPi(w:World) : Calls Tryz.prog 16 #[] w λe w'=>e=.returned (.agg #[.int .i64 120,.int .i64 256])/\zF w w':=by
 go_enter Tryz.func16, Tryz.ntmps16
 go_wp2_with fail;have hb:=zG.new w #[.int .i64 120,.int .i64 256] 53;refine bodyPost_ret (results_cell_row rfl _ _ w.heap.size 53 #[.int .i64 120,.int .i64 256] (0,0) _ rfl hb Tryz.underlying53 rfl Tryz.geoSz) rfl ?_;exact⟨rfl,(zss w).alloc _⟩
def MdS(ad:Nat->Addr)(w0:World)(S d c sp k:Nat)(L:List zL)(wv:Value)(wr:World):Prop :=
 ∃(_:zQ) (P F:NP) (s:yG) (hh:Nat) (G:GA) (l:List Nat) (root dd:Nat) (ps:List zL) (pgs pgs0:List Nat),
  zGR F wr P 256 120 S d c sp s hh G l root dd ps pgs pgs0/\zX NoB (qB P S) NoB F ad w0 wr/\Sl F wr 2 zCE wv ps/\ps=(zAa L k).1/\s.gen=(zAa L k).2/\ps.length<=k/\pgs0.length<=15 * (k / 5)-1/\(2<=ps.length->∀i∈pgs,zCv (G.view i))/\G.cost<=61 * k/\s.gen<=k+1
def zSG(ad:Nat->Addr)(w:World)(L:List zL)(e:Ending)(w':World):Prop :=
 ∃(d:Nat) (D:zJ) (Pd F:NP) (s:yG) (m:qW) (dd:Nat) (pgs:List Nat) (wa:Option Addr) (wc:Nat),
  e=.returned (.tuple #[.pointer (some ⟨d,0,none⟩),.slice wa (zAa L (min L.length 20)).1.length wc,.bool true])/\DkS w' Pd d D/\zFL D s m dd (zAa L (min L.length 20)).1 pgs/\D.blocks=120/\D.size=256/\s.gen=(zAa L (min L.length 20)).2+1/\s.gen<=22/\(zAa L (min L.length 20)).1.length<=20 /\
  zX NoB Pd NoB F ad w w'/\Sl F w' 2 zCE (.slice wa (zAa L (min L.length 20)).1.length wc) (zAa L (min L.length 20)).1
section
variable {ad:Nat->Addr}{w:World}
theorem zRI{P F Pd:NP}{w w':World}(n:zX NoB P NoB F ad w w')(h1:∀k,Pd k->F k)(h2:∀k,Pd k->k<w'.heap.size):zX NoB Pd NoB F ad w w' :=
 ⟨⟨n.stp.mods,λk hk h=>n.oldF k hk (h1 k h),h2⟩,h1,n.grow,n.oldF,n.env⟩
theorem zGR.atS[zQ]{P F:NP}{wr w':World}{z n S d c sp:Nat}{s:yG}{hh root dd:Nat}{G:GA}{l:List Nat}{ps:List zL}{pgs pgs0:List Nat}(h:zGR F wr P z n S d c sp s hh G l root dd ps pgs pgs0)(m:zF wr w'):zGR F w' P z n S d c sp s hh G l root dd ps pgs pgs0:=⟨h.gho,h.home,h.st.at m,h.lawn⟩
theorem zNo{P F F0:NP}{w w':World}{S:Nat}(n:zX NoB P F0 F ad w w')(hS:w.heap.size<=S)(h2:S<w'.heap.size)(hF:F S):zX NoB (qB P S) F0 F ad w w' :=
 ⟨⟨n.stp.mods,λk hk h=>h.elim (n.stp.old k hk) (λe=>by omega),λk h=>h.elim (n.stp.bd k) (λe=>by rw[e];exact h2)⟩,λk h=>h.elim (n.sub k) (λe=>by rw[e];exact hF),n.grow,n.oldF,n.env⟩
theorem zPj{b s:Nat}(h8:8<=b)(Bi:b<=256)(h1:256<=s)(h2:s<=1024):zCK (zBJ b s) :=
 ⟨rfl,rfl,rfl,by simp[zBJ],λid hid=>by
  have hid':id<b:=hid;unfold zJ.look zBJ;simp[zBh,hid'],h8,Bi,h1,h2⟩
theorem Sl.lenX{F:NP}{α:Type}{sz:Nat}{enc:α->List Value}{a:Option Addr}{n c:Nat}{l:List α}(h:Sl F w sz enc (.slice a n c) l):l.length=n:=by
 obtain⟨_,_,he,_⟩:=h;injection he with _ he;exact he.symm
theorem zIw(hL:yH NoB ad w)(lv:Value)(L:List zL)(hl:Sl NoB w 2 zCE lv L) :
  Calls Tryz.prog 7 #[lv] w (zSG ad w L):=by
 obtain⟨la,lc,rfl,A0,Co,Dm, -⟩:=id hl;unfold maxLen at Co;have HL:=oh hL;have C4:=oh hl;clear hL hl
 go_enter Tryz.func7, Tryz.ntmps7
 go_wp2_with fail;refine (zPi _).mono ?_;rintro e w0 ⟨rfl,Bb⟩;have Av:=oh Bb;clear Bb;go_wp2_with fail;refine (zQP 120 256 (by omega) (by omega) (by omega) (by omega)).mono ?_;rintro e w1 ⟨d,Pd,rfl,hD,hn,hm⟩;have C5:=oh (zX.of (P:=NoB) (P':=Pd) (HL.out.mods Av.out.ext) (λ_ h=>h.elim) ⟨hm,λk hk h=>by have:=hn k h;omega,hD.bd⟩);have HD:Hid (DkS w1 Pd d (zBJ 120 256)):=oh hD;clear hD hn hm;go_wp2_with fail;refine (zR1 C5.out.env (λ_ h=>.inr h) HD.out (zPj (by omega) (by omega) (by omega) (by omega)) (by show 16<=120;omega) rfl 5 (by omega) (by omega)).mono ?_;rintro e w2 ⟨S,c,sp,P2,F2,rfl,h2,n2⟩;have Aw:=C5.out.trans n2;obtain⟨iK,G,l,hK,Cp⟩:=h2;have Bj:F2 S:=hK.st.2.2.2;have C6:w0.heap.size<=S:=Nat.le_of_not_lt λh=>(Aw.oldF S h Bj).elim
 have hN2':=zNo Aw C6 hK.st.lt Bj;have Cq:Hid (MdS ad w0 S d c sp 0 L (.slice (some ⟨w2.heap.size,0,none⟩) 0 0) (w2.alloc (.cells #[] 48))):=oh (by
  have m3:zF w2 (w2.alloc (.cells #[] 48)):=(zss w2).alloc _;refine⟨iK,P2,F2,zA8 (zBJ 120 256),0,G,l,0,0,[],[],[],hK.atS m3,hN2'.trans (zX.ext hN2'.env hN2'.sub m3),?_,rfl,rfl,by simp,by simp,λh=>by simp at h,by omega,by show 1<=0+1;omega⟩;exact⟨_,0,rfl,by simp,by simp[maxLen],by simp,.inl rfl⟩)
 clear Aw hK Cp Bj C6 n2 hN2';clear iK;go_wp2_with fail;obtain⟨T,hT⟩:∃T,T=min L.length 20:=⟨_,rfl⟩;have HT:=oh hT;clear hT;go_loopg [9,10] T (λm v9 v10 wr=>∃(k:Nat) (wa:Option Addr) (wn wc:Nat),k+m=T/\v9=.slice wa wn wc/\v10=.int .i64 (k:Int)/\Hid (MdS ad w0 S d c sp k L (.slice wa wn wc) wr))
 case atStart=>exact⟨0,_,_,_,by omega,rfl,rfl,Cq⟩
 case round =>
  obtain⟨k,wa,wn,wc,hk,rfl,rfl,HR⟩:=hrel;by_cases Bh:k<T
  .obtain⟨iK,P,F,s,hh,G,l,root,dd,ps,pgs,pgs0,hK,hN,Al,Az,B0,Am,Au,Be,A9,B1⟩:=HR.out;have B2:k<L.length/\k<20:=by have:=HT.out;omega
   have Ax:wn=ps.length:=Al.lenX.symm;have C7:=hN.sl (λ_ h=>h) (C4.out.ext Av.out);obtain⟨qb,qoff,Cr,Dn,Bc⟩:=C7.elemF (k:=k) B2.1;have d0:=Bc 0 (.string L[k].1) rfl;have d1:=Bc 1 (.string L[k].2) rfl;simp only[uT] at d0;obtain⟨x,hx⟩:∃x,x=L[k]:=⟨_,rfl⟩;have C8:Hid (L[k]? = some x):=oh (by rw[hx];exact uB B2.1);rw[<- hx] at d0 d1;obtain⟨key,v0⟩:=x;simp only at d0 d1;obtain⟨z,hz⟩:∃z,z=min v0.size 300:=⟨_,rfl⟩;have Bk:min (v0.size:Int) 300=(z:Int):=by omega
   have Cs:(0:Int)<=(z:Int):=by omega
   have Ct:(z:Int)<=(v0.size:Int):=by omega
   have Cu:Hid (v0.extract 0 z=zIq v0):=oh (by unfold zIq;rw[hz]);have Bl:=oh (zNa v0);have A6:Hid (zGR F wr P 256 120 S d c sp s hh G l root dd ps pgs pgs0/\zX NoB (qB P S) NoB F ad w0 wr/\Sl F wr 2 zCE (.slice wa ps.length wc) ps):=oh ⟨hK,hN,by rw[<- Ax];exact Al⟩;have A5:Hid (ps=(zAa L k).1/\s.gen=(zAa L k).2/\ps.length<=k/\pgs0.length<=15 * (k / 5)-1/\(2<=ps.length->∀i∈pgs,zCv (G.view i))/\G.cost<=61 * k/\s.gen<=k+1/\k<20):=oh ⟨Az,B0,Am,Au,Be,A9,B1,B2.2⟩;have Do:=oh Ax;subst Cr;have i1:(k:Int)<(L.length:Int):=by omega
   have i2:(k:Int)<20:=by omega
   have i0:(0:Int)<=(k:Int):=by omega
   have Cv:k+gk=T:=hk;have C9:Hid (∀W,zF w0 W->W.cell? ⟨qb,qoff+k * 2,none⟩=some (.string key)/\W.cell? ⟨qb,qoff+k * 2+1,none⟩=some (.string v0)):=oh (by
    intro W m;have Cw:=(C4.out.ext Av.out).mods m.ext;obtain⟨qb2,qoff2,An,_,Ao⟩:=Cw.elemF (k:=k) B2.1;injection An with An;injection An with e1 e2;subst e1 e2;rw[<- hx] at Ao;exact⟨by simpa using Ao 0 (.string key) rfl,Ao 1 (.string v0) rfl⟩)
   have Cx:Hid (zF w0 wr):=oh (hN.stp.mods.mono (λ_ hk=>hk.elim));have Dp:=HR;clear hK hN Al Az B0 Am Au Be A9 B1 C7 Bc hx hz HR B2 hk d0;subst Ax;go_wp2_with fail;go_quiet (fail)
   rw[Cu.out];obtain⟨W5,Bm⟩:∃W,W=wr.drewN nq:=⟨_,rfl⟩;have m5:zF wr W5:=by rw[Bm];exact (zss wr).drewN nq
   rw[<- Bm];obtain⟨v,hv⟩:∃v,v=zIq v0:=⟨_,rfl⟩;have Cy:=oh hv;rw[<- hv] at Bl ⊢;have Ah:=oh m5;have e0:=(C9.out W5 (Cx.out.trans m5)).1;clear Bm m5 hv d1 Bk Cs Ct;cases Ak:jO key with
   | false =>
    have Bn:=oh (λW=>zOA key W false Ak);have Ay:=oh (zNb C8.out Ak);clear Ak;go_wp2_with fail;refine (Bn.out _).mono ?_;rintro e w6 ⟨rfl,rfl⟩;go_wp2_with fail;go_roundg (gk-1)
    case measure=>omega
    case rel=>exact⟨k+1,wa,ps.length,wc,by omega,rfl,by go_num,oh (by
     have hu:=A5.out;have hn:=A6.out.2.1;exact⟨iK,P,F,s,hh,G,l,root,dd,ps,pgs,pgs0,A6.out.1.atS Ah.out,hn.trans (zX.ext hn.env hn.sub Ah.out),A6.out.2.2.ext Ah.out,by rw[Ay.out];exact hu.1,by rw[Ay.out];exact hu.2.1,by omega,by omega,hu.2.2.2.2.1,by omega,by omega⟩)⟩
   | true =>
    have Bn:=oh (λW=>zOA key W true Ak);have Ay:=oh (zKA C8.out Ak);have Dq:=oh Ak;have Cz:=oh (zTR (w:=W5) (A6.out.2.1.env.mods Ah.out.ext) (λj hj=>A6.out.2.1.sub j (.inl hj)) (A6.out.1.atS Ah.out) (by have:=A5.out;omega) (by have:=A5.out;omega) (by have:=A5.out;omega) Ak (by have:=Bl.out;show v.size<=400;omega) (zSb A6.out.1.lawn A5.out.2.2.2.2.1 (by have:=A5.out;omega) (by have:=A5.out;omega) Bl.out));clear Ak;go_wp2_with fail;refine (Bn.out _).mono ?_;rintro e w6 ⟨rfl,rfl⟩;go_wp2_with fail;refine Cz.out.mono ?_;rintro e w10 ⟨rfl,P10,F10,G10,l10,root10,dd10,pgs10,B3,Ap,Aa,Ad⟩;have Ae:=(A6.out.2.1.trans (zX.ext A6.out.2.1.env A6.out.2.1.sub Ah.out)).trans Ap;have Aq:=Ap.sl (λj hj=>A6.out.2.1.sub j hj) (A6.out.2.2.ext Ah.out);have e0:=(C9.out w10 (Ae.stp.mods.mono (λ_ hk=>hk.elim))).1;have D0:=oh (zQ8 ps _ Aq (by have:=A5.out;omega) key v true);have Ab:=oh (And.intro B3 (And.intro Ae Aq));have Af:=oh (And.intro Aa (Ad A5.out.2.2.2.2.1));have Ca:(k:Int).tmod 5=((k % 5:Nat):Int):=by rw[tD (by omega)];omega
    obtain⟨q5,Bo⟩:∃q,q=k % 5:=⟨_,rfl⟩;have Cb:=oh Bo;rw[<- Bo] at Ca;clear Bo B3 Ap Ae Aq Aa Ad;go_wp2_with fail;refine D0.out.mono ?_;rintro e w11 ⟨v11,rfl,Ar,As⟩;obtain⟨a11,c11,rfl, -⟩:=Ar.form;have A0:=zGc key v true ps;have B4:Sl F10 w11 2 zCE (.slice a11 (yV key v true ps).length c11) (yV key v true ps):=Ar.slF (λq hq=>Ab.out.2.1.env.lt q hq) zDi.len (by have:=A5.out;omega);have Aj:=oh (And.intro (Ab.out.1.atS As) (And.intro (Ab.out.2.1.trans (zX.ext Ab.out.2.1.env Ab.out.2.1.sub As)) B4));have Bp:=oh A0;have Cc:Hid (yV key v true ps=(zAa L (k+1)).1):=oh (by rw[Ay.out,Cy.out,<- A5.out.1]);clear Ar B4 As A0 e0;by_cases h4:q5=4
    .subst h4;rw[show ((4:Nat):Int)=4 from rfl] at Ca;have Bq:=oh (zOS (w:=w11) Aj.out.2.1.env (λj hj=>Aj.out.2.1.sub j (.inl hj)) Aj.out.1 (by have:=A5.out;omega) (by have:=A5.out;have:=Bp.out;omega) (by have:=Af.out.1;have:=A5.out;omega));have D1:=oh (λh=>zSc Ab.out.1.lawn Af.out.2 (k:=(k+1) / 5-1) h);go_wp2_with fail;refine Bq.out.mono ?_;rintro e w12 ⟨rfl,P12,F12,⟨iC,A7⟩,A4⟩;have Ag:Hid (MdS ad w0 S d c sp (k+1) L (.slice a11 (yV key v true ps).length c11) w12):=oh (by
      have hu:=A5.out;have h5:=Cb.out;have D2:=Bp.out;refine⟨iC,P12,F12,jR s root10 (yV key v true ps).length,1-hh,zE2 G10,zAg l10,root10,dd10,yV key v true ps,pgs10,pgs10,A7,Aj.out.2.1.trans A4,A4.sl (λj hj=>Aj.out.2.1.sub j hj) Aj.out.2.2,Cc.out,?_,by omega,?_,Af.out.2,by show 0<=_;omega,by show s.gen+1<=_;omega⟩
      .rw[Ay.out];show s.gen+1=_;simp only;rw[if_pos h5.symm,hu.2.1]
      .have Dr:=D1.out (by omega);omega)
     clear A7 A4;go_wp2_with fail;go_roundg (gk-1)
     case measure=>omega
     case rel=>exact⟨k+1,a11,_,c11,by omega,rfl,by go_num,Ag⟩
    .have Ds:¬ (q5:Int)=4:=by omega
     have Ag:Hid (MdS ad w0 S d c sp (k+1) L (.slice a11 (yV key v true ps).length c11) w11):=oh (by
      have hu:=A5.out;have h5:=Cb.out;have D2:=Bp.out;refine⟨iK,P10,F10,s,hh,G10,l10,root10,dd10,yV key v true ps,pgs10,pgs0,Aj.out.1,Aj.out.2.1,Aj.out.2.2,Cc.out,?_,by omega,by omega,Af.out.2,by have:=Af.out.1;omega,by omega⟩;rw[Ay.out];simp only;rw[if_neg (by rw[<- h5];exact h4),hu.2.1])
     go_wp2_with fail;go_roundg (gk-1)
     case measure=>omega
     case rel=>exact⟨k+1,a11,_,c11,by omega,rfl,by go_num,Ag⟩
  .obtain rfl:k=T:=by omega
   obtain⟨iK,P,F,s,hh,G,l,root,dd,ps,pgs,pgs0,hK,hN,Al,Az,B0,Am,Au,Be,A9,B1⟩:=HR.out;have Ax:wn=ps.length:=Al.lenX.symm;have B5:k<=20:=by have:=HT.out;omega
   have Bq:=oh (λW (m:zF wr W)=>zOS (w:=W) (hN.env.mods m.ext) (λj hj=>hN.sub j (.inl hj)) (hK.atS m) (by omega) (by omega) (by omega));have A6:Hid (zGR F wr P 256 120 S d c sp s hh G l root dd ps pgs pgs0/\zX NoB (qB P S) NoB F ad w0 wr/\Sl F wr 2 zCE (.slice wa ps.length wc) ps):=oh ⟨hK,hN,by rw[<- Ax];exact Al⟩;have A5:Hid (ps=(zAa L k).1/\s.gen=(zAa L k).2/\ps.length<=k/\s.gen<=k+1):=oh ⟨Az,B0,Am,B1⟩;have D3:=oh hK.lawn.td;have i0:(0:Int)<=(k:Int):=by omega
   have Br:¬ ((k:Int)<(L.length:Int))\/((k:Int)<(L.length:Int)/\¬ ((k:Int)<20)):=by have:=HT.out;omega
   have D4:=oh B5;subst Ax;have Ag:Hid (∀(w12:World) (P12 F12:NP) (iC:zQ),zGR F12 w12 P12 256 120 S d c sp (jR s root ps.length) (1-hh) (zE2 G) (zAg l) root dd ps pgs pgs->zX (qB P S) (qB P12 S) F F12 ad wr.drew w12->zSG ad w L (.returned (.tuple #[.pointer (some ⟨d,0,none⟩),.slice wa ps.length wc,.bool true])) w12):=oh (by
    intro w12 P12 F12 iC A7 A4;have Aw:=A6.out.2.1.trans (zX.ext A6.out.2.1.env A6.out.2.1.sub (zss wr).drew);have Bs:=Aw.trans A4;have hu:=A5.out;obtain⟨D,Pd,m,q1,q2,q3,q4,q5⟩:=zR2 Bs.env (λj hj=>Bs.sub j (.inl hj)) A7 rfl rfl D3.out (by show s.gen+1<_;omega);have B6:k=min L.length 20:=HT.out;have D5:zX NoB Pd NoB F12 ad w w12:=(zX.ext HL.out (P:=NoB) (λ_ h=>h.elim) Av.out).trans (zRI Bs q2 q1.bd);refine⟨d,D,Pd,F12,_,m,dd,pgs,wa,wc,by rw[<- B6,<- hu.1],q1,by rw[<- B6,<- hu.1];exact q3,q4,q5,by rw[<- B6,<- hu.2.1];rfl,by show s.gen+1<=_;omega,by rw[<- B6,<- hu.1];omega,D5,?_⟩;rw[<- B6,<- hu.1];exact A4.sl (λj hj=>Aw.sub j hj) (A6.out.2.2.ext (zss wr).drew))
   clear hK hN Al Az B0 Am Au Be A9 B1 HR Bh B5;rcases Br with i1|⟨i1,i2⟩
   all_goals
    go_wp2_with fail;go_region_held3 (λ_=>True) (exact trivial)
     (first
      | (go_at_call 41;(with_reducible refine (Bq.out _ (zss wr).drew).mono ?_);rintro e w12 ⟨rfl,P12,F12,⟨iC,A7⟩,A4⟩)
      | fail)
    have Bt:=oh (Ag.out w12 P12 F12 iC A7 A4);clear A7 A4;go_wp2_with fail;go_ret3
    exact Bt.out
end
end
section
open Go.RowKit Go.Maps
attribute [local go_sem ↓] Go.wp_at_zero Go.wp_at_succ
section
variable {ad:Nat->Addr}{w0 w w' wr:World}{kb mb d:Nat}{s:yG}{g:Int}{A:yP}{fv iv lv:Value}{P:NP}{D:zJ}
theorem zRA.form{X:yP × Option zY}{e:Ending}(h:zRA w0 kb mb d s g fv iv lv w X e w'):∃fv',LkS w0 w' kb mb d s g X.1 fv' iv lv/\zAJ kb mb fv iv lv fv' iv lv w w'/\((X.2=none/\e=.returned (.tuple #[.agg gE,.bool false])) \/
  ∃p pa pc,X.2=some p/\e=.returned (.tuple #[.agg #[.int .i64 p.kind,.int .i64 p.id,.int .u64 (p.gen:Int),.slice pa p.body.length pc],.bool true])/\Sl (LkB kb mb fv' iv lv) w' 1 zZ (.slice pa p.body.length pc) p.body/\p.body.length<=1000/\p.body.length<=pc/\pc<=9223372036854775807):=by
 obtain⟨fv',h1,h2,h3⟩:=h;refine⟨fv',h1,h2,?_⟩;obtain⟨A1,o⟩:=X;cases o with
 | none=>exact .inl ⟨rfl,h3⟩
 | some p =>
  obtain⟨pv,h4,h5,h6⟩:=h3;obtain⟨pa,pc,rfl,k1,k2, -⟩:=id h5;exact .inr ⟨p,pa,pc,rfl,h4,h5,h6,k1,by unfold maxLen at k2;omega⟩
theorem zMV(hL:yH NoB ad w0)(hD:DkS w0 P d D)(hz:256<=s.size/\s.size<=1024)(h:LkS w0 w kb mb d s g A fv iv lv)(e:zM)(he:zGF e.chain)(hs:e.size<=4096)
  (hf:(yU (dkQ D) s.gen s.size e.size.toNat e.chain e.size A).1.few) :
  Calls Tryz.prog 158 #[.pointer (some ⟨kb,0,none⟩),.agg #[.string e.key,.string e.value,.int .i64 e.chain,.int .i64 e.size]] w λx w'=>x=.returned (.bool (yU (dkQ D) s.gen s.size e.size.toNat e.chain e.size A).2)/\zQw w0 kb mb d s g fv iv lv w (yU (dkQ D) s.gen s.size e.size.toNat e.chain e.size A).1 w':=by
 have m0:zF w (w.alloc (.cells #[.string e.key,.string e.value,.int .i64 e.chain,.int .i64 e.size] 208)):=(zss w).alloc _;have hE:=zG.new w #[.string e.key,.string e.value,.int .i64 e.chain,.int .i64 e.size] 208;have e2:=hE.d 2 (.int .i64 e.chain) rfl;have e3:=hE.d 3 (.int .i64 e.size) rfl;have H0:=oh (h.at m0);have Av:=oh m0;have HL:=oh hL;have HD:=oh hD;have HF:=oh hf;obtain⟨nn,D6⟩:∃nn,nn=s.size-28:=⟨_,rfl⟩;have Cd:(s.size:Int)-28=(nn:Int):=by omega
 have D7:=oh Cd;have Bu:228<=nn/\nn<=996:=by omega
 obtain⟨D8,D9⟩:=Bu;have Da:(s.size:Int)=(nn:Int)+28:=by omega
 have Dt:(nn:Int)+28-24-4=(nn:Int):=by omega
 obtain⟨fuel,Ce⟩:∃f,f=e.size.toNat:=⟨_,rfl⟩;have Bv:e.size<=(fuel:Int):=by omega
 have Db:=oh he;rw[<- Ce] at HF ⊢;clear hE h m0 hL hD hf D6 Cd Ce he hz
 go_enter Tryz.func158, Tryz.ntmps158
 go_wp2_with fail;go_quiet (fail)
 go_wp2_with fail;go_loopg [5,6] fuel (λm idv nv wr=>∃(id1 n1:Int) (A1:yP) (fv1 iv1 lv1:Value),idv=.int .i64 id1/\nv=.int .i64 n1/\n1<=m/\n1<=4096 /\
  Hid (LkS w0 wr kb mb d s g A1 fv1 iv1 lv1/\zAJ kb mb fv iv lv fv1 iv1 lv1 w wr/\zGF id1/\yU (dkQ D) s.gen s.size m id1 n1 A1=yU (dkQ D) s.gen s.size fuel e.chain e.size A))
 case atStart=>exact⟨e.chain,e.size,A,fv,iv,lv,rfl,rfl,Bv,hs,oh ⟨H0.out.at (zr.drewN nq),zAJ.ext (Av.out.drewN nq),Db.out,rfl⟩⟩
 case round =>
  obtain⟨id1,n1,A1,fv1,iv1,lv1,rfl,rfl,Du,Dv,HW⟩:=hrel;by_cases Dc:0<n1
  .obtain⟨m,rfl⟩:∃m,gk=m+1:=⟨gk-1,by omega⟩;have Dd:Hid ((jE (dkQ D) s.gen A1 id1 4).1.few):=oh (by
    have h4:=HW.out.2.2.2;refine yP.le.few ?_ (h4 ▸ HF.out);have h5:=zFJ (dkQ D) s.gen A1 id1 4;rw[yU,if_neg (by omega)];cases ho:jE (dkQ D) s.gen A1 id1 4 with
    | mk A2 o =>
     cases o with
     | none=>exact A2.le_refl
     | some x =>
      simp only;split
      .exact yP.le_find _ _ _
      .exact (yP.le_good _ _).trans (zDT _ _ _ _ _ _ _))
   go_wp2_with fail;refine (zIs HL.out HD.out HW.out.1 id1 HW.out.2.2.1 4 Dd.out).mono ?_;intro x w2 hx;obtain⟨fv2,h2,g2,hx⟩:=hx.form;have Cf:=oh (HW.out.2.1.trans g2);have H2:=oh h2;clear h2 g2;rcases hx with ⟨ho,rfl⟩|⟨p,pa,pc,ho,rfl,Bw,Am,De,Dw⟩
   .have HO:Hid (yU (dkQ D) s.gen s.size fuel e.chain e.size A=((jE (dkQ D) s.gen A1 id1 4).1,false)):=oh (by
     rw[<- HW.out.2.2.2,yU,if_neg (by omega)];cases hq:jE (dkQ D) s.gen A1 id1 4 with
     | mk A2 o=>rw[hq] at ho;simp only at ho;subst ho;rfl)
    have HX:Hid (zF w2 (w2.alloc gE)):=oh ((zss w2).alloc _);clear ho;go_wp2_with fail;go_ret;rw[HO.out];exact⟨rfl,fv2,iv1,lv1,H2.out.at HX.out,Cf.out.trans (zAJ.ext HX.out)⟩
   .obtain⟨A2,B7⟩:∃A2,A2=(jE (dkQ D) s.gen A1 id1 4).1:=⟨_,rfl⟩;obtain⟨xk,xi,xg,xb⟩:=p;simp only at Bw Am De ho;have HO:Hid (yU (dkQ D) s.gen s.size fuel e.chain e.size A=if yS s.size ⟨xk,xi,xg,xb⟩ n1=true then (A2.find id1 4,false) else yU (dkQ D) s.gen s.size m ((vC xb 0 4).1:Nat) (n1-min n1 ((s.size:Int)-28)) (A2.good id1)):=oh (by
     rw[<- HW.out.2.2.2,yU,if_neg (by omega)];cases hq:jE (dkQ D) s.gen A1 id1 4 with
     | mk A3 o=>rw[hq] at ho B7;simp only at ho B7;subst ho B7;rfl)
    rw[<- B7] at H2;have Df:=oh Bw;obtain⟨wt,Dg⟩:∃wt:Nat,min n1 (nn:Int)=(wt:Int):=⟨(min n1 (nn:Int)).toNat,by omega⟩;have Dh:1<=wt:=by omega
    have Di:(wt:Int)<=n1:=by omega
    have Dj:wt<=996:=by omega
    have Bf:Hid (min n1 ((s.size:Int)-28)=(wt:Int)):=oh (by rw[D7.out];exact Dg);have Bx:zF w2 (w2.alloc (.cells #[.int .i64 xk,.int .i64 xi,.int .u64 (xg:Int),.slice pa xb.length pc] 221)):=(zss w2).alloc _;have By:=oh Bx;have k3:=(H2.out.at Bx).blk.d 3 (.int .i64 (s.size:Int)) rfl;rw[Da] at k3;have Cg:=oh (zG.new w2 #[.int .i64 xk,.int .i64 xi,.int .u64 (xg:Int),.slice pa xb.length pc] 221);have p3:=Cg.out.d 3 (.slice pa xb.length pc) rfl;clear ho B7 Bw Bx;go_wp2_with fail;have Dk:=oh ((H2.out.at By.out).env HL.out);refine (zF4 Dk.out (.slice pa xb.length pc) xb (Df.out.ext By.out) 0 4 (by omega)).mono ?_;rintro e5 w5 ⟨ev,rfl,Bg,Bz⟩;have Ah:Hid (zF w2 w5):=oh (By.out.trans Bz);have C0:=Cg.out.ext Bz;have p0:=C0.d 0 (.int .i64 xk) rfl;have p3:=C0.d 3 (.slice pa xb.length pc) rfl;have Ch:=zLY xb;have H5:=oh (H2.out.at Ah.out);have At:=oh (Cf.out.trans (zAJ.ext Ah.out));obtain⟨tk,C1⟩:∃t,t=vC xb 0 4:=⟨_,rfl⟩;rw[<- C1] at Bg Ch HO ⊢;obtain⟨nx,o⟩:=tk;simp only at Bg Ch HO ⊢;have B8:=oh C1;have BAD:Hid (yS s.size ⟨xk,xi,xg,xb⟩ n1=true->yU (dkQ D) s.gen s.size fuel e.chain e.size A=(A2.find id1 4,false)):=oh (λhb=>by rw[HO.out,if_pos hb]);have BADF:Hid (yS s.size ⟨xk,xi,xg,xb⟩ n1=true -> Calls Tryz.prog 153 #[.pointer (some ⟨kb,0,none⟩),.int .i64 id1,.int .i64 4] w5 λe w'=>e=.returned (.tuple #[])/\∃fv',LkS w0 w' kb mb d s g (A2.find id1 4) fv' iv1 lv1/\zAJ kb mb fv2 iv1 lv1 fv' iv1 lv1 w5 w'):=oh (λhb=>zCR H5.out id1 4 (by have h7:=HF.out;rw[BAD.out hb] at h7;exact h7));clear C1 Bz C0 k3;cases o with
    | some er =>
     obtain⟨el,ek⟩:=er;obtain⟨f5,rfl,_⟩:=Bg;have A8:Hid (yS s.size ⟨xk,xi,xg,xb⟩ n1=true):=oh (by unfold yS;rw[<- B8.out];simp);unfold zP;go_wp2_with fail;refine (BADF.out A8.out).mono ?_;rintro e6 w6 ⟨rfl,fv6,h6,g6⟩;have H6:=oh (And.intro h6 (At.out.trans g6));clear h6 g6;go_wp2_with fail;go_ret;rw[BAD.out A8.out];exact⟨rfl,fv6,iv1,lv1,H6.out.1,H6.out.2⟩
    | none =>
     cases Bg
     by_cases B9:xk=4
     .subst B9;by_cases A0:(xb.length:Int)=4+(wt:Int)
      .have b1:((xb.length:Int) != 4+(wt:Int))=false:=by simp[A0]
       by_cases Ai:(nx=0) ↔ (n1=(wt:Int))
       .have A8:Hid (yS s.size ⟨4,xi,xg,xb⟩ n1=false):=oh (by
         unfold yS;rw[<- B8.out,Bf.out];by_cases h1:nx=0 <;> by_cases h2:n1=(wt:Int) <;> simp[h1,h2,A0] at Ai ⊢)
        have C2:Hid (yU (dkQ D) s.gen s.size m (nx:Int) (n1-(wt:Int)) (A2.good id1)=yU (dkQ D) s.gen s.size fuel e.chain e.size A):=oh (by
         rw[HO.out,A8.out,if_neg (by simp),Bf.out])
        have Ci:=oh (zIh H5.out id1 (by
         have h7:=HF.out;rw[<- C2.out] at h7;exact (zDT _ _ _ _ _ _ _).few h7))
        have Ba:Hid (zGF (nx:Int)):=oh ((Lit.wf_int_iff .i64 _).2 (by simp[IntKind.min,IntKind.max,IntKind.signed,IntKind.bits];omega));by_cases h1:nx=0
        .subst h1;have h2:n1=(wt:Int):=Ai.1 rfl;subst h2;clear Ai A0;go_wp2_with fail;refine (Ci.out).mono ?_;rintro e6 w6 ⟨rfl,fv6,iv6,lv6,h6,g6⟩;have H6:=oh (And.intro h6 (At.out.trans g6));clear h6 g6;go_wp2_with fail;go_roundg m
         case measure=>omega
         case rel=>exact⟨((0:Nat):Int),(wt:Int)-(wt:Int),A2.good id1,fv6,iv6,lv6,by first|rfl|exact zC1 (by omega),by first|rfl|exact zC1 (by omega),by omega,by omega,oh ⟨H6.out.1,H6.out.2,Ba.out,C2.out⟩⟩
        .have h2:n1≠(wt:Int):=λe=>h1 (Ai.2 e)
         have b2:(n1 == (wt:Int))=false:=uR.2 h2;have b3:((nx:Int) == 0)=false:=uR.2 (by omega);clear Ai A0 h1 h2;go_wp2_with fail;refine (Ci.out).mono ?_;rintro e6 w6 ⟨rfl,fv6,iv6,lv6,h6,g6⟩;have H6:=oh (And.intro h6 (At.out.trans g6));clear h6 g6;go_wp2_with fail;go_roundg m
         case measure=>omega
         case rel=>exact⟨(nx:Int),n1-(wt:Int),A2.good id1,fv6,iv6,lv6,by first|rfl|exact zC1 (by omega),by first|rfl|exact zC1 (by omega),by omega,by omega,oh ⟨H6.out.1,H6.out.2,Ba.out,C2.out⟩⟩
       .have A8:Hid (yS s.size ⟨4,xi,xg,xb⟩ n1=true):=oh (by
         unfold yS;rw[<- B8.out,Bf.out];by_cases h1:nx=0 <;> by_cases h2:n1=(wt:Int) <;> simp[h1,h2] at Ai ⊢)
        by_cases h1:nx=0
        .subst h1;have h2:n1≠(wt:Int):=λe=>Ai ⟨λ_=>e,λ_=>rfl⟩
         have b2:(n1 == (wt:Int))=false:=uR.2 h2;clear Ai A0 h2;go_wp2_with fail;refine (BADF.out A8.out).mono ?_;rintro e6 w6 ⟨rfl,fv6,h6,g6⟩;have H6:=oh (And.intro h6 (At.out.trans g6));clear h6 g6;go_wp2_with fail;go_ret;rw[BAD.out A8.out];exact⟨rfl,fv6,iv1,lv1,H6.out.1,H6.out.2⟩
        .have h2:n1=(wt:Int):=Classical.byContradiction (λe=>Ai ⟨λh=>absurd h h1,λh=>absurd h e⟩);have b2:(n1 == (wt:Int))=true:=rE.2 h2;have b3:((nx:Int) == 0)=false:=uR.2 (by omega);clear Ai A0 h2;go_wp2_with fail;refine (BADF.out A8.out).mono ?_;rintro e6 w6 ⟨rfl,fv6,h6,g6⟩;have H6:=oh (And.intro h6 (At.out.trans g6));clear h6 g6;go_wp2_with fail;go_ret;rw[BAD.out A8.out];exact⟨rfl,fv6,iv1,lv1,H6.out.1,H6.out.2⟩
      .have b1:((xb.length:Int) != 4+(wt:Int))=true:=bne_iff_ne.2 A0;have b1':((xb.length:Int) == 4+(wt:Int))=false:=uR.2 A0;have A8:Hid (yS s.size ⟨4,xi,xg,xb⟩ n1=true):=oh (by
        unfold yS;rw[<- B8.out,Bf.out];simp[A0])
       clear A0;go_wp2_with fail;refine (BADF.out A8.out).mono ?_;rintro e6 w6 ⟨rfl,fv6,h6,g6⟩;have H6:=oh (And.intro h6 (At.out.trans g6));clear h6 g6;go_wp2_with fail;go_ret;rw[BAD.out A8.out];exact⟨rfl,fv6,iv1,lv1,H6.out.1,H6.out.2⟩
     .have b1:(xk != 4)=true:=bne_iff_ne.2 B9;have b1':(xk == 4)=false:=uR.2 B9;have A8:Hid (yS s.size ⟨xk,xi,xg,xb⟩ n1=true):=oh (by
       unfold yS;rw[<- B8.out];simp[B9])
      clear B9;go_wp2_with fail;refine (BADF.out A8.out).mono ?_;rintro e6 w6 ⟨rfl,fv6,h6,g6⟩;have H6:=oh (And.intro h6 (At.out.trans g6));clear h6 g6;go_wp2_with fail;go_ret;rw[BAD.out A8.out];exact⟨rfl,fv6,iv1,lv1,H6.out.1,H6.out.2⟩
  .have HO:Hid (yU (dkQ D) s.gen s.size fuel e.chain e.size A=(A1,true)):=oh (by
    rw[<- HW.out.2.2.2];cases gk with
    | zero=>rfl
    | succ k=>rw[yU,if_pos (by omega)])
   go_wp2_with fail;go_ret;rw[HO.out];exact⟨rfl,fv1,iv1,lv1,HW.out.1,HW.out.2.1⟩
end
end
end Go.Proofs.YtalpfcaakpgkmaaGreatDoor
