import Derived.Test.YtgphfebjjedeaaaGreatDoorS29
import Derived.BigQuiet
import Derived.Test.YtgphfebjjedeaaaGreatDoorS26
import Derived.Test.YtgphfebjjedeaaaGreatDoorS27
import Derived.BigRegion
namespace Go.Proofs.YtgphfebjjedeaaaGreatDoor
open Lib renaming hid->oh
set_option maxHeartbeats 4000000
set_option maxRecDepth 100000
open Go.RowKit
attribute [local go_sem ↓] Go.wp_at_zero Go.wp_at_succ
def zBr(key v:ByteArray):Option Err:=if zAK key=false then some ([-1],2) else if 4096<v.size then some ([-1],8) else none
section
variable {P P' F F':NP}{ad:Nat->Addr}{w w':World}{c s:Nat}{G:GA}{l:List Nat}
theorem zGy(hL:zZ F ad w)(gen:Nat)(key v:ByteArray)(hfu:zBZ ad\/v.size<=4096) :
  Calls Tryz.prog 185 #[pgV c s gen,.string key,.string v] w λe w'=>∃ev,e=.returned ev/\zAB F ad w' ev (zBr key v)/\zF w w':=by
 unfold pgV;have m0:zF w (w.alloc (gP c s gen)):=(zss w).alloc _;have hL0:=hL.mods m0.ext;have g2:=hL0.c2;have HL:=oh hL0;have M0:=oh m0;have HFU:=oh hfu;clear hL hL0 m0 hfu;cases hk:zAK key with
 | false =>
  have HR:Hid (zBr key v=some ([-1],2)):=oh (by unfold zBr;rw[if_pos hk]);have HK:=oh (jT key);rw[hk] at HK;clear hk
  go_enter Tryz.func185, Tryz.ntmps185
  go_wp2_with fail;refine (HK.out _).mono ?_;rintro e w1 ⟨rfl,rfl⟩;go_wp2_with fail;refine (yD HL.out _ _ [] 2 (.sent 2 (by decide) (by decide))).mono ?_;rintro e w1 ⟨f,rfl,hE,hm⟩;have HE:=oh hE;have HM:=oh hm;clear hE hm;go_wp2_with fail;go_ret;exact⟨_,rfl,by rw[HR.out];exact⟨f,rfl,HE.out⟩,M0.out.trans HM.out⟩
 | true =>
  have HK:=oh (jT key);rw[hk] at HK;by_cases hv:4096<v.size
  .have HR:Hid (zBr key v=some ([-1],8)):=oh (by unfold zBr;rw[if_neg (by rw[hk];simp),if_pos hv]);have hv2:(4096:Int)<(v.size:Int):=by omega
   have g8:=HL.out.c8 (HFU.out.resolve_right (by omega));clear hk hv
   go_enter Tryz.func185, Tryz.ntmps185
   go_wp2_with fail;refine (HK.out _).mono ?_;rintro e w1 ⟨rfl,rfl⟩;go_wp2_with fail;refine (yD HL.out _ _ [] 8 (.sent 8 (by decide) (by decide))).mono ?_;rintro e w1 ⟨f,rfl,hE,hm⟩;have HE:=oh hE;have HM:=oh hm;clear hE hm;go_wp2_with fail;go_ret;exact⟨_,rfl,by rw[HR.out];exact⟨f,rfl,HE.out⟩,M0.out.trans HM.out⟩
  .have HR:Hid (zBr key v=none):=oh (by unfold zBr;rw[if_neg (by rw[hk];simp),if_neg hv]);have hv2:¬ (4096:Int)<(v.size:Int):=by omega
   clear hk hv
   go_enter Tryz.func185, Tryz.ntmps185
   go_wp2_with fail;refine (HK.out _).mono ?_;rintro e w1 ⟨rfl,rfl⟩;go_wp2_with fail;go_ret;exact⟨_,rfl,by rw[HR.out];rfl,M0.out⟩
end
def jK(key v:ByteArray):zK:=⟨true,[⟨key,v,0,0⟩],[],[]⟩
theorem zBO{key v:ByteArray}(hk:zAK key=true)(hv:v.size<=24):zY (jK key v)=true:=by
 unfold zY jK vI;simp[hk,hv,qV]
theorem zDJ{key v:ByteArray}(hk:zAK key=true)(hv:v.size<=24):yM (jK key v)<=61:=by
 have:=(zAz key).1 hk;unfold yM jK;simp[zAd,zA0,zBA];omega
theorem zCw(key v:ByteArray):zDt zKJ key ⟨key,v,0,0⟩=jK key v:=rfl
theorem zKQ{G:GA}{l:List Nat}{key v:ByteArray}(hk:zAK key=true)(hv:v.size<=24)(hl:zKK l)(hlen:l.length<=G.blocks)(hco:G.cost+10<=1000000)(hs:256<=G.size):zKO G l 0 (jK key v):=by
 have h1:=zDJ hk hv;have h2:=zBO hk hv;refine⟨.inl rfl,hl,hlen,hco,by omega,λ_=>?_,λhn=>by omega,by simp[jK]⟩;have:=zCu (zCv h2);omega
def zLu(F P:NP)(ad:Nat->Addr)(w:World)(c s gen:Nat)(G:GA)(l:List Nat)(key v:ByteArray)(i:Nat)(e:Ending)(w':World):Prop :=
 ∃P' F',jC F' w' P' c s (yW G l gen 0 (jK key v)) (vR G l 0 (jK key v))/\zR P P' F F' ad w w'/\e=.returned (.tuple #[.int .i64 (i:Int),.bool true,.nilIface])
section
variable {P P' F F':NP}{ad:Nat->Addr}{w w':World}{c s:Nat}{G:GA}{l:List Nat}
theorem zKR(hL:zZ F ad w)(hP:∀k,P k->F k)(h:jC F w P c s G l)(gen:Nat)(hgen:gen<18446744073709551616)(key v:ByteArray)(hk:zAK key=true)(hv:v.size<=24)(hl:zKK l)(hlen:l.length<=G.blocks)(hco:G.cost+10<=1000000)(i:Nat)(hi:qG l=some i) :
  Calls Tryz.prog 118 #[pgV c s gen,.int .i64 0,.string key,.string v] w (zLu F P ad w c s gen G l key v i):=by
 have m0:zF w (w.alloc (gP c s gen)):=(zss w).alloc _;have HB0:=oh (zJ.new w (gP c s gen) 140);have HC:=zGy (c:=c) (s:=s) (hL.mods m0.ext) gen key v (.inr (by omega));rw[show zBr key v=none by unfold zBr;rw[if_neg (by rw[hk];simp),if_neg (by omega)]] at HC;have hlim:=h.lim;have hst:zBN G l gen 0 (jK key v)=.inl (yW G l gen 0 (jK key v),vR G l 0 (jK key v),⟨i,0,e0,false,false⟩):=by
  have h1:=zDJ hk hv;have hd:vG G l 0 (jK key v)=some i:=by
   unfold vG;rw[if_pos ⟨zBO hk hv,by omega⟩];unfold vO;rw[if_neg (by simp)];exact hi
  unfold zBN;rw[if_pos (by omega),hd]
 have HST:=oh hst;have HOK:=oh (zKQ hk hv hl hlen hco hlim.2.2.1);have HFT:Hid (yM (jK key v)<=(G.size:Int)-24):=oh (by have:=zDJ hk hv;omega);have HV:=oh hv;have HG:=oh h;have HP:=oh hP;have HL:=oh hL;have M0:=oh m0;have HC:=oh HC;have HBP:Hid (¬ P w.heap.size):=oh (λhp=>by have:=h.bd _ hp;omega);unfold pgV at HC ⊢;clear hL hP h m0 hk hv hl hlen hco hi hlim hst
 go_enter Tryz.func118, Tryz.ntmps118
 go_wp2_with fail;refine HC.out.mono ?_;rintro e w1 ⟨ev,rfl,hE,hm1⟩;cases hE
 have M1:=oh (M0.out.trans hm1);have HB1:=oh (HB0.out.ext hm1);obtain⟨w2,hw2⟩:∃w2,w2=w1.alloc (.cells zBc 294):=⟨_,rfl⟩;have m2:zF w w2:=by rw[hw2];exact M1.out.alloc _
 have hz:w2.heap.size=w1.heap.size+1:=by rw[hw2];simp
 have hz1:w.heap.size<w1.heap.size:=HB1.out.lt;have HN2:Hid (zR P P F (λk=>F k\/k=w1.heap.size) ad w w2):=oh (zR.new HL.out HP.out (Q:=λk=>k=w1.heap.size) m2 (λk hk=>by omega) (λk hk=>by omega));have HG2:=oh (HG.out.plusNew HP.out (Q:=λk=>k=w1.heap.size) m2 (λk hk=>by omega));have HO:=oh (show zBX (λk=>F k\/k=w1.heap.size) P w w2 w1.heap.size zBc 294 from ⟨by rw[hw2];exact zJ.new _ _ _,.inr rfl,λhp=>by have:=HG.out.bd _ hp;omega,by omega⟩);have b0:=qC (HB1.out.d 0 (.pointer (some ⟨c,0,none⟩)) rfl) (.cells zBc 294);have b1:=qC (HB1.out.d 1 (.pointer (some ⟨s,0,none⟩)) rfl) (.cells zBc 294);have b2:=qC (HB1.out.d 2 (.int .u64 (gen:Int)) rfl) (.cells zBc 294);have HLF:=zJD (w:=w2) zKJ rfl key v rfl HV.out (by rw[zCw];exact HFT.out) HN2.out.env HN2.out.sub HG2.out gen 0 hgen (.slice none 0 0) (.slice none 0 0) (.slice none 0 0) (Sl.nil _ _ _ _) (Sl.nil _ _ _ _) (Sl.nil _ _ _ _) (by simp[zKJ]) (by rw[zCw];exact HOK.out);rw[zCw,HST.out] at HLF;unfold pgV at HLF;have HLF:=oh HLF;have HW2:=oh hw2;clear hm1 m2 hw2;go_wp2_with fail;rw[<- HW2.out];refine HLF.out.mono ?_;rintro e w3 ⟨P3,F3,G3,l3,hG3,hN3,⟨o,ho,rfl⟩|⟨k,o,f,el,ho,_⟩⟩
 .simp only[zLC,Sum.inl.injEq,Prod.mk.injEq] at ho;obtain⟨rfl,rfl,rfl⟩:=ho;have HO3:=oh (HO.out.nxt hN3);have HG3:=oh hG3;have HN3:=oh (HN2.out.trans hN3);have q0:=HO3.out.blk.k 0 rfl;have q1:=HO3.out.blk.k 1 rfl;have q2:=HO3.out.blk.k 2 rfl;have q3:=HO3.out.blk.k 3 rfl;have q4:=HO3.out.blk.k 4 rfl;have qf:=HO3.out.blk.frozen;have mR:=zA.set5 (F:=λk=>k=w1.heap.size) (zss w3) (R:=w1.heap.size) (.inr rfl) (.int .i64 (i:Int)) (.int .i64 0) (.string e0) (.bool false) (.bool true);have HGR:=oh (HG3.out.var HO3.out mR);have HNR:=oh (HN3.out.var HO3.out mR);have HBR:=oh (HO3.out.blk.set5 (.int .i64 (i:Int)) (.int .i64 0) (.string e0) (.bool false) (.bool true));unfold zKM;clear hG3 hN3 mR;go_wp2_with fail;have q0:=HBR.out.k 0 rfl;have q4:=HBR.out.k 4 rfl;go_quiet (fail)
  go_wp2_with fail;refine bodyPost_ret (v:=.tuple #[.int .i64 (i:Int),.bool true,.nilIface]) (by simp[results,Tryz.results118,go_sem]) rfl ?_;exact⟨P3,F3,HGR.out.at (zr.drewN _),HNR.out.trans (zR.ext HNR.out.env HNR.out.sub (zr.drewN _)),rfl⟩
 .cases ho
end
section
variable {P P' F F':NP}{ad:Nat->Addr}{w w':World}{S d c sp:Nat}{s:qD}{home root keys:Int}{G G':GA}{l l':List Nat}
theorem StR.at(h:StR F w P S d c sp s home root keys G l)(m:zF w w'):StR F w' P S d c sp s home root keys G l:=by
 obtain⟨h1,⟨a,cc,h2⟩,h3,h4⟩:=h;exact⟨h1.at m,⟨a,cc,h2.ext m⟩,h3,h4⟩
theorem StR.nxt(h:StR F w P S d c sp s home root keys G l)(n:zR P P' F F' ad w w')(hG:jC F' w' P' c sp G' l'):StR F' w' P' S d c sp s home root keys G' l':=by
 obtain⟨h1,⟨a,cc,h2⟩,h3,h4⟩:=h;exact⟨hG,⟨a,cc,n.blk h2 h3⟩,n.not h2.lt h3,n.grow S h4⟩
theorem StR.set(h:StR F w P S d c sp s home root keys G l)(r k:Int):StR F ((w.setCell ⟨S,9,none⟩ (.int .i64 r)).setCell ⟨S,10,none⟩ (.int .i64 k)) P S d c sp s home r k G l:=by
 obtain⟨h1,⟨a,cc,h2⟩,h3,h4⟩:=h;have m:zA (λj=>j=S) w ((w.setCell ⟨S,9,none⟩ (.int .i64 r)).setCell ⟨S,10,none⟩ (.int .i64 k)):=zA.setCell (F:=λj=>j=S) (zA.setCell (F:=λj=>j=S) (zss w) (p:=⟨S,9,none⟩) (.inr rfl) _) (p:=⟨S,10,none⟩) (.inr rfl) _;exact⟨h1.plus m (λk hk e=>by have e':k=S:=e;exact h3 (e' ▸ hk)) (λk e=>by have e':k=S:=e;rw[e'];exact h4) (λ_ _ h=>h),⟨a,cc,by simpa[stC] using (h2.set 9 (.int .i64 r)).set 10 (.int .i64 k)⟩,h3,h4⟩
theorem zR.withS(n:zR P P' F F' ad w w'){w2:World}(hS:S<w.heap.size)(hF:F' S)(m:zA (λj=>j=S) w' w2):zR (yJ P S) (yJ P' S) F F' ad w w2 :=
 ⟨⟨(n.stp.mods.mono (λj h=>.inl h)).trans' m (λi _ h=>.inr h),λk hk h=>h.elim (λh=>.inl (n.stp.old k hk h)) .inr,λk h=>h.elim (λh=>uD (n.stp.bd k h) m.size) (λe=>by rw[e];exact uD hS (uQ n.stp.mods.size m.size))⟩,
  λk h=>h.elim (λh=>n.sub k h) (λe=>by rw[e];exact hF),n.grow,n.oldF,n.env.mods (m.mono (λj h=>by have h':j=S:=h;rw[h'];exact hF))⟩
theorem StR.lt(h:StR F w P S d c sp s home root keys G l):S<w.heap.size:=by
 obtain⟨_,⟨a,cc,h2⟩,_,_⟩:=h;exact h2.lt
theorem zBd(r k:Int):zA (λj=>j=S) w ((w.setCell ⟨S,9,none⟩ (.int .i64 r)).setCell ⟨S,10,none⟩ (.int .i64 k)):=zA.setCell (F:=λj=>j=S) (zA.setCell (F:=λj=>j=S) (zss w) (p:=⟨S,9,none⟩) (.inr rfl) _) (p:=⟨S,10,none⟩) (.inr rfl) _
theorem zIF(h:StR F w P S d c sp s home root keys G l)(op:ByteArray) : Calls Tryz.prog 76 #[.pointer (some ⟨S,0,none⟩),.string op] w λe w'=>e=.returned .nilIface/\w=w':=by
 obtain⟨h1,⟨a,cc,h2⟩,h3,h4⟩:=h;have c12:=h2.d 12 (.bool false) rfl;clear h1 h2 h3 h4
 go_enter Tryz.func76, Tryz.ntmps76
 go_wp2_with fail;go_ret;exact⟨rfl,rfl⟩
theorem zLv(h:StR F w P S d c sp s home root keys G l) : Calls Tryz.prog 23 #[.pointer (some ⟨S,0,none⟩)] w λe w'=>e=.returned (.int .u64 (s.gen:Int))/\w=w':=by
 obtain⟨h1,⟨a,cc,h2⟩,h3,h4⟩:=h;have c3:=h2.d 3 (.int .u64 (s.gen:Int)) rfl;clear h1 h2 h3 h4
 go_enter Tryz.func23, Tryz.ntmps23
 go_wp2_with fail;go_ret;exact⟨rfl,rfl⟩
theorem Tryz.stPgSize:(Tryz.prog.info? 140).map (·.size)=some 3:=by kernel_rfl
theorem zIG(h:StR F w P S d c sp s home root keys G l)(hg:s.gen+1<18446744073709551616) : Calls Tryz.prog 78 #[.pointer (some ⟨S,0,none⟩)] w λe w'=>e=.returned (pgV c sp (s.gen+1))/\zF w w':=by
 obtain⟨h1,⟨a,cc,h2⟩,h3,h4⟩:=h;have c1:=h2.d 1 (.pointer (some ⟨c,0,none⟩)) rfl;have c2:=h2.d 2 (.pointer (some ⟨sp,0,none⟩)) rfl;have c3:=h2.d 3 (.int .u64 (s.gen:Int)) rfl;have hS:=h2.lt;have HB0:=oh (zJ.new w #[.pointer none,.pointer none,.int .u64 0] 140);have hne:S≠w.heap.size:=λe=>by omega
 obtain⟨g,hgg⟩:∃g,g=s.gen:=⟨_,rfl⟩;have HPV:Hid (pgV c sp (s.gen+1)=.agg #[.pointer (some ⟨c,0,none⟩),.pointer (some ⟨sp,0,none⟩),.int .u64 ((g:Int)+1)]):=oh (by rw[hgg];rfl);rw[<- hgg] at c3 hg;clear h1 h2 h3 h4 hgg
 go_enter Tryz.func78, Tryz.ntmps78
 go_wp2_with fail;go_region
 go_wp2_with fail;refine bodyPost_ret (results_cell_row rfl _ _ w.heap.size 140 #[.pointer (some ⟨c,0,none⟩),.pointer (some ⟨sp,0,none⟩),.int .u64 ((g:Int)+1)] (0,0) _ rfl (zJ.drew (zJ.new w _ _)) Tryz.underlying140 rfl Tryz.stPgSize) rfl ?_;exact⟨by rw[HPV.out],((zss w).alloc _).drew⟩
def zLY(F P:NP)(ad:Nat->Addr)(w:World)(S d c sp:Nat)(s:qD)(home keys:Int)(G:GA)(l:List Nat)(key v:ByteArray)(i:Nat)(e:Ending)(w':World):Prop :=
 ∃P' F',e=.returned (.tuple #[.bool true,.nilIface])/\StR F' w' P' S d c sp s home (i:Int) (keys+1) (yW G l (s.gen+1) 0 (jK key v)) (vR G l 0 (jK key v))/\zR (yJ P S) (yJ P' S) F F' ad w w'
theorem zLZ(hL:zZ F ad w)(hP:∀k,P k->F k)(h:StR F w P S d c sp s home 0 keys G l)(hg:s.gen+1<18446744073709551616)(hkk:0<=keys/\keys<1000000)(key v:ByteArray)(hk:zAK key=true)(hv:v.size<=24)(hl:zKK l)(hlen:l.length<=G.blocks)(hco:G.cost+10<=1000000)(i:Nat)(hi:qG l=some i) :
  Calls Tryz.prog 60 #[.pointer (some ⟨S,0,none⟩),.string key,.string v] w (zLY F P ad w S d c sp s home keys G l key v i):=by
 have HAL:=oh (λop=>zIF h op);have HPG:=oh (λW (m:zF w W)=>zIG (h.at m) hg);have HPU:=oh (λW (m:zF w W)=>zKR (hL.mods m.ext) hP (h.at m).1 (s.gen+1) hg key v hk hv hl hlen hco i hi);have HST:=oh h;have HN:=oh (λW (m:zF w W)=>zR.ext hL hP m);have c9:Hid (∀W,zF w W->W.cell? ⟨S,9,none⟩=some (.int .i64 0)):=oh (λW m=>by obtain⟨_,⟨a,cc,h2⟩,_,_⟩:=h.at m;exact h2.cell rfl);have HKK:=oh hkk;clear hL hP h hg hk hv hl hlen hco hi hkk;obtain⟨pg,hpg⟩:∃pg,pg=pgV c sp (s.gen+1):=⟨_,rfl⟩;rw[<- hpg] at HPG HPU;clear hpg
 go_enter Tryz.func60, Tryz.ntmps60
 go_wp2_with fail;refine (HAL.out _).mono ?_;rintro e w1 ⟨rfl,rfl⟩;have zd:=c9.out _ (zss w).drew;go_wp2_with fail;go_region_held3 (λw'=>w'.cell? ⟨S,9,none⟩=some (.int .i64 0))
  (first|(with_reducible exact zd)|(with_reducible exact z5)|(with_reducible exact z6)|fail)
  (first
   | (go_at_call 78;(with_reducible refine (HPG.out _ (zss w).drew).mono ?_);rintro e w5 ⟨rfl,m5⟩;have x5:=(zss w).drew.trans m5;have z5:=c9.out _ x5)
   | (go_at_call 118;((with_reducible refine (HPU.out _ x5).mono ?_);rintro e w6 ⟨P6,F6,hG6,n6,rfl⟩;have h6:=(HST.out.at x5).nxt n6 hG6;have n06:=(HN.out _ x5).trans n6;have z6:w6.cell? ⟨S,9,none⟩=some (.int .i64 0):=(by obtain⟨_,⟨a,cc,h2⟩,_,_⟩:=h6;exact h2.cell rfl)))
   | fail)
 obtain⟨h7,⟨a,cc,hB6⟩,hn6,hf6⟩:=_root_.id h6;have s9:=hB6.d 9 (.int .i64 0) rfl;have s10:=hB6.d 10 (.int .i64 keys) rfl;have sf:=hB6.frozen;have H6:=oh h6;have N06:=oh n06;have HSW:=oh HST.out.lt;obtain⟨k1,k2⟩:=HKK.out;clear h7 hB6 hn6 hf6 h6 n06 n6 hG6 z5 z6 zd x5 m5;go_wp2_with fail;go_ret2
 exact⟨P6,F6,rfl,H6.out.set (i:Int) (keys+1),N06.out.withS HSW.out H6.out.2.2.2 (zBd _ _)⟩
end
section
variable {P P' F F':NP}{ad:Nat->Addr}{w w':World}{S d c sp:Nat}{s:qD}{home root keys:Int}{C:qK}{l:List Nat}
theorem StO.at(h:StO F w P S d c sp s home root keys C l)(m:zF w w'):StO F w' P S d c sp s home root keys C l:=by
 obtain⟨sb,bvs,Pd,b2,h1,h2,h3,h4,⟨a,cc,h5⟩,h6,h7⟩:=h;exact⟨sb,bvs,Pd,b2,h1.at m,h2.mods m (λf=>f) (λf=>f),h3,h4,⟨a,cc,h5.ext m⟩,h6,h7⟩
theorem StO.blk(h:StO F w P S d c sp s home root keys C l):∃a cc,zJ w S (stC d (.pointer (some ⟨c,0,none⟩)) (.pointer (some ⟨sp,0,none⟩)) s home root keys (.slice a 0 cc) false) 149:=by
 obtain⟨sb,bvs,Pd,b2,h1,h2,h3,h4,h5,h6,h7⟩:=h;exact h5
theorem StO.set(h:StO F w P S d c sp s home root keys C l)(r k:Int):StO F ((w.setCell ⟨S,9,none⟩ (.int .i64 r)).setCell ⟨S,10,none⟩ (.int .i64 k)) P S d c sp s home r k C l:=by
 obtain⟨sb,bvs,Pd,b2,h1,h2,h3,h4,⟨a,cc,h5⟩,h6,h7⟩:=h;have m:zA (λj=>j=S) w ((w.setCell ⟨S,9,none⟩ (.int .i64 r)).setCell ⟨S,10,none⟩ (.int .i64 k)):=zBd r k;exact⟨sb,bvs,Pd,b2,h1.plus m (λk hk e=>by have e':k=S:=e;exact h6 (e' ▸ (h3 k).2 (.inl hk))) (λk e=>by have e':k=S:=e;rw[e'];exact h7) (λ_ _ h=>h),h2.mods m (λe=>h6 (e ▸ (h3 sp).2 (.inr (.inl rfl)))) (λe=>h6 (e ▸ (h3 b2).2 (.inr (.inr rfl)))),h3,h4,⟨a,cc,by simpa[stC] using (h5.set 9 (.int .i64 r)).set 10 (.int .i64 k)⟩,h6,h7⟩
theorem zF7(c12:w.cell? ⟨S,12,none⟩=some (.bool false))(op:ByteArray) : Calls Tryz.prog 76 #[.pointer (some ⟨S,0,none⟩),.string op] w λe w'=>e=.returned .nilIface/\w=w':=by
 go_enter Tryz.func76, Tryz.ntmps76
 go_wp2_with fail;go_ret;exact⟨rfl,rfl⟩
theorem zJE(hL:zZ F ad w)(h:StO F w P S d c sp s home root keys C l)(r k:Int)(hb:r<0\/k<0\/(r=0/\k≠0)) : Calls Tryz.prog 34 #[.pointer (some ⟨S,0,none⟩),.int .i64 r,.int .i64 k] w λe w'=>∃f,e=.returned (zD f)/\yG F ad w' (zD f) [-1] 1/\zF w w':=by
 obtain⟨a,cc,hB⟩:=h.blk;have HA:=oh (λop=>zF7 (hB.d 12 (.bool false) rfl) op);have HL:=oh hL;have g1:=hL.c1;clear hL h hB;have hc:r<0\/(¬ r<0/\k<0)\/(¬ r<0/\¬ k<0/\r=0/\k≠0):=by omega
 have hc2:(decide (r<0)=true)\/(decide (r<0)=false/\decide (k<0)=true)\/(decide (r<0)=false/\decide (k<0)=false/\r=0/\(k != 0)=true):=by simpa using hc
 rcases hc2 with h1|⟨h1,h2⟩|⟨h1,h2,rfl,h4⟩
 all_goals
  clear hb hc
  go_enter Tryz.func34, Tryz.ntmps34
  go_wp2_with fail;refine (HA.out _).mono ?_;rintro e w1 ⟨rfl,rfl⟩;go_wp2_with fail;refine (yD HL.out _ _ _ 1 (.sent 1 (by decide) (by decide))).mono ?_;rintro e w2 ⟨f,rfl,hE,hm⟩;have HE:=oh hE;have HM:=oh hm;clear hE hm;go_wp2_with fail;go_ret;exact⟨f,rfl,HE.out,HM.out⟩
theorem zKS(h:StO F w P S d c sp s home root keys C l)(r k:Int)(hb:¬ (r<0\/k<0\/(r=0/\k≠0))) : Calls Tryz.prog 34 #[.pointer (some ⟨S,0,none⟩),.int .i64 r,.int .i64 k] w λe w'=>e=.returned .nilIface/\StO F w' P S d c sp s home r k C l/\zA (λj=>j=S) w w':=by
 obtain⟨a,cc,hB⟩:=h.blk;have HA:=oh (λop=>zF7 (hB.d 12 (.bool false) rfl) op);have HS:=oh h;have s9:=hB.d 9 (.int .i64 root) rfl;have s10:=hB.d 10 (.int .i64 keys) rfl;have sf:=hB.frozen;clear h hB;have hc:(¬ r<0/\¬ k<0/\r≠0)\/(¬ r<0/\¬ k<0/\r=0/\k=0):=by omega
 have hc2:(decide (r<0)=false/\decide (k<0)=false/\(r == 0)=false)\/(r=0/\k=0):=by
  rcases hc with ⟨h1,h2,h3⟩|⟨h1,h2,h3,h4⟩
  .exact .inl ⟨by simpa using h1,by simpa using h2,by simpa using h3⟩
  .exact .inr ⟨h3,h4⟩
 rcases hc2 with ⟨h1,h2,h3⟩|⟨rfl,rfl⟩
 all_goals
  clear hb hc
  go_enter Tryz.func34, Tryz.ntmps34
  go_wp2_with fail;refine (HA.out _).mono ?_;rintro e w1 ⟨rfl,rfl⟩;go_wp2_with fail;go_ret
 .exact⟨rfl,HS.out.set r k,zBd r k⟩
 .exact⟨rfl,HS.out.set 0 0,zBd 0 0⟩
def zLw(F P:NP)(ad:Nat->Addr)(w:World)(S d c sp:Nat)(s:qD)(home:Int)(C:qK)(l:List Nat)(e:Ending)(w':World):Prop :=
 ∃P' F',e=.returned (.tuple #[])/\StO F' w' P' S d c sp s home (s.root:Int) (s.keys:Int) (zAu C) (zDS l)/\zR (yJ P S) (yJ P' S) F F' ad w w'
theorem zKz(hL:zZ F ad w)(hP:∀k,P k->F k)(h:StO F w P S d c sp s home root keys C l) :
  Calls Tryz.prog 98 #[.pointer (some ⟨S,0,none⟩)] w (zLw F P ad w S d c sp s home C l):=by
 obtain⟨sb,bvs,Pd,b2,h1,h2,h3,h4,⟨a,cc,h5⟩,h6,h7⟩:=h;have hPe:P=λk=>qW c sb Pd k\/spF sp b2 k:=funext λk=>propext (h3 k)
 subst hPe;have HRB:=oh (zFr w sp b2 l h2);have c2:=h5.d 2 (.pointer (some ⟨sp,0,none⟩)) rfl;have HL:=oh hL;have HP:=oh hP;have HC:=oh h1;have HD:=oh h4;have HB:=oh h5;have HS:=oh h6;have HF:=oh h7;clear hL hP h1 h2 h3 h4 h5 h6 h7
 go_enter Tryz.func98, Tryz.ntmps98
 go_wp2_with fail;refine HRB.out.mono ?_;rintro e w1 ⟨rfl,hS1,m1⟩;have hC1:jP F w1 d c sb bvs Pd C:=HC.out.plus m1 HD.out (λk hk=>HP.out k (.inr hk)) (λ_ _ h=>h);have n1:=zR.same HL.out HP.out (m1.mono (λk hk=>Or.inr hk));have hB1:=n1.blk HB.out HS.out;have HFG:=oh (zFo n1.env (λk hk=>HP.out k (.inl hk)) hC1);have HS1:=oh hS1;have HN1:=oh n1;have HB1:=oh hB1;have c1:=hB1.d 1 (.pointer (some ⟨c,0,none⟩)) rfl;clear hS1 m1 hC1 n1 hB1 c2;go_wp2_with fail;refine HFG.out.mono ?_;rintro e w2 ⟨sb',bvs',F2,rfl,k1,k3⟩;have hns:¬ qW c sb Pd sp:=λf=>HD.out sp f (.inl rfl)
 have hnb:¬ qW c sb Pd b2:=λf=>HD.out b2 f (.inr rfl)
 have n2:=k3.part (Q:=spF sp b2) (λk hk=>HP.out k (.inr hk)) HN1.out.env;have hS2:=HS1.out.mods k3.stp.mods hns hnb;have hD2:∀k,qW c sb' Pd k->¬ spF sp b2 k:=λk hk hs=>by
  have hlt:=zHN HS1.out k hs;exact HD.out k (k3.stp.old k hlt hk) hs
 have n12:=HN1.out.trans n2;have hB2:=n12.blk HB.out HS.out;have hnS:=n12.not HB.out.lt HS.out;have c6:=hB2.d 6 (.int .i64 (s.root:Int)) rfl;have c7:=hB2.d 7 (.int .i64 (s.keys:Int)) rfl;have c9:=hB2.d 9 (.int .i64 root) rfl;have c10:=hB2.d 10 (.int .i64 keys) rfl;have sf:=hB2.frozen;have HO:Hid (StO F2 w2 (λk=>qW c sb' Pd k\/spF sp b2 k) S d c sp s home root keys (zAu C) (zDS l)/\zR (λk=>qW c sb Pd k\/spF sp b2 k) (λk=>qW c sb' Pd k\/spF sp b2 k) F F2 ad w w2):=oh ⟨⟨sb',bvs',Pd,b2,k1,hS2,λk=>rP,hD2,⟨a,cc,hB2⟩,hnS,n12.grow S HF.out⟩,n12⟩;have HSW:=oh HB.out.lt;clear k1 k3 hns hnb n2 hS2 hD2 n12 hB2 hnS;go_wp2_with fail;go_region
 go_wp2_with fail;go_end0
 obtain⟨q1,q2⟩:=HO.out;have q3:=(q1.set (s.root:Int) (s.keys:Int)).at zr.drew;have hF2:F2 S:=q2.grow S HF.out;exact⟨_,F2,rfl,q3,q2.withS HSW.out hF2 ((zBd _ _).drew)⟩
def zLx(F P:NP)(ad:Nat->Addr)(w:World)(S d c sp:Nat)(s:qD)(home:Int)(C:qK)(l:List Nat)(e:Ending)(w':World):Prop :=
 ∃P' F',e=.returned .nilIface/\StO F' w' P' S d c sp s home (s.root:Int) (s.keys:Int) (zAu C) (zDS l)/\zR (yJ P S) (yJ P' S) F F' ad w w'
theorem zLy(hL:zZ F ad w)(hP:∀k,P k->F k)(h:StO F w P S d c sp s home root keys C l) :
  Calls Tryz.prog 35 #[.pointer (some ⟨S,0,none⟩)] w (zLx F P ad w S d c sp s home C l):=by
 obtain⟨a,cc,hB⟩:=h.blk;have HA:=oh (λop=>zF7 (hB.d 12 (.bool false) rfl) op);have HK:=oh (zKz hL hP h);clear h hB hL hP
 go_enter Tryz.func35, Tryz.ntmps35
 go_wp2_with fail;refine (HA.out _).mono ?_;rintro e w1 ⟨rfl,rfl⟩;go_wp2_with fail;refine HK.out.mono ?_;rintro e w2 ⟨P2,F2,rfl,k1,k2⟩;have HR:=oh (And.intro k1 k2);clear k1 k2;go_wp2_with fail;go_ret;exact⟨P2,F2,rfl,HR.out.1,HR.out.2⟩
end
section
variable {P P' F F':NP}{ad:Nat->Addr}{w w':World}{d S sp b2:Nat}{D:zH}{cv il:Value}{s:qD}{home root keys:Int}{l:List Nat}
theorem zK0(hL:zZ F ad w)(hP:∀k,P k->F k)(h:jL w P d D)(ho:D.off=false)(hBu:zHd D)(hfew:D.waiting.length<900000)(hB:zJ w S (stC d cv (.pointer (some ⟨sp,0,none⟩)) s home root keys il false) 149)(hPS:¬ P S)(hsp:SpR w sp b2 l)
  (m:vU) (hm:jF m=true) (hg:m.gen<18446744073709551616) (hu:zV m=jX l l.length) (z r k:Int) (hb8:8<=D.blocks) (h1:256<=D.size) (h2:D.size<=1024) :
  Calls Tryz.prog 99 #[.agg #[.pointer (some ⟨S,0,none⟩),.int .u64 (m.gen:Int),.int .i64 (m.blocks:Int),.int .i64 z,.int .i64 r,.int .i64 k]] w (zAV F P ad w d):=by
 obtain⟨g,hgg⟩:∃g,g=m.gen:=⟨_,rfl⟩;obtain⟨b,hb2⟩:∃b,b=m.blocks:=⟨_,rfl⟩;obtain⟨U,hU⟩:∃U,U=(zV m).length:=⟨_,rfl⟩;obtain⟨X,hX⟩:∃X,X=w.heap.size:=⟨_,rfl⟩;obtain⟨W0,hW0⟩:∃W0,W0=w.alloc (.cells #[.pointer (some ⟨S,0,none⟩),.int .u64 (g:Int),.int .i64 (b:Int),.int .i64 z,.int .i64 r,.int .i64 k] 177):=⟨_,rfl⟩;have hM0:zF w W0:=by rw[hW0];exact (zss w).alloc _
 have hX0:zJ W0 X #[.pointer (some ⟨S,0,none⟩),.int .u64 (g:Int),.int .i64 (b:Int),.int .i64 z,.int .i64 r,.int .i64 k] 177:=by rw[hW0,hX];exact zJ.new w _ _
 have HPX:Hid (¬ P X):=oh (λf=>by have:=hL.lt _ (hP _ f);omega);have HUS:Hid (∀W,zF W0 W -> Calls Tryz.prog 161 #[.pointer (some ⟨sp,0,none⟩)] W λe w'=>∃a c,e=.returned (.slice a U c)/\(∀w2 Q,zA Q w' w2->(∀j,Q j->j<W.heap.size)->Sl F w2 1 yX (.slice a U c) (zV m))/\zF W w'):=oh (λW mm=>(zJ2 W sp b2 l ((hsp.mods hM0 (λf=>f) (λf=>f)).mods mm (λf=>f) (λf=>f))).mono (λe w' ⟨uv,e1,e2,e3⟩=>by
  rw[<- hu] at e2;obtain⟨a,c,e4,e5,e6⟩:=e2.form;rw[<- hU] at e4;subst e4;refine⟨a,c,e1,λw2 Q m2 hQ=>?_,e3⟩;have hlt:∀q,F q->q<w.heap.size:=hL.lt;exact ((e2.mods m2 (λq hq hf=>by have a1:=(e2.lt q hq).1;have a2:=hQ q hf;omega)).blocks (G:=F) (λq hq hf=>by have a1:=(e2.lt q hq).1;have a2:=hlt q hf;have a3:=hM0.size;have a4:=mm.size;omega)).sl zAY.len (by
   have h6:=(qS m).1 hm;have h7:=zBa m.used 0 m.blocks h6.2.2.2.2.1 (λn hn=>⟨wK _,h6.2.2.2.2.2 n hn⟩) (wK _);unfold zV;rw[wD];omega)))
 have HWM:Hid (∀W,zF W0 W->∀a c,Sl F W 1 yX (.slice a U c) (zV m) -> Calls Tryz.prog 95 #[.pointer (some ⟨d,0,none⟩),.agg #[.int .u64 (g:Int),.int .i64 (b:Int),.slice a U c]] W (zAV F P ad W d)):=oh (λW mm a c hs=>by
  have:=zE5 (hL.mods (hM0.trans mm).ext) hP (h.at (hM0.trans mm)) ho hBu hfew m hm hg _ hs hb8 h1 h2;rw[show zAM m (.slice a U c)=.agg #[.int .u64 (g:Int),.int .i64 (b:Int),.slice a U c] by rw[hgg,hb2];rfl] at this;exact this)
 have HSX:=oh (λW (mm:zF W0 W)=>(⟨(hX0.ext mm).cell rfl,(hX0.ext mm).cell rfl,(hX0.ext mm).cell rfl,(hB.ext (hM0.trans mm)).cell rfl,(hB.ext (hM0.trans mm)).cell rfl⟩:W.cell? ⟨X,0,none⟩=some (.pointer (some ⟨S,0,none⟩))/\W.cell? ⟨X,1,none⟩=some (.int .u64 (g:Int))/\W.cell? ⟨X,2,none⟩=some (.int .i64 (b:Int))/\W.cell? ⟨S,0,none⟩=some (.pointer (some ⟨d,0,none⟩))/\W.cell? ⟨S,2,none⟩=some (.pointer (some ⟨sp,0,none⟩))));have HM0:=oh hM0;have HPS:=oh hPS;have HP:=oh hP;have HL:=oh hL;have hXW:X<W0.heap.size:=hX0.lt;have hSW:S<W0.heap.size:=uD hB.lt hM0.size;have zd:=HSX.out _ (zss W0).drew;have za:=HSX.out _ ((zss W0).alloc (.cells #[.int .u64 0,.int .i64 0,.slice none 0 0] 173)).drew;have n1:X≠W0.heap.size:=by omega
 have n2:S≠W0.heap.size:=by omega
 rw[<- hgg,<- hb2];clear hL hP h ho hBu hfew hB hPS hsp hm hg hu hb8 h1 h2 hgg hb2 hU hX0 hM0
 go_enter Tryz.func99, Tryz.ntmps99
 go_wp2_with fail;rw[<- hW0,<- hX];clear hW0 hX;go_region_held3 (λw'=>w'.cell? ⟨X,0,none⟩=some (.pointer (some ⟨S,0,none⟩))/\w'.cell? ⟨X,1,none⟩=some (.int .u64 (g:Int))/\w'.cell? ⟨X,2,none⟩=some (.int .i64 (b:Int))/\w'.cell? ⟨S,0,none⟩=some (.pointer (some ⟨d,0,none⟩))/\w'.cell? ⟨S,2,none⟩=some (.pointer (some ⟨sp,0,none⟩)))
  (first|(with_reducible exact zd)|(with_reducible exact z5)|(with_reducible exact z7)|(with_reducible exact z6)|(with_reducible exact za)|fail)
  (first
   | (go_at_call 161;((with_reducible refine (HUS.out _ (zss W0).drew).mono ?_);rintro e w6 ⟨ua,uc,rfl,hs6,m6⟩;have x6:=(zss W0).drew.trans m6;have z5:=HSX.out _ x6;have z7:=HSX.out _ (x6.alloc (.cells #[.int .u64 0,.int .i64 0,.slice none 0 0] 173));have hB:zJ (w6.alloc (.cells #[.int .u64 0,.int .i64 0,.slice none 0 0] 173)) w6.heap.size #[.int .u64 0,.int .i64 0,.slice none 0 0] 173:=zJ.new w6 _ _;have b0:=hB.d 0 (.int .u64 0) rfl;have b1:=hB.d 1 (.int .i64 0) rfl;have b2:=hB.d 2 (.slice none 0 0) rfl;have bf:=hB.frozen;have lo:W0.heap.size<=w6.heap.size:=x6.size;have z6:=HSX.out _ (x6.alloc (.cells #[.int .u64 (g:Int),.int .i64 (b:Int),.slice ua U uc] 173));have HP3:∃X3 w3,X3=w6.heap.size/\w3=w6.alloc (.cells #[.int .u64 (g:Int),.int .i64 (b:Int),.slice ua U uc] 173)/\zJ w3 X3 #[.int .u64 (g:Int),.int .i64 (b:Int),.slice ua U uc] 173 /\ zF W0 w3/\Sl F w3 1 yX (.slice ua U uc) (zV m):=⟨_,_,rfl,rfl,zJ.new w6 _ _,x6.alloc _,hs6 _ _ ((zA.refl (λ_=>False) w6).alloc _) (λ_ f=>f.elim)⟩))
   | (go_at_call 161;((with_reducible refine (HUS.out _ ((zss W0).alloc (.cells #[.int .u64 0,.int .i64 0,.slice none 0 0] 173)).drew).mono ?_);rintro e w6 ⟨ua,uc,rfl,hs6,m6⟩;have x6:=((zss W0).alloc (.cells #[.int .u64 0,.int .i64 0,.slice none 0 0] 173)).drew.trans m6;have z5:=HSX.out _ x6;have z7:=z5;have hB:zJ w6 W0.heap.size #[.int .u64 0,.int .i64 0,.slice none 0 0] 173:=zJ.ext (w:=(W0.alloc (.cells #[.int .u64 0,.int .i64 0,.slice none 0 0] 173)).drew) (zJ.new W0 _ _) m6;have b0:=hB.d 0 (.int .u64 0) rfl;have b1:=hB.d 1 (.int .i64 0) rfl;have b2:=hB.d 2 (.slice none 0 0) rfl;have bf:=hB.frozen;have lo:W0.heap.size<=W0.heap.size:=uI _;have z6:=HSX.out _ (zA.set3 (F:=λ_=>False) x6 (R:=W0.heap.size) (.inl lo) (.int .u64 (g:Int)) (.int .i64 (b:Int)) (.slice ua U uc));have HP3:∃X3 w3,X3=W0.heap.size/\w3=(((w6.setCell ⟨W0.heap.size,0,none⟩ (.int .u64 (g:Int))).setCell ⟨W0.heap.size,1,none⟩ (.int .i64 (b:Int))).setCell ⟨W0.heap.size,2,none⟩ (.slice ua U uc))/\zJ w3 X3 #[.int .u64 (g:Int),.int .i64 (b:Int),.slice ua U uc] 173 /\ zF W0 w3/\Sl F w3 1 yX (.slice ua U uc) (zV m):=⟨_,_,rfl,rfl,zJ.set3 hB (.int .u64 (g:Int)) (.int .i64 (b:Int)) (.slice ua U uc),zA.set3 (F:=λ_=>False) x6 (R:=W0.heap.size) (.inl lo) (.int .u64 (g:Int)) (.int .i64 (b:Int)) (.slice ua U uc),hs6 _ _ (zA.set3 (F:=λj=>j=W0.heap.size) (zss w6) (R:=W0.heap.size) (.inr rfl) (.int .u64 (g:Int)) (.int .i64 (b:Int)) (.slice ua U uc)) (λj hj=>by rw[hj];exact (zJ.new W0 #[.int .u64 0,.int .i64 0,.slice none 0 0] 173).lt)⟩))
   | fail)
 all_goals
  obtain⟨M,w3,hM,hw3,hC,m3,hs3⟩:=HP3;rw[<- hw3,<- hM];have HM3:=oh (HM0.out.trans m3);have HPM:Hid (¬ P M):=oh (λf=>by have h1:=HL.out.lt _ (HP.out _ f);have h2:=HM0.out.size;omega);clear zd za z5 z7 z6 x6 m6 hB b0 b1 b2 bf lo n1 n2 hs6;have zm:=λ(W:World) (mm:zF w3 W)=>(⟨(HSX.out W (m3.trans mm)).1,(HSX.out W (m3.trans mm)).2.2.2.1,(hC.ext mm).cell rfl,(hC.ext mm).cell rfl,(hC.ext mm).cell rfl⟩:W.cell? ⟨X,0,none⟩=some (.pointer (some ⟨S,0,none⟩))/\W.cell? ⟨S,0,none⟩=some (.pointer (some ⟨d,0,none⟩))/\W.cell? ⟨M,0,none⟩=some (.int .u64 (g:Int))/\W.cell? ⟨M,1,none⟩=some (.int .i64 (b:Int))/\W.cell? ⟨M,2,none⟩=some (.slice ua U uc))
  have zd:=zm _ (zss w3).drew;have HWB:=oh (HWM.out _ (m3.trans (zss w3).drew) ua uc (hs3.ext (zss w3).drew));clear hw3 hM hC m3 hs3;go_wp2_with fail;go_region_held3 (λw'=>w'.cell? ⟨X,0,none⟩=some (.pointer (some ⟨S,0,none⟩))/\w'.cell? ⟨S,0,none⟩=some (.pointer (some ⟨d,0,none⟩))/\w'.cell? ⟨M,0,none⟩=some (.int .u64 (g:Int))/\w'.cell? ⟨M,1,none⟩=some (.int .i64 (b:Int))/\w'.cell? ⟨M,2,none⟩=some (.slice ua U uc))
   (first|(with_reducible exact zd)|(with_reducible exact zq)|fail)
   (first
    | (go_at_call 95;((with_reducible refine HWB.out.mono ?_);rintro e w7 ⟨f,el,rfl,hE,hm7,h9⟩;have zq:w7.cell? ⟨X,0,none⟩=some (.pointer (some ⟨S,0,none⟩))/\w7.cell? ⟨S,0,none⟩=some (.pointer (some ⟨d,0,none⟩))/\w7.cell? ⟨M,0,none⟩=some (.int .u64 (g:Int))/\w7.cell? ⟨M,1,none⟩=some (.int .i64 (b:Int))/\w7.cell? ⟨M,2,none⟩=some (.slice ua U uc):=⟨(hm7.cell (zQ zd.1) HPX.out).trans zd.1,(hm7.cell (zQ zd.2.1) HPS.out).trans zd.2.1,(hm7.cell (zQ zd.2.2.1) HPM.out).trans zd.2.2.1,(hm7.cell (zQ zd.2.2.2.1) HPM.out).trans zd.2.2.2.1,(hm7.cell (zQ zd.2.2.2.2) HPM.out).trans zd.2.2.2.2⟩))
    | fail)
  have HF:=oh (And.intro hE (And.intro (HM3.out.ext.trans ((zA.refl P w3).drew.trans hm7)) h9));clear hE hm7 h9 zd zq;unfold zD;go_wp2_with fail;go_ret;exact⟨f,el,rfl,HF.out.1,HF.out.2.1,HF.out.2.2⟩
theorem Tryz.idx3f(a0 a1 a2:Value)(w:World):(Instr.index 178 (.agg #[a0,a1,a2]) (.int .i64 0)).run Tryz.prog w=.ok a0 w:=by kernel_rfl
def zGz(F P:NP)(ad:Nat->Addr)(w:World)(S d:Nat)(e:Ending)(w':World):Prop :=
 ∃f el,e=.returned (zD f)/\yG F ad w' (zD f) el 7/\zA (yJ P S) w w'/\w'.cell? ⟨d,9,none⟩=some (.bool true)/\w'.cell? ⟨S,12,none⟩=some (.bool true)
theorem zHm(hL:zZ F ad w)(hP:∀k,P k->F k)(h:jL w P d D)(ho:D.off=false)(hBu:zHd D)(hfew:D.waiting.length<900000)(hB:zJ w S (stC d cv (.pointer (some ⟨sp,0,none⟩)) s home root keys il false) 149)(hPS:¬ P S)(hFS:F S)(hPd:P d)(hsp:SpR w sp b2 l)
  (m:vU) (hm:jF m=true) (hmg:m.gen=s.gen+1) (hg:s.gen+1<18446744073709551616) (hmb:m.blocks=s.blocks) (hu:zV m=jX l l.length) (hb8:8<=D.blocks) (h1:256<=D.size) (h2:D.size<=1024) :
  Calls Tryz.prog 37 #[.pointer (some ⟨S,0,none⟩)] w (zGz F P ad w S d):=by
 have HAL:=oh (λop=>zF7 (hB.d 12 (.bool false) rfl) op);have HLY:Hid (∀W,zF w W -> Calls Tryz.prog 99 #[.agg #[.pointer (some ⟨S,0,none⟩),.int .u64 ((s.gen:Int)+1),.int .i64 (s.blocks:Int),.int .i64 (s.size:Int),.int .i64 root,.int .i64 keys]] W (zAV F P ad W d)):=oh (λW mm=>by
  have:=zK0 (hL.mods mm.ext) hP (h.at mm) ho hBu hfew (hB.ext mm) hPS (hsp.mods mm (λf=>f) (λf=>f)) m hm (by rw[hmg];exact hg) hu (s.size:Int) root keys hb8 h1 h2;rw[hmg,hmb] at this;rw[show (((s.gen+1:Nat)):Int)=(s.gen:Int)+1 by omega] at this;exact this)
 obtain⟨g,hgg⟩:∃g,g=s.gen:=⟨_,rfl⟩;obtain⟨sb,hsb⟩:∃b,b=s.blocks:=⟨_,rfl⟩;obtain⟨sz,hsz⟩:∃b,b=s.size:=⟨_,rfl⟩;rw[<- hgg,<- hsb,<- hsz] at HLY;unfold stC at hB;rw[<- hgg,<- hsb,<- hsz] at hB;rw[<- hgg] at hg;have c3:=hB.d 3 (.int .u64 (g:Int)) rfl;have c4:=hB.d 4 (.int .i64 (sb:Int)) rfl;have c5:=hB.d 5 (.int .i64 (sz:Int)) rfl;have c9:=hB.d 9 (.int .i64 root) rfl;have c10:=hB.d 10 (.int .i64 keys) rfl;have hSl:=hB.lt;have hne:S≠w.heap.size:=by omega
 have wg:IntKind.u64.wrap ((g:Int)+1)=(g:Int)+1:=by unfold IntKind.wrap;simp[IntKind.bits,IntKind.signed];omega
 have HL:=oh hL;have HP:=oh hP;have HB:=oh hB;have HPS:=oh hPS;have HFS:=oh hFS;have HPD:=oh hPd;clear hL hP h ho hBu hfew hB hPS hFS hPd hsp hm hmg hmb hu hb8 h1 h2 hgg hsb hsz
 go_enter Tryz.func37, Tryz.ntmps37
 go_wp2_with fail;refine (HAL.out _).mono ?_;rintro e w1 ⟨rfl,rfl⟩;go_wp2_with fail;go_region
 obtain⟨W1,hW1⟩:∃W,W=(w.alloc (.cells #[.pointer (some ⟨S,0,none⟩),.int .u64 ((g:Int)+1),.int .i64 (sb:Int),.int .i64 (sz:Int),.int .i64 root,.int .i64 keys] 177)).drew:=⟨_,rfl⟩;have m1:zF w W1:=by rw[hW1];exact ((zss w).alloc _).drew
 have hX1:zJ W1 w.heap.size #[.pointer (some ⟨S,0,none⟩),.int .u64 ((g:Int)+1),.int .i64 (sb:Int),.int .i64 (sz:Int),.int .i64 root,.int .i64 keys] 177:=by rw[hW1];exact zJ.drew (zJ.new w _ _)
 obtain⟨X,hX⟩:∃X,X=w.heap.size:=⟨_,rfl⟩;rw[<- hX] at hX1;rw[<- hW1,<- hX];have HM1:=oh m1;have x0:=hX1.d 0 (.pointer (some ⟨S,0,none⟩)) rfl;have x1:=hX1.d 1 (.int .u64 ((g:Int)+1)) rfl;have x2:=hX1.d 2 (.int .i64 (sb:Int)) rfl;have x3:=hX1.d 3 (.int .i64 (sz:Int)) rfl;have x4:=hX1.d 4 (.int .i64 root) rfl;have x5:=hX1.d 5 (.int .i64 keys) rfl;have ix:=Tryz.idx3f;clear hW1 hX m1 hX1 c3 c4 c5 c9 c10 hne wg;go_wp2_with fail;go_loopg [42] 3 (λr v42 wr=>r=3/\v42=.int .i64 0/\Hid (wr=W1))
 case atStart=>exact⟨rfl,rfl,oh rfl⟩
 case round =>
  obtain⟨_,rfl,HW⟩:=hrel;have hwr:=HW.out;subst hwr;go_wp2_with fail;refine (HLY.out _ HM1.out).mono ?_;rintro e w7 ⟨f,el,rfl,hE,hm7,h9⟩;have hB7:=(HB.out.ext HM1.out).mods hm7 HPS.out;have c12:=hB7.d 12 (.bool false) rfl;have sf:=hB7.frozen;have hSd:S≠d:=λe=>HPS.out (e ▸ HPD.out)
  have HF:=oh (And.intro hE (And.intro (HM1.out.ext.trans hm7:zA P w w7) (And.intro h9 hB7)));clear hE hm7 h9 hB7;unfold zD;go_wp2_with fail;obtain⟨W8,hW8⟩:∃W,W=w7.setCell ⟨S,12,none⟩ (.bool true):=⟨_,rfl⟩;have m8:zA (λj=>j=S) w7 W8:=by rw[hW8];exact (zA.refl (λj=>j=S) w7).setCell (p:=⟨S,12,none⟩) (.inr rfl) _
  have k12:W8.cell? ⟨S,12,none⟩=some (.bool true):=by
   have hz:=HF.out.2.2.2.set 12 (.bool true);rw[<- hW8] at hz;exact hz.k 12 rfl
  rw[<- hW8];have m08:zA (yJ P S) w W8:=(HF.out.2.1.mono (λj h=>.inl h)).trans (m8.mono (λj h=>.inr h));have mF8:zA F w7 W8:=m8.mono (λj h=>by have h':j=S:=h;rw[h'];exact HFS.out);have hL8:zZ F ad W8:=HL.out.mods (m08.mono (λj h=>h.elim (λh=>HP.out j h) (λh=>by rw[h];exact HFS.out)));have h98:W8.cell? ⟨d,9,none⟩=some (.bool true):=(m8.cell (zQ HF.out.2.2.1) (λh=>hSd h.symm)).trans HF.out.2.2.1;have HE8:=oh (wrap_any hL8 ⟨#[115,116,111,114,101,46,67,111,109,109,105,116]⟩ _ _ _ (HF.out.1.mods mF8));have HZ:=oh (And.intro m08 (And.intro h98 k12));unfold zD at HE8;clear hW8 m8 k12 m08 mF8 hL8 h98 c12 sf hSd;refine HE8.out.mono ?_;rintro e w9 ⟨f2,rfl,hE2,hm2⟩;have HY:=oh (And.intro hE2 (And.intro (HZ.out.1.trans hm2.ext) (And.intro ((hm2.cell (zQ HZ.out.2.1) (λf=>f)).trans HZ.out.2.1) ((hm2.cell (zQ HZ.out.2.2) (λf=>f)).trans HZ.out.2.2))));clear hE2 hm2;go_wp2_with fail;go_ret;exact⟨f2,_,rfl,HY.out.1,HY.out.2.1,HY.out.2.2.1,HY.out.2.2.2⟩
end
section
variable {P P' P1 P2 F F' F1 F2 Q:NP}{ad:Nat->Addr}{w w' wr w2:World}{c s:Nat}{G:GA}{l:List Nat}{v v':Value}{gen:Nat}
theorem zKT(hL:zZ F ad w)(hP:∀k,P k->F k)(h:jC F w P c s G l)(gen:Nat)(root:Int)(key:ByteArray)(hk:zCK G key 16 root) :
  Calls Tryz.prog 180 #[pgV c s gen,.int .i64 root,.string key] w (zAl F P ad w c s G l (λF' w' e=>zKw F' ad w' (findA G key 16 [] root) e)):=by
 have m0:zF w ((w.alloc (gP c s gen)).alloc gB):=((zss w).alloc _).alloc _;have HF0:Hid (FiS F P ad w c s gen G l (λk=>F k\/k=w.heap.size+1) P ((w.alloc (gP c s gen)).alloc gB) (.slice none 0 0) []):=oh
  ⟨h.plusNew hP m0 (λk hk=>by omega),zR.new hL hP m0 (λk hk=>by omega) (λk hk=>by simp;omega),zDz.nil _ _ _ _ _ _ _,(zJ.new w _ _).alloc _,λhp=>by have:=h.bd _ hp;omega,zU (by simp),λhp=>by have:=h.bd _ hp;omega,.inr rfl⟩
 have HK:=oh hk;have HFL:=oh hL.lt;clear hL hP h hk m0;have HLD:=λ(F1 P1:NP) (wr:World) (h1:zZ F1 ad wr) (h2:∀k,P1 k->F1 k) (h3:jC F1 wr P1 c s G l) (id:Int) (h4:G.knows id)=>zKD h1 h2 h3 gen id h4
 unfold pgV at HLD ⊢;have HLD:=oh HLD
 go_enter Tryz.func180, Tryz.ntmps180
 go_wp2_with fail;go_loopg [9,10] 16 (λm v9 v10 wr=>∃(F1 P1:NP) (st:List (Int × Nat)) (id:Int),st.length+m=16/\v10=.int .i64 id/\Hid (FiS F P ad w c s gen G l F1 P1 wr v9 st/\findA G key m st id=findA G key 16 [] root/\zCK G key m id))
 case atStart=>exact⟨_,P,[],root,rfl,rfl,oh ⟨HF0.out,rfl,HK.out⟩⟩
 case round =>
  obtain⟨F1,P1,st,id,hm,rfl,HW⟩:=hrel;obtain⟨va,vc,rfl,hv1,hv2⟩:=HW.out.1.row.1.form;unfold maxLen at hv2;have hbb:=HW.out.1.box.lt;have hrr:=HW.out.1.res.lt;by_cases hlt:0<gk
  .obtain⟨m,rfl⟩:∃m,gk=m+1:=⟨gk-1,by omega⟩;have hb0:=HW.out.1.box.d 0 (.pointer (some ⟨c,0,none⟩)) rfl;have hb1:=HW.out.1.box.d 1 (.pointer (some ⟨s,0,none⟩)) rfl;have hb2:=HW.out.1.box.d 2 (.int .u64 (gen:Int)) rfl;have hlen:(st.length:Int)<16:=by omega
   go_wp2_with fail;refine (HLD.out F1 P1 _ HW.out.1.nx.env HW.out.1.nx.sub HW.out.1.pg id HW.out.2.2.1).mono ?_;rintro e w2 ⟨P2,F2,hG2,hN2,hres⟩;have HW2:=oh (HW.out.1.nxt hN2 hG2);have HM2:=oh (hN2.subP HW.out.1.nx.sub);clear hG2 hN2 hb0 hb1 hb2;generalize hld:G.load id=r at hres
   rcases r with n|⟨el,ek⟩
   .obtain⟨ve,vk,vi,rfl,hse,hsk,hsi⟩:=hres;have hrn:=GA.load_right hld;obtain⟨ea,ec,rfl,_,_,_,_⟩:=_root_.id hse;obtain⟨ka,kc,rfl,_,_,_,_⟩:=_root_.id hsk;obtain⟨ia,ic,rfl,_,hic,_,hii⟩:=_root_.id hsi;unfold maxLen at hic;obtain⟨at_,isb,hfn⟩:∃a b,jD n key=(a,b):=⟨_,_,rfl⟩;have HLD2:=oh hld;have HFN:=oh hfn;have HRN:=oh hrn;have HII:=oh hii;have m2:zF w2 (w2.alloc (.cells #[.bool n.leaf,.slice ea n.entries.length ec,.slice ka n.keys.length kc,.slice ia n.kids.length ic] 277)):=(zss w2).alloc _;have HFD:=oh (zBl n key _ _ (.slice ia n.kids.length ic) (hse.ext m2) (hsk.ext m2));have HX2:=oh (zJ.new w2 #[.bool n.leaf,.slice ea n.entries.length ec,.slice ka n.keys.length kc,.slice ia n.kids.length ic] 277);have HSE:=oh hse;have HSK:=oh hsk;have HSI:=oh hsi;have HM2':=oh m2;clear hld hfn hrn hii hse hsk hsi m2;go_wp2_with fail;refine (HFD.out).mono ?_;rintro e w3 ⟨rfl,hm3⟩;rw[HFN.out];have HW3:=oh (HW2.out.ext (HM2'.out.trans hm3));have HX3:=oh (HX2.out.ext hm3);have HM3:=oh (HM2'.out.trans hm3);have hb3:=HW3.out.box.lt;clear hm3;cases hlf:n.leaf
    .have HLF:=oh hlf;have hlt2:at_<n.kids.length:=by have:=zKF HRN.out hlf key;rw[HFN.out] at this;exact this
     have HLT2:=oh hlt2;rw[hlf] at HX3;clear hlf;obtain⟨kb,koff,rfl,_,_,_⟩:=Sl.at HII.out (zA.refl F2 w2) (λk _ h=>h) at_ hlt2
     obtain⟨kid,hkid⟩:∃kid,kid=n.kids[at_]:=⟨_,rfl⟩;have HKID:=oh hkid;clear hkid;go_wp2_with (at_builtin;refine vY Tryz.elSt zEn rfl _ _ rfl w.heap.size _ _ st [(id,at_)] rfl rfl (HW3.out.row.1.ext (zr.alloc _)) (Sl.one (F:=λ_=>False) (zU (by simp)) (λf=>f)) (by simp only[uG,uK];omega) (by simp;omega) (λf=>f) ?_;simp only[uG,uK,uZ];intro a4 c4 w4 hO4 hm4 hat4;have hX4:=(HX3.out.alloc (.cells #[.int .i64 id,.int .i64 (at_:Int)] 393)).mods hm4 (λe=>yA.notB HW3.out.row.1 HX3.out (by decide) _ e rfl);have x0:=hX4.d 0 (.bool false) rfl;have x3:=hX4.d 3 (.slice (some ⟨kb,koff,none⟩) n.kids.length ic) rfl;have hM4:zA F2 w2 w4:=((HM3.out.alloc _).ext).trans (hm4.mono (λk hk=>(HW3.out.row.2 k hk).1));have d0:w4.cell? ⟨kb,koff+at_,none⟩=some (.int .i64 kid):=zKE HII.out hM4 HLT2.out HKID.out);have HW4:=oh ((HW3.out.ext ((zss w3).alloc (.cells #[.int .i64 id,.int .i64 (at_:Int)] 393))).app hO4 hm4 hat4);have HX4:=oh hX4;have HM4:Hid (zA F2 w2 w4):=oh (((HM3.out.alloc _).ext).trans (hm4.mono (λk hk=>(HW3.out.row.2 k hk).1)));have HO4:=oh hO4;clear hX4 hO4 hm4 hat4 hM4 d0 x0 x3;have HFA:Hid (findA G key m (st++[(id,at_)]) kid=findA G key 16 [] root):=oh (by
      have h1:=HW.out.2.1;rw[findA,HLD2.out] at h1;simp only[HLF.out,wI,rF,HFN.out] at h1;rw[zF0 (uA HLT2.out)] at h1;rw[HKID.out];exact h1)
     have HOK:Hid (zCK G key m kid):=oh (by
      have h1:=HW.out.2.2.2 n HLD2.out HLF.out;rw[HFN.out] at h1;simp only[zF0 (uA HLT2.out)] at h1;rw[HKID.out];exact h1)
     go_wp2_with fail;go_roundg m
     case measure=>omega
     case rel=>exact⟨_,P2,st++[(id,at_)],kid,by rw[uC,uG,uK];omega,rfl,oh ⟨HW4.out,HFA.out,HOK.out⟩⟩
    .have HLF:=oh hlf;rw[hlf] at HX3;clear hlf;go_wp2_with (at_builtin;refine vY Tryz.elSt zEn rfl _ _ rfl w.heap.size _ _ st [(id,at_)] rfl rfl (HW3.out.row.1.ext (zr.alloc _)) (Sl.one (F:=λ_=>False) (zU (by simp)) (λf=>f)) (by simp only[uG,uK];omega) (by simp;omega) (λf=>f) ?_;simp only[uG,uK,uZ];intro a4 c4 w4 hO4 hm4 hat4;have hX4:=(HX3.out.alloc (.cells #[.int .i64 id,.int .i64 (at_:Int)] 393)).mods hm4 (λe=>yA.notB HW3.out.row.1 HX3.out (by decide) _ e rfl);have x0:=hX4.d 0 (.bool true) rfl;have x1:=hX4.d 1 (.slice ea n.entries.length ec) rfl;have x2:=hX4.d 2 (.slice ka n.keys.length kc) rfl;have x3:=hX4.d 3 (.slice ia n.kids.length ic) rfl;have hR:=(HW3.out.res.alloc (.cells #[.int .i64 id,.int .i64 (at_:Int)] 393)).mods hm4 (λe=>yA.notB HW3.out.row.1 HW3.out.res (by decide) _ e rfl);have r0:=hR.d 0 (.bool false) rfl;have r1:=hR.d 1 (.slice none 0 0) rfl;have r2:=hR.d 2 (.slice none 0 0) rfl;have r3:=hR.d 3 (.slice none 0 0) rfl;have rf:=hR.frozen);have HW4:=oh ((HW3.out.ext ((zss w3).alloc (.cells #[.int .i64 id,.int .i64 (at_:Int)] 393))).app hO4 hm4 hat4);have HX4:=oh hX4;have HM4:Hid (zA F2 w2 w4):=oh (((HM3.out.alloc _).ext).trans (hm4.mono (λk hk=>(HW3.out.row.2 k hk).1)));have HO4:=oh hO4;have hne:w2.heap.size≠w.heap.size+1:=by have:=HW2.out.res.lt;omega
     have hne2:w.heap.size+1≠w2.heap.size:=λe=>hne e.symm
     clear hX4 hO4 hm4 hat4 hR;go_wp2_with fail;go_region_held3 (λw'=>w'.cell? ⟨w2.heap.size,0,none⟩=some (.bool true)/\w'.cell? ⟨w2.heap.size,1,none⟩=some (.slice ea n.entries.length ec)/\w'.cell? ⟨w2.heap.size,2,none⟩=some (.slice ka n.keys.length kc)/\w'.cell? ⟨w2.heap.size,3,none⟩=some (.slice ia n.kids.length ic))
      (first|(with_reducible exact⟨x0,x1,x2,x3⟩)|go_keep)
      (fail)
     have HFA:Hid (findA G key 16 [] root=.inl (st++[(id,at_)],n)):=oh (by
      rw[<- HW.out.2.1,findA,HLD2.out];simp only[HLF.out,rE,HFN.out])
     have HRB:=oh ((HW4.out.res.set4 (.bool true) (.slice ea n.entries.length ec) (.slice ka n.keys.length kc) (.slice ia n.kids.length ic)).drew);have HMR:=oh ((zA.set4 (F:=λk=>k=w.heap.size+1) (zss w4) (R:=w.heap.size+1) (.inr rfl) (.bool true) (.slice ea n.entries.length ec) (.slice ka n.keys.length kc) (.slice ia n.kids.length ic)).drew);clear x0 x1 x2 x3 r0 r1 r2 r3 rf hne hne2;go_wp2_with fail;refine bodyPost_ret (jQ rfl _ _ (w.heap.size+1) 277 #[.bool true,.slice ea n.entries.length ec,.slice ka n.keys.length kc,.slice ia n.kids.length ic] _ rfl HRB.out Tryz.underlying277 rfl Tryz.nodeSize) rfl ?_;have HM5:=HM4.out.trans (HMR.out.mono (G:=F2) (λk hk=>hk ▸ HW2.out.resF));have hn5:=HW4.out.nx.resD HMR.out (R:=w.heap.size+1) (by omega) HW4.out.resF;have hq:∀k,(F k\/P2 k)->F2 k:=λk hk=>hk.elim (HW2.out.nx.grow k) (HW2.out.nx.sub k)
     refine⟨P2,λk=>F k\/P2 k,(HW4.out.pg.res HMR.out HW4.out.resP HW4.out.resF).anti (λk hk=>.inl (hq k hk)),hn5.least,?_⟩;rw[HFA.out];refine⟨_,_,_,_,by rw[HLF.out];rfl,?_,(HSE.out.mods HM5).anti' hq,(HSK.out.mods HM5).anti' hq,(HSI.out.mods HM5).anti' hq⟩;have ho:=HW4.out.row.1.mods HMR.out (λg hg e=>yA.notB HW4.out.row.1 HW4.out.res (by decide) g hg e);have hs:Sl (λk=>F k\/P2 k) _ 2 zFT _ (st++[(id,at_)]):=yA.sl (F:=λk=>F k\/P2 k) ⟨ho.1,λg hg hf=>hf.elim (λhf=>by have h1:=(HW4.out.row.1.lt g hg).1;have h2:=HFL.out g hf;omega) (λhp=>(HW4.out.row.2 g hg).2 hp)⟩ zEn.len (by simp;omega);simpa using hs
   .obtain⟨f,rfl,hE⟩:=hres;have HE:=oh hE;have HFA:Hid (findA G key 16 [] root=.inr (el,ek)):=oh (by rw[<- HW.out.2.1,findA,hld]);clear hld hE;have hR:=HW2.out.res.alloc gB;have r0:=hR.d 0 (.bool false) rfl;have r1:=hR.d 1 (.slice none 0 0) rfl;have r2:=hR.d 2 (.slice none 0 0) rfl;have r3:=hR.d 3 (.slice none 0 0) rfl;have rf:=hR.frozen;have HRB:=oh (hR.set4 (.bool false) (.slice none 0 0) (.slice none 0 0) (.slice none 0 0));have HMR:=oh (zA.set4 (F:=λk=>k=w.heap.size+1) (zA.refl _ (w2.alloc gB)) (R:=w.heap.size+1) (.inr rfl) (.bool false) (.slice none 0 0) (.slice none 0 0) (.slice none 0 0));clear hR;go_wp2_with fail;refine bodyPost_ret (jQ rfl _ _ (w.heap.size+1) 277 gB _ rfl HRB.out Tryz.underlying277 rfl Tryz.nodeSize) rfl ?_;refine⟨P2,F2,((HW2.out.pg.at ((zss w2).alloc _))).res HMR.out HW2.out.resP HW2.out.resF,(HW2.out.nx.trans (zR.ext HW2.out.nx.env HW2.out.nx.sub ((zss w2).alloc _))).resD HMR.out (by omega) HW2.out.resF,?_⟩;rw[HFA.out];exact⟨f,rfl,(HE.out.mods ((zss w2).alloc _)).mods (HMR.out.mono (λk hk=>hk ▸ HW2.out.resF))⟩
  .obtain rfl:gk=0:=by omega
   have hlen:st.length=16:=by omega
   have g5:=HW.out.1.nx.env.c5;have HFA:Hid (findA G key 16 [] root=.inr ([zAE id],5)):=oh (by rw[<- HW.out.2.1];rfl);rw[hlen] at HW hv1 ⊢;have HL16:=oh hlen;clear hlen;go_wp2_with fail;refine (qO HW.out.1.nx.env _ id _ [] 5 (.sent 5 (by decide) (by decide))).mono ?_;rintro e w2 ⟨f,rfl,hE,hm2⟩;have HE:=oh hE;have HW2:=oh (HW.out.1.ext hm2);have hR:=HW2.out.res;have r0:=hR.d 0 (.bool false) rfl;have r1:=hR.d 1 (.slice none 0 0) rfl;have r2:=hR.d 2 (.slice none 0 0) rfl;have r3:=hR.d 3 (.slice none 0 0) rfl;have rf:=hR.frozen;have HRB:=oh (hR.set4 (.bool false) (.slice none 0 0) (.slice none 0 0) (.slice none 0 0));have HMR:=oh (zA.set4 (F:=λk=>k=w.heap.size+1) (zss w2) (R:=w.heap.size+1) (.inr rfl) (.bool false) (.slice none 0 0) (.slice none 0 0) (.slice none 0 0));clear hR hE hm2;go_wp2_with fail;refine bodyPost_ret (jQ rfl _ _ (w.heap.size+1) 277 gB _ rfl HRB.out Tryz.underlying277 rfl Tryz.nodeSize) rfl ?_;refine⟨P1,F1,HW2.out.pg.res HMR.out HW2.out.resP HW2.out.resF,HW2.out.nx.resD HMR.out (by omega) HW2.out.resF,?_⟩;rw[HFA.out];exact⟨f,rfl,HE.out.mods (HMR.out.mono (λk hk=>hk ▸ HW2.out.resF))⟩
end
end Go.Proofs.YtgphfebjjedeaaaGreatDoor
