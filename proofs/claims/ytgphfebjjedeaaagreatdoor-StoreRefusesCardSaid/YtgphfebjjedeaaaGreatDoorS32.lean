import Derived.Test.YtgphfebjjedeaaaGreatDoorS31
import Derived.StillTailTactics
import Derived.Deep.RegionHeld3
import Derived.BigQuiet
import Derived.Deep.Cut
namespace Go.Proofs.YtgphfebjjedeaaaGreatDoor
open Lib renaming hid->oh
set_option maxHeartbeats 4000000
set_option maxRecDepth 100000
section
open Go.RowKit
attribute [local go_sem ↓] Go.wp_at_zero Go.wp_at_succ
section
variable {F P P' F' P1 F1:NP}{ad:Nat->Addr}{w w' w0 w1:World}{base c s gen kb:Nat}{root:Int}{G G':GA}{l l':List Nat}{sv sv':Value}{st st':List FrE}{x:FrE}
theorem zR.shrink{Q P2:NP}(n:zR P Q F F' ad w w')(h:∀k,P2 k->Q k):zR P P2 F F' ad w w' :=
 ⟨⟨n.stp.mods,λk hk hp=>n.stp.old k hk (h k hp),λk hp=>n.stp.bd k (h k hp)⟩,λk hp=>n.sub k (h k hp),n.grow,n.oldF,n.env⟩
end
end
section
open Go.RowKit
theorem zK4{b s:Nat}(h8:8<=b)(h256:b<=256)(h1:256<=s)(h2:s<=1024):zBw (vJ b s) :=
 ⟨rfl,rfl,rfl,by simp[vJ],λid hid=>by
  have hid':id<b:=hid;unfold zH.look vJ;simp[jO,hid'],h8,h256,h1,h2⟩
theorem zG0(D:zH):(zCo D).total:=λi hi=>by
 have hi':i<D.blocks:=hi;exact⟨_,by show (if i<D.blocks then some (zW (D.look i) i) else none)=_;rw[if_pos hi']⟩
theorem zEp{n:Nat}(h:8<=n):qG (vA n [0,1,2,3,4,5])=some 6:=by
 refine zDh (λj hj=>?_) ?_
 .rw[vX _ (by omega),if_pos (by simp;omega)];simp
 .rw[vX _ (by omega),if_neg (by simp)]
theorem zJH{n:Nat}(h:8<=n):zKK (vA n [0,1,2,3,4,5]):=⟨by rw[vX _ (by omega),if_pos (by simp)],by rw[vX _ (by omega),if_pos (by simp)]⟩
def zLb(D:zH)(key v:ByteArray):GA:=yW (zCo (zCW D)) (vA D.blocks [0,1,2,3,4,5]) 2 0 (jK key v)
section
variable {D:zH}{key v:ByteArray}
theorem zKX(hD:zBw D)(hk:zAK key=true)(hv:v.size<=24):zLp (zLb D key v) 6 1 [(key,v)]:=by
 have hd:=zHp (G:=zCo (zCW D)) hk hv hD.s256 (zEp hD.b8);have hn:(zLb D key v).node 6=some (jK key v):=zJG hd (by show 6<D.blocks;have:=hD.b8;omega);refine⟨.inr ⟨by omega,by omega,by omega,.leaf hn rfl (zBO hk hv) rfl (λi e x he hx=>?_) (λx _=>zIB _)⟩,λ_=>.leaf hn rfl (by simp[jK])⟩;match i,he,hx with
 | 0,he,hx =>
  simp[jK] at he hx;subst he hx;exact⟨rfl,rfl⟩
 | i+1,he,_=>simp[jK] at he
end
end
section
open Go.RowKit
attribute [local go_sem ↓] Go.wp_at_zero Go.wp_at_succ
section
variable {P P' F F':NP}{ad:Nat->Addr}{w w':World}{S d c sp:Nat}
theorem zR.addS(n:zR P P' F F' ad w w')(hS:w.heap.size<=S)(h2:S<w'.heap.size)(hF:F' S):zR P (yJ P' S) F F' ad w w' :=
 ⟨⟨n.stp.mods,λk hk h=>h.elim (n.stp.old k hk) (λe=>by omega),λk h=>h.elim (n.stp.bd k) (λe=>by rw[e];exact h2)⟩,λk h=>h.elim (n.sub k) (λe=>by rw[e];exact hF),n.grow,n.oldF,n.env⟩
end
section
variable {P P' F F':NP}{ad:Nat->Addr}{w w':World}{S d c sp:Nat}{s:qD}{home keys root:Int}{G G':GA}{l l':List Nat}
theorem zFY(n:Nat)(h1:8<=n)(h2:n<=256) : Calls Tryz.prog 28 #[.int .i64 (n:Int)] w λe w'=>∃d P,e=.returned (.pointer (some ⟨d,0,none⟩))/\jL w' P d (vJ n 256)/\(∀k,P k->w.heap.size<=k)/\zF w w':=by
 have HN:=oh (zJs (w:=w) n 256 h1 h2 (by omega) (by omega));rw[show ((256:Nat):Int)=256 from rfl] at HN;clear h1 h2
 go_enter Tryz.func28, Tryz.ntmps28
 go_wp2_with fail;refine HN.out.mono ?_;rintro e w1 ⟨d,P,rfl,k1,k2,k3⟩;have HF:=oh (And.intro k1 (And.intro k2 k3));clear k1 k2 k3;go_wp2_with fail;go_ret;exact⟨d,P,rfl,HF.out.1,HF.out.2.1,HF.out.2.2⟩
theorem zL5(h:StR F w P S d c sp s home root keys G l) : Calls Tryz.prog 22 #[.pointer (some ⟨S,0,none⟩)] w λe w'=>e=.returned (.int .i64 keys)/\w=w':=by
 obtain⟨h1,⟨a,cc,h2⟩,h3,h4⟩:=h;have c10:=h2.d 10 (.int .i64 keys) rfl;clear h1 h2 h3 h4
 go_enter Tryz.func22, Tryz.ntmps22
 go_wp2_with fail;go_ret;exact⟨rfl,rfl⟩
def zL6(F P:NP)(ad:Nat->Addr)(w:World)(S d c sp:Nat)(s:qD)(home root keys:Int)(G:GA)(l:List Nat)(v:ByteArray)(e:Ending)(w':World):Prop :=
 ∃P' F',e=.returned (.tuple #[.string v,.bool true,.nilIface])/\StR F' w' P' S d c sp s home root keys G l/\zR P P' F F' ad w w'
theorem zL7(hL:zZ F ad w)(hP:∀k,P k->F k)(h:StR F w P S d c sp s home root keys G l)(hg:s.gen+1<18446744073709551616)(key v:ByteArray)
  (hR:∀W,zZ F ad W->jC F W P c sp G l -> Calls Tryz.prog 112 #[pgV c sp (s.gen+1),.int .i64 root,.string key] W (zAl F P ad W c sp G l (λF' w' e=>zIH F' ad w' (.inl (some v)) e))) :
  Calls Tryz.prog 52 #[.pointer (some ⟨S,0,none⟩),.string key] w (zL6 F P ad w S d c sp s home root keys G l v):=by
 have HAL:=oh (λop=>zIF h op);have HPG:=oh (λW (m:zF w W)=>zIG (h.at m) hg);have HRA:=oh (λW (m:zF w W)=>hR W (hL.mods m.ext) (h.at m).1);have HST:=oh h;have HN:=oh (λW (m:zF w W)=>zR.ext hL hP m);have c9:Hid (∀W,zF w W->W.cell? ⟨S,9,none⟩=some (.int .i64 root)):=oh (λW m=>by obtain⟨_,⟨a,cc,h2⟩,_,_⟩:=h.at m;exact h2.cell rfl);clear hL hP h hg hR;obtain⟨pg,hpg⟩:∃pg,pg=pgV c sp (s.gen+1):=⟨_,rfl⟩;rw[<- hpg] at HPG HRA;clear hpg
 go_enter Tryz.func52, Tryz.ntmps52
 go_wp2_with fail;refine (HAL.out _).mono ?_;rintro e w1 ⟨rfl,rfl⟩;have zd:=c9.out _ (zss w).drew;go_wp2_with fail;go_region_held3 (λw'=>w'.cell? ⟨S,9,none⟩=some (.int .i64 root))
  (first|(with_reducible exact zd)|(with_reducible exact z5)|(with_reducible exact z6)|fail)
  (first
   | (go_at_call 78;(with_reducible refine (HPG.out _ (zss w).drew).mono ?_);rintro e w5 ⟨rfl,m5⟩;have x5:=(zss w).drew.trans m5;have z5:=c9.out _ x5)
   | (go_at_call 112;((with_reducible refine (HRA.out _ x5).mono ?_);rintro e w6 ⟨P6,F6,hG6,n6,rfl⟩;have h6:=(HST.out.at x5).nxt n6 hG6;have n06:=(HN.out _ x5).trans n6;have z6:w6.cell? ⟨S,9,none⟩=some (.int .i64 root):=(by obtain⟨_,⟨a,cc,h2⟩,_,_⟩:=h6;exact h2.cell rfl)))
   | fail)
 have H6:=oh h6;have N06:=oh n06;clear h6 n06 n6 hG6 z5 z6 zd x5 m5;go_wp2_with fail;refine (wrap_nil _ _).mono ?_;rintro e w7 ⟨rfl,rfl⟩;go_wp2_with fail;go_ret3
 exact⟨P6,F6,rfl,H6.out,N06.out⟩
end
def D16:zH:=vJ 16 256
theorem zDK:zBw D16:=zK4 (by omega) (by omega) (by omega) (by omega)
theorem zDu{ad:Nat->Addr}{w:World}(hL:zZ NoB ad w) : Calls Tryz.prog 33 #[] w λe w'=>e=.returned (.bool true)/\zF w w':=by
 have HL:=oh hL;have HDK:=oh (zFY (w:=w) 16 (by omega) (by omega));rw[show ((16:Nat):Int)=16 from rfl] at HDK;clear hL
 go_enter Tryz.func33, Tryz.ntmps33
 go_wp2_with fail;refine HDK.out.mono ?_;rintro e w1 ⟨d,Pd,rfl,hD,hn,hm⟩;have HN1:=oh (zR.of (P:=NoB) (P':=Pd) HL.out (λ_ h=>h.elim) ⟨hm,λk hk h=>by have:=hn k h;omega,hD.bd⟩);have HD:Hid (jL w1 Pd d D16):=oh hD;clear hD hn hm;go_wp2_with fail;refine (zI5 HN1.out.env (λ_ h=>.inr h) HD.out zDK 4 (by omega) (by omega)).mono ?_;rintro e w2 ⟨S,c,sp,P2,F2,rfl,h2,n2⟩;have hN2:=HN1.out.trans n2;have HS2:=oh (show w.heap.size<=S from Nat.le_of_not_lt λh=>(hN2.oldF S h h2.2.2.2).elim);have HS2b:=oh h2.lt;have HPU:=oh (zLZ hN2.env hN2.sub h2 (by show 1+1<_;omega) (by omega) ⟨#[97]⟩ ⟨#[120]⟩ (by decide) (by decide) (zJH (n:=16) (by omega)) (by rw[zAS];exact uI _) (by show 0+10<=1000000;omega) 6 (zEp (n:=16) (by omega)));have HN2:=oh (hN2.addS HS2.out HS2b.out h2.2.2.2);clear n2 hN2 h2;go_wp2_with fail;refine HPU.out.mono ?_;rintro e w3 ⟨P3,F3,rfl,h3,n3⟩;have hN3:=HN2.out.trans n3;have hn3:=hN3.shrink (P2:=P3) (λk h=>.inl h);have HGT:=oh (zL7 hN3.env hn3.sub h3 (by show 1+1<_;omega) ⟨#[97]⟩ ⟨#[120]⟩ (λW hW hp=>by
  have h:=zKU hW hn3.sub hp ((vZ D16).gen+1) ((6:Nat):Int) ⟨#[97]⟩ ((zHo (zG0 _) _ _ _).look _ _);have hl:=(zKX (key:=⟨#[97]⟩) (v:=⟨#[120]⟩) zDK (by decide) (by decide)).1.look (key:=⟨#[97]⟩) (by decide);rw[show vM (⟨#[97]⟩:ByteArray) [((⟨#[97]⟩,⟨#[120]⟩):qM)]=some ⟨#[120]⟩ by decide] at hl;unfold zLb at hl;rw[show zAr (yW (zCo (zCW D16)) (vA D16.blocks [0,1,2,3,4,5]) ((vZ D16).gen+1) 0 (jK ⟨#[97]⟩ ⟨#[120]⟩)) ((6:Nat):Int) ⟨#[97]⟩=.inl (some ⟨#[120]⟩) from hl] at h;exact h))
 have HN3:=oh hn3;clear h3 n3 hN3 hn3;go_wp2_with fail;refine HGT.out.mono ?_;rintro e w4 ⟨P4,F4,rfl,h4,n4⟩;have HLN:=oh (zL5 h4);have HGN:=oh (zLv h4);have HN4:=oh (HN3.out.trans n4);clear h4 n4;go_wp2_with fail;refine HLN.out.mono ?_;rintro e w5 ⟨rfl,rfl⟩;go_wp2_with fail;refine HGN.out.mono ?_;rintro e w5 ⟨rfl,rfl⟩;go_wp2_with fail;go_ret;exact⟨rfl,HN4.out.stp.mods⟩
end
section
open Go.RowKit
theorem zHt:zBC (List.replicate 256 (0:UInt8))=false:=by decide +kernel
theorem zKY(b s i:Nat)(hi:i<b):(vJ b s).look i=List.replicate s 0:=by
 unfold zH.look vJ;simp[jO,hi]
theorem zKZ(i:Nat)(hi:i<16):D16.look i=List.replicate 256 0:=zKY 16 256 i hi
theorem zDL(i:Nat)(hi:i<16):qA (D16.look i) i=none/\∃r,zW (D16.look i) (i:Int)=.inr r:=by
 have h:zW (D16.look i) (i:Int)=.inr ([-1,zB0 (D16.look i)],5):=by
  unfold zW;rw[if_pos (by rw[zKZ i hi];exact zHt)]
 exact⟨by unfold qA;rw[h],_,h⟩
def zLc:vU:=⟨2,16,[0,1,2,3,4,5]⟩
theorem zK5:jF zLc=true:=by decide
theorem zJI:zV zLc=jX (zDS (vA 16 [0,1,2,3,4,5])) (zDS (vA 16 [0,1,2,3,4,5])).length:=by decide +kernel
section
variable {P P' F F':NP}{ad:Nat->Addr}{w w':World}{S d c sp:Nat}{s:qD}{home root keys:Int}{C:qK}{l:List Nat}
def zDM(r k:Int):Bool:=decide (r<0\/k<0\/(r=0/\k≠0))
def zFZ(r k:Int):Option Err:=if zDM r k=true then some ([-1],1) else none
theorem zHu(r k:Int):decide (zFJ (zFZ r k)=1)=zDM r k:=by
 unfold zFZ;cases h:zDM r k <;> rfl
theorem zJJ(hL:zZ F ad w)(h:StO F w P S d c sp s home root keys C l)(r k:Int) : Calls Tryz.prog 34 #[.pointer (some ⟨S,0,none⟩),.int .i64 r,.int .i64 k] w λe w'=>∃ev,e=.returned ev/\zAB F ad w' ev (zFZ r k)/\(∃r2 k2,StO F w' P S d c sp s home r2 k2 C l)/\zA (λj=>j=S) w w':=by
 by_cases hb:r<0\/k<0\/(r=0/\k≠0)
 .refine (zJE hL h r k hb).mono ?_;rintro e w' ⟨f,rfl,h1,h2⟩;exact⟨_,rfl,by unfold zFZ zDM;rw[uU hb,if_pos rfl];exact⟨f,rfl,h1⟩,⟨root,keys,h.at h2⟩,h2.ext⟩
 .refine (zKS h r k hb).mono ?_;rintro e w' ⟨rfl,h1,h2⟩;exact⟨_,rfl,by unfold zFZ zDM;rw[uX hb];rfl,⟨r,k,h1⟩,h2⟩
def zL8(F:NP)(w:World)(Q:NP)(S d c sp:Nat)(s:qD)(home root keys:Int)(D:zH)(l:List Nat):Prop :=
 ∃b2 Pd a cc,jL w Pd d D.armed/\(∀k,Pd k->F k)/\(∀k,Pd k->Q k)/\zJ w S (stC d (.pointer (some ⟨c,0,none⟩)) (.pointer (some ⟨sp,0,none⟩)) s home root keys (.slice a 0 cc) false) 149 /\ ¬ Pd S/\F S/\Q S/\SpR w sp b2 l/\Pd d
theorem zL9(hL:zZ F ad w)(hP:∀k,P k->F k)(h:StO F w P S d c sp s home root keys C l) :
  Calls Tryz.prog 36 #[.pointer (some ⟨d,0,none⟩),.int .i64 0,.slice none 0 0,.int .i64 (-1),.int .i64 0] w λe w'=>∃Q F',e=.returned .nilIface/\zL8 F' w' Q S d c sp s home root keys C.disk l/\zR (yJ P S) Q F F' ad w w':=by
 obtain⟨sb,bvs,Pd,b2,h1,h2,h3,h4,⟨a,cc,h5⟩,h6,h7⟩:=h;refine h1.disk.arm.mono ?_;rintro e w' ⟨Pd',rfl,k1,k2,k3⟩;have hPd:∀k,Pd k->P k:=λk hk=>(h3 k).2 (.inl (.inl hk))
 have hPS:¬ Pd' S:=λf=>by
  rcases k3 S f with f|f
  .exact h6 (hPd S f)
  .have:=h5.lt;omega
 have hst:Stp (yJ P S) (λk=>yJ P S k\/Pd' k) w w':=⟨k2.mono (λk hk=>.inl (hPd k hk)),λk hk hq=>by
  rcases hq with hq|hq
  .exact hq
  .rcases k3 k hq with f|f
   .exact .inl (hPd k f)
   .omega,λk hq=>by
  rcases hq with (hq|hq)|hq
  .exact uD (hL.lt k (hP k hq)) k2.size
  .rw[hq];exact uD h5.lt k2.size
  .exact k1.bd k hq⟩
 have hn:=zR.of hL (λk hk=>hk.elim (hP k) (λe=>by rw[e];exact h7)) hst;have hd:Pd' d:=by
  obtain⟨bl,gs,ws,wv,kv,_,q⟩:=k1;exact (q d).2 (.inl uH)
 exact⟨_,_,rfl,⟨b2,Pd',a,cc,k1,λk hk=>.inr (.inr hk),λk hk=>.inr hk,h5.mods k2 (λf=>h6 (hPd S f)),hPS,.inl h7,.inl (.inr rfl),h2.mods k2 (λf=>h4 sp (.inl f) (.inl rfl)) (λf=>h4 b2 (.inl f) (.inr rfl)),hd⟩,hn⟩
theorem zLd(hL:zZ F ad w){Q:NP}(hQ:∀k,Q k->F k){D:zH}(h:zL8 F w Q S d c sp s home root keys D l)(hD:zBw D)(m:vU)(hm:jF m=true)(hmg:m.gen=s.gen+1)(hg:s.gen+1<18446744073709551616)(hmb:m.blocks=s.blocks)(hu:zV m=jX l l.length) :
  Calls Tryz.prog 37 #[.pointer (some ⟨S,0,none⟩)] w λe w'=>∃f el,e=.returned (zD f)/\yG F ad w' (zD f) el 7/\w'.cell? ⟨d,9,none⟩=some (.bool true)/\w'.cell? ⟨S,12,none⟩=some (.bool true)/\zR Q Q F F ad w w':=by
 obtain⟨b2,Pd,a,cc,h1,h2,h3,h4,h5,h6,h7,h8,h9⟩:=h;refine (zHm hL h2 h1 hD.off (zHe D) (by show D.waiting.length<_;rw[hD.wait];simp) h4 h5 h6 h9 h8 m hm hmg hg hmb hu hD.b8 hD.s256 hD.s1024).mono ?_;rintro e w' ⟨f,el,rfl,k1,k2,k3,k4⟩;exact⟨f,el,rfl,k1,k3,k4,zR.same hL hQ (k2.mono (λk hk=>hk.elim (h3 k) (λe=>by rw[e];exact h7)))⟩
end
end
section
open Go.RowKit
attribute [local go_sem ↓] Go.wp_at_zero Go.wp_at_succ
section
variable {ad:Nat->Addr}{w w':World}
theorem zDW(hE:zZ NoB ad w)(hF:zBZ ad)(slots kd:Int)(key val:ByteArray)(root keys:Int) :
  Calls Tryz.prog 5 #[.int .i64 slots,.agg #[.int .i64 kd,.string key,.string val],.agg #[.int .i64 root,.int .i64 keys]] w λe w'=>e=.returned (.bool true)/\zF w w':=by
 obtain⟨A,hA⟩:∃A,A=w.heap.size:=⟨_,rfl⟩;obtain⟨W0,hW0⟩:∃W0,W0=(w.alloc (.cells #[.int .i64 kd,.string key,.string val] 64)).alloc (.cells #[.int .i64 root,.int .i64 keys] 65):=⟨_,rfl⟩;have hM0:zF w W0:=by rw[hW0];exact ((zss w).alloc _).alloc _
 have hX0:zJ W0 A #[.int .i64 kd,.string key,.string val] 64:=by rw[hW0,hA];exact (zJ.new w _ _).alloc _
 have hY0:zJ W0 (A+1) #[.int .i64 root,.int .i64 keys] 65:=by rw[hW0,hA];exact zU (by simp)
 have HE0:=oh (hE.mods hM0.ext);have HF:=oh hF;have HM0:=oh hM0;have HX0:=oh hX0;have y0:=hY0.d 0 (.int .i64 root) rfl;have y1:=hY0.d 1 (.int .i64 keys) rfl;have HDK:=oh (zFY (w:=W0) 16 (by omega) (by omega));rw[show ((16:Nat):Int)=16 from rfl] at HDK;clear hE hF hM0 hX0 hY0
 go_enter Tryz.func5, Tryz.ntmps5
 go_wp2_with fail;rw[<- hW0,<- hA];refine HDK.out.mono ?_;rintro e w1 ⟨d,Pd,rfl,hD,hn,hm⟩;have hn1:=zR.of (P:=NoB) (P':=Pd) HE0.out (λ_ h=>h.elim) ⟨hm,λk hk h=>by have:=hn k h;omega,hD.bd⟩;have HN1:=oh hn1;have hMN:=zHq (P:=Pd) hn1.env (λ_ h=>.inr h) (D:=D16) hD zDK (zDL 0 (by omega)).1 (zDL 1 (by omega)).1 (zDL 0 (by omega)).2 (zDL 1 (by omega)).2 4 (by omega) (by omega);rw[show ((4:Nat):Int)=4 from rfl] at hMN;have HMN:=oh hMN;clear hD hn hm hn1 hMN y0 y1 hA hW0;go_wp2_with fail;refine HMN.out.mono ?_;rintro e w2 ⟨f2,el2,F2,rfl,hE2,hD2,n2⟩;have hn2:=HN1.out.trans n2;have HFN:=oh (zLD (q:=4) (oh (λop=>zLz n2.env op 4)));have HN2:=oh hn2;have HE2:=oh hE2;have HD2:=oh hD2;unfold zD;clear hn2 hE2 hD2 n2;go_wp2_with fail;refine HFN.out.mono ?_;rintro e w3 ⟨f3,rfl,hE3,m3⟩;have hn3:=HN2.out.trans (zR.ext HN2.out.env HN2.out.sub m3);have HT2:=oh (zCF hn3.env HF.out (HE2.out.mods m3.ext) 5 (by omega) rfl);have HT3:=oh (zCF hn3.env HF.out hE3 7 (by omega) rfl);rw[show ((5:Nat):Int)=5 from rfl] at HT2;rw[show ((7:Nat):Int)=7 from rfl] at HT3;unfold zD at HT2 HT3 ⊢;have HN3:=oh hn3;have HD3:=oh (HD2.out.at m3);clear hn3 hE3 m3;go_wp2_with fail;refine HT2.out.mono ?_;rintro e w4 ⟨rfl,rfl⟩;go_wp2_with fail;refine HT3.out.mono ?_;rintro e w4 ⟨rfl,rfl⟩;have hX3:=HX0.out.mods HN3.out.stp.mods (λf=>f);have x0:=hX3.d 0 (.int .i64 kd) rfl;have x1:=hX3.d 1 (.string key) rfl;have x2:=hX3.d 2 (.string val) rfl;clear hX3;by_cases hq:slots<3\/64<slots
 .have hFB:=zLD (q:=slots) (oh (λop=>zL1 HN3.out.env HD3.out rfl op slots hq));have HFB:=oh hFB;have hc:(decide (slots<3)=true)\/(decide (slots<3)=false/\decide (64<slots)=true):=by
   rcases hq with h1|h1
   .exact .inl (by simpa using h1)
   .by_cases h3:slots<3
    .exact .inl (by simpa using h3)
    .exact .inr ⟨by simpa using h3,by simpa using h1⟩
  clear hq hFB;rcases hc with h1|⟨h1,h2⟩
  all_goals
   go_wp2_with fail;refine HFB.out.mono ?_;rintro e w5 ⟨f5,rfl,hE5,m5⟩;have hn5:=HN3.out.trans (zR.ext HN3.out.env HN3.out.sub m5);have HT5:=oh (zCF hn5.env HF.out hE5 2 (by omega) rfl);rw[show ((2:Nat):Int)=2 from rfl] at HT5;unfold zD at HT5 ⊢;have hX5:=HX0.out.mods hn5.stp.mods (λf=>f);have x0:=hX5.d 0 (.int .i64 kd) rfl;have x1:=hX5.d 1 (.string key) rfl;have x2:=hX5.d 2 (.string val) rfl;have HNO:=oh (zCy hn5.env HF.out (.inl rfl) kd key val);have HN5:=oh hn5;clear hX5 hE5 m5 hn5;go_wp2_with fail;refine HT5.out.mono ?_;rintro e w6 ⟨rfl,rfl⟩;go_wp2_with fail;refine HNO.out.mono ?_;rintro e w6 ⟨rfl,m6⟩;have hn6:=HN5.out.trans (zR.ext HN5.out.env HN5.out.sub m6);have HAW:=oh (zDu (hn6.env.anti (Q:=NoB) (λ_ f=>f.elim)));have HM6:=oh (HM0.out.trans hn6.stp.mods);clear hn6 m6;go_wp2_with fail;refine HAW.out.mono ?_;rintro e w7 ⟨rfl,m7⟩;have HM7:=oh (HM6.out.trans m7);clear m7;go_wp2_with fail;go_ret;exact⟨rfl,HM7.out⟩
 .obtain⟨q,rfl⟩:∃q:Nat,slots=(q:Int):=⟨slots.toNat,by omega⟩;have hFO:=zEm HN3.out.env HN3.out.sub HD3.out zDK q (by omega) (by omega);have HFO:=oh hFO;have h1:decide ((q:Int)<3)=false:=by simp;omega
  have h2:decide (64<(q:Int))=false:=by simp;omega
  clear hq hFO;go_wp2_with fail;refine HFO.out.mono ?_;rintro e w5 ⟨S,c,sp,P5,F5,rfl,h5,n5⟩;have hn5:=HN3.out.trans n5;have HT5:=oh (zCE hn5.env HF.out .nilIface none rfl 0 (by omega));rw[show ((0:Nat):Int)=0 from rfl] at HT5;have hX5:=HX0.out.mods hn5.stp.mods (λf=>f);have x0:=hX5.d 0 (.int .i64 kd) rfl;have x1:=hX5.d 1 (.string key) rfl;have x2:=hX5.d 2 (.string val) rfl;have HNO:=oh (zCy hn5.env HF.out (.inl rfl) kd key val);have HN5:=oh hn5;have H5:=oh h5;clear hX5 hn5 n5 h5;go_wp2_with fail;refine HT5.out.mono ?_;rintro e w6 ⟨rfl,rfl⟩;go_wp2_with fail;refine HNO.out.mono ?_;rintro e w6 ⟨rfl,m6⟩;have hn6:=HN5.out.trans (zR.ext HN5.out.env HN5.out.sub m6);have H6:=oh (H5.out.at m6);have HN6:=oh hn6;clear x0 x1 x2 hn6 m6;go_upto_region 18 with fail
  go_cut [17] (λv17 wx=>v17=.bool (zDM root keys)/\Hid (wx=w6))
  case first =>
   have hc:(zDM root keys=true/\decide (root<0)=true)\/(zDM root keys=true/\decide (root<0)=false/\decide (keys<0)=true)\/(zDM root keys=true/\decide (root<0)=false/\decide (keys<0)=false/\root=0/\(keys != 0)=true)\/(zDM root keys=false/\decide (root<0)=false/\decide (keys<0)=false/\(root == 0)=false)\/(root=0/\keys=0):=by
    unfold zDM;by_cases a1:root<0
    .exact .inl ⟨by simp[a1],by simpa using a1⟩
    .by_cases a2:keys<0
     .exact .inr (.inl ⟨by simp[a2],by simpa using a1,by simpa using a2⟩)
     .by_cases a3:root=0
      .by_cases a4:keys=0
       .exact .inr (.inr (.inr (.inr ⟨a3,a4⟩)))
       .exact .inr (.inr (.inl ⟨by simp[a3,a4],by simpa using a1,by simpa using a2,a3,by simpa using a4⟩))
      .exact .inr (.inr (.inr (.inl ⟨by simp[a3];omega,by simpa using a1,by simpa using a2,by simpa using a3⟩)))
   have e00:zDM 0 0=false:=by decide
   rcases hc with ⟨hbd,k1⟩|⟨hbd,k1,k2⟩|⟨hbd,k1,k2,rfl,k4⟩|⟨hbd,k1,k2,k3⟩|⟨rfl,rfl⟩
   all_goals
    go_wp2_with fail;go_meet;exact⟨by first|rw[hbd]|rw[e00],oh rfl⟩
  obtain⟨rfl,HW⟩:=hcut;have hwr:=HW.out;subst hwr;have hS0:W0.heap.size<=S:=Nat.le_of_not_lt λh=>by
   obtain⟨sb,bvs,Pe,b2,q1,q2,q3,q4,q5,q6,q7⟩:=H6.out;exact HN6.out.oldF S h q7
  have hFS:F5 S:=by
   obtain⟨sb,bvs,Pe,b2,q1,q2,q3,q4,q5,q6,q7⟩:=H6.out;exact q7
  have hSl:S<wc.heap.size:=by
   obtain⟨a,cc,hB⟩:=H6.out.blk;exact hB.lt
  have hnS:=HN6.out.addS hS0 hSl hFS;have HNS:=oh hnS;have HRT:=oh (zJJ HN6.out.env H6.out root keys);have HFS:=oh hFS;have hbb:(zDM root keys != zDM root keys)=false:=by simp
  clear hS0 hFS hSl hnS;go_wp2_with fail;refine HRT.out.mono ?_;rintro e w7 ⟨ev,rfl,hE7,⟨r2,k2,h7⟩,m7⟩;have hn7:=HNS.out.trans (zR.same HNS.out.env HNS.out.sub (m7.mono (λk hk=>Or.inr hk)));have hT7:=zCE hn7.env HF.out ev (zFZ root keys) hE7 1 (by omega);rw[zHu,show ((1:Nat):Int)=1 from rfl] at hT7;have HT7:=oh hT7;have HRB:=oh (zLy hn7.env (λk hk=>hn7.sub k (.inl hk)) h7);have HN7:=oh hn7;clear hE7 h7 m7 hn7 hT7;go_wp2_with fail;refine HT7.out.mono ?_;rintro e w8 ⟨rfl,rfl⟩;go_wp2_with fail;refine HRB.out.mono ?_;rintro e w8 ⟨P8,F8,rfl,h8,n8⟩;have hn8:=HN7.out.trans n8;have HAR:=oh (zL9 hn8.env (λk hk=>hn8.sub k (.inl hk)) h8);have HN8:=oh hn8;clear h8 n8 hn8;go_wp2_with fail;refine HAR.out.mono ?_;rintro e w9 ⟨Q9,F9,rfl,h9,n9⟩;have hn9:=HN8.out.trans n9;have HCM:=oh (zLd hn9.env hn9.sub h9 (zBb zDK).1.dry zLc zK5 rfl (by show 1+1<_;omega) rfl zJI);have HN9:=oh hn9;clear h9 n9 hn9;go_wp2_with fail;refine HCM.out.mono ?_;rintro e w10 ⟨f10,el10,rfl,hE10,k9,k12,n10⟩;have hn10:=HN9.out.trans n10;have HMT:=oh (zL2 (q:=4) (oh (λop=>zL0 hn10.env k9 op 4)));have HN10:=oh hn10;have HK12:=oh k12;unfold zD;clear hE10 k9 k12 n10 hn10;go_wp2_with fail;refine HMT.out.mono ?_;rintro e w11 ⟨f11,rfl,hE11,m11⟩;have hn11:=HN10.out.trans (zR.ext HN10.out.env HN10.out.sub m11);have HT11:=oh (zCF hn11.env HF.out hE11 7 (by omega) rfl);rw[show ((7:Nat):Int)=7 from rfl] at HT11;have hR:zCx w11 (.pointer (some ⟨S,0,none⟩)):=.inr ⟨S,rfl,(m11.cell (zQ HK12.out) (λf=>f)).trans HK12.out⟩;have HDD:=oh (zHs hR);have HNO2:=oh (zCy hn11.env HF.out hR kd key val);have hX11:=HX0.out.mods hn11.stp.mods (λf=>f);have x0:=hX11.d 0 (.int .i64 kd) rfl;have x1:=hX11.d 1 (.string key) rfl;have x2:=hX11.d 2 (.string val) rfl;have HN11:=oh hn11;unfold zD at HT11 ⊢;clear hE11 m11 hn11 hR hX11;go_wp2_with fail;refine HT11.out.mono ?_;rintro e w12 ⟨rfl,rfl⟩;go_wp2_with fail;refine HDD.out.mono ?_;rintro e w12 ⟨rfl,rfl⟩;go_wp2_with fail;refine HNO2.out.mono ?_;rintro e w12 ⟨rfl,m12⟩;have hn12:=HN11.out.trans (zR.ext HN11.out.env HN11.out.sub m12);have HAW:=oh (zDu (hn12.env.anti (Q:=NoB) (λ_ f=>f.elim)));have HM12:=oh (HM0.out.trans hn12.stp.mods);clear hn12 m12;go_wp2_with fail;refine HAW.out.mono ?_;rintro e w13 ⟨rfl,m13⟩;have HM13:=oh (HM12.out.trans m13);clear m13;go_wp2_with fail;go_ret;exact⟨rfl,HM13.out⟩
end
end
end Go.Proofs.YtgphfebjjedeaaaGreatDoor
