import Derived.Deep.Cut
import Derived.Test.YtgphfebjjedeaaaGreatDoorS18
namespace Go.Proofs.YtgphfebjjedeaaaGreatDoor
open Lib renaming hid->oh
set_option maxHeartbeats 1000000
set_option maxRecDepth 100000
open Go.RowKit
attribute [local go_sem ↓] Go.wp_at_zero Go.wp_at_succ
section
variable {F P:NP}{ad:Nat->Addr}{w w' w1:World}{d bl:Nat}{gs ws:List Nat}{wv kv:Value}{D:zH}
theorem zJ8(h:DkR w d bl gs ws wv kv D)(m:zA (λk=>k=d) w w1)(C:Array Value)(hB:zJ w1 d C 135)(h3:C[3]? = some wv)(h9:C[9]? = some (.bool true))(ka:Option Addr)(kc:Nat) :
  Calls Tryz.prog 169 #[.pointer (some ⟨d,0,none⟩),.slice ka 0 kc,.int .i64 (-1),.int .i64 0] w1 λe w'=>e=.returned (.tuple #[])/\zA (λk=>k=d) w1 w'/\w'.cell? ⟨d,9,none⟩=some (.bool true):=by
 obtain⟨_,av,cv,hv⟩:=h.wvC;have hn6:=h.few;obtain⟨n,hn⟩:∃n,n=D.waiting.length:=⟨_,rfl⟩;rw[<- hn] at hv hn6;subst hv;have c3:=hB.cell h3;have HN:=oh hn;have HD:=oh h;have HM:=oh m;have HB:=oh hB;have H9:=oh h9;have H3:=oh h3;clear h m hB h3 h9 hn
 go_enter Tryz.func169, Tryz.ntmps169
 go_wp2_with fail;go_loopg [15] n (λm i wr=>∃k:Nat,k+m=n/\i=.int .i64 k/\Hid (zF w1 wr))
 case atStart=>exact⟨0,by omega,rfl,oh zr⟩
 case round =>
  obtain⟨k,hk,rfl,HW⟩:=hrel;by_cases hlt:k<n
  .obtain⟨p,hp⟩:∃p,D.waiting[k]? = some p:=⟨_,uA (by rw[<- HN.out];exact hlt)⟩;obtain⟨b,c,g,e1,e2,e3,e4,e5,e6⟩:=HD.out.waitC2 k p hp;simp only[Value.slice.injEq] at e1;obtain⟨rfl,hq1,rfl⟩:=e1;have hbd:b≠d:=λe=>e5 (e ▸ uH)
   have MX:zA (λk=>k=d) w wr:=HM.out.trans HW.out.ext;have x0:=(MX.cell (zQ e3) hbd).trans e3;have x1:=(MX.cell (zQ e4) hbd).trans e4;simp only[qZ] at x1;clear e2 e3 e4 e5 e6 hp MX hq1;go_wp2_with fail;go_roundg (gk-1)
   case measure=>omega
   case rel=>exact⟨k+1,by omega,by go_num,oh (HW.out.alloc _)⟩
  .obtain rfl:k=n:=by omega
   have hBr:=HB.out.ext HW.out;have hfr:=hBr.frozen;have hdl:=hBr.lt;have HBR:=oh hBr;have c3:=hBr.cell H3.out;clear hBr;go_wp2_with fail;go_end0
   refine⟨rfl,HW.out.ext.trans (zA.setCell (F:=λj=>j=d) (zss wr) (p:=⟨d,3,none⟩) (.inr rfl) _),?_⟩;have hz:=HBR.out.set 3 (.slice none 0 0);exact hz.cell (by rw[Array.getElem?_setIfInBounds];simpa using H9.out)
structure zHd(D:zH):Prop where
 lit:D.lit=true
 after:D.after=0
 torn:D.torn = -1
 cut:D.cut=0
 keep:D.keep=[]
theorem zGq(h:DkR w d bl gs ws wv kv D)(hb:zHd D) :
  Calls Tryz.prog 107 #[.pointer (some ⟨d,0,none⟩)] w λe w'=>e=.returned (.bool true)/\zA (λk=>k=d) w w'/\w'.cell? ⟨d,9,none⟩=some (.bool true):=by
 obtain⟨ka,kc,hkv,_⟩:=h.keep.form;rw[hb.keep] at hkv;replace hkv:kv=.slice ka 0 kc:=hkv
 subst hkv;obtain⟨cap,_,_,hB,_⟩:=_root_.id h.own;rw[hb.lit,hb.after,hb.torn,hb.cut] at hB;have c4:=hB.d 4 (.bool true) rfl;have c5:=hB.d 5 (.int .i64 0) rfl;have c6:=hB.d 6 (.int .i64 (-1)) rfl;have c7:=hB.d 7 (.int .i64 0) rfl;have c8:=hB.d 8 (.slice ka 0 kc) rfl;have hfr:=hB.frozen;have hdl:=hB.lt;have hne:d≠w.heap.size:=by omega
 have HD:=oh h;have HB:=oh hB;clear h hB hb
 go_enter Tryz.func107, Tryz.ntmps107
 go_upto_region 3 with fail
 obtain⟨f,hf⟩:∃f,f=w.heap.size:=⟨_,rfl⟩;obtain⟨W2,hW2⟩:∃W,W=w.alloc (.cells #[.bool true,.int .i64 0,.int .i64 (-1),.int .i64 0,.slice ka 0 kc] 133):=⟨_,rfl⟩;have m2:zF w W2:=by rw[hW2];exact (zss w).alloc _
 have hB2:zJ W2 f #[.bool true,.int .i64 0,.int .i64 (-1),.int .i64 0,.slice ka 0 kc] 133:=by rw[hW2,hf];exact zJ.new w _ _
 rw[<- hW2,<- hf];have hBd:=HB.out.ext m2;have d4:=hBd.d 4 (.bool true) rfl;have d5:=hBd.d 5 (.int .i64 0) rfl;have d6:=hBd.d 6 (.int .i64 (-1)) rfl;have d7:=hBd.d 7 (.int .i64 0) rfl;have d8:=hBd.d 8 (.slice ka 0 kc) rfl;have d9:=hBd.d 9 (.bool D.off) rfl;have df:=hBd.frozen;have hdf:d≠f:=by omega
 clear hW2 hf c4 c5 c6 c7 c8 hfr hne;go_upto_region 4 with fail
 obtain⟨W3,hW3⟩:∃W,W=(((((W2.setCell ⟨d,4,none⟩ (.bool false)).setCell ⟨d,5,none⟩ (.int .i64 0)).setCell ⟨d,6,none⟩ (.int .i64 0)).setCell ⟨d,7,none⟩ (.int .i64 0)).setCell ⟨d,8,none⟩ (.slice none 0 0)).setCell ⟨d,9,none⟩ (.bool true):=⟨_,rfl⟩;have m3:zA (λj=>j=d) W2 W3:=by
  rw[hW3];exact ((((((zA.refl (λj=>j=d) W2).setCell (p:=⟨d,4,none⟩) (.inr rfl) _).setCell (p:=⟨d,5,none⟩) (.inr rfl) _).setCell (p:=⟨d,6,none⟩) (.inr rfl) _).setCell (p:=⟨d,7,none⟩) (.inr rfl) _).setCell (p:=⟨d,8,none⟩) (.inr rfl) _).setCell (p:=⟨d,9,none⟩) (.inr rfl) _
 have hB3:zJ W3 d #[.int .i64 (D.blocks:Int),.int .i64 (D.size:Int),.slice (some ⟨bl,0,none⟩) D.blocks cap,wv,.bool false,.int .i64 0,.int .i64 0,.int .i64 0,.slice none 0 0,.bool true,.int .i64 D.count] 135:=by
  rw[hW3];simpa using (((((hBd.set 4 (.bool false)).set 5 (.int .i64 0)).set 6 (.int .i64 0)).set 7 (.int .i64 0)).set 8 (.slice none 0 0)).set 9 (.bool true)
 rw[<- hW3];have hf3:=hB2.mods m3 (λe=>hdf e.symm);have f4:=hf3.d 4 (.slice ka 0 kc) rfl;have f2:=hf3.d 2 (.int .i64 (-1)) rfl;have f3:=hf3.d 3 (.int .i64 0) rfl;have HM:=oh (m2.ext.trans m3);have HB3:=oh hB3;clear d4 d5 d6 d7 d8 d9 df hW3 m2 m3 hB2 hBd hB3 hf3;go_wp2_with fail;refine (zJ8 HD.out HM.out _ HB3.out rfl rfl ka kc).mono ?_;rintro e w4 ⟨rfl,m4,c9⟩;have HF:Hid (zA (λk=>k=d) w w4/\w4.cell? ⟨d,9,none⟩=some (.bool true)):=oh ⟨HM.out.trans m4,c9⟩;clear m4 c9 f2 f3 f4;go_wp2_with fail;go_ret;exact⟨rfl,HF.out.1,HF.out.2⟩
def zAV(F P:NP)(ad:Nat->Addr)(w:World)(d:Nat)(e:Ending)(w':World):Prop :=
 ∃f el,e=.returned (zD f)/\yG F ad w' (zD f) el 7/\zA P w w'/\w'.cell? ⟨d,9,none⟩=some (.bool true)
theorem zF2(hL:zZ F ad w)(hP:∀k,P k->F k)(h:DkR w d bl gs ws wv kv D)(hD:∀k,P k ↔ dkF d bl gs ws wv kv k)(i:Nat)(hi:i<D.blocks)(ho:D.off=false)(hU:zHd D)(bv:Value)(b:List UInt8)(hb:Sl F w 1 zM bv b)(hbl:b.length=D.size)(hfew:D.waiting.length<1000000) :
  Calls Tryz.prog 106 #[.pointer (some ⟨d,0,none⟩),.int .i64 (i:Int),bv] w (zAV F P ad w d):=by
 have hon:D.on i=none:=by
  unfold zH.on zH.check;rw[if_neg (by omega),ho];rfl
 have HL:=oh hL;have HD:=oh h;have HB:=oh hb;have HP:=oh hP;have HDD:=oh hD;have HU:=oh hU;have hsz:D.size<=1024:=h.s1024;have hsz2:256<=D.size:=h.s256;obtain⟨a,cap,rfl,i1,i2,i3,i4⟩:=hb;unfold maxLen at i2;have HBL:=oh hbl;rw[hbl] at i1 i3 ⊢;clear h hL i4 hbl hP hD hU
 go_enter Tryz.func106, Tryz.ntmps106
 go_wp2_with fail;refine (zEO HL.out HD.out _ i).mono ?_;rintro e w1 ⟨ev,rfl,hE,hm⟩;rw[hon] at hE;cases hE
 have HD1:=oh (HD.out.at hm);have c1:=HD1.out.sizeC;have c3:=HD1.out.wvC.1;have hd:=zQ c1;have HM1:=oh hm;have HB1:=oh (HB.out.mods hm.ext);clear hm;go_wp2_with fail;have hBs:Sl (λ_=>False) w1 1 zM (.slice a D.size cap) b:=by
  have:=HB1.out.anti' (Q:=λ_=>False) (λ_ f=>f.elim);rwa [HBL.out] at this
 have HBS:Hid (Sl (λ_=>False) w1.drew 1 zM (.slice a D.size cap) b):=oh hBs;have HW1:Hid (yA (λk=>k∈d :: bl :: (gs++ws)) w1.drew 0 192 2 zEw wv ((D.waiting.zip ws).map λp=>(p.1.1,D.size,p.2))):=oh HD1.out.wait;have HNW:Hid (∀k,k∈d :: bl :: (gs++ws)->k<w1.heap.size):=oh HD1.out.bd;have HLEN:Hid (((D.waiting.zip ws).map λp=>(p.1.1,D.size,p.2)).length=D.waiting.length):=oh (by simp[HD1.out.lenW]);clear hBs;have hdw:¬ wv.ownBlock=some d:=λe=>HD1.out.wait.2 d e uH
 have f3:w1.frozen? ⟨d,3,none⟩=false:=HD1.out.frz 3;go_region_law
  (first
   | (go_simp;go_at_call 115;refine (zBK (F:=λ_=>False) (λ_ f=>f.elim) _ b HBS.out (by have:=HBL.out;omega) (by have:=HBL.out;omega)).mono ?_;rintro e w2 ⟨g2,rfl,hg2,hg3,hB2,hm2⟩;rw[HBL.out];simp only[qZ];obtain⟨k2,k3⟩:=zFF (w:=w1.drew) hm2 ⟨c3,f3⟩ (λf=>f);have k6:=λx:Obj=>(zFG ⟨k2,k3⟩ x).1)
   | (refine zDB (enc:=zEw) (F:=λk=>k∈d :: bl :: (gs++ws)) (G:=λ_=>False) Tryz.elT ⟨λ_=>rfl,zGR⟩ (by rfl) _ _ (by rfl) 0 wv (.slice (some ⟨w2.heap.size,0,none⟩) 1 1) ((D.waiting.zip ws).map λp=>(p.1.1,D.size,p.2)) [(i,D.size,g2)] (by rfl) (by rfl) ((HW1.out.ext hm2).ext (zr.alloc _)) (Sl.one (x:=(i,D.size,g2)) (t := 192) (fz:=(0,0)) (zU rfl) (λf=>f)) (by have:=HLEN.out;simp only[this];simp;omega) (wK _) (λf=>by have:=HNW.out _ f;have:=hm2.size;simp at *;omega) ?_;intro a' c' w4 hown hgrow hat;obtain⟨k4,k5⟩:=zFF (zA.of_grown hgrow) (zFG ⟨k2,k3⟩ _) hdw))
 all_goals
  simp only[wD,List.length_zip,List.length_singleton] at hown hat;have HA:=oh (DkR.add HD1.out HDD.out (w2:=w2) hm2.ofDrew hg2 hg3 hB2 hgrow hown hat hi HBL.out hfew);clear hown hat hgrow k2 k3 k4 k5 k6 hB2;go_wp2_with fail;refine (zGq HA.out.1 ⟨HU.out.lit,HU.out.after,HU.out.torn,HU.out.cut,HU.out.keep⟩).mono ?_;rintro e w5 ⟨rfl,hm5,h9⟩;have n1:=zR.ext (P:=P) HL.out HP.out HM1.out;have n2:=zR.of n1.env HP.out HA.out.2;have hPd:P d:=(HDD.out d).2 (.inl uH);have mP:zA P w w5:=(n1.stp.mods.trans n2.stp.mods).trans (hm5.mono (λk hk=>by rw[hk];exact hPd));have HM5:=oh mP;have HN5:=oh (HL.out.mods (mP.mono HP.out));have H9:=oh h9;have g7:=HN5.out.c7;clear n1 n2 hPd mP hm5 h9;go_wp2_with fail;refine (qO HN5.out _ _ _ _ 7 (.sent 7 (by decide) (by decide))).mono ?_;rintro e w6 ⟨f,rfl,hE,hm6⟩;have HE:=oh hE;have HM6:=oh (HM5.out.trans hm6.ext);have H96:=oh ((hm6.cell (zQ H9.out) (λf=>f)).trans H9.out);clear hE hm6;go_wp2_with fail;go_ret;exact⟨f,_,rfl,HE.out,HM6.out,H96.out⟩
end
section
variable {F P:NP}{ad:Nat->Addr}{w w' w1:World}{d bl:Nat}{gs ws:List Nat}{wv kv:Value}{D:zH}
theorem zIC:zBE zIb 1:=⟨λ_=>rfl,by intro x u hu;simp[zIb] at hu;subst hu;rfl⟩
theorem Tryz.elBool:ElT Tryz.prog 131 4 (.bool false) 1 1:=⟨Tryz.underlying131,by kernel_rfl,rfl,by decide,by decide⟩
def zH.armed(D:zH):zH:={ D with lit:=true,after:=0,torn:=-1,cut:=0,keep:=[] }
theorem zHe(D:zH):zHd D.armed:=⟨rfl,rfl,rfl,rfl,rfl⟩
theorem DkR.arm(h:DkR w d bl gs ws wv kv D){kv':Value}(m:zA (λk=>k=d) w w')
  (hB:∀cap,zJ w d (zCR D bl cap wv kv) 135 -> zJ w' d (zCR D.armed bl cap wv kv') 135) (hk:yA (λk=>k∈d :: bl :: (gs++ws)) w' 0 4 1 zIb kv' []) (hg:∀g,kv'.ownBlock=some g->w.heap.size<=g):DkR w' d bl gs ws wv kv' D.armed:=by
 have hn:=h.nodup;have hd:∀k,k∈bl :: (gs++ws)->k≠d:=λk hk e=>(uT.1 hn).1 (e ▸ hk)
 obtain⟨cap,a1,a2,a3,rest,a4,a5⟩:=_root_.id h.own;exact⟨⟨cap,a1,a2,hB cap a3,rest,a4.mods m (hd bl uH),a5⟩,h.lenB,h.lenL,h.lenW,hk,λg h1 h2=>by have:=hg g h1;have:=(h.wait.lt g h2).2;omega,by simp[zH.armed],
  h.wait.mods m (λg hg e=>h.wait.2 g hg (e ▸ uH)),
  λi g b h1 h2=>⟨(h.row i g b h1 h2).1,(h.row i g b h1 h2).2.mods m (hd g (uJ _ (wY _ (uP h1))))⟩,
  λi g p h1 h2=>⟨(h.wrow i g p h1 h2).1,(h.wrow i g p h1 h2).2.1,(h.wrow i g p h1 h2).2.2.mods m (hd g (uJ _ (wU _ (uP h1))))⟩,
  h.nodup,h.b8,h.b256,h.s256,h.s1024,h.few⟩
theorem zLU(h:DkR w d bl gs ws wv kv D) :
  Calls Tryz.prog 36 #[.pointer (some ⟨d,0,none⟩),.int .i64 0,.slice none 0 0,.int .i64 (-1),.int .i64 0] w λe w'=>∃kv',e=.returned .nilIface/\DkR w' d bl gs ws wv kv' D.armed/\zA (λk=>k=d) w w'/\∀g,kv'.ownBlock=some g->w.heap.size<=g:=by
 obtain⟨cap,_,_,hB,_⟩:=_root_.id h.own;have hdl:=hB.lt;have HB:=oh hB;have HD:=oh h;have HN:Hid (∀k,k∈d :: bl :: (gs++ws)->k<w.heap.size):=oh h.bd;have HO:Hid (yA (λk=>k∈d :: bl :: (gs++ws)) (w.alloc (.cells #[] 4)) 0 4 1 zIb (.slice (some ⟨w.heap.size,0,none⟩) 0 0) []):=oh (yA.made (cur:=#[]) (b:=w.heap.size) (cap:=0) (l:=([]:List Bool)) (sz:=1) (enc:=zIb) (zJ.new w _ 4) (wK _) (λf=>by have:=HN.out _ f;omega) (by simp) (by simp[maxLen]) rfl rfl zIC.len);clear h hB
 go_enter Tryz.func36, Tryz.ntmps36
 go_wp2_with (first
  | (at_builtin;refine vY Tryz.elBool zIC rfl _ _ rfl 0 (.slice (some ⟨w.heap.size,0,none⟩) 0 0) (.slice none 0 0) ([]:List Bool) [] rfl rfl HO.out (Sl.nil (λ_=>False) _ _ _) (by simp) (wK _) (λf=>by have h1:=HN.out _ f;have h2:=((zA.refl (λ_=>False) w).alloc (.cells #[] 4)).size;omega) ?_;intro a' c' w2 hown hmod hat;have hBd:=zJ.mods (HB.out.alloc (.cells #[] 4)) hmod (λe=>by simp[Value.ownBlock] at e;omega);have d4:=hBd.d 4 (.bool D.lit) rfl;have d5:=hBd.d 5 (.int .i64 D.after) rfl;have d6:=hBd.d 6 (.int .i64 D.torn) rfl;have d7:=hBd.d 7 (.int .i64 D.cut) rfl;have d8:=hBd.d 8 kv rfl;have df:=hBd.frozen)
  | fail)
 go_ret;have mx:zA (λk=>k=d) w w2:=((zA.refl (λk=>k=d) w).alloc (.cells #[] 4)).trans' hmod (λi hi e=>by simp[Value.ownBlock] at e;omega);have m3:zA (λk=>k=d) w (((((w2.setCell ⟨d,4,none⟩ (.bool true)).setCell ⟨d,5,none⟩ (.int .i64 0)).setCell ⟨d,6,none⟩ (.int .i64 (-1))).setCell ⟨d,7,none⟩ (.int .i64 0)).setCell ⟨d,8,none⟩ (.slice a' 0 c')) :=
  ((((mx.setCell (p:=⟨d,4,none⟩) (.inr rfl) _).setCell (p:=⟨d,5,none⟩) (.inr rfl) _).setCell (p:=⟨d,6,none⟩) (.inr rfl) _).setCell (p:=⟨d,7,none⟩) (.inr rfl) _).setCell (p:=⟨d,8,none⟩) (.inr rfl) _
 have hz:∀g,(Value.slice a' 0 c').ownBlock=some g->w.heap.size<=g:=λg hg=>by
  have hg':(Value.slice a' (([]:List Bool).length+([]:List Bool).length) c').ownBlock=some g:=hg;rcases hat with e|e
  .rw[e] at hg';simp[Value.ownBlock] at hg';omega
  .rw[e] at hg';simp at hg';omega
 refine⟨.slice a' 0 c',rfl,HD.out.arm m3 (λcap hc=>?_) ?_ hz,m3,hz⟩
 .have hc2:=zJ.mods (hc.alloc (.cells #[] 4)) hmod (λe=>by simp[Value.ownBlock] at e;omega);simpa[zCR,zH.armed] using ((((hc2.set 4 (.bool true)).set 5 (.int .i64 0)).set 6 (.int .i64 (-1))).set 7 (.int .i64 0)).set 8 (.slice a' 0 c')
 .exact hown.mods (((((zA.refl (λj=>j=d) w2).setCell (p:=⟨d,4,none⟩) (.inr rfl) _).setCell (p:=⟨d,5,none⟩) (.inr rfl) _).setCell (p:=⟨d,6,none⟩) (.inr rfl) _).setCell (p:=⟨d,7,none⟩) (.inr rfl) _ |>.setCell (p:=⟨d,8,none⟩) (.inr rfl) _) (λg hg e=>by have:=hz g hg;subst e;omega)
end
end Go.Proofs.YtgphfebjjedeaaaGreatDoor
