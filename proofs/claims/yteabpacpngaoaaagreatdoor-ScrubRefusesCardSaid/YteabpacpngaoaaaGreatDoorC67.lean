import Derived.Test.YteabpacpngaoaaaGreatDoorC63
import Derived.Test.YteabpacpngaoaaaGreatDoorC64
import Derived.Deep.Cut
import Derived.Test.YteabpacpngaoaaaGreatDoorC52
namespace Go.Proofs.YteabpacpngaoaaaGreatDoor
open Lib renaming hid->oh
set_option maxHeartbeats 1000000
set_option maxRecDepth 100000
open Go.RowKit
attribute [local go_sem ↓] Go.wp_at_zero Go.wp_at_succ
section
variable {F P:Nat->Prop}{ad:Nat->Addr}{w w' w1:World}{d bl:Nat}{gs ws:List Nat}{wv kv:Value}{D:zI}
theorem zQU(h:DkR w d bl gs ws wv kv D)(m:zA (λk=>k=d) w w1)(C:Array Value)(hB:zH w1 d C 102)(h3:C[3]? = some wv)(h9:C[9]? = some (.bool true))(ka:Option Addr)(kc:Nat) :
  Calls Tryz.prog 117 #[.pointer (some ⟨d,0,none⟩),.slice ka 0 kc,.int .i64 (-1),.int .i64 0] w1 λe w'=>e=.returned (.tuple #[])/\zA (λk=>k=d) w1 w'/\w'.cell? ⟨d,9,none⟩=some (.bool true):=by
 obtain⟨_,av,cv,hv⟩:=h.wvC;have hn6:=h.few;obtain⟨n,hn⟩:∃n,n=D.waiting.length:=⟨_,rfl⟩;rw[<- hn] at hv hn6;subst hv;have c3:=hB.cell h3;have HN:=oh hn;have HD:=oh h;have HM:=oh m;have HB:=oh hB;have H9:=oh h9;have H3:=oh h3;clear h m hB h3 h9 hn
 go_enter Tryz.func117, Tryz.ntmps117
 go_wp2_with fail;go_loopg [15] n (λm i wr=>∃k:Nat,k+m=n/\i=.int .i64 k/\Hid (zF w1 wr))
 case atStart=>exact⟨0,by omega,rfl,oh (zA.refl _ _)⟩
 case round =>
  obtain⟨k,hk,rfl,HW⟩:=hrel;by_cases hlt:k<n
  .obtain⟨p,hp⟩:∃p,D.waiting[k]? = some p:=⟨_,List.getElem?_eq_getElem (by rw[<- HN.out];exact hlt)⟩;obtain⟨b,c,g,e1,e2,e3,e4,e5,e6⟩:=HD.out.waitC2 k p hp;simp only[Value.slice.injEq] at e1;obtain⟨rfl,hq1,rfl⟩:=e1;have hbd:b≠d:=λe=>e5 (e ▸ List.mem_cons_self)
   have MX:zA (λk=>k=d) w wr:=HM.out.trans HW.out.ext;have x0:=(MX.cell (yH e3) hbd).trans e3;have x1:=(MX.cell (yH e4) hbd).trans e4;simp only[zAL] at x1;clear e2 e3 e4 e5 e6 hp MX hq1;go_wp2_with fail;go_roundg (gk-1)
   case measure=>omega
   case rel=>exact⟨k+1,by omega,by go_num,oh (HW.out.alloc _)⟩
  .obtain rfl:k=n:=by omega
   have hBr:=HB.out.ext HW.out;have hfr:=hBr.frozen;have hdl:=hBr.lt;have HBR:=oh hBr;have c3:=hBr.cell H3.out;clear hBr;go_wp2_with fail;go_end0
   refine⟨rfl,HW.out.ext.trans (zA.setCell (F:=λj=>j=d) (zA.refl _ wr) (p:=⟨d,3,none⟩) (.inr rfl) _),?_⟩;have hz:=HBR.out.set 3 (.slice none 0 0);exact hz.cell (by rw[Array.getElem?_setIfInBounds];simpa using H9.out)
structure zRo(D:zI):Prop where
 lit:D.lit=true
 after:D.after=0
 torn:D.torn = -1
 cut:D.cut=0
 keep:D.keep=[]
theorem zLz(h:DkR w d bl gs ws wv kv D)(hb:zRo D) :
  Calls Tryz.prog 72 #[.pointer (some ⟨d,0,none⟩)] w λe w'=>e=.returned (.bool true)/\zA (λk=>k=d) w w'/\w'.cell? ⟨d,9,none⟩=some (.bool true):=by
 obtain⟨ka,kc,hkv,_⟩:=h.keep.form;rw[hb.keep] at hkv;replace hkv:kv=.slice ka 0 kc:=hkv
 subst hkv;obtain⟨cap,_,_,hB,_⟩:=_root_.id h.own;rw[hb.lit,hb.after,hb.torn,hb.cut] at hB;have c4:=hB.cell (o:=4) (v:=.bool true) rfl;have c5:=hB.cell (o:=5) (v:=.int .i64 0) rfl;have c6:=hB.cell (o:=6) (v:=.int .i64 (-1)) rfl;have c7:=hB.cell (o:=7) (v:=.int .i64 0) rfl;have c8:=hB.cell (o:=8) (v:=.slice ka 0 kc) rfl;have hfr:=hB.frozen;have hdl:=hB.lt;have hne:d≠w.heap.size:=by omega
 have HD:=oh h;have HB:=oh hB;clear h hB hb
 go_enter Tryz.func72, Tryz.ntmps72
 go_upto_region 3 with fail
 obtain⟨f,hf⟩:∃f,f=w.heap.size:=⟨_,rfl⟩;obtain⟨W2,hW2⟩:∃W,W=w.alloc (.cells #[.bool true,.int .i64 0,.int .i64 (-1),.int .i64 0,.slice ka 0 kc] 100):=⟨_,rfl⟩;have m2:zF w W2:=by rw[hW2];exact (zA.refl _ w).alloc _
 have hB2:zH W2 f #[.bool true,.int .i64 0,.int .i64 (-1),.int .i64 0,.slice ka 0 kc] 100:=by rw[hW2,hf];exact zH.new w _ _
 rw[<- hW2,<- hf];have hBd:=HB.out.ext m2;have d4:=hBd.cell (o:=4) (v:=.bool true) rfl;have d5:=hBd.cell (o:=5) (v:=.int .i64 0) rfl;have d6:=hBd.cell (o:=6) (v:=.int .i64 (-1)) rfl;have d7:=hBd.cell (o:=7) (v:=.int .i64 0) rfl;have d8:=hBd.cell (o:=8) (v:=.slice ka 0 kc) rfl;have d9:=hBd.cell (o:=9) (v:=.bool D.off) rfl;have df:=hBd.frozen;have hdf:d≠f:=by omega
 clear hW2 hf c4 c5 c6 c7 c8 hfr hne;go_upto_region 4 with fail
 obtain⟨W3,hW3⟩:∃W,W=(((((W2.setCell ⟨d,4,none⟩ (.bool false)).setCell ⟨d,5,none⟩ (.int .i64 0)).setCell ⟨d,6,none⟩ (.int .i64 0)).setCell ⟨d,7,none⟩ (.int .i64 0)).setCell ⟨d,8,none⟩ (.slice none 0 0)).setCell ⟨d,9,none⟩ (.bool true):=⟨_,rfl⟩;have m3:zA (λj=>j=d) W2 W3:=by
  rw[hW3];exact ((((((zA.refl (λj=>j=d) W2).setCell (p:=⟨d,4,none⟩) (.inr rfl) _).setCell (p:=⟨d,5,none⟩) (.inr rfl) _).setCell (p:=⟨d,6,none⟩) (.inr rfl) _).setCell (p:=⟨d,7,none⟩) (.inr rfl) _).setCell (p:=⟨d,8,none⟩) (.inr rfl) _).setCell (p:=⟨d,9,none⟩) (.inr rfl) _
 have hB3:zH W3 d #[.int .i64 (D.blocks:Int),.int .i64 (D.size:Int),.slice (some ⟨bl,0,none⟩) D.blocks cap,wv,.bool false,.int .i64 0,.int .i64 0,.int .i64 0,.slice none 0 0,.bool true,.int .i64 D.count] 102:=by
  rw[hW3];simpa using (((((hBd.set 4 (.bool false)).set 5 (.int .i64 0)).set 6 (.int .i64 0)).set 7 (.int .i64 0)).set 8 (.slice none 0 0)).set 9 (.bool true)
 rw[<- hW3];have hf3:=hB2.mods m3 (λe=>hdf e.symm);have f4:=hf3.cell (o:=4) (v:=.slice ka 0 kc) rfl;have f2:=hf3.cell (o:=2) (v:=.int .i64 (-1)) rfl;have f3:=hf3.cell (o:=3) (v:=.int .i64 0) rfl;have HM:=oh (m2.ext.trans m3);have HB3:=oh hB3;clear d4 d5 d6 d7 d8 d9 df hW3 m2 m3 hB2 hBd hB3 hf3;go_wp2_with fail;refine (zQU HD.out HM.out _ HB3.out rfl rfl ka kc).mono ?_;rintro e w4 ⟨rfl,m4,c9⟩;have HF:Hid (zA (λk=>k=d) w w4/\w4.cell? ⟨d,9,none⟩=some (.bool true)):=oh ⟨HM.out.trans m4,c9⟩;clear m4 c9 f2 f3 f4;go_wp2_with fail;go_ret;exact⟨rfl,HF.out.1,HF.out.2⟩
end
section
variable {F P:Nat->Prop}{ad:Nat->Addr}{w w' w1:World}{d bl:Nat}{gs ws:List Nat}{wv kv:Value}{D:zI}
theorem zNm:zCh zN3 1:=⟨λ_=>rfl,by intro x u hu;simp[zN3] at hu;subst hu;rfl⟩
theorem Tryz.elBool:ElT Tryz.prog 98 4 (.bool false) 1 1:=⟨Tryz.underlying98,by kernel_rfl,rfl,by decide,by decide⟩
def zI.armed(D:zI):zI:={ D with lit:=true,after:=0,torn:=-1,cut:=0,keep:=[] }
theorem zNF(D:zI):zRo D.armed:=⟨rfl,rfl,rfl,rfl,rfl⟩
theorem DkR.arm(h:DkR w d bl gs ws wv kv D){kv':Value}(m:zA (λk=>k=d) w w')
  (hB:∀cap,zH w d (zEo D bl cap wv kv) 102 -> zH w' d (zEo D.armed bl cap wv kv') 102) (hk:yC (λk=>k∈d :: bl :: (gs++ws)) w' 0 4 1 zN3 kv' []) (hg:∀g,kv'.ownBlock=some g->w.heap.size<=g):DkR w' d bl gs ws wv kv' D.armed:=by
 have hn:=h.nodup;have hd:∀k,k∈bl :: (gs++ws)->k≠d:=λk hk e=>(List.nodup_cons.1 hn).1 (e ▸ hk)
 obtain⟨cap,a1,a2,a3,rest,a4,a5⟩:=_root_.id h.own;exact⟨⟨cap,a1,a2,hB cap a3,rest,a4.mods m (hd bl List.mem_cons_self),a5⟩,h.lenB,h.lenL,h.lenW,hk,λg h1 h2=>by have:=hg g h1;have:=(h.wait.lt g h2).2;omega,by simp[zI.armed],
  h.wait.mods m (λg hg e=>h.wait.2 g hg (e ▸ List.mem_cons_self)),
  λi g b h1 h2=>⟨(h.row i g b h1 h2).1,(h.row i g b h1 h2).2.mods m (hd g (List.mem_cons_of_mem _ (List.mem_append_left _ (List.mem_of_getElem? h1))))⟩,
  λi g p h1 h2=>⟨(h.wrow i g p h1 h2).1,(h.wrow i g p h1 h2).2.1,(h.wrow i g p h1 h2).2.2.mods m (hd g (List.mem_cons_of_mem _ (List.mem_append_right _ (List.mem_of_getElem? h1))))⟩,
  h.nodup,h.b8,h.b256,h.s256,h.s1024,h.few⟩
theorem zRp(h:DkR w d bl gs ws wv kv D) :
  Calls Tryz.prog 32 #[.pointer (some ⟨d,0,none⟩),.int .i64 0,.slice none 0 0,.int .i64 (-1),.int .i64 0] w λe w'=>∃kv',e=.returned .nilIface/\DkR w' d bl gs ws wv kv' D.armed/\zA (λk=>k=d) w w'/\∀g,kv'.ownBlock=some g->w.heap.size<=g:=by
 obtain⟨cap,_,_,hB,_⟩:=_root_.id h.own;have hdl:=hB.lt;have HB:=oh hB;have HD:=oh h;have HN:Hid (∀k,k∈d :: bl :: (gs++ws)->k<w.heap.size):=oh h.bd;have HO:Hid (yC (λk=>k∈d :: bl :: (gs++ws)) (w.alloc (.cells #[] 4)) 0 4 1 zN3 (.slice (some ⟨w.heap.size,0,none⟩) 0 0) []):=oh (yC.made (cur:=#[]) (b:=w.heap.size) (cap:=0) (l:=([]:List Bool)) (sz:=1) (enc:=zN3) (zH.new w _ 4) (Nat.zero_le _) (λf=>by have:=HN.out _ f;omega) (by simp) (by simp[maxLen]) rfl rfl zNm.len);clear h hB
 go_enter Tryz.func32, Tryz.ntmps32
 go_wp2_with (first
  | (at_builtin;refine yU Tryz.elBool zNm rfl _ _ rfl 0 (.slice (some ⟨w.heap.size,0,none⟩) 0 0) (.slice none 0 0) ([]:List Bool) [] rfl rfl HO.out (Sl.nil (λ_=>False) _ _ _) (by simp) (Nat.zero_le _) (λf=>by have h1:=HN.out _ f;have h2:=((zA.refl (λ_=>False) w).alloc (.cells #[] 4)).size;omega) ?_;intro a' c' w2 hown hmod hat;have hBd:=zH.mods (HB.out.alloc (.cells #[] 4)) hmod (λe=>by simp[Value.ownBlock] at e;omega);have d4:=hBd.cell (o:=4) (v:=.bool D.lit) rfl;have d5:=hBd.cell (o:=5) (v:=.int .i64 D.after) rfl;have d6:=hBd.cell (o:=6) (v:=.int .i64 D.torn) rfl;have d7:=hBd.cell (o:=7) (v:=.int .i64 D.cut) rfl;have d8:=hBd.cell (o:=8) (v:=kv) rfl;have df:=hBd.frozen)
  | fail)
 go_ret;have mx:zA (λk=>k=d) w w2:=((zA.refl (λk=>k=d) w).alloc (.cells #[] 4)).trans' hmod (λi hi e=>by simp[Value.ownBlock] at e;omega);have m3:zA (λk=>k=d) w (((((w2.setCell ⟨d,4,none⟩ (.bool true)).setCell ⟨d,5,none⟩ (.int .i64 0)).setCell ⟨d,6,none⟩ (.int .i64 (-1))).setCell ⟨d,7,none⟩ (.int .i64 0)).setCell ⟨d,8,none⟩ (.slice a' 0 c')) :=
  ((((mx.setCell (p:=⟨d,4,none⟩) (.inr rfl) _).setCell (p:=⟨d,5,none⟩) (.inr rfl) _).setCell (p:=⟨d,6,none⟩) (.inr rfl) _).setCell (p:=⟨d,7,none⟩) (.inr rfl) _).setCell (p:=⟨d,8,none⟩) (.inr rfl) _
 have hz:∀g,(Value.slice a' 0 c').ownBlock=some g->w.heap.size<=g:=λg hg=>by
  have hg':(Value.slice a' (([]:List Bool).length+([]:List Bool).length) c').ownBlock=some g:=hg;rcases hat with e|e
  .rw[e] at hg';simp[Value.ownBlock] at hg';omega
  .rw[e] at hg';simp at hg';omega
 refine⟨.slice a' 0 c',rfl,HD.out.arm m3 (λcap hc=>?_) ?_ hz,m3,hz⟩
 .have hc2:=zH.mods (hc.alloc (.cells #[] 4)) hmod (λe=>by simp[Value.ownBlock] at e;omega);simpa[zEo,zI.armed] using ((((hc2.set 4 (.bool true)).set 5 (.int .i64 0)).set 6 (.int .i64 (-1))).set 7 (.int .i64 0)).set 8 (.slice a' 0 c')
 .exact hown.mods (((((zA.refl (λj=>j=d) w2).setCell (p:=⟨d,4,none⟩) (.inr rfl) _).setCell (p:=⟨d,5,none⟩) (.inr rfl) _).setCell (p:=⟨d,6,none⟩) (.inr rfl) _).setCell (p:=⟨d,7,none⟩) (.inr rfl) _ |>.setCell (p:=⟨d,8,none⟩) (.inr rfl) _) (λg hg e=>by have:=hz g hg;subst e;omega)
end
end Go.Proofs.YteabpacpngaoaaaGreatDoor
