import Derived.Test.YtdnbmdghmmpgcaaGreatDoorQ36
import Derived.BigQuiet
import Derived.IntWalk
import Derived.Deep.RegionLawGrows
import Derived.Deep.RegionHeld3
import Derived.Deep.CutBlock
import Derived.Deep.DeepCutAuto
import Derived.Test.YtdnbmdghmmpgcaaGreatDoorQ26
namespace Go.Proofs.YtdnbmdghmmpgcaaGreatDoor
open Lib renaming hid->oh
set_option maxHeartbeats 2000000
set_option maxRecDepth 100000
section
open Go.RowKit
attribute [local go_sem ↓] Go.wp_at_zero Go.wp_at_succ
section
variable {F P P' F' P1 F1:Nat->Prop}{ad:Nat->Addr}{w w' w0 w1:World}{base c s gen kb:Nat}{root:Int}{G G':GA}{l l':List Nat}{sv sv':Value}{st st':List jC}{x:jC}
theorem zMP{v0 v1 v2 v3:Value}{g n m cp:Nat}(hB:zK w kb #[v0,v1,v2,v3,.slice (some ⟨g,0,none⟩) n cp] 295)(hn:n=m+1)(hm:m<=1000) :
  Calls Tryz.prog 185 #[.pointer (some ⟨kb,0,none⟩)] w λe w'=>e=.returned (.pointer (some ⟨g,m * 5,none⟩))/\∃q,w'=w.drewN q:=by
 have k4:=hB.cell (o:=4) (v:=.slice (some ⟨g,0,none⟩) n cp) rfl;have u1:IntKind.i64.wrap ((n:Int)-1)=(m:Int):=by rw[IntWalk.i64_in _ (by omega)];omega
 have u2:(0:Int)<=(m:Int):=by omega
 have u3:(m:Int)<(n:Int):=by omega
 clear hB hn hm
 go_enter Tryz.func185, Tryz.ntmps185
 go_wp2_with fail;go_quiet (fail)
 go_wp2_with fail;go_ret;exact⟨by simp,_,rfl⟩
theorem zFD{v0 v1 v2 v3:Value}{g n m cp:Nat}(hB:zK w kb #[v0,v1,v2,v3,.slice (some ⟨g,0,none⟩) n cp] 295)(hn:n=m+1)(hm:m<=1000) :
  Calls Tryz.prog 185 #[.pointer (some ⟨kb,0,none⟩)] w λe w'=>e=.returned (.pointer (some ⟨g,m * 5,none⟩))/\zG w w' :=
 (zMP hB hn hm).mono (λe w' ⟨h1,q,h2⟩=>⟨h1,by rw[h2];exact (zA.refl _ w).drewN q⟩)
theorem zON{v0 v1 v2 v3:Value}{g n m cp:Nat}(hB:zK w kb #[v0,v1,v2,v3,.slice (some ⟨g,0,none⟩) n cp] 295)(hn:n=m+1)(hm:m<=1000)(q:Nat) :
  Calls Tryz.prog 185 #[.pointer (some ⟨kb,0,none⟩)] (w.drewN q) λe w'=>e=.returned (.pointer (some ⟨g,m * 5,none⟩))/\∃k,w'=w.drewN k :=
 (zMP (hB.ext ((zA.refl _ w).drewN q)) hn hm).mono (λe w' ⟨h1,k,h2⟩=>⟨h1,q+k,by rw[h2];unfold World.drewN;simp[rF]⟩)
theorem zMQ(n:zI){g o ec ic:Nat}{ea ia:Option Addr}(c0:w.cell? ⟨g,o,none⟩=some (.bool n.leaf))(c1:w.cell? ⟨g,o+1,none⟩=some (.slice ea n.entries.length ec))(c3:w.cell? ⟨g,o+3,none⟩=some (.slice ia n.kids.length ic)) :
  Calls Tryz.prog 244 #[.pointer (some ⟨g,o,none⟩)] w λe w'=>e=.returned (.int .i64 (zAD n:Int))/\w=w':=by
 cases hl:n.leaf with
 | true =>
  have HE:Hid (zAD n=n.entries.length):=oh (by unfold zAD;rw[if_pos hl]);rw[hl] at c0;clear hl
  go_enter Tryz.func244, Tryz.ntmps244
  go_wp2_with fail;go_ret;rw[HE.out];exact⟨rfl,rfl⟩
 | false =>
  have HE:Hid (zAD n=n.kids.length):=oh (by unfold zAD;rw[if_neg (by rw[hl];simp)]);rw[hl] at c0;clear hl
  go_enter Tryz.func244, Tryz.ntmps244
  go_wp2_with fail;go_ret;rw[HE.out];exact⟨rfl,rfl⟩
theorem zMR(h:CuI F P ad w base c s gen kb root G l sv st)(ht:G.total)(id:Int) :
  Calls Tryz.prog 243 #[.pointer (some ⟨kb,0,none⟩),.int .i64 id] w (CuD F P ad w base c s gen kb root G l sv (zAP G (st.map jC.pl) id)):=by
 obtain⟨pa,pc,rfl,q1,q2⟩:=_root_.id h.cu.row.form;have hfew:=h.cu.few;have hrl:st.reverse.length=st.length:=rT;rw[hrl] at h q1 ⊢;have H:=oh h;have k4:=h.cu.blk.cell (o:=4) (v:=.slice pa st.length pc) rfl;have kf:=h.cu.blk.frozen;have HML:Hid ((st.map jC.pl).length=st.length):=oh (by simp);by_cases h16:16<=st.length
 .have HV:Hid (zAP G (st.map jC.pl) id=.inr ([zBm id],5)):=oh (by unfold zAP;rw[if_pos (by rw[HML.out];exact h16)]);have g5:=h.env.c5;have HA:=oh (λop=>jY h.env op id _ _ _ (yY.sent 5 (by omega) (by omega)));have h16i:(16:Int)<=(st.length:Int):=by omega
  clear h hrl
  go_enter Tryz.func243, Tryz.ntmps243
  go_wp2_with fail;refine (HA.out _).mono ?_;rintro e w1 ⟨b,rfl,hE,hm⟩;have HE:=oh hE;have HM:=oh (H.out.ext hm);clear hE hm;go_wp2_with fail;go_ret;exact CuD.bad HM.out.1 HM.out.2 HE.out HV.out
 .have HV:Hid (zAP G (st.map jC.pl) id=match G.load id with | .inr e=>.inr e | .inl n=>.inl ((n,0) :: st.map jC.pl)):=oh (by unfold zAP;rw[if_neg (by rw[HML.out];exact h16)];rfl);have k0:=h.cu.blk.cell (o:=0) (v:=.pointer (some ⟨c,0,none⟩)) rfl;have k1:=h.cu.blk.cell (o:=1) (v:=.pointer (some ⟨s,0,none⟩)) rfl;have k2:=h.cu.blk.cell (o:=2) (v:=.int .u64 (gen:Int)) rfl;have HLD:=oh (zL0 h.env h.sub h.pg gen id (ht.knows id));unfold pgV at HLD;have h16i:¬ (16:Int)<=(st.length:Int):=by omega
  have H16:=oh h16;clear h hrl h16
  go_enter Tryz.func243, Tryz.ntmps243
  go_wp2_with fail;refine (HLD.out).mono ?_;rintro e w1 ⟨P1,F1,hG1,hN1,hres⟩;have H1:=oh (H.out.pag hN1 hG1);clear hG1 hN1 k0 k1 k2 k4 kf;cases hld:G.load id with
  | inr er =>
   obtain⟨el,ek⟩:=er;rw[hld] at hres;obtain⟨f,rfl,hE⟩:=hres;have HZ:Hid (zAP G (st.map jC.pl) id=.inr (el,ek)):=oh (by rw[HV.out,hld]);have m2:zG w1 (w1.alloc gB):=(zA.refl _ w1).alloc _;have H2:=oh (H1.out.1.ext m2);have HE:=oh (hE.mods m2.ext);clear hE hld m2;go_wp2_with fail;go_ret;exact CuD.bad H2.out.1 (H1.out.2.trans H2.out.2) HE.out HZ.out
  | inl n =>
   rw[hld] at hres;obtain⟨ve,vk,vi,rfl,hse,hsk,hsi⟩:=hres;obtain⟨ea,ec,rfl,_,_,_,_⟩:=_root_.id hse;obtain⟨ka,kc,rfl,_,_,_,_⟩:=_root_.id hsk;obtain⟨ia,ic,rfl,_,_,_,_⟩:=_root_.id hsi;have HZ:Hid (zAP G (st.map jC.pl) id=.inl ((n,0) :: st.map jC.pl)):=oh (by rw[HV.out,hld]);have HRT:=oh (GA.load_right hld);have m2:zG w1 (w1.alloc (.cells #[.bool n.leaf,.slice ea n.entries.length ec,.slice ka n.keys.length kc,.slice ia n.kids.length ic] 272)):=(zA.refl _ w1).alloc _;have H2:=oh (H1.out.1.ext m2);have HFR:Hid (zNc F1 (w1.alloc (.cells #[.bool n.leaf,.slice ea n.entries.length ec,.slice ka n.keys.length kc,.slice ia n.kids.length ic] 272)) ⟨n,0,ea,ka,ia,ec,kc,ic⟩):=oh ⟨hse.ext m2,hsk.ext m2,hsi.ext m2⟩;have hND:=zK.new w1 #[.bool n.leaf,.slice ea n.entries.length ec,.slice ka n.keys.length kc,.slice ia n.kids.length ic] 272;have d0:=hND.cell (o:=0) (v:=.bool n.leaf) rfl;have d1:=hND.cell (o:=1) (v:=.slice ea n.entries.length ec) rfl;have d2:=hND.cell (o:=2) (v:=.slice ka n.keys.length kc) rfl;have d3:=hND.cell (o:=3) (v:=.slice ia n.kids.length ic) rfl;have k4:=H2.out.1.cu.blk.cell (o:=4) (v:=.slice pa st.length pc) rfl;have k4b:=λo=>zE ((zA.refl _ _).alloc o) k4
   have hbl:=H2.out.1.bl;have HO2:Hid (yA (λ_=>False) (((w1.alloc (.cells #[.bool n.leaf,.slice ea n.entries.length ec,.slice ka n.keys.length kc,.slice ia n.kids.length ic] 272))).drew.alloc (.cells #[.bool n.leaf,.slice ea n.entries.length ec,.slice ka n.keys.length kc,.slice ia n.kids.length ic,.int .i64 0] 297)) base 297 5 zIb (.slice pa st.length pc) st.reverse):=oh ((H2.out.1.cu.row.ext (zA.refl _ _).drew).ext ((zA.refl _ _).alloc _));have HB2:Hid (zK (((w1.alloc (.cells #[.bool n.leaf,.slice ea n.entries.length ec,.slice ka n.keys.length kc,.slice ia n.kids.length ic] 272))).drew.alloc (.cells #[.bool n.leaf,.slice ea n.entries.length ec,.slice ka n.keys.length kc,.slice ia n.kids.length ic,.int .i64 0] 297)) kb #[.pointer (some ⟨c,0,none⟩),.pointer (some ⟨s,0,none⟩),.int .u64 (gen:Int),.int .i64 root,.slice pa st.length pc] 295):=oh (((H2.out.1.cu.blk.drew).alloc _));clear hse hsk hsi hld m2 hND;go_wp2_with fail;go_region_law
    (first
     | (refine zBW Tryz.elFr zEr (by rfl) _ _ (by rfl) base (.slice pa st.length pc) _ st.reverse [⟨n,0,ea,ka,ia,ec,kc,ic⟩] (by rfl) (by rfl) HO2.out (Sl.one (F:=λ_=>False) (zO (by simp)) (λf=>f)) (by simp only[rT,uD,uF];omega) (by simp at hbl ⊢;omega) (λf=>f) ?_;simp only[rT,uD,uF,uS];intro a11 c11 w11 hO11 hm11 hat11;have hB11:=HB2.out.mods hm11 (λe=>yA.notB HO2.out HB2.out (by decide) _ e rfl);have z4:=hB11.cell (o:=4) (v:=.slice pa st.length pc) rfl;have zf:=hB11.frozen 4;clear hB11)
     | fail)
   all_goals
    have H2D:=oh (H2.out.1.ext (zA.refl _ _).drew);have H3:=oh (H2D.out.1.push (x:=⟨n,0,ea,ka,ia,ec,kc,ic⟩) (HFR.out.step (zA.refl _ _).drew (λ_ _ hn=>hn)) (zKa HRT.out).1 (by have:=H16.out;omega) hO11 hm11 (hat11.imp (λh=>h) (λh=>h)) (by simp));clear hO11 hm11 hat11 z4 zf d0 d1 d2 d3 k4 k4b hbl;go_wp2_with fail;go_ret;exact CuD.good H3.out.1 (((H1.out.2.trans H2.out.2).trans H2D.out.2).trans H3.out.2) HZ.out
end
end
section
open Go.RowKit
attribute [local go_sem ↓] Go.wp_at_zero Go.wp_at_succ
theorem yR:zCZ yS 2:=⟨λ_=>rfl,by intro x u hu;simp[yS] at hu;rcases hu with rfl|rfl <;> rfl⟩
theorem yA.some{α:Type}{F:Nat->Prop}{w:World}{base:Nat}{e:TypeId}{sz:Nat}{enc:α->List Value}{v:Value}{l:List α}(h:yA F w base e sz enc v l)(hl:l≠[]):∃g c,v=.slice (Option.some ⟨g,0,none⟩) l.length c/\l.length<=c/\c<=maxLen/\base<=g/\g<w.heap.size/\∀o,w.frozen? ⟨g,o,none⟩=false:=by
 rcases h.1.2 with ⟨_,h0⟩|⟨g,cap,cur,rfl,hb,hg,h1,h2,_⟩
 .exact absurd (tC h0) hl
 .refine⟨g,cap,rfl,h1,h2,hb,(tF.1 hg).1,λo=>?_⟩;exact zK.frozen (c:=cur) (t:=e) hg o
theorem Sl.cellsAt{α:Type}{F:Nat->Prop}{w:World}{sz:Nat}{enc:α->List Value}{b off n c:Nat}{l:List α}(h:Sl F w sz enc (.slice (Option.some ⟨b,off,none⟩) n c) l){j:Nat}{x:α}(hx:l[j]? = Option.some x):∀i u,(enc x)[i]? = Option.some u->w.cell? ⟨b,off+j * sz+i,none⟩=Option.some u:=by
 obtain⟨a',c',e1,_,_,_,e5⟩:=h;injection e1 with e1 _ _;subst e1;rcases e5 with rfl|⟨b',off',e,_,_,hc⟩
 .simp at hx
 .injection e with e;injection e with e1 e2;subst e1 e2;exact hc j x hx
theorem Tryz.mkP:(Tryz.prog.info? 111).map (λi=>(i.zero,i.size,i.bytes))=some (some (.agg #[.string ⟨#[]⟩,.string ⟨#[]⟩]),2,32):=by kernel_rfl
theorem Tryz.elP:ElT Tryz.prog 22 111 (.agg #[.string ⟨#[]⟩,.string ⟨#[]⟩]) 2 32:=⟨Tryz.underlying22,Tryz.mkP,rfl,by decide,by decide⟩
section
variable {F:Nat->Prop}{w w' wr w2:World}
def zMS(w:World)(l:List zD)(e:Ending)(w':World):Prop:=∃v,e=.returned v/\yA NoF w' w.heap.size 111 2 yS v l/\zG w w'
theorem zQ6(l:List zD)(lv:Value)(hl:Sl F w 2 yS lv l)(hlen:l.length<=1000)(key value:ByteArray)(over:Bool) :
  Calls Tryz.prog 79 #[lv,.string key,.string value,.bool over] w (zMS w (qF key value over l)):=by
 obtain⟨la,lc,rfl,h1,h2,h3,hll⟩:=hl;unfold maxLen at h2;have HLL:=oh hll;clear hll
 go_enter Tryz.func79, Tryz.ntmps79
 go_wp2_with fail;have HO0:Hid (yA NoF (w.alloc (.cells #[] 111)) w.heap.size 111 2 yS (.slice (some ⟨w.heap.size,0,none⟩) 0 0) []):=oh
  (yA.made (l:=([]:List zD)) (cur:=#[]) (cap:=0) (zO (by simp)) (by omega) (λf=>f) (uK _) (by simp[maxLen]) (by simp) (by simp) (λ_=>rfl))
 have HM0:Hid (zG w (w.alloc (.cells #[] 111))):=oh ((zA.refl _ w).alloc _);go_loopg [9,10,11] l.length (λm v9 v10 v11 wr=>∃(k:Nat) (dn:Bool) (out:List zD),k+m=l.length/\v11=.int .i64 (k:Int)/\v10=.bool dn/\Hid (yA NoF wr w.heap.size 111 2 yS v9 out/\zG w wr/\zB2 key value over l k dn out))
 case atStart=>exact⟨0,false,[],by omega,rfl,rfl,oh ⟨HO0.out,HM0.out,zB2.start⟩⟩
 case round =>
  obtain⟨k,dn,out,hkm,rfl,rfl,HS⟩:=hrel;by_cases hlt:k<l.length
  .obtain⟨b,off,rfl,hb,hF,hc⟩:=Sl.at HLL.out HS.out.2.1 (λ_ _ f=>f.elim) k hlt;obtain⟨x,hx⟩:∃x,l[k]? = some x:=⟨_,uB hlt⟩;have hx':l[k]=x:=by rw[uB hlt] at hx;exact Option.some.inj hx
   rw[hx'] at hc;have c0:=hc 0 _ rfl;simp only[uP] at c0;have c1:=hc 1 _ rfl;have HX:=oh hx;have HOL:Hid (out.length<=k+1):=oh (by have:=HS.out.2.2.1;omega);clear hc hx hx';have i1:(0:Int)<=(k:Int):=by omega
   have i2:(k:Int)<(l.length:Int):=by omega
   have HSZ:Hid (w.heap.size<=wr.heap.size):=oh HS.out.2.1.size;cases dn with
   | true =>
    go_wp2_with (at_builtin;refine yH Tryz.elP yR rfl _ _ rfl w.heap.size _ _ out [x] rfl rfl (HS.out.1.ext ((zA.refl _ _).alloc _)) (Sl.one (F:=NoF) (zO (by simp)) (λf=>f)) (by have:=HOL.out;simp only[uD,uF];omega) (by have:=hb;have:=HSZ.out;simp;omega) (λf=>f) ?_;intro a4 c4 w4 hO4 hm4 hat4);have HS4:Hid (yA NoF w4 w.heap.size 111 2 yS _ _/\zG w w4/\zB2 key value over l (k+1) true (out++[x])):=oh ⟨hO4,(HS.out.2.1.alloc _).trans' hm4 (λi hi e=>by have:=(HS.out.1.lt i e).1;omega),HS.out.2.2.pass HX.out⟩;clear hO4 hm4 hat4;go_wp2_with fail;go_roundg (gk-1)
    case measure=>omega
    case rel=>exact⟨k+1,true,_,by omega,by go_num,rfl,HS4⟩
   | false =>
    by_cases hl:yX x.1 key=true
    .have e1:Op.bytesLess x.1.toList key.toList=true:=hl;have HE:=oh hl;clear hl;go_wp2_with (at_builtin;refine yH Tryz.elP yR rfl _ _ rfl w.heap.size _ _ out [x] rfl rfl (HS.out.1.ext ((zA.refl _ _).alloc _)) (Sl.one (F:=NoF) (zO (by simp)) (λf=>f)) (by have:=HOL.out;simp only[uD,uF];omega) (by have:=hb;have:=HSZ.out;simp;omega) (λf=>f) ?_;intro a4 c4 w4 hO4 hm4 hat4);have HS4:Hid (yA NoF w4 w.heap.size 111 2 yS _ _/\zG w w4/\zB2 key value over l (k+1) false (out++[x])):=oh ⟨hO4,(HS.out.2.1.alloc _).trans' hm4 (λi hi e=>by have:=(HS.out.1.lt i e).1;omega),HS.out.2.2.lt HX.out HE.out⟩;clear hO4 hm4 hat4;go_wp2_with fail;go_roundg (gk-1)
     case measure=>omega
     case rel=>exact⟨k+1,false,_,by omega,by go_num,rfl,HS4⟩
    .have hl':yX x.1 key=false:=by simpa using hl
     have e1:Op.bytesLess x.1.toList key.toList=false:=hl';have HE:=oh hl';clear hl hl';by_cases hk:x.1=key
     .obtain⟨xk,xv⟩:=x;simp only at hk;subst hk;cases over with
      | true =>
       go_wp2_with (at_builtin;refine yH Tryz.elP yR rfl _ _ rfl w.heap.size _ _ out [(xk,value)] rfl rfl (HS.out.1.ext ((zA.refl _ _).alloc _)) (Sl.one (F:=NoF) (zO (by simp)) (λf=>f)) (by have:=HOL.out;simp only[uD,uF];omega) (by have:=HSZ.out;simp;omega) (λf=>f) ?_;intro a4 c4 w4 hO4 hm4 hat4;have y0:=zDa hm4 (zE ((zA.refl _ wr).alloc (.cells #[.string xk,.string value] 111)) c0) (λe=>by have:=(HS.out.1.lt _ e).1;omega);have y1:=zDa hm4 (zE ((zA.refl _ wr).alloc (.cells #[.string xk,.string value] 111)) c1) (λe=>by have:=(HS.out.1.lt _ e).1;omega));have HS4:Hid (yA NoF w4 w.heap.size 111 2 yS _ _/\zG w w4/\zB2 xk value true l (k+1) true (out++[(xk,value)])):=oh ⟨hO4,(HS.out.2.1.alloc _).trans' hm4 (λi hi e=>by have:=(HS.out.1.lt i e).1;omega),HS.out.2.2.eqO HX.out rfl⟩;clear hO4 hm4 hat4;go_wp2_with fail;go_roundg (gk-1)
       case measure=>omega
       case rel=>exact⟨k+1,true,_,by omega,by go_num,rfl,HS4⟩
      | false =>
       go_wp2_with (at_builtin;refine yH Tryz.elP yR rfl _ _ rfl w.heap.size _ _ out [(xk,xv)] rfl rfl (HS.out.1.ext ((zA.refl _ _).alloc _)) (Sl.one (F:=NoF) (zO (by simp)) (λf=>f)) (by have:=HOL.out;simp only[uD,uF];omega) (by have:=HSZ.out;simp;omega) (λf=>f) ?_;intro a4 c4 w4 hO4 hm4 hat4);have HS4:Hid (yA NoF w4 w.heap.size 111 2 yS _ _/\zG w w4/\zB2 xk value false l (k+1) true (out++[(xk,xv)])):=oh ⟨hO4,(HS.out.2.1.alloc _).trans' hm4 (λi hi e=>by have:=(HS.out.1.lt i e).1;omega),HS.out.2.2.eqN HX.out rfl⟩;clear hO4 hm4 hat4;go_wp2_with fail;go_roundg (gk-1)
       case measure=>omega
       case rel=>exact⟨k+1,true,_,by omega,by go_num,rfl,HS4⟩
     .have hk2:yX key x.1=true:=(zDn HE.out).resolve_right hk;have e2:Op.bytesLess key.toList x.1.toList=true:=hk2;have e3:¬ x.1.toList=key.toList:=λe=>hk (toList_inj e)
      have e4:¬ x.1=key:=hk;have HK:=oh hk;clear hk hk2;go_wp2_with (first|(at_builtin;refine yH Tryz.elP yR rfl _ _ rfl w.heap.size _ _ out [(key,value)] rfl rfl (HS.out.1.ext ((zA.refl _ _).alloc _)) (Sl.one (F:=NoF) (zO (by simp)) (λf=>f)) (by have:=HOL.out;simp only[uD,uF];omega) (by have:=HSZ.out;simp;omega) (λf=>f) ?_;intro a4 c4 w4 hO4 hm4 hat4;have y0:=zDa hm4 (zE ((zA.refl _ wr).alloc (.cells #[.string key,.string value] 111)) c0) (λe=>by have:=(HS.out.1.lt _ e).1;omega);have y1:=zDa hm4 (zE ((zA.refl _ wr).alloc (.cells #[.string key,.string value] 111)) c1) (λe=>by have:=(HS.out.1.lt _ e).1;omega))|(at_builtin;refine yH Tryz.elP yR rfl _ _ rfl w.heap.size _ _ (out++[(key,value)]) [x] rfl rfl (hO4.ext ((zA.refl _ _).alloc _)) (Sl.one (F:=NoF) (zO (by simp)) (λf=>f)) (by have:=HOL.out;simp only[uA,uD,uF];omega) (by have:=hm4.size;have:=HSZ.out;simp at *;omega) (λf=>f) ?_;intro a5 c5 w5 hO5 hm5 hat5));have HS3:Hid (yA NoF w4 w.heap.size 111 2 yS _ (out++[(key,value)])/\zG w w4):=oh ⟨hO4,(HS.out.2.1.alloc _).trans' hm4 (λi hi e=>by have:=(HS.out.1.lt i e).1;omega)⟩;have HS4:Hid (yA NoF w5 w.heap.size 111 2 yS (.slice a5 (out.length+1+1) c5) (out++[(key,value)]++[x])/\zG w w5/\zB2 key value over l (k+1) true (out++[(key,value)]++[x])):=oh ⟨by have e:=hO5;simp only[uA,uD,uF,uS] at e;exact e,(HS3.out.2.alloc _).trans' hm5 (λi hi e=>by have:=(HS3.out.1.lt i e).1;omega),HS.out.2.2.gt HX.out HE.out HK.out⟩;clear hO5 hm5 hat5;go_wp2_with fail;go_roundg (gk-1)
      case measure=>omega
      case rel=>exact⟨k+1,true,_,by omega,by go_num,rfl,HS4⟩
  .have HLE:Hid (l.length<=k):=oh (by omega);have HSZ:Hid (w.heap.size<=wr.heap.size):=oh HS.out.2.1.size;have HOL:Hid (out.length<=k+1):=oh (by have:=HS.out.2.2.1;omega);have hb:w.heap.size<=wr.heap.size:=HSZ.out;cases dn with
   | true =>
    go_wp2_with fail;go_ret;exact⟨_,rfl,by rw[<- HS.out.2.2.done HLE.out];exact HS.out.1,HS.out.2.1⟩
   | false =>
    go_wp2_with (at_builtin;refine yH Tryz.elP yR rfl _ _ rfl w.heap.size _ _ out [(key,value)] rfl rfl (HS.out.1.ext ((zA.refl _ _).alloc _)) (Sl.one (F:=NoF) (zO (by simp)) (λf=>f)) (by have:=HOL.out;simp only[uD,uF];omega) (by have:=HSZ.out;simp;omega) (λf=>f) ?_;intro a4 c4 w4 hO4 hm4 hat4);have HS4:Hid (yA NoF w4 w.heap.size 111 2 yS _ (qF key value over l)/\zG w w4):=oh ⟨by rw[<- HS.out.2.2.last HLE.out];exact hO4,(HS.out.2.1.alloc _).trans' hm4 (λi hi e=>by have:=(HS.out.1.lt i e).1;omega)⟩;clear hO4 hm4 hat4;go_wp2_with fail;go_ret;exact⟨_,rfl,HS4.out.1,HS4.out.2⟩
end
section
variable {F:Nat->Prop}{w w' wr w2:World}
theorem zPc(l:List zD)(lv:Value)(hl:Sl F w 2 yS lv l)(hlen:l.length<=900) :
  Calls Tryz.prog 64 #[lv] w (zMS w (zAK l)):=by
 obtain⟨la,lc,rfl,h1,h2,h3,hll⟩:=hl;unfold maxLen at h2;have HLL:=oh hll;clear hll
 go_enter Tryz.func64, Tryz.ntmps64
 go_wp2_with fail;have HO0:Hid (yA NoF (w.alloc (.cells #[] 111)) w.heap.size 111 2 yS (.slice (some ⟨w.heap.size,0,none⟩) 0 0) []):=oh
  (yA.made (l:=([]:List zD)) (cur:=#[]) (cap:=0) (zO (by simp)) (by omega) (λf=>f) (uK _) (by simp[maxLen]) (by simp) (by simp) (λ_=>rfl))
 have HM0:Hid (zG w (w.alloc (.cells #[] 111))):=oh ((zA.refl _ w).alloc _);go_loopg [3,4] l.length (λm v3 v4 wr=>∃(k:Nat),k+m=l.length/\v4=.int .i64 (k:Int)/\Hid (yA NoF wr w.heap.size 111 2 yS v3 (zAK (l.take k))/\zG w wr))
 case atStart=>exact⟨0,by omega,rfl,oh ⟨HO0.out,HM0.out⟩⟩
 case round =>
  obtain⟨k,hkm,rfl,HS⟩:=hrel;by_cases hlt:k<l.length
  .obtain⟨b,off,rfl,hb,hF,hc⟩:=Sl.at HLL.out HS.out.2 (λ_ _ f=>f.elim) k hlt;obtain⟨x,hx⟩:∃x,l[k]? = some x:=⟨_,uB hlt⟩;have hx':l[k]=x:=by rw[uB hlt] at hx;exact Option.some.inj hx
   rw[hx'] at hc;have c0:=hc 0 _ rfl;simp only[uP] at c0;have c1:=hc 1 _ rfl;have HX:Hid (zAK (l.take (k+1))=zGE (zAK (l.take k)) x):=oh (by rw[vX l k x hx,zLa]);clear hc hx hx';have i1:(0:Int)<=(k:Int):=by omega
   have i2:(k:Int)<(l.length:Int):=by omega
   cases hkb:qS x.1 with
   | false =>
    have HK:=oh (zN8 x.1 wr false hkb);have HA:Hid (zAK (l.take (k+1))=zAK (l.take k)):=oh (by rw[HX.out];unfold zGE;rw[if_neg (by rw[hkb];simp)]);clear hkb;go_wp2_with fail;refine (HK.out).mono ?_;rintro e w1 ⟨rfl,rfl⟩;go_wp2_with fail;go_roundg (gk-1)
    case measure=>omega
    case rel=>exact⟨k+1,by omega,by go_num,oh (by rw[HA.out];exact HS.out)⟩
   | true =>
    have HK:=oh (zN8 x.1 wr true hkb);by_cases hv:x.2.size<=4096
    .have hvI:(x.2.size:Int)<=4096:=by omega
     have HA:Hid (zAK (l.take (k+1))=qF x.1 x.2 false (zAK (l.take k))):=oh (by rw[HX.out];unfold zGE;rw[if_pos ⟨hkb,hv⟩]);have HPL:Hid ((zAK (l.take k)).length<=900):=oh (by have:=(zGc (l.take k)).2.2;rw[uR] at this;omega);have HWC:=oh (zQ6 (F:=NoF) (w:=wr.drew) (zAK (l.take k)) _ ((HS.out.1.ext (zA.refl _ wr).drew).sl yR.len (by have:=HPL.out;omega)) (by have:=HPL.out;omega) x.1 x.2 false);clear hkb hv;go_wp2_with fail;refine (HK.out).mono ?_;rintro e w1 ⟨rfl,rfl⟩;go_wp2_with fail;go_region_held3 (λw'=>w'.cell? ⟨b,off+k * 2,none⟩=some (.string x.1)/\w'.cell? ⟨b,off+k * 2+1,none⟩=some (.string x.2))
      (first|(with_reducible exact⟨c0,c1⟩)|(with_reducible exact⟨y0,y1⟩)|go_keep)
      (first
       | (go_at_call 79;(with_reducible refine (HWC.out).mono ?_);rintro e w4 ⟨v4,rfl,hO4,hm4⟩;have y0:=zE (w:=wr.drew) hm4 c0;have y1:=zE (w:=wr.drew) hm4 c1)
       | fail)
     have HS4:Hid (yA NoF w4 w.heap.size 111 2 yS v4 (zAK (l.take (k+1)))/\zG w w4):=oh ⟨by rw[HA.out];exact hO4.rebase HS.out.2.size,HS.out.2.drew.trans hm4⟩;clear hO4 hm4 c0 c1 y0 y1;go_wp2_with fail;go_roundg (gk-1)
     case measure=>omega
     case rel=>exact⟨k+1,by omega,by go_num,HS4⟩
    .have hvI:¬ (x.2.size:Int)<=4096:=by omega
     have HA:Hid (zAK (l.take (k+1))=zAK (l.take k)):=oh (by rw[HX.out];unfold zGE;rw[if_neg (λh=>hv h.2)]);clear hkb hv;go_wp2_with fail;refine (HK.out).mono ?_;rintro e w1 ⟨rfl,rfl⟩;go_wp2_with fail;go_roundg (gk-1)
     case measure=>omega
     case rel=>exact⟨k+1,by omega,by go_num,oh (by rw[HA.out];exact HS.out)⟩
  .have HT:Hid (l.take k=l):=oh (uZ (by omega));go_wp2_with fail;go_ret;exact⟨_,rfl,by have:=HS.out.1;rw[HT.out] at this;exact this,HS.out.2⟩
end
end
section
open Go.RowKit
attribute [local go_sem ↓] Go.wp_at_zero Go.wp_at_succ
def zDG(l:List zD):List zD:=zFk 300 (zAK (l.take 30))
structure zAZ(l:List zD):Prop where
 sorted:yK l
 ok:zDB l
 len:l.length<=30
 small:∀x∈l,x.2.size<=300
theorem zFE(l:List zD):zAZ (zDG l):=by
 obtain⟨h1,h2,h3⟩:=zGc (l.take 30);obtain⟨k1,k2,k3,k4⟩:=zRc (n:=300) h1 h2;exact⟨k1,k2,by unfold zDG;rw[k3];rw[uR] at h3;omega,k4⟩
section
variable {F:Nat->Prop}{w w' wr w2:World}
theorem zEA(l:List zD)(lv:Value)(hl:Sl NoF w 2 yS lv l) :
  Calls Tryz.prog 17 #[lv] w λe w'=>∃v,e=.returned v/\yA NoF w' w.heap.size 111 2 yS v (zDG l)/\zG w w':=by
 obtain⟨la,lc,rfl,h1,h2,h3,hll⟩:=hl;unfold maxLen at h2;obtain⟨q,hq⟩:∃q,q=min l.length 30:=⟨_,rfl⟩;have hmin:min (l.length:Int) 30=(q:Int):=by omega
 have i1:(0:Int)<=(q:Int):=by omega
 have i2:(q:Int)<=(lc:Int):=by omega
 have HSL:Hid (Sl NoF w 2 yS (.slice la q lc) (l.take 30)):=oh ⟨la,lc,by rw[uR,hq,Nat.min_comm],by rw[uR];omega,by unfold maxLen;omega,by rw[uR];omega,by
  rcases hll with hll|⟨b,off,e,hb,hF,hc⟩
  .left;rw[hll];rfl
  .right
   refine⟨b,off,e,hb,hF,λi x hx j u hu=>hc i x ?_ j u hu⟩;rw[rH] at hx;split at hx
   .exact hx
   .cases hx⟩
 have HPR:=oh (λW (m:zG w W)=>zPc (w:=W) (l.take 30) (.slice la q lc) (HSL.out.ext m) (by rw[uR];omega));clear hq hll
 go_enter Tryz.func17, Tryz.ntmps17
 go_wp2_with fail;refine (HPR.out _ (by first|exact zA.refl _ _|exact (zA.refl _ _).alloc _|fail)).mono ?_;rintro e w1 ⟨v,rfl,hO,hm1⟩;obtain⟨p0,hp0⟩:∃p0,p0=zAK (l.take 30):=⟨_,rfl⟩;rw[<- hp0] at hO;have HP0:=oh hp0;obtain⟨va,vc,rfl,hv1,hv2⟩:=hO.form;unfold maxLen at hv2;have HP24:Hid (p0.length<=30):=oh (by have:=(zGc (l.take 30)).2.2;rw[<- hp0,uR] at this;omega);have hp24:=HP24.out;have HS1:Hid (yA NoF w1 w.heap.size 111 2 yS (.slice va p0.length vc) (zFl 300 0 p0)/\zG w w1) :=
  oh ⟨by rw[zO2];exact hO.rebase (by simp),by first|exact hm1|exact ((zA.refl _ w).alloc _).trans hm1⟩
 clear hO hm1 hp0 hmin i1 i2;go_wp2_with fail;go_loopg [3] p0.length (λm v5 wr=>∃(k:Nat),k+m=p0.length/\v5=.int .i64 (k:Int)/\Hid (yA NoF wr w.heap.size 111 2 yS (.slice va p0.length vc) (zFl 300 k p0)/\zG w wr))
 case atStart=>exact⟨0,by omega,rfl,HS1⟩
 case round =>
  obtain⟨k,hkm,rfl,HS⟩:=hrel;by_cases hlt:k<p0.length
  .obtain⟨g,c',hgs, -, -,hg3,hg4,hgf⟩:=HS.out.1.some (by intro e;have:=congrArg List.length e;rw[zLc,uF] at this;omega);injection hgs with hgs hgn hgc;subst hgs hgc;clear hgn;obtain⟨x,hx⟩:∃x,p0[k]? = some x:=⟨_,uB hlt⟩;have HX:=oh hx;obtain⟨xk,xv⟩:=x;have hsl:=HS.out.1.sl yR.len (by rw[zLc];omega);have c1:=hsl.cellsAt (zN3 (n:=300) hx) 1 _ rfl;simp only[uS] at c1;obtain⟨z,hz⟩:∃z,z=min xv.size 300:=⟨_,rfl⟩;have hmin:min (xv.size:Int) 300=(z:Int):=by omega
   have hz1:(0:Int)<=(z:Int):=by omega
   have hz2:(z:Int)<=(xv.size:Int):=by omega
   have hzf:=hgf (k * 2+1);have hzd:wr.drew.frozen? ⟨g,k * 2+1,none⟩=false:=hzf;have HZ:Hid (zO1 300 xv=xv.extract 0 z):=oh (by unfold zO1;rw[hz]);have HS4:Hid (yA NoF (wr.drew.setCell ⟨g,k * 2+1,none⟩ (.string (xv.extract 0 z))) w.heap.size 111 2 yS (.slice (some ⟨g,0,none⟩) p0.length vc) (zFl 300 (k+1) p0)/\zG w (wr.drew.setCell ⟨g,k * 2+1,none⟩ (.string (xv.extract 0 z)))):=oh (by
    obtain⟨k1,k4⟩:=HS.out;refine⟨?_,k4.drew.setCell (.inl (by show w.heap.size<=g;have:=k1.lt g rfl;omega)) _⟩;rw[<- zQa HX.out,HZ.out];exact (k1.ext (zA.refl _ wr).drew).set yR.len (zN3 (n:=300) HX.out) (j:=1) (by omega) rfl)
   have i1:(0:Int)<=(k:Int):=by omega
   have i2:(k:Int)<(p0.length:Int):=by omega
   clear hsl hx hz hgf;go_wp2_with fail;go_region_law (fail)
   all_goals
    go_wp2_with fail;go_roundg (gk-1)
    case measure=>omega
    case rel=>exact⟨k+1,by omega,by go_num,HS4⟩
  .have hk:k=p0.length:=by omega
   subst hk;have HCT:Hid (zFl 300 p0.length p0=zDG l):=oh (by rw[zQZ,HP0.out];rfl);go_wp2_with fail;go_ret;exact⟨_,rfl,by rw[<- HCT.out];exact HS.out.1,HS.out.2⟩
end
end
section
open Go.RowKit
section
variable {G G':GA}{gen:Nat}{T:zEq}{lo:ByteArray}{hi:Option ByteArray}{l:List zD}{q:List Nat}{kk:List ByteArray}{cc:List Int}
theorem jA.parts(h:jA T lo hi kk cc l q):∃(parts:List (List zD × List Nat)),parts.length=cc.length/\l=(parts.map (·.1)).flatten/\q=(parts.map (·.2)).flatten /\
  ∀(i:Nat) (k:Int) (p:List zD × List Nat),cc[i]? = some k->parts[i]? = some p->∃c:Nat,k=(c:Int)/\T (zFb lo kk i) (zFc hi kk i) c p.1 p.2:=by
 induction h with
 | @one lo hi c l q h =>
  refine⟨[(l,q)],rfl,by simp,by simp,λi k p hk hp=>?_⟩;match i,hk,hp with
  | 0,hk,hp =>
   simp at hk hp;subst hk hp;exact⟨c,rfl,h⟩
  | i+1,hk,_=>simp at hk
 | @cons lo hi s c keys kids l1 l2 q1 q2 h h2 h3 ih =>
  obtain⟨parts,e1,rfl,rfl,e4⟩:=ih;have hlen:=h3.len;refine⟨(l1,q1) :: parts,by simp[e1],by simp,by simp,λi k p hk hp=>?_⟩;match i,hk,hp with
  | 0,hk,hp =>
   simp at hk hp;subst hk hp;exact⟨c,rfl,h⟩
  | i+1,hk,hp =>
   simp only[rD] at hk hp;obtain⟨c',rfl,hT⟩:=e4 i k p hk hp;refine⟨c',rfl,?_⟩;have e5:zFb lo (s :: keys) (i+1)=zFb s keys i:=by
    unfold zFb;rw[if_neg (by omega),tM];by_cases h0:i=0
    .subst h0;simp
    .rw[if_neg h0];have hik:=(uC.1 hk).1;obtain⟨j,rfl⟩:∃j,i=j+1:=⟨i-1,by omega⟩;have:j<keys.length:=by omega
     simp[List.getD,this]
   have e6:zFc hi (s :: keys) (i+1)=zFc hi keys i:=by unfold zFc;rw[rD]
   rw[e5,e6];exact hT
theorem zHW.tells{e:zQ}{v:ByteArray}{ids:List Nat}(h:zHW G gen e v ids)(hs:256<=G.size)(hb:G.blocks<=256):zFa G.R2 e=some v:=by
 unfold zFa;rcases h with ⟨c1,c2,_⟩|⟨c1,c2⟩
 .rw[if_pos c1,c2]
 .rw[if_neg c1];obtain⟨_,w2,_,w4⟩:=c2.walk hs hb;unfold GA.R2;rw[if_pos w2,w4]
theorem jL.tells{es:List zQ}(h:jL G gen es l q)(hs:256<=G.size)(hb:G.blocks<=256):∀(i:Nat) (e:zQ) (x:zD),es[i]? = some e->l[i]? = some x->e.key=x.1/\zFa G.R2 e=some x.2:=by
 induction h with
 | nil=>intro i e x he;simp at he
 | @cons e x ids es l q h1 h2 _ ih =>
  intro i f y hf hy;match i,hf,hy with
  | 0,hf,hy =>
   simp at hf hy;subst hf hy;exact⟨h1,h2.tells hs hb⟩
  | i+1,hf,hy=>exact ih i f y (by simpa using hf) (by simpa using hy)
theorem TrD.tr(hs:256<=G.size)(hb:G.blocks<=256):∀(d:Nat) (lo:ByteArray) (hi:Option ByteArray) (id:Nat) (l:List zD) (q:List Nat),TrD G gen d lo hi id l q->Tr G.node G.R2 lo hi id d l
 | 0,_,_,_,_,_,h=>h.elim
 | d+1,lo,hi,id,l,q,h=>by
  obtain⟨n,q,hp,hr,rfl,h⟩:=h;have hn:=(zHf hp).2;rcases h with ⟨hl,rfl,hne,he,hbd⟩|⟨hl,hk⟩
  .exact .leaf hn hl hr he.len (he.tells hs hb) hbd
  .obtain⟨parts,e1,rfl,rfl,e4⟩:=hk.parts;refine .inner hn hl hr (by rw[wU];exact e1) (λi k p hkk hp=>?_) hk.keysIn;rw[pY,tX] at hp;obtain⟨pp,hpp,rfl⟩:=hp;obtain⟨c,rfl,hT⟩:=e4 i k pp hkk hpp;rw[uM];exact TrD.tr hs hb d _ _ _ _ _ hT
theorem TD.treeG{root d:Nat}{ps:List zD}{pgs:List Nat}(h:TD G gen root d ps pgs)(hs:256<=G.size)(hb:G.blocks<=256):zR7 G root d ps:=by
 rcases h.tree with ⟨rfl,rfl,rfl,rfl⟩|⟨hd,hT⟩
 .exact .inl ⟨rfl,rfl,rfl⟩
 .have h7:=(h.few hb).2;obtain⟨r,hr⟩:=TrD.head _ _ _ _ _ _ hT;have h2:=h.lt root (by rw[hr];simp);exact .inr ⟨h2.1,by omega,by omega,TrD.tr hs hb _ _ _ _ _ _ hT⟩
end
structure GLe(G H:GA):Prop where
 blocks:H.blocks=G.blocks
 size:H.size=G.size
 cost:H.cost=G.cost
 look:H.look=G.look
 last:H.last=G.last
 view:∀id r,G.view id=some r->H.view id=some r
section
variable {P F:Nat->Prop}{ad:Nat->Addr}{w:World}{c s:Nat}{G H:GA}{l:List Nat}
theorem vH.tot(h:vH F w P c s G l):∃H,GLe G H/\H.total/\vH F w P c s H l:=by
 obtain⟨d,sb,bvs,Pd,b2,C,h1,h2,h3,h4,h5,h6,h7⟩:=h;exact⟨{ G with view:=λid=>some (C.vw id) },⟨rfl,rfl,rfl,rfl,rfl,λid r hr=>congrArg some (h3.view id r hr)⟩,λi _=>⟨_,rfl⟩,d,sb,bvs,Pd,b2,C,h1,h2,⟨h3.blocks,h3.size,λid r hr=>Option.some.inj hr,h3.look,h3.last,h3.cost⟩,h4,h5,h6,h7⟩
theorem vH.le(hl:GLe G H)(h:vH F w P c s H l):vH F w P c s G l:=by
 obtain⟨d,sb,bvs,Pd,b2,C,h1,h2,h3,h4,h5,h6,h7⟩:=h;exact⟨d,sb,bvs,Pd,b2,C,h1,h2,⟨h3.blocks.trans hl.blocks,h3.size.trans hl.size,λid r hr=>h3.view id r (hl.view id r hr),λid b hb=>h3.look id b (by rw[hl.look];exact hb),λid b hb=>h3.last id b (by rw[hl.last];exact hb),by rw[<- hl.cost];exact h3.cost⟩,by rw[<- hl.cost];exact h4,h5,h6,h7⟩
end
section
variable {G H:GA}{gen:Nat}
theorem zHW.known{e:zQ}{v:ByteArray}{ids:List Nat}(h:zHW G gen e v ids):∀i∈ids,∃r,G.view i=some r:=by
 intro i hi;rcases h with ⟨_,_,rfl⟩|⟨_,h⟩
 .simp at hi
 .obtain⟨g,_,hp⟩:=h.page;obtain⟨k,hk,rfl⟩:=wG hi;have:=hp k hk;rw[show ids.getD k 0=ids[k] by simp[List.getD,hk]] at this;exact⟨_,this⟩
theorem jL.known{es:List zQ}{ps:List zD}{q:List Nat}(h:jL G gen es ps q):∀i∈q,∃r,G.view i=some r:=by
 induction h with
 | nil=>intro i hi;simp at hi
 | cons _ h2 _ ih=>intro i hi;exact (uN.1 hi).elim (h2.known i) (ih i)
theorem jA.known{T:zEq}{lo:ByteArray}{hi:Option ByteArray}{kk:List ByteArray}{cc:List Int}{ps:List zD}{q:List Nat}(hT:∀lo hi c ps q,T lo hi c ps q->∀i∈q,∃r,G.view i=some r)(h:jA T lo hi kk cc ps q):∀i∈q,∃r,G.view i=some r:=by
 induction h with
 | one h=>exact hT _ _ _ _ _ h
 | cons h1 _ _ ih=>intro i hi;exact (uN.1 hi).elim (hT _ _ _ _ _ h1 i) (ih i)
theorem TrD.known:∀(d:Nat) (lo:ByteArray) (hi:Option ByteArray) (id:Nat) (ps:List zD) (q:List Nat),TrD G gen d lo hi id ps q->∀i∈q,∃r,G.view i=some r
 | 0,_,_,_,_,_,h=>h.elim
 | d+1,lo,hi,id,ps,pgs,h=>by
  obtain⟨n,q,h1,_,rfl,h3⟩:=h;intro i hi;rcases uO.1 hi with rfl|hi
  .obtain⟨p,hp,_⟩:=h1.page;exact⟨_,hp⟩
  .rcases h3 with ⟨_,_,_,h4,_⟩|⟨_,h4⟩
   .exact h4.known i hi
   .exact h4.known (TrD.known d) i hi
theorem TD.known{root d:Nat}{ps:List zD}{pgs:List Nat}(h:TD G gen root d ps pgs):∀i∈pgs,∃r,G.view i=some r:=by
 rcases h.tree with ⟨_,_,_,rfl⟩|⟨_,h⟩
 .intro i hi;simp at hi
 .exact TrD.known _ _ _ _ _ _ h
theorem TD.up{root d:Nat}{ps:List zD}{pgs:List Nat}(h:TD G gen root d ps pgs)(hl:GLe G H):TD H gen root d ps pgs :=
 h.mono (uK _) hl.blocks hl.size (λi hi=>by obtain⟨r,hr⟩:=h.known i hi;rw[hl.view i r hr,hr])
end
section
variable {G G':GA}{gen:Nat}
theorem jA.each{T:zEq}{lo:ByteArray}{hi:Option ByteArray}{kk:List ByteArray}{cc:List Int}{ps:List zD}{q:List Nat}(h:jA T lo hi kk cc ps q):∀c∈cc,∃(k:Nat) (lo':ByteArray) (hi':Option ByteArray) (l':List zD) (q':List Nat),c=(k:Int)/\T lo' hi' k l' q'/\∀x∈q',x∈q:=by
 induction h with
 | @one lo hi c l q h =>
  intro c' hc;simp only[tB] at hc;exact⟨c,_,_,_,_,hc,h,λ_ hx=>hx⟩
 | @cons lo hi s c keys kids l1 l2 q1 q2 h1 _ _ ih =>
  intro c' hc;rcases uO.1 hc with rfl|hc
  .exact⟨c,_,_,_,_,rfl,h1,λ_ hx=>wO _ hx⟩
  .obtain⟨k,lo',hi',l',q',e,t,hs⟩:=ih c' hc;exact⟨k,lo',hi',l',q',e,t,λx hx=>wN _ (hs x hx)⟩
theorem zQ7{id:Nat}{n:zI}(h:PgN G gen id n):G.node id=some n:=(zHf h).2
end
theorem yA.lit{α:Type}{W:World}{g base:Nat}{e:TypeId}(sz:Nat)(enc:α->List Value)(henc:∀x,(enc x).length=sz)(h:zK W g #[] e)(hg:base<=g):yA (λ_=>False) W base e sz enc (.slice (Option.some ⟨g,0,none⟩) 0 0) ([]:List α) :=
 yA.made (l:=([]:List α)) (cur:=#[]) (cap:=0) h hg (λf=>f) (uK _) (by simp[maxLen]) (by simp) (by simp) henc
end
end Go.Proofs.YtdnbmdghmmpgcaaGreatDoor
