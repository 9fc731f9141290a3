import Derived.Test.YtchklfmggpconaaGreatDoorK36
import Derived.BigQuiet
import Derived.IntWalk
import Derived.Deep.RegionLawGrows
namespace Go.Proofs.YtchklfmggpconaaGreatDoor
open Lib renaming hid->oh
set_option maxHeartbeats 2000000
set_option maxRecDepth 100000
section
open Go.RowKit
attribute [local go_sem ↓] Go.wp_at_zero Go.wp_at_succ
section
variable {P P' F F':Nat->Prop}{ad:Nat->Addr}{w w':World}{c s:Nat}{G:GA}{l:List Nat}
def zRH(b:Bool):StA zBY->StA zBY
 | .inr k=>.inr k
 | .inl (G2,l2,o)=>.inl (G2,l2,{ o with news:=b })
theorem zQM(key:ByteArray)(es:List zI):vY key es<=es.length:=rD
end
def zDs(key v:ByteArray):Option Err:=if qC key=false then some ([-1],2) else if 4096<v.size then some ([-1],8) else none
section
variable {P P' F F':Nat->Prop}{ad:Nat->Addr}{w w':World}{c s:Nat}{G:GA}{l:List Nat}
theorem zLe(hL:yW F ad w)(gen:Nat)(key v:ByteArray)(hfu:zFa ad\/v.size<=4096) :
  Calls Tryz.prog 52 #[qR c s gen,.string key,.string v] w λe w'=>∃ev,e=.returned ev/\zBt F ad w' ev (zDs key v)/\zJ w w':=by
 unfold qR;have m0:zJ w (w.alloc (gP c s gen)):=(zA.refl _ w).alloc _;have hL0:=hL.mods m0.ext;have g2:=hL0.c2;have HL:=oh hL0;have M0:=oh m0;have HFU:=oh hfu;clear hL hL0 m0 hfu;cases hk:qC key with
 | false =>
  have HR:Hid (zDs key v=some ([-1],2)):=oh (by unfold zDs;rw[if_pos hk]);have HK:=oh (zBK key);rw[hk] at HK;clear hk
  go_enter Tryz.func52, Tryz.ntmps52
  go_wp2_with fail;refine (HK.out _).mono ?_;rintro e w1 ⟨rfl,rfl⟩;go_wp2_with fail;refine (qG HL.out _ _ [] 2 (.sent 2 (by decide) (by decide))).mono ?_;rintro e w1 ⟨f,rfl,hE,hm⟩;have HE:=oh hE;have HM:=oh hm;clear hE hm;go_wp2_with fail;go_ret;exact⟨_,rfl,by rw[HR.out];exact⟨f,rfl,HE.out⟩,M0.out.trans HM.out⟩
 | true =>
  have HK:=oh (zBK key);rw[hk] at HK;by_cases hv:4096<v.size
  .have HR:Hid (zDs key v=some ([-1],8)):=oh (by unfold zDs;rw[if_neg (by rw[hk];simp),if_pos hv]);have hv2:(4096:Int)<(v.size:Int):=by omega
   have g8:=HL.out.c8 (HFU.out.resolve_right (by omega));clear hk hv
   go_enter Tryz.func52, Tryz.ntmps52
   go_wp2_with fail;refine (HK.out _).mono ?_;rintro e w1 ⟨rfl,rfl⟩;go_wp2_with fail;refine (qG HL.out _ _ [] 8 (.sent 8 (by decide) (by decide))).mono ?_;rintro e w1 ⟨f,rfl,hE,hm⟩;have HE:=oh hE;have HM:=oh hm;clear hE hm;go_wp2_with fail;go_ret;exact⟨_,rfl,by rw[HR.out];exact⟨f,rfl,HE.out⟩,M0.out.trans HM.out⟩
  .have HR:Hid (zDs key v=none):=oh (by unfold zDs;rw[if_neg (by rw[hk];simp),if_neg hv]);have hv2:¬ (4096:Int)<(v.size:Int):=by omega
   clear hk hv
   go_enter Tryz.func52, Tryz.ntmps52
   go_wp2_with fail;refine (HK.out _).mono ?_;rintro e w1 ⟨rfl,rfl⟩;go_wp2_with fail;go_ret;exact⟨_,rfl,by rw[HR.out];rfl,M0.out⟩
end
def zBE:ByteArray->List ByteArray->Bool
 | _,[]=>true
 | last,k :: l=>if qC k=true/\qJ last k=true then zBE k l else false
theorem zH4:∀(l:List ByteArray) (last:ByteArray),(∀k∈l,qC k=true)->(∀k∈l,qJ last k=true)->(l.Pairwise λa b=>qJ a b=true)->zBE last l=true
 | [],_,_,_,_=>rfl
 | k :: l,last,h1,h2,h3=>by
  have h4:=wV.1 h3;rw[zBE,if_pos ⟨h1 k uF,h2 k uF⟩];exact zH4 l k (λx hx=>h1 x (uI _ hx)) h4.1 h4.2
theorem zR6{k:ByteArray}(h:qC k=true):qJ e0 k=true:=by
 have h1:=(vC k).1 h;have h2:k≠e0:=λe=>by rw[e] at h1;exact absurd h1.1 (by decide)
 rcases zJZ e0 k with h|h|h
 .exact h
 .exact absurd h.symm h2
 .unfold qJ at h;rw[show e0.toList=[] from by simp[ByteArray.toList_eq]] at h;cases hk:k.toList <;> rw[hk] at h <;> simp[Op.bytesLess] at h
def zC7(l:List zE):Option Err:=if zBE e0 (l.map (·.1))=false then some ([-1],1) else if l.any (λx=>decide (4096<x.2.size))=true then some ([-1],8) else none
theorem zJK{l:List zE}(h1:yZ l)(h2:zA6 l):zC7 l=none:=by
 unfold zC7;rw[if_neg,if_neg]
 .simp only[List.any_eq_true,uQ,not_exists,not_and];intro x hx;have:=(h2 x hx).2;omega
 .rw[zH4 _ e0 (λk hk=>by obtain⟨x,hx,rfl⟩:=wY.1 hk;exact (h2 x hx).1) (λk hk=>by obtain⟨x,hx,rfl⟩:=wY.1 hk;exact zR6 (h2 x hx).1) (wW.2 h1)];simp
section
variable {P P' F F':Nat->Prop}{ad:Nat->Addr}{w w':World}{c s:Nat}{G:GA}{l:List Nat}
theorem zGU(op:ByteArray)(gen:Nat) : Calls Tryz.prog 39 #[.string op,qR c s gen] w λe w'=>e=.returned .nilIface/\zJ w w':=by
 unfold qR;have m0:zJ w (w.alloc (gP c s gen)):=(zA.refl _ w).alloc _;have M0:=oh m0;clear m0
 go_enter Tryz.func39, Tryz.ntmps39
 go_wp2_with fail;go_ret;exact⟨rfl,M0.out⟩
theorem zLf(k v:ByteArray) : Calls Tryz.prog 65 #[.agg #[.string k,.string v]] w λe w'=>e=.returned (.string k)/\zJ w w':=by
 have m0:zJ w (w.alloc (.cells #[.string k,.string v] 25)):=(zA.refl _ w).alloc _;have M0:=oh m0;clear m0
 go_enter Tryz.func65, Tryz.ntmps65
 go_wp2_with fail;go_ret;exact⟨rfl,M0.out⟩
theorem zKE(l:List zE)(lv:Value)(hl:Sl F w 2 zAL lv l) :
  Calls Tryz.prog 64 #[lv,.func (.func 65) #[] #[]] w λe w'=>e=.returned (.bool (zBE e0 (l.map (·.1))))/\zJ w w':=by
 have HL:=oh hl;obtain⟨la,lc,rfl,h1,h2,h3, -⟩:=hl;unfold maxLen at h2
 go_enter Tryz.func64, Tryz.ntmps64
 go_wp2_with fail;go_loopg [5,10] l.length (λm v5 v10 wr=>∃(k:Nat) (last:ByteArray),k+m=l.length/\v5=.string last/\v10=.int .i64 (k:Int)/\Hid (zBE last ((l.drop k).map (·.1))=zBE e0 (l.map (·.1))/\zJ w wr))
 case atStart=>exact⟨0,e0,by omega,rfl,rfl,oh ⟨rfl,zA.refl _ _⟩⟩
 case round =>
  obtain⟨k,last,hkm,rfl,rfl,HR⟩:=hrel;by_cases hlt:k<l.length
  .obtain⟨qb,qoff,hqa,hc⟩:=HL.out.elem hlt HR.out.2;have c0:=hc 0 (.string l[k].1) rfl;have c1:=hc 1 (.string l[k].2) rfl;simp only[uO] at c0;subst hqa;have hdr:l.drop k=l[k] :: l.drop (k+1):=wO hlt;obtain⟨x,hx⟩:∃x,x=l[k]:=⟨_,rfl⟩;obtain⟨key,v⟩:=x;rw[<- hx] at c0 c1 hdr;simp only at c0 c1;have HRB:Hid (zBE e0 (l.map (·.1))=if qC key=true/\qJ last key=true then zBE key ((l.drop (k+1)).map (·.1)) else false):=oh (by rw[<- HR.out.1,hdr,uW,zBE]);have i1:(0:Int)<=(k:Int):=by omega
   have i2:(k:Int)<(l.length:Int):=by omega
   have HX:Hid (∀W,zJ wr W->zJ w W):=oh (λW m=>HR.out.2.trans m);have m0:zJ wr (wr.alloc (.cells #[.string key,.string v] 25)):=(zA.refl _ wr).alloc _;have HC:=λW=>zLf (w:=W) key v
   have HC:=oh HC;have HK:=oh (zBK key);have hB:=zL.new wr #[.string key,.string v] 25;have HBX:=oh hB;have HM0:=oh m0;clear hc hdr hx m0 hB;go_wp2_with fail;refine (HC.out _).mono ?_;rintro e w3 ⟨rfl,hm3⟩;have hB3:=HBX.out.ext hm3;have b0:=hB3.cell (o:=0) rfl;have b1:=hB3.cell (o:=1) rfl;have HM3:=oh (HM0.out.trans hm3);have HB3:=oh hB3;clear hm3 hB3;go_wp2_with fail;refine (HK.out _).mono ?_;rintro e w4 ⟨rfl,rfl⟩;cases hk:qC key with
   | false =>
    have HF:Hid (zBE e0 (l.map (·.1))=false):=oh (by rw[HRB.out,if_neg (by rw[hk];simp)]);clear hk;go_wp2_with fail;go_ret;exact⟨by rw[HF.out];rfl,HX.out _ HM3.out⟩
   | true =>
    have HKY:=oh hk;clear hk;go_wp2_with fail;refine (HC.out _).mono ?_;rintro e w5 ⟨rfl,hm5⟩;have hB5:=HB3.out.ext hm5;have b0:=hB5.cell (o:=0) rfl;have b1:=hB5.cell (o:=1) rfl;have HM5:=oh (HM3.out.trans hm5);clear hm5 hB5;cases ht:qJ last key with
    | false =>
     have HF:Hid (zBE e0 (l.map (·.1))=false):=oh (by rw[HRB.out,if_neg (by rw[ht];simp)]);have hle:(Op.bytesLess key.toList last.toList || key.toList == last.toList)=true:=by
      rcases zJZ last key with h|h|h
      .rw[h] at ht;cases ht
      .rw[h];simp
      .unfold qJ at h;rw[h];rfl
     clear ht;go_wp2_with fail;go_ret;exact⟨by rw[HF.out];rfl,HX.out _ HM5.out⟩
    | true =>
     have HT:Hid (zBE key ((l.drop (k+1)).map (·.1))=zBE e0 (l.map (·.1))):=oh (by rw[HRB.out,if_pos ⟨HKY.out,ht⟩]);have hb1:Op.bytesLess key.toList last.toList=false:=by have:=zBR ht;unfold qJ at this;exact this
     have hb2:(key.toList == last.toList)=false:=uV.2 (λe=>zJa ht (toList_inj e).symm);clear ht;go_wp2_with fail;refine (HC.out _).mono ?_;rintro e w6 ⟨rfl,hm6⟩;have HM6:=oh (HM5.out.trans hm6);clear hm6;go_wp2_with fail;go_roundg (gk-1)
     case measure=>omega
     case rel=>exact⟨k+1,key,by omega,rfl,by go_num,oh ⟨HT.out,HX.out _ HM6.out⟩⟩
  .have hk:k=l.length:=by omega
   have HE:Hid (zBE e0 (l.map (·.1))=true):=oh (by rw[<- HR.out.1,hk,List.drop_length];rfl);go_wp2_with fail;go_ret;exact⟨by rw[HE.out];rfl,HR.out.2⟩
theorem zNC(hL:yW F ad w)(gen:Nat)(l:List zE)(lv:Value)(hl:Sl F w 2 zAL lv l)(hfu:zFa ad\/zC7 l=none) :
  Calls Tryz.prog 36 #[qR c s gen,lv] w λe w'=>∃ev,e=.returned ev/\zBt F ad w' ev (zC7 l)/\zJ w w':=by
 have HRD:=λW=>zGU (c:=c) (s:=s) (w:=W) ⟨#[98,117,108,107,46,76,111,97,100]⟩ gen
 unfold qR at HRD ⊢;have HRD:=oh HRD;have HL:=oh hL;have HSL:=oh hl;have HFU:=oh hfu;have HRS:=oh (λW (m:zJ w W)=>zKE l lv (hl.ext m));obtain⟨la,lc,rfl,h1,h2,h3, -⟩:=hl;unfold maxLen at h2;have HM0:=oh ((zA.refl (λ_=>False) w).alloc (gP c s gen));clear hL hfu
 go_enter Tryz.func36, Tryz.ntmps36
 go_wp2_with fail;refine (HRD.out _).mono ?_;rintro e w1 ⟨rfl,hm1⟩;have HM1:=oh (HM0.out.trans hm1);clear hm1;go_wp2_with fail;refine (HRS.out _ HM1.out).mono ?_;rintro e w2 ⟨rfl,hm2⟩;have HM2:=oh (HM1.out.trans hm2);have hL2:=HL.out.mods HM2.out.ext;have HL2:=oh hL2;cases hr:zBE e0 (l.map (·.1)) with
 | false =>
  have HC:Hid (zC7 l=some ([-1],1)):=oh (by unfold zC7;rw[if_pos hr]);have g1:=hL2.c1;clear hL2 hm2 hr;go_wp2_with fail;refine (qG HL2.out _ _ [] 1 (.sent 1 (by decide) (by decide))).mono ?_;rintro e w3 ⟨f,rfl,hE,hm⟩;have HE:=oh hE;have HM:=oh hm;clear hE hm;go_wp2_with fail;go_ret;exact⟨_,rfl,by rw[HC.out];exact⟨f,rfl,HE.out⟩,HM2.out.trans HM.out⟩
 | true =>
  have HR:=oh hr;clear hL2 hm2 hr;go_wp2_with fail;go_loopg [20] l.length (λm v20 wr=>∃(k:Nat),k+m=l.length/\v20=.int .i64 (k:Int)/\Hid ((∀x∈l.take k,x.2.size<=4096)/\zJ w wr))
  case atStart=>exact⟨0,by omega,rfl,oh ⟨by simp,HM2.out⟩⟩
  case round =>
   obtain⟨k,hkm,rfl,HS⟩:=hrel;by_cases hlt:k<l.length
   .obtain⟨qb,qoff,hqa,hc⟩:=HSL.out.elem hlt HS.out.2;have c0:=hc 0 (.string l[k].1) rfl;have c1:=hc 1 (.string l[k].2) rfl;simp only[uO] at c0;subst hqa;have i1:(0:Int)<=(k:Int):=by omega
    have i2:(k:Int)<(l.length:Int):=by omega
    have HM3:=oh (HS.out.2.alloc (.cells #[.string l[k].1,.string l[k].2] 25));by_cases hv:4096<l[k].2.size
    .have HC:Hid (zC7 l=some ([-1],8)):=oh (by
      unfold zC7;rw[if_neg (by rw[HR.out];simp),if_pos];rw[List.any_eq_true];exact⟨l[k],wH hlt,wC hv⟩)
     have hv2:(4096:Int)<(l[k].2.size:Int):=by omega
     have hL3:=HL.out.mods HM3.out.ext;have g8:=hL3.c8 (HFU.out.resolve_right (by rw[HC.out];simp));have HL3:=oh hL3;clear hL3 hc;go_wp2_with fail;refine (qG HL3.out _ _ [] 8 (.sent 8 (by decide) (by decide))).mono ?_;rintro e w3 ⟨f,rfl,hE,hm⟩;have HE:=oh hE;have HM:=oh hm;clear hE hm;go_wp2_with fail;go_ret;exact⟨_,rfl,by rw[HC.out];exact⟨f,rfl,HE.out⟩,HM3.out.trans HM.out⟩
    .have hv2:¬ (4096:Int)<(l[k].2.size:Int):=by omega
     have HV:Hid (∀x∈l.take (k+1),x.2.size<=4096):=oh (λx hx=>by
      rw[yJ l k l[k] (by simp[hlt])] at hx;rcases uG.1 hx with hx|hx
      .exact HS.out.1 x hx
      .rw[wS.1 hx];omega)
     clear hc hv;go_wp2_with fail;go_roundg (gk-1)
     case measure=>omega
     case rel=>exact⟨k+1,by omega,by go_num,oh ⟨HV.out,HM3.out⟩⟩
   .have hk:k=l.length:=by omega
    have HC:Hid (zC7 l=none):=oh (by
     unfold zC7;rw[if_neg (by rw[HR.out];simp),if_neg];rw[List.any_eq_true];rintro⟨x,hx,h⟩;rw[uQ] at h;have:=HS.out.1 x (by rw[hk,wU];exact hx);omega)
    go_wp2_with fail;go_ret;exact⟨_,rfl,by rw[HC.out];rfl,HS.out.2⟩
end
section
variable {P P' F F':Nat->Prop}{ad:Nat->Addr}{w w':World}{c s:Nat}{G G':GA}{l l':List Nat}
theorem zH5(hL:yW F ad w)(hP:∀k,P k->F k)(h:yS F w P c s G l)(gen:Nat)(hgen:gen<18446744073709551616)(hc:zAK G l)(ps:List zE)(pv:Value)(hpv:Sl F w 2 zAL pv ps)(hs:yZ ps)(hp:zA6 ps)(hlen:ps.length<=1000)(hco:G.cost<=800000)(root:Nat)(hd:zEM gen G l ps=.inl (G',l',root)) :
  Calls Tryz.prog 11 #[qR c s gen,pv] w (jL F P ad w c s G' l' (λ_ _ e=>e=.returned (.tuple #[.int .i64 (root:Int),.nilIface]))):=by
 have m0:zJ w (w.alloc (gP c s gen)):=(zA.refl _ w).alloc _;have HB0:=oh (zL.new w (gP c s gen) 31);have HM0:=oh m0;have hck:=zNC (c:=c) (s:=s) (hL.mods m0.ext) gen ps pv (hpv.ext m0) (.inr (zJK hs hp));rw[zJK hs hp] at hck;have HCK:=oh hck;have HLD:=oh (λW (m:zJ w W)=>zNB (hL.mods m.ext) hP (h.at m) gen hgen hc ps pv (hpv.ext m) hp hlen hco root hd);have HNX:=oh (λW (m:zJ w W)=>zR.ext hL hP m);obtain⟨pa,pc,rfl, -, -, -, -⟩:=hpv;unfold qR at HCK HLD ⊢;clear hL hP h m0 hck hd
 go_enter Tryz.func11, Tryz.ntmps11
 go_wp2_with fail;refine HCK.out.mono ?_;rintro e w1 ⟨ev,rfl,hev,hm1⟩;have hev:ev=.nilIface:=hev;subst hev;have HM1:=oh (HM0.out.trans hm1);have hB1:=HB0.out.ext hm1;have b0:=hB1.cell (o:=0) (v:=.pointer (some ⟨c,0,none⟩)) rfl;have b1:=hB1.cell (o:=1) (v:=.pointer (some ⟨s,0,none⟩)) rfl;have b2:=hB1.cell (o:=2) (v:=.int .u64 (gen:Int)) rfl;clear hm1 hB1;go_wp2_with fail;refine (HLD.out _ HM1.out).mono ?_;rintro e w2 ⟨P2,F2,hG2,hN2,rfl⟩;have HFIN:Hid (yS F2 w2 P2 c s G' l'/\zR P P2 F F2 ad w w2):=oh ⟨hG2,(HNX.out _ HM1.out).trans hN2⟩;clear hG2 hN2;go_wp2_with fail;refine (wrap_nil _ _).mono ?_;rintro e w3 ⟨rfl,rfl⟩;go_wp2_with fail;refine bodyPost_ret (v:=.tuple #[.int .i64 (root:Int),.nilIface]) (by simp[results,Tryz.results11,go_sem]) rfl ?_;exact⟨P2,F2,HFIN.out.1,HFIN.out.2,rfl⟩
end
end
section
open Go.RowKit
structure vZ where
 node:zF
 at_:Int
 ea:Option Addr
 ka:Option Addr
 ia:Option Addr
 ec:Nat
 kc:Nat
 ic:Nat
def vZ.pl(x:vZ):zF × Int:=(x.node,x.at_)
def zH6(x:vZ):List Value:=[.bool x.node.leaf,.slice x.ea x.node.entries.length x.ec,.slice x.ka x.node.keys.length x.kc,.slice x.ia x.node.kids.length x.ic,.int .i64 x.at_]
theorem zEP:zBo zH6 5:=⟨λ_=>rfl,by intro x u hu;simp[zH6] at hu;rcases hu with rfl|rfl|rfl|rfl|rfl <;> rfl⟩
theorem Tryz.mkFr:(Tryz.prog.info? 206).map (λi=>(i.zero,i.size,i.bytes))=some (some (.agg #[.bool false,.slice none 0 0,.slice none 0 0,.slice none 0 0,.int .i64 0]),5,88):=by kernel_rfl
theorem Tryz.elFr:ElT Tryz.prog 161 206 (.agg #[.bool false,.slice none 0 0,.slice none 0 0,.slice none 0 0,.int .i64 0]) 5 88:=⟨Tryz.underlying161,Tryz.mkFr,rfl,by decide,by decide⟩
section
variable {F P P' F' P1 F1:Nat->Prop}{ad:Nat->Addr}{w w' w0 w1:World}{base c s gen kb:Nat}{root:Int}{G G':GA}{l l':List Nat}{sv sv':Value}{st st':List vZ}{x:vZ}
structure zND(F:Nat->Prop)(w:World)(x:vZ):Prop where
 es:Sl F w 4 vA (.slice x.ea x.node.entries.length x.ec) x.node.entries
 ks:Sl F w 1 qK (.slice x.ka x.node.keys.length x.kc) x.node.keys
 is:Sl F w 1 yB (.slice x.ia x.node.kids.length x.ic) x.node.kids
theorem zND.step(h:zND F w x)(m:zA F w w')(hG:∀k,k<w.heap.size->¬ F k->¬ F' k):zND F' w' x:=⟨h.es.step m hG,h.ks.step m hG,h.is.step m hG⟩
def CuB(kb:Nat)(sv:Value):Nat->Prop:=λk=>k=kb\/sv.ownBlock=some k
structure CuR(F P:Nat->Prop)(w:World)(base c s gen kb:Nat)(root:Int)(sv:Value)(st:List vZ):Prop where
 blk:zL w kb #[.pointer (some ⟨c,0,none⟩),.pointer (some ⟨s,0,none⟩),.int .u64 (gen:Int),.int .i64 root,sv] 163
 row:zU (λ_=>False) w base 206 5 zH6 sv st.reverse
 fr:∀x∈st,zND F w x
 nP:∀k,CuB kb sv k->F k/\¬ P k
 ok:zRX (st.map vZ.pl)
theorem CuR.few(h:CuR F P w base c s gen kb root sv st):st.length<=16:=by have:=h.ok.2;simpa using this
def cuQ(P:Nat->Prop)(kb:Nat)(sv:Value):Nat->Prop:=λk=>P k\/CuB kb sv k
structure CuI(F P:Nat->Prop)(ad:Nat->Addr)(w:World)(base c s gen kb:Nat)(root:Int)(G:GA)(l:List Nat)(sv:Value)(st:List vZ):Prop where
 env:yW F ad w
 sub:∀k,P k->F k
 pg:yS F w P c s G l
 cu:CuR F P w base c s gen kb root sv st
 bl:base<=w.heap.size
theorem CuR.lt(h:CuR F P w base c s gen kb root sv st):∀k,CuB kb sv k->k<w.heap.size:=by
 rintro k (rfl|e)
 .exact h.blk.lt
 .exact (h.row.lt k e).2
theorem CuI.bd(h:CuI F P ad w base c s gen kb root G l sv st):Bd (cuQ P kb sv) w:=by
 rintro k (hk|hk)
 .exact h.pg.bd k hk
 .exact h.cu.lt k hk
theorem CuI.subQ(h:CuI F P ad w base c s gen kb root G l sv st):∀k,cuQ P kb sv k->F k:=by
 rintro k (hk|hk)
 .exact h.sub k hk
 .exact (h.cu.nP k hk).1
theorem CuI.ext(h:CuI F P ad w base c s gen kb root G l sv st)(m:zJ w w'):CuI F P ad w' base c s gen kb root G l sv st/\zR (cuQ P kb sv) (cuQ P kb sv) F F ad w w' :=
 ⟨⟨h.env.mods m.ext,h.sub,h.pg.at m,⟨h.cu.blk.ext m,h.cu.row.ext m,λx hx=>(h.cu.fr x hx).step m.ext (λ_ _ hn=>hn),h.cu.nP,h.cu.ok⟩,uM h.bl m.size⟩,zR.ext h.env h.subQ m⟩
theorem CuI.pag(h:CuI F P ad w base c s gen kb root G l sv st)(n:zR P P' F F' ad w w')(g:yS F' w' P' c s G' l') :
  CuI F' P' ad w' base c s gen kb root G' l' sv st/\zR (cuQ P kb sv) (cuQ P' kb sv) F F' ad w w':=by
 have hw:=h.cu;have np:=λk (hk:CuB kb sv k)=>(hw.nP k hk).2
 have m:=n.stp.mods;have nq:∀k,CuB kb sv k->F' k/\¬ P' k:=λk hk=>⟨n.grow k (hw.nP k hk).1,n.not (hw.lt k hk) (np k hk)⟩
 refine⟨⟨n.env,n.sub,g,⟨hw.blk.mods m (np kb (.inl rfl)),hw.row.mods m (λk hk=>np k (.inr hk)),λx hx=>(hw.fr x hx).step (m.mono h.sub) (λk hk hn hf=>hn (n.oldF k hk hf)),nq,hw.ok⟩,uM h.bl m.size⟩,
  ⟨⟨m.mono (λk hk=>.inl hk),?_,?_⟩,?_,n.grow,n.oldF,n.env⟩⟩
 .rintro k hk (hp|hp)
  .exact .inl (n.stp.old k hk hp)
  .exact .inr hp
 .rintro k (hp|hp)
  .exact n.stp.bd k hp
  .exact uH (hw.lt k hp) m.size
 .rintro k (hp|hp)
  .exact n.sub k hp
  .exact (nq k hp).1
theorem CuI.turn(h:CuI F P ad w base c s gen kb root G l sv st)(hw:CuR F' P w' base c s gen kb root sv' st')(m:zA (CuB kb sv) w w')(hF:∀k,F k->F' k)(hN:∀k,k<w.heap.size->F' k->F k)
  (hlt:∀k,F' k->k<w'.heap.size) (hB:∀k,k<w.heap.size->CuB kb sv' k->CuB kb sv k) :
  CuI F' P ad w' base c s gen kb root G l sv' st'/\zR (cuQ P kb sv) (cuQ P kb sv') F F' ad w w':=by
 have hnew:∀k,k<w.heap.size->¬ F k->¬ F' k:=λk hk hn hf=>hn (hN k hk hf)
 have hE:yW F' ad w':=h.env.step (m.mono (λk hk=>(h.cu.nP k hk).1)) hnew hlt;have hI:CuI F' P ad w' base c s gen kb root G l sv' st' :=
  ⟨hE,λk hk=>hF k (h.sub k hk),h.pg.plus m (λk hk hq=>(h.cu.nP k hq).2 hk) (λk hk=>(h.cu.nP k hk).1) hnew,hw,uM h.bl m.size⟩
 refine⟨hI,⟨⟨m.mono (λk hk=>.inr hk),?_,hI.bd⟩,hI.subQ,hF,hN,hE⟩⟩;rintro k hk (hp|hp)
 .exact .inl hp
 .exact .inr (hB k hk hp)
theorem CuI.nul(h:CuI F P ad w base c s gen kb root G l sv st):CuI F P ad (w.setCell ⟨kb,4,none⟩ (.slice none 0 0)) base c s gen kb root G l (.slice none 0 0) []/\zR (cuQ P kb sv) (cuQ P kb (.slice none 0 0)) F F ad w (w.setCell ⟨kb,4,none⟩ (.slice none 0 0)):=by
 have m:zA (λk=>k=kb) w (w.setCell ⟨kb,4,none⟩ (.slice none 0 0)):=zA.setCell (F:=λk=>k=kb) (p:=⟨kb,4,none⟩) (zA.refl _ w) (.inr rfl) _;refine h.turn ⟨h.cu.blk.set 4 _,zU.nil _ _ _ _ _ _,λx hx=>by simp at hx,λk hk=>?_,⟨λx hx=>by simp at hx,by simp⟩⟩ (m.mono (λk e=>.inl e)) (λ_ h=>h) (λ_ _ h=>h) (λk hk=>uH (h.env.lt k hk) m.size) (λk hk hq=>?_)
 .rcases hk with rfl|e
  .exact h.cu.nP _ (.inl rfl)
  .simp[Value.ownBlock] at e
 .rcases hq with rfl|e
  .exact .inl rfl
  .simp[Value.ownBlock] at e
def CuD(F P:Nat->Prop)(ad:Nat->Addr)(w:World)(base c s gen kb:Nat)(root:Int)(G:GA)(l:List Nat)(sv:Value)(r:StC ⊕ Err)(e:Ending)(w':World):Prop :=
 ∃(P' F':Nat->Prop) (sv':Value) (st':List vZ),CuI F' P' ad w' base c s gen kb root G l sv' st'/\zR (cuQ P kb sv) (cuQ P' kb sv') F F' ad w w' /\
  match r with
  | .inl sa=>e=.returned .nilIface/\st'.map vZ.pl=sa
  | .inr (el,ek)=>∃f,e=.returned (zQ f)/\qQ F' ad w' (zQ f) el ek
theorem CuD.form{r:StC ⊕ Err}{e:Ending}(h:CuD F P ad w base c s gen kb root G l sv r e w'):∃v,e=.returned v:=by
 obtain⟨P',F',sv',st',_,_,h⟩:=h;cases r with
 | inl s1=>exact⟨_,h.1⟩
 | inr er=>obtain⟨el,ek⟩:=er;obtain⟨f,h,_⟩:=h;exact⟨_,h⟩
theorem CuD.pre{r:StC ⊕ Err}{e:Ending}(n:zR (cuQ P kb sv) (cuQ P1 kb sv') F F1 ad w w0)(h:CuD F1 P1 ad w0 base c s gen kb root G l sv' r e w'):CuD F P ad w base c s gen kb root G l sv r e w':=by
 obtain⟨P2,F2,sv2,st2,h1,h2,h3⟩:=h;exact⟨P2,F2,sv2,st2,h1,n.trans h2,h3⟩
theorem CuD.bad{er:Err}{f:Nat}(h:CuI F1 P1 ad w' base c s gen kb root G l sv' st')(n:zR (cuQ P kb sv) (cuQ P1 kb sv') F F1 ad w w')(hE:qQ F1 ad w' (zQ f) er.1 er.2){r:StC ⊕ Err}(hr:r=.inr er) :
  CuD F P ad w base c s gen kb root G l sv r (.returned (zQ f)) w':=by
 subst hr;exact⟨P1,F1,sv',st',h,n,f,rfl,hE⟩
theorem CuD.good(h:CuI F1 P1 ad w' base c s gen kb root G l sv' st')(n:zR (cuQ P kb sv) (cuQ P1 kb sv') F F1 ad w w'){r:StC ⊕ Err}(hr:r=.inl (st'.map vZ.pl)) :
  CuD F P ad w base c s gen kb root G l sv r (.returned .nilIface) w':=by
 subst hr;exact⟨P1,F1,sv',st',h,n,rfl,rfl⟩
theorem CuI.put{g cp:Nat}{r:List vZ}(h:CuI F P ad w base c s gen kb root G l (.slice (some ⟨g,0,none⟩) (r.length+1) cp) (x :: r))(a:Int)(ha:zK5 (x.node,a)) :
  CuI F P ad (w.setCell ⟨g,r.length * 5+4,none⟩ (.int .i64 a)) base c s gen kb root G l (.slice (some ⟨g,0,none⟩) (r.length+1) cp) ({ x with at_:=a } :: r)/\zR (cuQ P kb (.slice (some ⟨g,0,none⟩) (r.length+1) cp)) (cuQ P kb (.slice (some ⟨g,0,none⟩) (r.length+1) cp)) F F ad w (w.setCell ⟨g,r.length * 5+4,none⟩ (.int .i64 a)):=by
 have m:zA (λk=>k=g) w (w.setCell ⟨g,r.length * 5+4,none⟩ (.int .i64 a)):=zA.setCell (F:=λk=>k=g) (p:=⟨g,r.length * 5+4,none⟩) (zA.refl _ w) (.inr rfl) _;have hg:CuB kb (.slice (some ⟨g,0,none⟩) (r.length+1) cp) g:=.inr rfl;have hgk:kb≠g:=λe=>zU.notB h.cu.row h.cu.blk (by decide) g rfl e.symm
 have ho:=h.cu.row;rw[tR] at ho;have hs:=ho.set zEP.len (i:=r.length) (j:=4) (x:=x) (x':={ x with at_:=a }) (u:=.int .i64 a) (by rw[wJ (by simp)];simp) (by omega) rfl;have hl:(r.reverse++[x]).set r.length { x with at_:=a }=({ x with at_:=a } :: r).reverse:=by
  rw[tR,List.set_append_right _ _ (by simp)];simp
 rw[hl] at hs;refine h.turn ⟨h.cu.blk.mods m hgk,hs,λy hy=>?_,h.cu.nP,⟨λy hy=>?_,by have:=h.cu.ok.2;simpa using this⟩⟩ (m.mono (λk e=>e ▸ hg)) (λ_ h=>h) (λ_ _ h=>h) (λk hk=>uH (h.env.lt k hk) m.size) (λ_ _ h=>h)
 .have hy':∃z∈x :: r,zND F w z/\y.node=z.node/\y.ea=z.ea/\y.ka=z.ka/\y.ia=z.ia/\y.ec=z.ec/\y.kc=z.kc/\y.ic=z.ic:=by
   rcases uN.1 hy with rfl|hy
   .exact⟨x,uF,h.cu.fr x uF,rfl,rfl,rfl,rfl,rfl,rfl,rfl⟩
   .exact⟨y,uI _ hy,h.cu.fr y (uI _ hy),rfl,rfl,rfl,rfl,rfl,rfl,rfl⟩
  obtain⟨z,_,hz,e1,e2,e3,e4,e5,e6,e7⟩:=hy';have hz2:=hz.step (F':=F) (m.mono (λk e=>e ▸ (h.cu.nP g hg).1)) (λ_ _ hn=>hn);obtain⟨z1,z2,z3⟩:=hz2;rw[<- e1,<- e2,<- e5] at z1;rw[<- e1,<- e3,<- e6] at z2;rw[<- e1,<- e4,<- e7] at z3;exact⟨z1,z2,z3⟩
 .rw[uW] at hy;rcases uN.1 hy with rfl|hy
  .exact ha
  .exact h.cu.ok.1 y (by rw[uW];exact uI _ hy)
theorem CuI.push{w4:World}{o:Obj}{K:Nat}(h:CuI F P ad w base c s gen kb root G l sv st)(hx:zND F w x)(hx0:zK5 x.pl)(hlen:st.length<16)(hown:zU (λ_=>False) w4 base 206 5 zH6 sv' (st.reverse++[x]))(m4:zA (λk=>sv.ownBlock=some k) (w.alloc o) w4)
  (hat:sv'.ownBlock=sv.ownBlock\/sv'.ownBlock=some K) (hK:w.heap.size<=K) :
  CuI (zAA F sv') P ad (w4.setCell ⟨kb,4,none⟩ sv') base c s gen kb root G l sv' (x :: st)/\zR (cuQ P kb sv) (cuQ P kb sv') F (zAA F sv') ad w (w4.setCell ⟨kb,4,none⟩ sv'):=by
 have m5:zA (λk=>k=kb) w4 (w4.setCell ⟨kb,4,none⟩ sv'):=zA.setCell (F:=λk=>k=kb) (p:=⟨kb,4,none⟩) (zA.refl _ w4) (.inr rfl) _;have b0:=h.cu.blk.alloc o;have rk:=h.cu.row.ext ((zA.refl _ w).alloc o);have b4:=b0.mods m4 (λe=>zU.notB rk b0 (by decide) _ e rfl);have mA:zA (CuB kb sv) w w4:=((zA.refl _ w).alloc o).trans (m4.mono (λk e=>.inr e));have mB:zA (CuB kb sv) w (w4.setCell ⟨kb,4,none⟩ sv'):=mA.setCell (p:=⟨kb,4,none⟩) (.inr (.inl rfl)) _;have hnew:∀k,k<w.heap.size->¬ F k->¬ zAA F sv' k:=by
  rintro k hk hn (hf|hf)
  .exact hn hf
  .rcases hat with e|e
   .exact hn (h.cu.nP k (.inr (e ▸ hf))).1
   .rw[e] at hf;injection hf with hf;omega
 have mF:=mB.mono (λk hk=>(h.cu.nP k hk).1);refine h.turn ⟨b4.set 4 sv',by rw[tR];exact hown.mods m5 (λg hg e=>zU.notB hown b4 (by decide) g hg e),λy hy=>?_,λk hk=>?_,⟨λy hy=>?_,by have:=h.cu.few;simp;omega⟩⟩ mB (λ_ h=>.inl h) (λk hk hf=>Classical.byContradiction λhn=>hnew k hk hn hf) ?_ ?_
 .rcases uN.1 hy with rfl|hy
  .exact hx.step mF hnew
  .exact (h.cu.fr y hy).step mF hnew
 .rcases hk with e|e
  .exact⟨.inl (h.cu.nP k (.inl e)).1,(h.cu.nP k (.inl e)).2⟩
  .refine⟨.inr e,λhp=>?_⟩;rcases hat with h5|h5
   .exact (h.cu.nP k (.inr (h5 ▸ e))).2 hp
   .rw[h5] at e;injection e with e;have:=h.env.lt k (h.sub k hp);omega
 .rw[uW] at hy;rcases uN.1 hy with rfl|hy
  .exact hx0
  .exact h.cu.ok.1 y hy
 .rintro k (hf|hf)
  .exact uH (h.env.lt k hf) mB.size
  .exact uH (hown.lt k hf).2 m5.size
 .rintro k hk (e|e)
  .exact .inl e
  .rcases hat with h5|h5
   .exact .inr (h5 ▸ e)
   .rw[h5] at e;injection e with e;omega
theorem CuI.pop{g cp:Nat}{r:List vZ}(h:CuI F P ad w base c s gen kb root G l (.slice (some ⟨g,0,none⟩) (r.length+1) cp) (x :: r)) :
  CuI F P ad (w.setCell ⟨kb,4,none⟩ (.slice (some ⟨g,0,none⟩) r.length cp)) base c s gen kb root G l (.slice (some ⟨g,0,none⟩) r.length cp) r/\zR (cuQ P kb (.slice (some ⟨g,0,none⟩) (r.length+1) cp)) (cuQ P kb (.slice (some ⟨g,0,none⟩) r.length cp)) F F ad w (w.setCell ⟨kb,4,none⟩ (.slice (some ⟨g,0,none⟩) r.length cp)):=by
 have m:zA (λk=>k=kb) w (w.setCell ⟨kb,4,none⟩ (.slice (some ⟨g,0,none⟩) r.length cp)):=zA.setCell (F:=λk=>k=kb) (p:=⟨kb,4,none⟩) (zA.refl _ w) (.inr rfl) _;have ho:=h.cu.row;rw[tR] at ho;have hr:zU (λ_=>False) w base 206 5 zH6 (.slice (some ⟨g,0,none⟩) r.length cp) r.reverse:=by
  refine⟨?_,λ_ _ f=>f⟩;rcases ho.1.2 with ⟨h0,_⟩|⟨g',cap,cur,h0,hb,hg,h1,h2,h3,h4⟩
  .cases h0
  .injection h0 with h0 h0n h0c;injection h0 with h0;injection h0 with h0;subst h0 h0c;refine⟨by rw[jE zEP.len],.inr ⟨g,cp,cur,by simp,hb,hg,?_,h2,h3,?_⟩⟩
   .rw[uC] at h1;omega
   .have h5:=congrArg (List.take (r.reverse.length * 5)) h4;rw[List.take_take,tJ,pR (by rw[jE zEP.len])] at h5;rw[uC] at h5;rw[<- h5];congr 1
    omega
 have hB:∀k,CuB kb (.slice (some ⟨g,0,none⟩) r.length cp) k->CuB kb (.slice (some ⟨g,0,none⟩) (r.length+1) cp) k:=λk hk=>hk
 refine h.turn ⟨h.cu.blk.set 4 _,hr.mods m (λg' hg' e=>zU.notB hr h.cu.blk (by decide) g' hg' e),λy hy=>(h.cu.fr y (uI _ hy)).step (m.mono (λk e=>e ▸ (h.cu.nP kb (.inl rfl)).1)) (λ_ _ hn=>hn),λk hk=>h.cu.nP k (hB k hk),⟨λy hy=>h.cu.ok.1 y (by rw[uW];exact uI _ hy),by have:=h.cu.few;simp at this ⊢;omega⟩⟩
  (m.mono (λk e=>.inl e)) (λ_ h=>h) (λ_ _ h=>h) (λk hk=>uH (h.env.lt k hk) m.size) (λk _ hk=>hB k hk)
theorem CuI.form{r:List vZ}(h:CuI F P ad w base c s gen kb root G l sv (x :: r)):∃g cp,sv=.slice (some ⟨g,0,none⟩) (r.length+1) cp/\r.length+1<=cp/\cp<=maxLen/\(∀o,w.frozen? ⟨g,o,none⟩=false) /\
  w.cell? ⟨g,r.length * 5,none⟩=some (.bool x.node.leaf)/\w.cell? ⟨g,r.length * 5+1,none⟩=some (.slice x.ea x.node.entries.length x.ec)/\w.cell? ⟨g,r.length * 5+2,none⟩=some (.slice x.ka x.node.keys.length x.kc)/\w.cell? ⟨g,r.length * 5+3,none⟩=some (.slice x.ia x.node.kids.length x.ic)/\w.cell? ⟨g,r.length * 5+4,none⟩=some (.int .i64 x.at_):=by
 have ho:=h.cu.row;rw[tR] at ho;rcases ho.1.2 with ⟨_,h0⟩|⟨g,cap,cur,h0,hb,hg,h1,h2,h3,h4⟩
 .simp at h0
 .rw[uC,rF] at h0 h1;simp only[uD,uE,uR] at h0 h1;subst h0;have hs:=ho.sl zEP.len (by have:=h.cu.few;simp at this ⊢ <;> omega);obtain⟨b,off,e,hc⟩:=hs.elem (k:=r.length) (w':=w) (by simp) (zA.refl _ w);injection e with e;injection e with e1 e2 _;subst e1 e2;have hat:∀(i:Nat) (u:Value),(zH6 x)[i]? = some u->w.cell? ⟨g,0+r.length * 5+i,none⟩=some u:=λi u hu=>hc i u (by rw[List.getElem_append_right (by simp)];simpa using hu)
  have c0:=hat 0 (.bool x.node.leaf) rfl;have c1:=hat 1 (.slice x.ea x.node.entries.length x.ec) rfl;have c2:=hat 2 (.slice x.ka x.node.keys.length x.kc) rfl;have c3:=hat 3 (.slice x.ia x.node.kids.length x.ic) rfl;have c4:=hat 4 (.int .i64 x.at_) rfl;simp only[uR,uO] at c0 c1 c2 c3 c4;exact⟨g,cap,rfl,h1,h2,λo=>zL.frozen (c:=cur) (t := 206) hg o,c0,c1,c2,c3,c4⟩
theorem CuI.cells{g n cp:Nat}{r:List vZ}(h:CuI F P ad w base c s gen kb root G l (.slice (some ⟨g,0,none⟩) n cp) (x :: r)):(∀o,w.frozen? ⟨g,o,none⟩=false) /\
  w.cell? ⟨g,r.length * 5,none⟩=some (.bool x.node.leaf)/\w.cell? ⟨g,r.length * 5+1,none⟩=some (.slice x.ea x.node.entries.length x.ec)/\w.cell? ⟨g,r.length * 5+2,none⟩=some (.slice x.ka x.node.keys.length x.kc)/\w.cell? ⟨g,r.length * 5+3,none⟩=some (.slice x.ia x.node.kids.length x.ic)/\w.cell? ⟨g,r.length * 5+4,none⟩=some (.int .i64 x.at_):=by
 obtain⟨g',cp',e,_,_,h1⟩:=h.form;injection e with e _ _;injection e with e;injection e with e _ _;subst e;exact h1
end
end
section
open Go.RowKit
attribute [local go_sem ↓] Go.wp_at_zero Go.wp_at_succ
section
variable {F P P' F' P1 F1:Nat->Prop}{ad:Nat->Addr}{w w' w0 w1:World}{base c s gen kb:Nat}{root:Int}{G G':GA}{l l':List Nat}{sv sv':Value}{st st':List vZ}{x:vZ}
theorem zLg{v0 v1 v2 v3:Value}{g n m cp:Nat}(hB:zL w kb #[v0,v1,v2,v3,.slice (some ⟨g,0,none⟩) n cp] 163)(hn:n=m+1)(hm:m<=1000) :
  Calls Tryz.prog 115 #[.pointer (some ⟨kb,0,none⟩)] w λe w'=>e=.returned (.pointer (some ⟨g,m * 5,none⟩))/\∃q,w'=w.drewN q:=by
 have k4:=hB.cell (o:=4) (v:=.slice (some ⟨g,0,none⟩) n cp) rfl;have u1:IntKind.i64.wrap ((n:Int)-1)=(m:Int):=by rw[IntWalk.i64_in _ (by omega)];omega
 have u2:(0:Int)<=(m:Int):=by omega
 have u3:(m:Int)<(n:Int):=by omega
 clear hB hn hm
 go_enter Tryz.func115, Tryz.ntmps115
 go_wp2_with fail;go_quiet (fail)
 go_wp2_with fail;go_ret;exact⟨by simp,_,rfl⟩
theorem zEj{v0 v1 v2 v3:Value}{g n m cp:Nat}(hB:zL w kb #[v0,v1,v2,v3,.slice (some ⟨g,0,none⟩) n cp] 163)(hn:n=m+1)(hm:m<=1000) :
  Calls Tryz.prog 115 #[.pointer (some ⟨kb,0,none⟩)] w λe w'=>e=.returned (.pointer (some ⟨g,m * 5,none⟩))/\zJ w w' :=
 (zLg hB hn hm).mono (λe w' ⟨h1,q,h2⟩=>⟨h1,by rw[h2];exact (zA.refl _ w).drewN q⟩)
theorem zNx{v0 v1 v2 v3:Value}{g n m cp:Nat}(hB:zL w kb #[v0,v1,v2,v3,.slice (some ⟨g,0,none⟩) n cp] 163)(hn:n=m+1)(hm:m<=1000)(q:Nat) :
  Calls Tryz.prog 115 #[.pointer (some ⟨kb,0,none⟩)] (w.drewN q) λe w'=>e=.returned (.pointer (some ⟨g,m * 5,none⟩))/\∃k,w'=w.drewN k :=
 (zLg (hB.ext ((zA.refl _ w).drewN q)) hn hm).mono (λe w' ⟨h1,k,h2⟩=>⟨h1,q+k,by rw[h2];unfold World.drewN;simp[rW]⟩)
theorem zLh(n:zF){g o ec ic:Nat}{ea ia:Option Addr}(c0:w.cell? ⟨g,o,none⟩=some (.bool n.leaf))(c1:w.cell? ⟨g,o+1,none⟩=some (.slice ea n.entries.length ec))(c3:w.cell? ⟨g,o+3,none⟩=some (.slice ia n.kids.length ic)) :
  Calls Tryz.prog 161 #[.pointer (some ⟨g,o,none⟩)] w λe w'=>e=.returned (.int .i64 (zAC n:Int))/\w=w':=by
 cases hl:n.leaf with
 | true =>
  have HE:Hid (zAC n=n.entries.length):=oh (by unfold zAC;rw[if_pos hl]);rw[hl] at c0;clear hl
  go_enter Tryz.func161, Tryz.ntmps161
  go_wp2_with fail;go_ret;rw[HE.out];exact⟨rfl,rfl⟩
 | false =>
  have HE:Hid (zAC n=n.kids.length):=oh (by unfold zAC;rw[if_neg (by rw[hl];simp)]);rw[hl] at c0;clear hl
  go_enter Tryz.func161, Tryz.ntmps161
  go_wp2_with fail;go_ret;rw[HE.out];exact⟨rfl,rfl⟩
theorem zLi(h:CuI F P ad w base c s gen kb root G l sv st)(ht:G.total)(id:Int) :
  Calls Tryz.prog 160 #[.pointer (some ⟨kb,0,none⟩),.int .i64 id] w (CuD F P ad w base c s gen kb root G l sv (zAP G (st.map vZ.pl) id)):=by
 obtain⟨pa,pc,rfl,q1,q2⟩:=_root_.id h.cu.row.form;have hfew:=h.cu.few;have hrl:st.reverse.length=st.length:=rF;rw[hrl] at h q1 ⊢;have H:=oh h;have k4:=h.cu.blk.cell (o:=4) (v:=.slice pa st.length pc) rfl;have kf:=h.cu.blk.frozen;have HML:Hid ((st.map vZ.pl).length=st.length):=oh (by simp);by_cases h16:16<=st.length
 .have HV:Hid (zAP G (st.map vZ.pl) id=.inr ([zBs id],5)):=oh (by unfold zAP;rw[if_pos (by rw[HML.out];exact h16)]);have g5:=h.env.c5;have HA:=oh (λop=>zAS h.env op id _ _ _ (qQ.sent 5 (by omega) (by omega)));have h16i:(16:Int)<=(st.length:Int):=by omega
  clear h hrl
  go_enter Tryz.func160, Tryz.ntmps160
  go_wp2_with fail;refine (HA.out _).mono ?_;rintro e w1 ⟨b,rfl,hE,hm⟩;have HE:=oh hE;have HM:=oh (H.out.ext hm);clear hE hm;go_wp2_with fail;go_ret;exact CuD.bad HM.out.1 HM.out.2 HE.out HV.out
 .have HV:Hid (zAP G (st.map vZ.pl) id=match G.load id with | .inr e=>.inr e | .inl n=>.inl ((n,0) :: st.map vZ.pl)):=oh (by unfold zAP;rw[if_neg (by rw[HML.out];exact h16)];rfl);have k0:=h.cu.blk.cell (o:=0) (v:=.pointer (some ⟨c,0,none⟩)) rfl;have k1:=h.cu.blk.cell (o:=1) (v:=.pointer (some ⟨s,0,none⟩)) rfl;have k2:=h.cu.blk.cell (o:=2) (v:=.int .u64 (gen:Int)) rfl;have HLD:=oh (zHl h.env h.sub h.pg gen id (ht.knows id));unfold qR at HLD;have h16i:¬ (16:Int)<=(st.length:Int):=by omega
  have H16:=oh h16;clear h hrl h16
  go_enter Tryz.func160, Tryz.ntmps160
  go_wp2_with fail;refine (HLD.out).mono ?_;rintro e w1 ⟨P1,F1,hG1,hN1,hres⟩;have H1:=oh (H.out.pag hN1 hG1);clear hG1 hN1 k0 k1 k2 k4 kf;cases hld:G.load id with
  | inr er =>
   obtain⟨el,ek⟩:=er;rw[hld] at hres;obtain⟨f,rfl,hE⟩:=hres;have HZ:Hid (zAP G (st.map vZ.pl) id=.inr (el,ek)):=oh (by rw[HV.out,hld]);have m2:zJ w1 (w1.alloc gB):=(zA.refl _ w1).alloc _;have H2:=oh (H1.out.1.ext m2);have HE:=oh (hE.mods m2.ext);clear hE hld m2;go_wp2_with fail;go_ret;exact CuD.bad H2.out.1 (H1.out.2.trans H2.out.2) HE.out HZ.out
  | inl n =>
   rw[hld] at hres;obtain⟨ve,vk,vi,rfl,hse,hsk,hsi⟩:=hres;obtain⟨ea,ec,rfl,_,_,_,_⟩:=_root_.id hse;obtain⟨ka,kc,rfl,_,_,_,_⟩:=_root_.id hsk;obtain⟨ia,ic,rfl,_,_,_,_⟩:=_root_.id hsi;have HZ:Hid (zAP G (st.map vZ.pl) id=.inl ((n,0) :: st.map vZ.pl)):=oh (by rw[HV.out,hld]);have HRT:=oh (GA.load_right hld);have m2:zJ w1 (w1.alloc (.cells #[.bool n.leaf,.slice ea n.entries.length ec,.slice ka n.keys.length kc,.slice ia n.kids.length ic] 118)):=(zA.refl _ w1).alloc _;have H2:=oh (H1.out.1.ext m2);have HFR:Hid (zND F1 (w1.alloc (.cells #[.bool n.leaf,.slice ea n.entries.length ec,.slice ka n.keys.length kc,.slice ia n.kids.length ic] 118)) ⟨n,0,ea,ka,ia,ec,kc,ic⟩):=oh ⟨hse.ext m2,hsk.ext m2,hsi.ext m2⟩;have hND:=zL.new w1 #[.bool n.leaf,.slice ea n.entries.length ec,.slice ka n.keys.length kc,.slice ia n.kids.length ic] 118;have d0:=hND.cell (o:=0) (v:=.bool n.leaf) rfl;have d1:=hND.cell (o:=1) (v:=.slice ea n.entries.length ec) rfl;have d2:=hND.cell (o:=2) (v:=.slice ka n.keys.length kc) rfl;have d3:=hND.cell (o:=3) (v:=.slice ia n.kids.length ic) rfl;have k4:=H2.out.1.cu.blk.cell (o:=4) (v:=.slice pa st.length pc) rfl;have k4b:=λo=>zC ((zA.refl _ _).alloc o) k4
   have hbl:=H2.out.1.bl;have HO2:Hid (zU (λ_=>False) (((w1.alloc (.cells #[.bool n.leaf,.slice ea n.entries.length ec,.slice ka n.keys.length kc,.slice ia n.kids.length ic] 118))).drew.alloc (.cells #[.bool n.leaf,.slice ea n.entries.length ec,.slice ka n.keys.length kc,.slice ia n.kids.length ic,.int .i64 0] 206)) base 206 5 zH6 (.slice pa st.length pc) st.reverse):=oh ((H2.out.1.cu.row.ext (zA.refl _ _).drew).ext ((zA.refl _ _).alloc _));have HB2:Hid (zL (((w1.alloc (.cells #[.bool n.leaf,.slice ea n.entries.length ec,.slice ka n.keys.length kc,.slice ia n.kids.length ic] 118))).drew.alloc (.cells #[.bool n.leaf,.slice ea n.entries.length ec,.slice ka n.keys.length kc,.slice ia n.kids.length ic,.int .i64 0] 206)) kb #[.pointer (some ⟨c,0,none⟩),.pointer (some ⟨s,0,none⟩),.int .u64 (gen:Int),.int .i64 root,.slice pa st.length pc] 163):=oh (((H2.out.1.cu.blk.drew).alloc _));clear hse hsk hsi hld m2 hND;go_wp2_with fail;go_region_law
    (first
     | (refine yT Tryz.elFr zEP (by rfl) _ _ (by rfl) base (.slice pa st.length pc) _ st.reverse [⟨n,0,ea,ka,ia,ec,kc,ic⟩] (by rfl) (by rfl) HO2.out (Sl.one (F:=λ_=>False) (zK (by simp)) (λf=>f)) (by simp only[rF,uD,uE];omega) (by simp at hbl ⊢;omega) (λf=>f) ?_;simp only[rF,uD,uE,uR];intro a11 c11 w11 hO11 hm11 hat11;have hB11:=HB2.out.mods hm11 (λe=>zU.notB HO2.out HB2.out (by decide) _ e rfl);have z4:=hB11.cell (o:=4) (v:=.slice pa st.length pc) rfl;have zf:=hB11.frozen 4;clear hB11)
     | fail)
   all_goals
    have H2D:=oh (H2.out.1.ext (zA.refl _ _).drew);have H3:=oh (H2D.out.1.push (x:=⟨n,0,ea,ka,ia,ec,kc,ic⟩) (HFR.out.step (zA.refl _ _).drew (λ_ _ hn=>hn)) (zJx HRT.out).1 (by have:=H16.out;omega) hO11 hm11 (hat11.imp (λh=>h) (λh=>h)) (by simp));clear hO11 hm11 hat11 z4 zf d0 d1 d2 d3 k4 k4b hbl;go_wp2_with fail;go_ret;exact CuD.good H3.out.1 (((H1.out.2.trans H2.out.2).trans H2D.out.2).trans H3.out.2) HZ.out
end
end
end Go.Proofs.YtchklfmggpconaaGreatDoor
