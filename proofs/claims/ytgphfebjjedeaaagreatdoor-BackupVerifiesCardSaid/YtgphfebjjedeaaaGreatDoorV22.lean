import Derived.BigQuiet
import Derived.Deep.DrawnRows
import Derived.Deep.RegionHeld3
import Derived.IntWalk
import Derived.Test.YtgphfebjjedeaaaGreatDoorV20
namespace Go.Proofs.YtgphfebjjedeaaaGreatDoor
open Lib renaming hid->oh
set_option maxRecDepth 100000
section
open Go.RowKit
section
variable {F:NP}{ad:Nat->Addr}{w w':World}
theorem zPD(kb:Nat)(e:zR)(key:ByteArray)(hk:w.cell? ⟨kb,0,none⟩=some (.string key)) :
  Calls Tryz.prog 261 #[.agg #[.string e.key,.string e.value,.int .i64 e.chain,.int .i64 e.size],.pointer (some ⟨kb,0,none⟩)] w λx w'=>x=.returned (.bool (!qH e.key key))/\zG w w':=by
 have hlt:=yH hk;have hk0:(w.alloc (.cells #[.string e.key,.string e.value,.int .i64 e.chain,.int .i64 e.size] 289)).cell? ⟨kb,0,none⟩=some (.string key):=zD ((zss w).alloc _) hk
 go_enter Tryz.func261, Tryz.ntmps261
 go_wp2_with fail;go_ret;exact⟨rfl,(zss w).alloc _⟩
theorem zPE(kb:Nat)(k:ByteArray)(key:ByteArray)(hk:w.cell? ⟨kb,0,none⟩=some (.string key)) :
  Calls Tryz.prog 263 #[.string k,.pointer (some ⟨kb,0,none⟩)] w λx w'=>x=.returned (.bool (!leS k key))/\zG w w':=by
 go_enter Tryz.func263, Tryz.ntmps263
 go_wp2_with fail;go_ret;exact⟨zY (by simp[leS]),zA.refl _ _⟩
theorem zG7{α:Type}{p:α->Bool}{l:List α}{k:Nat}(hk:k<l.length)(h:∀x∈l.take k,p x=false)(hp:p l[k]=true):l.findIdx p=k:=by
 rw[List.findIdx_eq hk];exact⟨hp,λj hj=>h _ (List.mem_take_iff_getElem.2 ⟨j,by omega,rfl⟩)⟩
theorem zH5{α:Type}{p:α->Bool}{l:List α}(h:∀x∈l,p x=false):l.findIdx p=l.length:=List.findIdx_eq_length.2 h
theorem zH6(kb:Nat)(key:ByteArray)(hk:w.cell? ⟨kb,0,none⟩=some (.string key))(ve:Value)(l:List zR)(hve:Sl F w 4 jW ve l) :
  Calls Tryz.prog 260 #[ve,.func (.func 261) #[] #[.pointer (some ⟨kb,0,none⟩)]] w λx w'=>x=.returned (.int .i64 (l.findIdx λe=>!qH e.key key:Nat))/\zG w w':=by
 obtain⟨ae,ce,rfl,he1,he2,he3,hee⟩:=hve;unfold maxLen at he2
 go_enter Tryz.func260, Tryz.ntmps260
 go_wp2_with fail;go_loopg [9] l.length (λm i wr=>∃k:Nat,k+m=l.length/\i=.int .i64 k/\Hid (∀x∈l.take k,(!qH x.key key)=false)/\zG w wr)
 case atStart=>exact⟨0,by omega,rfl,oh (by simp),zA.refl _ _⟩
 case round =>
  obtain⟨k,hkm,rfl,HZ,hm⟩:=hrel;by_cases hlt:k<l.length
  .obtain⟨b,off,rfl,hb,hF,hc⟩:=Sl.at hee hm (λ_ _ f=>f.elim) k hlt;have c0:=hc 0 _ rfl;simp only[uO] at c0;have c1:=hc 1 _ rfl;have c2:=hc 2 _ rfl;have c3:=hc 3 _ rfl;have hkb:=zD hm hk;have HM:=oh hm;have HEE:=oh hee;have HK:=oh hk;clear hc hee hk hm;have hkb2:=λv=>zD ((zss wr).alloc v) hkb
   go_wp2_with fail;refine (zPD kb l[k] key (hkb2 _)).mono ?_;rintro x w1 ⟨rfl,hm1⟩;have HM1:Hid (zG w w1):=oh ((HM.out.alloc _).trans hm1);clear hm1 hkb hkb2;cases ht:qH l[k].key key
   .have HT:=oh ht;clear ht;go_wp2_with fail;go_ret;exact⟨by rw[zG7 hlt HZ.out (by rw[HT.out];rfl)];rfl,HM1.out⟩
   .have HT:=oh ht;clear ht;go_wp2_with fail;go_roundg (gk-1)
    case measure=>omega
    case rel=>exact⟨k+1,by omega,by go_num,oh (λx hx=>by
     rw[qD l k l[k] (by simp[hlt])] at hx;rcases uN.1 hx with h|h
     .exact HZ.out x h
     .rw[tD.1 h,HT.out];rfl),HM1.out⟩
  .have hke:k=l.length:=by omega
   go_wp2_with fail;go_ret;exact⟨by rw[zH5 (by have:=HZ.out;rwa [hke,wU] at this)];rfl,hm⟩
theorem zNI(kb:Nat)(key:ByteArray)(hk:w.cell? ⟨kb,0,none⟩=some (.string key))(ve:Value)(l:List ByteArray)(hve:Sl F w 1 vQ ve l) :
  Calls Tryz.prog 262 #[ve,.func (.func 263) #[] #[.pointer (some ⟨kb,0,none⟩)]] w λx w'=>x=.returned (.int .i64 (l.findIdx λk=>!leS k key:Nat))/\zG w w':=by
 obtain⟨ae,ce,rfl,he1,he2,he3,hee⟩:=hve;unfold maxLen at he2
 go_enter Tryz.func262, Tryz.ntmps262
 go_wp2_with fail;go_loopg [9] l.length (λm i wr=>∃k:Nat,k+m=l.length/\i=.int .i64 k/\Hid (∀x∈l.take k,(!leS x key)=false)/\zG w wr)
 case atStart=>exact⟨0,by omega,rfl,oh (by simp),zA.refl _ _⟩
 case round =>
  obtain⟨k,hkm,rfl,HZ,hm⟩:=hrel;by_cases hlt:k<l.length
  .obtain⟨b,off,rfl,hb,hF,hc⟩:=Sl.at hee hm (λ_ _ f=>f.elim) k hlt;have c0:=hc 0 _ rfl;simp only[uO,uY] at c0;have hkb:=zD hm hk;have HM:=oh hm;have HEE:=oh hee;have HK:=oh hk;clear hc hee hk hm;go_wp2_with fail;refine (zPE kb l[k] key hkb).mono ?_;rintro x w1 ⟨rfl,hm1⟩;have HM1:Hid (zG w w1):=oh (HM.out.trans hm1);clear hm1 hkb;cases ht:leS l[k] key
   .have HT:=oh ht;clear ht;go_wp2_with fail;go_ret;exact⟨by rw[zG7 hlt HZ.out (by rw[HT.out];rfl)];rfl,HM1.out⟩
   .have HT:=oh ht;clear ht;go_wp2_with fail;go_roundg (gk-1)
    case measure=>omega
    case rel=>exact⟨k+1,by omega,by go_num,oh (λx hx=>by
     rw[qD l k l[k] (by simp[hlt])] at hx;rcases uN.1 hx with h|h
     .exact HZ.out x h
     .rw[tD.1 h,HT.out];rfl),HM1.out⟩
  .have hke:k=l.length:=by omega
   go_wp2_with fail;go_ret;exact⟨by rw[zH5 (by have:=HZ.out;rwa [hke,wU] at this)];rfl,hm⟩
theorem zTD(a b:ByteArray):(a.toList == b.toList)=decide (a=b):=by
 by_cases h:a=b
 .rw[h];simp
 .rw[uX h,uS];intro e;rw[ByteArray.toList_eq,ByteArray.toList_eq] at e;exact h (pQ (Array.toList_inj.1 e))
def zBI(n:zJ)(key:ByteArray):Nat × Bool :=
 if n.leaf then
  let i:=n.entries.findIdx λe=>!qH e.key key
  (i,match n.entries[i]? with|some e=>decide (e.key=key)|none=>false)
 else (n.keys.findIdx λk=>!leS k key,false)
theorem zCr(n:zJ)(key:ByteArray)(ve vk vi:Value)(hve:Sl F w 4 jW ve n.entries)(hvk:Sl F w 1 vQ vk n.keys) :
  Calls Tryz.prog 181 #[.agg #[.bool n.leaf,ve,vk,vi],.string key] w λx w'=>x=.returned (.tuple #[.int .i64 ((zBI n key).1:Nat),.bool (zBI n key).2])/\zG w w':=by
 have m0:zG w ((w.alloc (.cells #[.bool n.leaf,ve,vk,vi] 277)).alloc (.cells #[.string key] 9)):=((zss w).alloc _).alloc _;have HE:=oh (hve.ext m0);have HK:=oh (hvk.ext m0);have M0:=oh m0;clear hve hvk m0;cases hleaf:n.leaf
 .have HR:Hid (zBI n key=(n.keys.findIdx λk=>!leS k key,false)):=oh (by unfold zBI;rw[hleaf];rfl);rw[hleaf] at HE HK M0;clear hleaf
  go_enter Tryz.func181, Tryz.ntmps181
  go_wp2_with fail;refine (zNI (w.heap.size+1) key (by go_cell) vk n.keys HK.out).mono ?_;rintro x w1 ⟨rfl,hm1⟩;have HM1:=oh (M0.out.trans hm1);clear hm1;go_wp2_with fail;go_ret2
  exact⟨by rw[HR.out];rfl,HM1.out⟩
 .rw[hleaf] at HE HK M0;have HL:=oh hleaf;clear hleaf;obtain⟨q,hq⟩:∃q,q=n.entries.findIdx λe=>!qH e.key key:=⟨_,rfl⟩
  have HR:Hid (zBI n key=(q,match n.entries[q]? with|some e=>decide (e.key=key)|none=>false)):=oh (by unfold zBI;rw[HL.out,hq];rfl);have HQ:=oh hq;clear hq;obtain⟨ae,ce,rfl,he1,he2,he3,hee⟩:=_root_.id HE.out;have HEE:=oh hee;clear hee;by_cases hlt:q<n.entries.length
  .go_enter Tryz.func181, Tryz.ntmps181
   go_wp2_with fail;refine (zH6 (w.heap.size+1) key (by go_cell) _ n.entries HE.out).mono ?_;rintro x w1 ⟨rfl,hm1⟩;rw[<- HQ.out];have HM1:=oh (M0.out.trans hm1);obtain⟨b,off,rfl,hb,hF,hc⟩:=Sl.at HEE.out hm1 (λ_ _ f=>f.elim) q hlt;have c0:=hc 0 _ rfl;simp only[uO] at c0;have x1:w1.cell? ⟨w.heap.size,1,none⟩=some (.slice (some ⟨b,off,none⟩) n.entries.length ce):=zD hm1 (by go_cell);have x2:w1.cell? ⟨w.heap.size+1,0,none⟩=some (.string key):=zD hm1 (by go_cell);have hd:decide ((q:Int)<(n.entries.length:Int))=true:=uU (by omega);have HG:Hid (n.entries[q]? = some n.entries[q]):=oh (uA hlt);clear hm1 hc;go_wp2_with fail;go_quiet (fail)
   go_wp2_with fail;go_ret2
   exact⟨by rw[zTD,HR.out,HG.out];rfl,HM1.out.drewN _⟩
  .go_enter Tryz.func181, Tryz.ntmps181
   go_wp2_with fail;refine (zH6 (w.heap.size+1) key (by go_cell) _ n.entries HE.out).mono ?_;rintro x w1 ⟨rfl,hm1⟩;rw[<- HQ.out];have HM1:=oh (M0.out.trans hm1);have x1:w1.cell? ⟨w.heap.size,1,none⟩=some (.slice ae n.entries.length ce):=zD hm1 (by go_cell);have hd:decide ((q:Int)<(n.entries.length:Int))=false:=uX (by omega);have HG:Hid (n.entries[q]? = none):=oh (tI (by omega));clear hm1;go_wp2_with fail;go_quiet (fail)
   go_wp2_with fail;go_ret2
   exact⟨by rw[HR.out,HG.out];rfl,HM1.out.drewN _⟩
end
end
section
theorem zQs(a b:ByteArray):(!leS a b)=qH b a:=by
 cases h:qH b a with
 | true =>
  rw[Bool.not_eq_true',<- pO];intro e;rcases (zN6 a b).1 e with k|k
  .rw[zBj h] at k;cases k
  .rw[k,zBA] at h;cases h
 | false =>
  rw[Bool.not_eq_false',zN6];exact (zC8 h).imp id Eq.symm
theorem zC0{n:zJ}(h:n.leaf=true)(key:ByteArray):zBI n key=(vN key n.entries,zAp key n.entries):=by
 unfold zBI;rw[h];rfl
theorem zEc{n:zJ}(h:n.leaf=false)(key:ByteArray):zBI n key=(zAh key n.keys,false):=by
 have e:(λk=>!leS k key)=λs=>qH key s:=by funext s;exact zQs s key
 unfold zBI zAh;rw[h,e];rfl
end
section
open Go.RowKit
attribute [local go_sem ↓] Go.wp_at_zero Go.wp_at_succ
theorem zFb:∀{l:List ByteArray},jH l=true ↔ ∀(i:Nat) (a b:ByteArray),l[i]? = some a->l[i+1]? = some b->qH a b=true
 | []=>by simp[jH]
 | [_]=>by simp[jH]
 | x :: y :: l=>by
  rw[jH,uL,zFb (l:=y :: l)];constructor
  .rintro⟨h1,h2⟩ i a b ha hb;cases i with
   | zero=>simp at ha hb;subst ha hb;exact h1
   | succ i=>exact h2 i a b (by simpa using ha) (by simpa using hb)
  .intro h;exact⟨h 0 x y rfl rfl,λi a b ha hb=>h (i+1) a b (by simpa using ha) (by simpa using hb)⟩
def zQt(l:List ByteArray)(k:Nat):Prop:=∀(i:Nat) (a b:ByteArray),i+1<k->l[i]? = some a->l[i+1]? = some b->qH a b=true
theorem zLa{l:List ByteArray}{k:Nat}(h:zQt l k)(hk:l.length<=k):jH l=true :=
 zFb.2 λi a b ha hb=>h i a b (by have:=(uB.1 hb).1;omega) ha hb
theorem zJX{l:List ByteArray}{k:Nat}{a b:ByteArray}(h:zQt l (k+1))(ha:l[k]? = some a)(hb:l[k+1]? = some b)(hl:leS b a=false):zQt l (k+2):=by
 intro i x y hi hx hy;by_cases e:i=k
 .subst e;rw[ha] at hx;rw[hb] at hy;injection hx with hx;injection hy with hy;subst hx hy;have:=zQs b a;rw[hl] at this;exact this.symm
 .exact h i x y (by omega) hx hy
theorem zH7{l:List ByteArray}{k:Nat}{a b:ByteArray}(ha:l[k]? = some a)(hb:l[k+1]? = some b)(hl:leS b a=true):jH l=false:=by
 rw[<- pO];intro h;have h1:=zFb.1 h k a b ha hb;have:=zQs b a;rw[hl,h1] at this;cases this
section
variable {F:NP}{ad:Nat->Addr}{w w':World}
theorem zEd(n:Int)(w:World) : Calls Tryz.prog 383 #[.int .i64 n] w λe w'=>e=.returned (.bool (zCo n))/\w=w':=by
 by_cases h1:2<=n
 all_goals
  have h2:=oh h1
  go_enter Tryz.func383, Tryz.ntmps383
  go_wp2
  go_ret;exact⟨zY (by have:=h2.out;simp only[zCo];first|(rw[uU this];simp)|(rw[uX (by omega)];simp)),rfl⟩
theorem zNJ(e:zR)(w:World) : Calls Tryz.prog 380 #[.agg #[.string e.key,.string e.value,.int .i64 e.chain,.int .i64 e.size]] w λx w'=>x=.returned (.bool (qZ e))/\zG w w':=by
 have M0:Hid (zG w (w.alloc (.cells #[.string e.key,.string e.value,.int .i64 e.chain,.int .i64 e.size] 289))):=oh ((zss w).alloc _);cases hk:qP e.key with
 | false =>
  have HR:Hid (qZ e=false):=oh (by unfold qZ;rw[hk];rfl)
  go_enter Tryz.func380, Tryz.ntmps380
  go_wp2_with fail;refine (zBd _ _).mono ?_;rintro x w1 ⟨rfl,rfl⟩;rw[hk];go_wp2_with fail;go_ret;exact⟨zY HR.out.symm,M0.out⟩
 | true =>
  by_cases hz:e.chain=0
  .have hzb:(e.chain == 0)=true:=rC.2 hz;have HR:Hid (qZ e=(decide (e.size=0) && decide (e.value.size<=24))):=oh (by unfold qZ;rw[hk,if_pos hz];rfl);clear hz;by_cases hs:e.size=0
   .have hsb:(e.size == 0)=true:=rC.2 hs;have HS:=oh hs;clear hs;by_cases hv:(e.value.size:Int)<=24
    all_goals
     have HV:=oh hv
     go_enter Tryz.func380, Tryz.ntmps380
     go_wp2_with fail;refine (zBd _ _).mono ?_;rintro x w1 ⟨rfl,rfl⟩;rw[hk];go_wp2_with fail;go_ret;exact⟨zY (by rw[HR.out,HS.out];have:=HV.out;first|(rw[uU (show e.value.size<=24 by omega)];simp;done)|(rw[uX (show ¬ e.value.size<=24 by omega)];simp;omega)),M0.out⟩
   .have hsb:(e.size == 0)=false:=uS.2 hs;have HS:=oh hs;clear hs
    go_enter Tryz.func380, Tryz.ntmps380
    go_wp2_with fail;refine (zBd _ _).mono ?_;rintro x w1 ⟨rfl,rfl⟩;rw[hk];go_wp2_with fail;go_ret;exact⟨zY (by rw[HR.out,uX HS.out];rfl),M0.out⟩
  .have hzb:(e.chain == 0)=false:=uS.2 hz;have HR:Hid (qZ e=(zCo e.chain && decide (e.value.size=0) && decide (24<e.size) && decide (e.size<=4096))):=oh (by unfold qZ;rw[hk,if_neg hz];rfl);clear hz;cases hkd:zCo e.chain with
   | false =>
    rw[hkd] at HR
    go_enter Tryz.func380, Tryz.ntmps380
    go_wp2_with fail;refine (zBd _ _).mono ?_;rintro x w1 ⟨rfl,rfl⟩;rw[hk];go_wp2_with fail;refine (zEd _ _).mono ?_;rintro x w1 ⟨rfl,rfl⟩;rw[hkd];go_wp2_with fail;go_ret;exact⟨zY (by rw[HR.out];rfl),M0.out⟩
   | true =>
    rw[hkd] at HR;have hve:(e.value.toList == [])=decide (e.value.size=0):=by
     rw[ByteArray.toList_eq];have:e.value.data.toList.length=e.value.size:=by rw[tP];rfl
     by_cases hv0:e.value.size=0
     .rw[uU hv0,tE (by omega:e.value.data.toList.length=0)];rfl
     .rw[uX hv0,uS];intro h;rw[h] at this;simp at this;omega
    by_cases hv0:e.value.size=0
    .have hv1:e.value=⟨#[]⟩:=pQ (rW hv0);rw[uU hv0] at HR;clear hve hv0;by_cases h24:24<e.size
     .rw[uU h24] at HR;by_cases h4:e.size<=4096
      all_goals
       have HV:=oh hv1;have HD:=oh h4;clear hv1
       go_enter Tryz.func380, Tryz.ntmps380
       go_wp2_with fail;refine (zBd _ _).mono ?_;rintro x w1 ⟨rfl,rfl⟩;rw[hk];go_wp2_with fail;refine (zEd _ _).mono ?_;rintro x w1 ⟨rfl,rfl⟩;rw[hkd,HV.out];go_wp2_with fail;go_ret;exact⟨zY (by rw[HR.out];have:=HD.out;first|(rw[uU (show e.size<=4096 by omega)];rfl)|(rw[uX (show ¬ e.size<=4096 by omega)];rfl)),(zss w).alloc _⟩
     .rw[uX h24] at HR;have HV:=oh hv1;clear hv1
      go_enter Tryz.func380, Tryz.ntmps380
      go_wp2_with fail;refine (zBd _ _).mono ?_;rintro x w1 ⟨rfl,rfl⟩;rw[hk];go_wp2_with fail;refine (zEd _ _).mono ?_;rintro x w1 ⟨rfl,rfl⟩;rw[hkd,HV.out];go_wp2_with fail;go_ret;exact⟨zY (by rw[HR.out];rfl),(zss w).alloc _⟩
    .rw[uX hv0] at hve HR;clear hv0
     go_enter Tryz.func380, Tryz.ntmps380
     go_wp2_with fail;refine (zBd _ _).mono ?_;rintro x w1 ⟨rfl,rfl⟩;rw[hk];go_wp2_with fail;refine (zEd _ _).mono ?_;rintro x w1 ⟨rfl,rfl⟩;rw[hkd];go_wp2_with fail;go_ret;exact⟨zY (by rw[HR.out];rfl),M0.out⟩
theorem zJY(e:zR)(w:World) : Calls Tryz.prog 382 #[.agg #[.string e.key,.string e.value,.int .i64 e.chain,.int .i64 e.size]] w λx w'=>x=.returned (.string e.key)/\zG w w':=by
 go_enter Tryz.func382, Tryz.ntmps382
 go_wp2_with fail;go_ret;exact⟨rfl,(zss w).alloc _⟩
theorem zNK(k:ByteArray)(w:World) : Calls Tryz.prog 386 #[.string k] w λx w'=>x=.returned (.string k)/\w=w':=by
 go_enter Tryz.func386, Tryz.ntmps386
 go_wp2_with fail;go_ret;exact⟨rfl,rfl⟩
end
section
variable {F:NP}{ad:Nat->Addr}{w w':World}
theorem zLb(ve:Value)(l:List zR)(hve:Sl F w 4 jW ve l) :
    Calls Tryz.prog 381 #[ve,.func (.func 382) #[] #[]] w λx w'=>x=.returned (.bool (jH (l.map (·.key))))/\zG w w':=by
  obtain⟨ae,ce,rfl,he1,he2,he3,hee⟩:=hve
  unfold maxLen at he2
  go_enter Tryz.func381, Tryz.ntmps381
  go_wp2_with fail
  go_loopg [5] l.length (λm i wr=>∃k:Nat,k+m=l.length/\i=.int .i64 ((k+1:Nat):Int)/\Hid (zQt (l.map (·.key)) (k+1))/\zG w wr)
  case atStart=>exact⟨0,by omega,rfl,oh (λi a b hi=>by omega),zA.refl _ _⟩
  case round =>
    obtain⟨k,hkm,rfl,HZ,hm⟩:=hrel
    by_cases hlt:k+1<l.length
    . obtain⟨b,off,rfl,hb,hF,hc⟩:=Sl.at hee hm (λ_ _ f=>f.elim) (k+1) hlt
      obtain⟨b',off',hbb,hb',hF',hd⟩:=Sl.at hee hm (λ_ _ f=>f.elim) k (by omega)
      injection hbb with hbb
      injection hbb with hbb1 hbb2
      subst hbb1 hbb2
      have c0:=hc 0 _ rfl
      simp only[uO] at c0
      have c1:=hc 1 _ rfl
      have c2:=hc 2 _ rfl
      have c3:=hc 3 _ rfl
      have d0:=hd 0 _ rfl
      simp only[uO] at d0
      have d1:=hd 1 _ rfl
      have d2:=hd 2 _ rfl
      have d3:=hd 3 _ rfl
      have HM:=oh hm
      have HEE:=oh hee
      clear hc hd hee hm
      have i1:(0:Int)<=(k:Int)+1:=by omega
      have i2:(k:Int)+1<(l.length:Int):=by omega
      have i3:(0:Int)<=(k:Int):=by omega
      have i4:(k:Int)<(l.length:Int):=by omega
      have hw1:IntKind.i64.wrap ((k:Int)+1-1)=(k:Int):=by rw[show (k:Int)+1-1=k by omega];exact IntWalk.i64_in _ (by omega)
      have hw2:IntKind.i64.wrap (k:Int)=(k:Int):=IntWalk.i64_in _ (by omega)
      go_wp2_with fail
      go_region_held3 (λw'=>w'.cell? ⟨b,off+(k+1) * 4,none⟩=some (.string l[k+1].key)/\w'.cell? ⟨b,off+(k+1) * 4+1,none⟩=some (.string l[k+1].value)/\w'.cell? ⟨b,off+(k+1) * 4+2,none⟩=some (.int .i64 l[k+1].chain)/\w'.cell? ⟨b,off+(k+1) * 4+3,none⟩=some (.int .i64 l[k+1].size) /\
          w'.cell? ⟨b,off+k * 4,none⟩=some (.string l[k].key)/\w'.cell? ⟨b,off+k * 4+1,none⟩=some (.string l[k].value)/\w'.cell? ⟨b,off+k * 4+2,none⟩=some (.int .i64 l[k].chain)/\w'.cell? ⟨b,off+k * 4+3,none⟩=some (.int .i64 l[k].size))
        (first|(with_reducible exact⟨x0,x1,x2,x3,y0,y1,y2,y3⟩)|go_keep)
        (first
          | (go_at_call 382;(with_reducible refine (zJY l[k+1] _).mono ?_);rintro x w1 ⟨rfl,hm1⟩;have x0:=zD hm1 c0;have x1:=zD hm1 c1;have x2:=zD hm1 c2;have x3:=zD hm1 c3;have y0:=zD hm1 d0;have y1:=zD hm1 d1;have y2:=zD hm1 d2;have y3:=zD hm1 d3)
          | (go_at_call 382;(with_reducible refine (zJY l[k] _).mono ?_);rintro x w2 ⟨rfl,hm2⟩;have hmm:=hm1.trans hm2;have x0:=zD hmm c0;have x1:=zD hmm c1;have x2:=zD hmm c2;have x3:=zD hmm c3;have y0:=zD hmm d0;have y1:=zD hmm d1;have y2:=zD hmm d2;have y3:=zD hmm d3)
          | fail)
      clear c0 c1 c2 c3 d0 d1 d2 d3 x0 x1 x2 x3 y0 y1 y2 y3
      have HM2:Hid (zG w w2):=oh (HM.out.drew.trans hmm)
      clear hm1 hm2 hmm
      have g0:(l.map (·.key))[k]? = some l[k].key:=by simp[uA (show k<l.length by omega)]
      have g1:(l.map (·.key))[k+1]? = some l[k+1].key:=by simp[uA hlt]
      have G0:=oh g0
      have G1:=oh g1
      clear g0 g1 hw1 hw2
      go_wp2_with fail
      all_goals rename_i hh
      all_goals have HT:=oh hh
      all_goals clear hh
      all_goals first
        | (go_ret
           exact⟨zY (zH7 G0.out G1.out (by unfold leS;have:=HT.out;simpa using this)).symm,HM2.out⟩)
        | (go_roundg (gk - 1)
           case measure => omega
           case rel=>exact⟨k+1,by omega,by go_num,oh (zJX HZ.out G0.out G1.out (by unfold leS;have:=HT.out;simpa using this)),HM2.out⟩)
    . have hke:l.length<=k+1:=by omega
      have HK:=oh hke
      go_wp2_with fail
      go_ret
      exact⟨zY (zLa HZ.out (by rw[wP];exact HK.out)).symm,hm⟩
theorem zLc(ve:Value)(l:List ByteArray)(hve:Sl F w 1 vQ ve l) :
    Calls Tryz.prog 385 #[ve,.func (.func 386) #[] #[]] w λx w'=>x=.returned (.bool (jH l))/\zG w w':=by
  obtain⟨ae,ce,rfl,he1,he2,he3,hee⟩:=hve
  unfold maxLen at he2
  go_enter Tryz.func385, Tryz.ntmps385
  go_wp2_with fail
  go_loopg [5] l.length (λm i wr=>∃k:Nat,k+m=l.length/\i=.int .i64 ((k+1:Nat):Int)/\Hid (zQt l (k+1))/\zG w wr)
  case atStart=>exact⟨0,by omega,rfl,oh (λi a b hi=>by omega),zA.refl _ _⟩
  case round =>
    obtain⟨k,hkm,rfl,HZ,hm⟩:=hrel
    by_cases hlt:k+1<l.length
    . obtain⟨b,off,rfl,hb,hF,hc⟩:=Sl.at hee hm (λ_ _ f=>f.elim) (k+1) hlt
      obtain⟨b',off',hbb,hb',hF',hd⟩:=Sl.at hee hm (λ_ _ f=>f.elim) k (by omega)
      injection hbb with hbb
      injection hbb with hbb1 hbb2
      subst hbb1 hbb2
      have c0:=hc 0 _ rfl
      simp only[uO,uY] at c0
      have d0:=hd 0 _ rfl
      simp only[uO,uY] at d0
      have HM:=oh hm
      have HEE:=oh hee
      clear hc hd hee hm
      have i1:(0:Int)<=(k:Int)+1:=by omega
      have i2:(k:Int)+1<(l.length:Int):=by omega
      have i3:(0:Int)<=(k:Int):=by omega
      have i4:(k:Int)<(l.length:Int):=by omega
      have hw1:IntKind.i64.wrap ((k:Int)+1-1)=(k:Int):=by rw[show (k:Int)+1-1=k by omega];exact IntWalk.i64_in _ (by omega)
      have hw2:IntKind.i64.wrap (k:Int)=(k:Int):=IntWalk.i64_in _ (by omega)
      go_wp2_with fail
      go_region_held3 (λw'=>w'.cell? ⟨b,off+(k+1),none⟩=some (.string l[k+1])/\w'.cell? ⟨b,off+k,none⟩=some (.string l[k]))
        (first|(with_reducible exact⟨c0,d0⟩)|go_keep)
        (first
          | (go_at_call 386;(with_reducible refine (zNK _ _).mono ?_);rintro x w1 ⟨rfl,rfl⟩)
          | fail)
      clear c0 d0
      have HM2:Hid (zG w wr.drew):=oh HM.out.drew
      have G0:Hid (l[k]? = some l[k]):=oh (uA (by omega))
      have G1:Hid (l[k+1]? = some l[k+1]):=oh (uA hlt)
      clear hw1 hw2
      go_wp2_with fail
      all_goals rename_i hh
      all_goals have HT:=oh hh
      all_goals clear hh
      all_goals first
        | (go_ret
           exact⟨zY (zH7 G0.out G1.out (by unfold leS;have:=HT.out;simpa using this)).symm,HM2.out⟩)
        | (go_roundg (gk - 1)
           case measure => omega
           case rel=>exact⟨k+1,by omega,by go_num,oh (zJX HZ.out G0.out G1.out (by unfold leS;have:=HT.out;simpa using this)),HM2.out⟩)
    . have hke:l.length<=k+1:=by omega
      have HK:=oh hke
      go_wp2_with fail
      go_ret
      exact⟨zY (zLa HZ.out HK.out).symm,hm⟩
end
end
section
open Go.RowKit
section
variable {F:NP}{ad:Nat->Addr}{w w':World}
theorem zIy{α:Type}{l:List α}{k:Nat}{x:α}(hk:k<l.length)(h:x ∉ l.take k)(hx:l[k]≠x):x ∉ l.take (k+1):=by
 rw[qD l k l[k] (by simp[hk])];intro hm;rcases uN.1 hm with h1|h1
 .exact h h1
 .exact hx (tD.1 h1).symm
def zTa(l:List Int)(n:Int)(w:World)(e:Ending)(w':World):Prop:=∃i:Int,e=.returned (.int .i64 i)/\(n∈l/\0<=i\/n ∉ l/\i = -1)/\w=w'
theorem zNL(v:Value)(l:List Int)(n:Int)(hv:Sl F w 1 yL v l) : Calls Tryz.prog 387 #[v,.int .i64 n] w (zTa l n w):=by
 obtain⟨a,c,rfl,h1,h2,h3,hc⟩:=hv;unfold maxLen at h2
 go_enter Tryz.func387, Tryz.ntmps387
 go_wp2_with fail;go_loopg [8] l.length (λm i wr=>∃k:Nat,k+m=l.length/\i=.int .i64 k/\Hid (n ∉ l.take k)/\w=wr)
 case atStart=>exact⟨0,by omega,rfl,oh (by simp),rfl⟩
 case round =>
  obtain⟨k,hkm,rfl,HZ,rfl⟩:=hrel;by_cases hlt:k<l.length
  .obtain⟨b,off,rfl,hb,hF,hd⟩:=Sl.at hc (zA.refl (λ_=>False) w) (λ_ _ f=>f.elim) k hlt;have c0:=hd 0 _ rfl;simp only[uO,uY] at c0;clear hd;by_cases hn:l[k]=n
   .have hn1:(n == l[k])=true:=by rw[hn];simp
    have HN:=oh hn;clear hn;go_wp2_with fail;go_ret;exact⟨(k:Int),rfl,.inl ⟨by rw[<- HN.out];exact wL hlt,by omega⟩,rfl⟩
   .have hn1:(n == l[k])=false:=uS.2 (λh=>hn h.symm);have HN:=oh hn;clear hn;go_wp2_with fail;go_roundg (gk-1)
    case measure=>omega
    case rel=>exact⟨k+1,by omega,by go_num,oh (zIy hlt HZ.out HN.out),rfl⟩
  .have hke:k=l.length:=by omega
   go_wp2_with fail;go_ret;exact⟨-1,rfl,.inr ⟨by have:=HZ.out;rwa [hke,wU] at this,rfl⟩,rfl⟩
theorem zIz(v:Value)(l:List Int)(n:Int)(hv:Sl F w 1 yL v l) : Calls Tryz.prog 384 #[v,.int .i64 n] w λe w'=>e=.returned (.bool (decide (n∈l)))/\w=w':=by
 have HV:=oh hv;clear hv
 go_enter Tryz.func384, Tryz.ntmps384
 go_wp2_with fail;refine (zNL v l n HV.out).mono ?_;rintro e w1 ⟨i,rfl,⟨hm,hi⟩|⟨hm,rfl⟩,rfl⟩
 .have HM:=oh hm;clear hm;go_wp2_with fail;go_ret;exact⟨zY (by rw[uU HM.out]),rfl⟩
 .have HM:=oh hm;clear hm;go_wp2_with fail;go_ret;exact⟨zY (by rw[uX HM.out]),rfl⟩
end
def zF3(n:zJ):Bool:=n.entries.all qZ && (n.keys.isEmpty && n.kids.isEmpty) && jH (n.entries.map (·.key))
def zDt(n:zJ):Bool:=n.entries.isEmpty && decide (2<=n.kids.length) && decide (n.kids.length=n.keys.length+1) && decide (n.kids.length<=256) && n.kids.all zCo && decide n.kids.Nodup && n.keys.all qP && jH n.keys
theorem zFc{n:zJ}(h:n.leaf=true):zQ n=(zF3 n && decide (n.entries.length<=65535)):=by
 unfold zQ zF3;rw[if_pos h];simp only[Bool.and_assoc]
theorem zCW{n:zJ}(h:n.leaf=false):zQ n=zDt n:=by
 unfold zQ zDt;rw[if_neg (by rw[h];simp)]
theorem zH8{α:Type}{p:α->Bool}{l:List α}{k:Nat}(hk:k<l.length)(h:∀x∈l.take k,p x=true)(hp:p l[k]=true):∀x∈l.take (k+1),p x=true:=by
 intro x hx;rw[qD l k l[k] (by simp[hk])] at hx;rcases uN.1 hx with h1|h1
 .exact h x h1
 .rw[tD.1 h1];exact hp
theorem zH9{α:Type}{p:α->Bool}{l:List α}{k:Nat}(hk:k=l.length)(h:∀x∈l.take k,p x=true):l.all p=true:=by
 rw[hk,wU] at h;exact tC.2 h
theorem zKT{α:Type}{p:α->Bool}{l:List α}{k:Nat}(hk:k<l.length)(hp:p l[k]=false):l.all p=false:=by
 rw[<- pO,tC];intro h;have:=h l[k] (wL hk);rw[hp] at this;cases this
theorem Sl.pre{α:Type}{F:NP}{w:World}{sz:Nat}{enc:α->List Value}{a:Option Addr}{n cap:Nat}{l:List α}(h:Sl F w sz enc (.slice a n cap) l)(k:Nat)(hk:k<=l.length):Sl F w sz enc (.slice a k cap) (l.take k):=by
 obtain⟨a',cap',e,h1,h2,h3,h4⟩:=h;injection e with e1 e2 e3;subst e1 e3;have hl:(l.take k).length=k:=by simp;omega
 refine⟨a,cap,by rw[hl],by omega,h2,by omega,?_⟩;rcases h4 with rfl|⟨b,off,rfl,hb,hF,hc⟩
 .exact .inl (by simp)
 .exact .inr ⟨b,off,rfl,hb,hF,λi x hi j u hu=>hc i x (by
   rw[pU] at hi;split at hi
   .exact hi
   .cases hi) j u hu⟩
section
variable {F:NP}{ad:Nat->Addr}{w w':World}
theorem zPF(n:zJ)(ve vk vi:Value)(hve:Sl F w 4 jW ve n.entries)(hvk:Sl F w 1 vQ vk n.keys)(hvi:Sl F w 1 yL vi n.kids) :
  Calls Tryz.prog 374 #[.agg #[.bool n.leaf,ve,vk,vi]] w λe w'=>e=.returned (.bool (zF3 n))/\zG w w':=by
 have HVE:=oh hve;obtain⟨ae,ce,rfl,he1,he2,he3,hee⟩:=hve;obtain⟨ak,ck,rfl,hk1,hk2,hk3,hkk⟩:=hvk;obtain⟨ai,ci,rfl,hi1,hi2,hi3,hii⟩:=hvi;unfold maxLen at he2 hk2 hi2;clear hkk hii;generalize hlf:n.leaf=lf
 clear hlf
 go_enter Tryz.func374, Tryz.ntmps374
 go_wp2_with fail;go_loopg [8] n.entries.length (λm i wr=>∃k:Nat,k+m=n.entries.length/\i=.int .i64 k/\Hid (∀x∈n.entries.take k,qZ x=true)/\zG w wr/\wr.cell? ⟨w.heap.size,1,none⟩=some (.slice ae n.entries.length ce)/\wr.cell? ⟨w.heap.size,2,none⟩=some (.slice ak n.keys.length ck)/\wr.cell? ⟨w.heap.size,3,none⟩=some (.slice ai n.kids.length ci))
 case atStart=>exact⟨0,by omega,rfl,oh (by simp),zr.alloc _,by go_cell,by go_cell,by go_cell⟩
 case round =>
  obtain⟨k,hkm,rfl,HZ,hm,b1,b2,b3⟩:=hrel;by_cases hlt:k<n.entries.length
  .obtain⟨b,off,rfl,hb,hF,hc⟩:=Sl.at hee hm (λ_ _ f=>f.elim) k hlt;have c0:=hc 0 _ rfl;simp only[uO] at c0;have c1:=hc 1 _ rfl;have c2:=hc 2 _ rfl;have c3:=hc 3 _ rfl;have HM:=oh hm;have HEE:=oh hee;clear hc hee hm;go_wp2_with fail;refine (zNJ n.entries[k] _).mono ?_;rintro x w1 ⟨rfl,hm1⟩;have hz1:=zD hm1 (zP b1 _);have hz2:=zD hm1 (zP b2 _);have hz3:=zD hm1 (zP b3 _);have HM1:Hid (zG w w1):=oh ((HM.out.alloc _).trans hm1);clear hm1 c0 c1 c2 c3 b1 b2 b3;cases ht:qZ n.entries[k]
   .have HT:=oh ht;clear ht;go_wp2_with fail;go_ret;exact⟨zY (by unfold zF3;rw[zKT hlt HT.out];rfl),HM1.out⟩
   .have HT:=oh ht;clear ht;go_wp2_with fail;go_roundg (gk-1)
    case measure=>omega
    case rel=>exact⟨k+1,by omega,by go_num,oh (zH8 hlt HZ.out HT.out),HM1.out,hz1,hz2,hz3⟩
  .have hke:k=n.entries.length:=by omega
   have HA:Hid (n.entries.all qZ=true):=oh (zH9 hke HZ.out);have HM:=oh hm;have HVE1:=oh (HVE.out.ext hm);clear HZ hke hee hm;by_cases hz:n.keys.length=0/\n.kids.length=0
   .have hd:((n.keys.length:Int)+(n.kids.length:Int) == 0)=true:=by rw[rC];omega
    have HZ:=oh hz;clear hz;go_wp2_with fail;refine (zLb _ _ HVE1.out).mono ?_;rintro x w1 ⟨rfl,hm1⟩;have HM1:=oh (HM.out.trans hm1);clear hm1;go_wp2_with fail;go_ret;exact⟨zY (by
     unfold zF3;rw[HA.out,wV.2 (tE HZ.out.1),wV.2 (tE HZ.out.2)];rfl),HM1.out⟩
   .have hd:((n.keys.length:Int)+(n.kids.length:Int) == 0)=false:=by rw[uS];omega
    have HZ:=oh hz;clear hz;go_wp2_with fail;go_ret;exact⟨zY (by
     unfold zF3;have:(n.keys.isEmpty && n.kids.isEmpty)=false:=by
      rw[<- pO,uL,wV,wV];rintro⟨a,b⟩;exact HZ.out ⟨by rw[a];rfl,by rw[b];rfl⟩
     rw[this];simp),HM.out⟩
end
def zIA(n:zJ):Bool:=n.entries.isEmpty && decide (2<=n.kids.length) && decide (n.kids.length=n.keys.length+1) && decide (n.kids.length<=256)
theorem zCM(n:zJ):zDt n=(zIA n && (n.kids.all zCo && decide n.kids.Nodup) && n.keys.all qP && jH n.keys):=by
 unfold zDt zIA;simp only[Bool.and_assoc]
theorem zDu(n:zJ):zIA n=true ↔ n.entries.length=0/\2<=n.kids.length/\n.kids.length=n.keys.length+1/\n.kids.length<=256:=by
 unfold zIA;simp only[uL,uR,wV,rY,and_assoc]
theorem zNM{l:List Int}{k:Nat}(hk:k<l.length)(h:(l.take k).Nodup)(hn:l[k] ∉ l.take k):(l.take (k+1)).Nodup:=by
 rw[qD l k l[k] (by simp[hk])];rw[wG];refine⟨h,by simp,λa ha b hb e=>?_⟩;rw[tD.1 hb] at e;rw[e] at ha;exact hn ha
theorem zPG{l:List Int}{k:Nat}(hk:k<l.length)(hn:l[k]∈l.take k):¬ l.Nodup:=by
 intro h;obtain⟨i,hi,e⟩:=wI hn;rw[rR] at e;have hik:i<k:=by simp at hi;omega
 exact rB.1 h i k (by omega) hk hik e
section
variable {F:NP}{ad:Nat->Addr}{w w':World}
theorem zNN(n:zJ)(ve vk vi:Value)(hve:Sl F w 4 jW ve n.entries)(hvk:Sl F w 1 vQ vk n.keys)(hvi:Sl F w 1 yL vi n.kids) :
  Calls Tryz.prog 375 #[.agg #[.bool n.leaf,ve,vk,vi]] w λe w'=>e=.returned (.bool (zDt n))/\zG w w':=by
 have HVI:=oh hvi;have HVK:=oh hvk;obtain⟨ae,ce,rfl,he1,he2,he3,hee⟩:=hve;obtain⟨ak,ck,rfl,hk1,hk2,hk3,hkk⟩:=hvk;obtain⟨ai,ci,rfl,hi1,hi2,hi3,hii⟩:=hvi;unfold maxLen at he2 hk2 hi2;clear hee;generalize hlf:n.leaf=lf
 clear hlf;cases hh:zIA n with
 | false =>
  have HR:Hid (zDt n=false):=oh (by rw[zCM,hh];rfl);have hn:¬ (n.entries.length=0/\2<=n.kids.length/\n.kids.length=n.keys.length+1/\n.kids.length<=256):=λh=>by rw[(zDu n).2 h] at hh;cases hh
  clear hh hkk hii HVI HVK;generalize n.entries.length=N1 at *
  generalize n.kids.length=N2 at *
  generalize n.keys.length=N3 at *
  by_cases h1:(0:Int)<(N1:Int)
  .clear hn
   go_enter Tryz.func375, Tryz.ntmps375
   go_wp2_with fail;go_ret;exact⟨zY HR.out.symm,(zss w).alloc _⟩
  .by_cases h2:(N2:Int)<2
   .clear hn
    go_enter Tryz.func375, Tryz.ntmps375
    go_wp2_with fail;go_ret;exact⟨zY HR.out.symm,(zss w).alloc _⟩
   .by_cases h3:N2=N3+1
    .subst h3;have h4:(256:Int)<(N3:Int)+1:=by omega
     clear hn
     go_enter Tryz.func375, Tryz.ntmps375
     go_wp2_with fail;go_ret;exact⟨zY HR.out.symm,(zss w).alloc _⟩
    .have h5:((N2:Int) != (N3:Int)+1)=true:=by rw[bne_iff_ne];omega
     clear hn h3
     go_enter Tryz.func375, Tryz.ntmps375
     go_wp2_with fail;go_ret;exact⟨zY HR.out.symm,(zss w).alloc _⟩
 | true =>
  have HR:Hid (zDt n=((n.kids.all zCo && decide n.kids.Nodup) && n.keys.all qP && jH n.keys)):=oh (by rw[zCM,hh,nN]);obtain⟨g1,g2,g3,g4⟩:=(zDu n).1 hh;rw[g3] at hi1 hi3 g2 g4;rw[g1,g3];have HG3:=oh g3;have h2:¬ (n.keys.length:Int)+1<2:=by omega
  have h4:¬ (256:Int)<(n.keys.length:Int)+1:=by omega
  clear hh g1 g3
  go_enter Tryz.func375, Tryz.ntmps375
  go_wp2_with fail;go_loopg [36] (n.keys.length+1) (λm i wr=>∃k:Nat,k+m=n.keys.length+1/\i=.int .i64 k/\Hid ((∀x∈n.kids.take k,zCo x=true)/\(n.kids.take k).Nodup)/\zG w wr/\wr.cell? ⟨w.heap.size,2,none⟩=some (.slice ak n.keys.length ck)/\wr.cell? ⟨w.heap.size,3,none⟩=some (.slice ai (n.keys.length+1) ci))
  case atStart=>exact⟨0,by omega,rfl,oh ⟨by simp,by simp⟩,zr.alloc _,by go_cell,by go_cell⟩
  case round =>
   obtain⟨k,hkm,rfl,HZ,hm,b2,b3⟩:=hrel;by_cases hlt1:k<n.keys.length+1
   .have hlt:k<n.kids.length:=by rw[HG3.out];exact hlt1
    obtain⟨b,off,rfl,hb,hF,hc⟩:=Sl.at hii hm (λ_ _ f=>f.elim) k hlt;have c0:=hc 0 _ rfl;simp only[uO,uY] at c0;have HM:=oh hm;have HII:=oh hii;have HKK:=oh hkk;have HP:=oh ((HVI.out.ext hm).pre k (by rw[HG3.out];omega));have HLT:=oh hlt;generalize hkx:n.kids[k]=kx at c0
    have HKX:=oh hkx;clear hkx;clear hc hlt hii hm hkk;go_wp2_with fail;refine (zEd kx _).mono ?_;rintro x w1 ⟨rfl,rfl⟩;cases ht:zCo kx
    .have HT:=oh ht;clear ht;go_wp2_with fail;go_ret;exact⟨zY (by rw[HR.out,zKT HLT.out ((congrArg zCo HKX.out).trans HT.out)];rfl),HM.out⟩
    .have HT:=oh ht;clear ht;go_wp2_with fail;refine (zIz _ _ kx HP.out).mono ?_;rintro x w1 ⟨rfl,rfl⟩;by_cases hc:kx∈n.kids.take k
     .have HC:=oh hc;rw[uU hc];clear hc;go_wp2_with fail;go_ret;exact⟨zY (by rw[HR.out,uX (zPG HLT.out (HKX.out ▸ HC.out))];simp),HM.out⟩
     .have HC:=oh hc;rw[uX hc];clear hc;go_wp2_with fail;go_roundg (gk-1)
      case measure=>omega
      case rel=>exact⟨k+1,by omega,by go_num,oh ⟨zH8 HLT.out HZ.out.1 ((congrArg zCo HKX.out).trans HT.out),zNM HLT.out HZ.out.2 (HKX.out ▸ HC.out)⟩,HM.out,b2,b3⟩
   .have hke:k=n.kids.length:=by rw[HG3.out];omega
    have HA:Hid ((n.kids.all zCo && decide n.kids.Nodup)=true):=oh (by
     rw[zH9 hke HZ.out.1];have:=HZ.out.2;rw[hke,wU] at this;rw[uU this];rfl)
    have HM:=oh hm;clear hii HZ hke hm hkm;go_wp2_with fail;have hm:=HM.out;clear HM;obtain⟨wo,rfl⟩:∃wo:World,wo=wr:=⟨_,rfl⟩;go_loopg [56] n.keys.length (λm i wr=>∃k:Nat,k+m=n.keys.length/\i=.int .i64 k/\Hid (∀x∈n.keys.take k,qP x=true)/\zG w wr/\wr.cell? ⟨w.heap.size,2,none⟩=some (.slice ak n.keys.length ck))
    case atStart=>exact⟨0,by omega,rfl,oh (by simp),hm,b2⟩
    case round =>
     obtain⟨k,hkm,rfl,HZ,hm,b2⟩:=hrel;by_cases hlt:k<n.keys.length
     .obtain⟨b,off,rfl,hb,hF,hc⟩:=Sl.at hkk hm (λ_ _ f=>f.elim) k hlt;have c0:=hc 0 _ rfl;simp only[uO,uY] at c0;have HM:=oh hm;have HKK:=oh hkk;clear hc hkk hm;go_wp2_with fail;refine (zBd n.keys[k] _).mono ?_;rintro x w1 ⟨rfl,rfl⟩;cases ht:qP n.keys[k]
      .have HT:=oh ht;clear ht;go_wp2_with fail;go_ret;exact⟨zY (by rw[HR.out,zKT hlt HT.out];simp),HM.out⟩
      .have HT:=oh ht;clear ht;go_wp2_with fail;go_roundg (gk-1)
       case measure=>omega
       case rel=>exact⟨k+1,by omega,by go_num,oh (zH8 hlt HZ.out HT.out),HM.out,b2⟩
     .have hke:k=n.keys.length:=by omega
      have HB:Hid (n.keys.all qP=true):=oh (zH9 hke HZ.out);have HM:=oh hm;have HVK1:=oh (HVK.out.ext hm);clear HZ hke hm hkk;go_wp2_with fail;refine (zLc _ _ HVK1.out).mono ?_;rintro x w1 ⟨rfl,hm1⟩;have HM1:=oh (HM.out.trans hm1);clear hm1;go_wp2_with fail;go_ret;exact⟨zY (by rw[HR.out,HA.out,HB.out];rfl),HM1.out⟩
end
def zCN(n:zJ):Option Err:=if zQ n=true then none else some ([-1],1)
section
variable {F:NP}{ad:Nat->Addr}{w w':World}
theorem zFB(hL:yE F ad w)(n:zJ)(ve vk vi:Value)(hve:Sl F w 4 jW ve n.entries)(hvk:Sl F w 1 vQ vk n.keys)(hvi:Sl F w 1 yL vi n.kids) :
  Calls Tryz.prog 337 #[.agg #[.bool n.leaf,ve,vk,vi]] w λe w'=>∃ev,e=.returned ev/\zCa F ad w' ev (zCN n)/\zG w w':=by
 have m0:zG w (w.alloc (.cells #[.bool n.leaf,ve,vk,vi] 277)):=(zss w).alloc _;have HB0:=oh (zK.new w #[.bool n.leaf,ve,vk,vi] 277);have HVE:=oh (hve.ext m0);have HVK:=oh (hvk.ext m0);have HVI:=oh (hvi.ext m0);have HL:=oh (hL.mods m0.ext);have HM0:=oh m0;have HN1:Hid (∀w1,zG w w1->yE F ad w1):=oh (λw1 h=>hL.mods h.ext);obtain⟨ae,ce,rfl,he1,he2,he3,_⟩:=hve;clear hvk hvi hL m0;unfold maxLen at he2;cases hlf:n.leaf
 .have HR:Hid (zCN n=if zDt n=true then none else some ([-1],1)):=oh (by unfold zCN;rw[zCW hlf]);rw[hlf] at HB0 HVE HVK HVI HM0 HL;have HCI:=oh (zNN n _ _ _ HVE.out HVK.out HVI.out);rw[hlf] at HCI;clear hlf
  go_enter Tryz.func337, Tryz.ntmps337
  go_wp2_with fail;refine (HCI.out).mono ?_;rintro e w1 ⟨rfl,hm1⟩;have hB1:=HB0.out.ext hm1;have b0:=hB1.d 0 (.bool false) rfl;have b1:=hB1.d 1 (.slice ae n.entries.length ce) rfl;have HM1:=oh (HM0.out.trans hm1);have hL1:=HN1.out _ HM1.out;have g1:=hL1.c1;have HL1:=oh hL1;clear hm1 hB1 hL1;cases hin:zDt n
  .rw[hin,if_neg (by simp)] at HR;go_wp2_with fail;refine (yR HL1.out _ _ [] 1 (.sent 1 (by decide) (by decide))).mono ?_;rintro e w2 ⟨f,rfl,hE,hm2⟩;have HE:=oh hE;have HM2:=oh (HM1.out.trans hm2);clear hE hm2;go_wp2_with fail;go_ret;exact⟨_,rfl,by rw[HR.out];exact⟨f,rfl,HE.out⟩,HM2.out⟩
  .rw[hin,if_pos rfl] at HR;have hz:n.entries.length=0:=by
    rw[zCM] at hin;simp only[uL] at hin;exact ((zDu n).1 hin.1.1.1).1
   rw[hz] at b1;clear hin hz;go_wp2_with fail;go_ret;exact⟨_,rfl,by rw[HR.out];rfl,HM1.out⟩
 .have HR:Hid (zCN n=if (zF3 n && decide (n.entries.length<=65535))=true then none else some ([-1],1)):=oh (by unfold zCN;rw[zFc hlf]);rw[hlf] at HB0 HVE HVK HVI HM0 HL;have HCI:=oh (zPF n _ _ _ HVE.out HVK.out HVI.out);rw[hlf] at HCI;clear hlf
  go_enter Tryz.func337, Tryz.ntmps337
  go_wp2_with fail;refine (HCI.out).mono ?_;rintro e w1 ⟨rfl,hm1⟩;have hB1:=HB0.out.ext hm1;have b0:=hB1.d 0 (.bool true) rfl;have b1:=hB1.d 1 (.slice ae n.entries.length ce) rfl;have HM1:=oh (HM0.out.trans hm1);have hL1:=HN1.out _ HM1.out;have g1:=hL1.c1;have HL1:=oh hL1;clear hm1 hB1 hL1;cases hin:zF3 n
  .rw[hin,Bool.false_and,if_neg (by simp)] at HR;clear hin;go_wp2_with fail;refine (yR HL1.out _ _ [] 1 (.sent 1 (by decide) (by decide))).mono ?_;rintro e w2 ⟨f,rfl,hE,hm2⟩;have HE:=oh hE;have HM2:=oh (HM1.out.trans hm2);clear hE hm2;go_wp2_with fail;go_ret;exact⟨_,rfl,by rw[HR.out];exact⟨f,rfl,HE.out⟩,HM2.out⟩
  .rw[hin,nN] at HR;clear hin;by_cases hl:(65535:Int)<(n.entries.length:Int)
   .rw[uX (by omega),if_neg (by simp)] at HR;go_wp2_with fail;refine (yR HL1.out _ _ [] 1 (.sent 1 (by decide) (by decide))).mono ?_;rintro e w2 ⟨f,rfl,hE,hm2⟩;have HE:=oh hE;have HM2:=oh (HM1.out.trans hm2);clear hE hm2;go_wp2_with fail;go_ret;exact⟨_,rfl,by rw[HR.out];exact⟨f,rfl,HE.out⟩,HM2.out⟩
   .rw[uU (by omega),if_pos rfl] at HR;go_wp2_with fail;go_ret;exact⟨_,rfl,by rw[HR.out];rfl,HM1.out⟩
end
end
section
open Go.RowKit
attribute [local go_sem ↓] Go.wp_at_zero Go.wp_at_succ
theorem zFC{α:Type}(f:α->List UInt8)(l:List α)(k:Nat):((l.take k).flatMap f).length<=(l.flatMap f).length:=by
 have h:l.flatMap f=(l.take k).flatMap f++(l.drop k).flatMap f:=by rw[<- tB,wC]
 rw[h,uC];omega
def zBS(n:zJ)(k:Nat):List UInt8:=zV 2 n.entries.length++(n.entries.take k).flatMap zAJ
def zAz(n:zJ)(k:Nat):List UInt8:=zV 2 n.kids.length++(zV 4 (n.kids.headD 0).toNat++((n.keys.zip n.kids.tail).take k).flatMap zAu)
theorem zKU(n:zJ):zBS n 0=zV 2 n.entries.length:=by simp[zBS]
theorem zKV(n:zJ){k:Nat}{e:zR}(h:n.entries[k]? = some e):zBS n (k+1)=zBS n k++zAJ e:=by
 unfold zBS;rw[qD _ _ _ h,tB,<- uM];simp
theorem zLd{n:zJ}(hl:n.leaf=true){k:Nat}(hk:k=n.entries.length):zBS n k=yB n:=by
 unfold zBS yB;rw[hk,wU,if_pos hl]
theorem zLe{n:zJ}(hl:n.leaf=true)(k:Nat):(zBS n k).length<=(yB n).length:=by
 unfold yB zBS;rw[if_pos hl];have:=zFC zAJ n.entries k;simp only[uC];omega
theorem zI0(n:zJ):zAz n 0=zV 2 n.kids.length++zV 4 (n.kids.headD 0).toNat:=by simp[zAz]
theorem zI1(n:zJ){k:Nat}{s:ByteArray}{c:Int}(h:n.keys[k]? = some s)(h2:n.kids[k+1]? = some c):zAz n (k+1)=zAz n k++zAu (s,c):=by
 have hz:(n.keys.zip n.kids.tail)[k]? = some (s,c):=by
  rw[List.getElem?_zip_eq_some];exact⟨h,by rw[List.getElem?_tail];exact h2⟩
 unfold zAz;rw[qD _ _ _ hz,tB];simp only[uM,uZ,List.flatMap_nil,wJ]
theorem zKW{n:zJ}(hl:n.leaf=false)(_hk2:n.kids.length=n.keys.length+1){k:Nat}(hk:k=n.keys.length):zAz n k=yB n:=by
 unfold zAz yB;rw[wB (by simp;omega),if_neg (by rw[hl];simp)]
theorem zKX{n:zJ}(hl:n.leaf=false)(k:Nat):(zAz n k).length<=(yB n).length:=by
 unfold yB zAz;rw[if_neg (by rw[hl];simp)];have:=zFC zAu (n.keys.zip n.kids.tail) k;simp only[uC];omega
def zRw(F:NP)(ad:Nat->Addr)(w:World)(n:zJ)(e:Ending)(w':World):Prop :=
 zG w w'/\((zQ n=true/\∃a c,e=.returned (.tuple #[.slice a (yB n).length c,.nilIface])/\yA (λ_=>False) w' w.heap.size 5 1 zO (.slice a (yB n).length c) (yB n)) \/
  (zQ n=false/\∃f,e=.returned (.tuple #[.slice none 0 0,zI f])/\yN F ad w' (zI f) [-1, -1] 1))
theorem zEe{n:zJ}(hl:n.leaf=true)(hr:zQ n=true){k:Nat}{e:zR}(h:n.entries[k]? = some e):qZ e=true:=by
 rw[zFc hl] at hr;unfold zF3 at hr;simp only[uL,tC] at hr;exact hr.1.1.1 e (wD h)
theorem zPH{n:zJ}(hl:n.leaf=true)(hr:zQ n=true):n.entries.length<=65535:=by
 rw[zFc hl] at hr;simp only[uL,uR] at hr;exact hr.2
theorem zNO{n:zJ}(hl:n.leaf=false)(hr:zQ n=true){k:Nat}{s:ByteArray}(h:n.keys[k]? = some s):s.size<256:=by
 rw[zCW hl,zCM] at hr;simp only[uL,tC] at hr;have:=(jX s).1 (hr.1.2 s (wD h));omega
theorem zJZ{n:zJ}(hl:n.leaf=false)(hr:zQ n=true):2<=n.kids.length/\n.kids.length<=256/\n.kids.length=n.keys.length+1:=by
 rw[zCW hl,zCM] at hr;simp only[uL] at hr;have:=(zDu n).1 hr.1.1.1;omega
theorem zJa{n:zJ}(hl:n.leaf=false)(hr:zQ n=true){k:Nat}{c:Int}(h:n.kids[k]? = some c):2<=c/\c<256:=by
 rw[zCW hl,zCM] at hr;simp only[uL,tC] at hr;simpa[zCo] using hr.1.1.2.1 c (wD h)
section
variable {F:NP}{ad:Nat->Addr}{w w':World}
theorem WrR.new(w:World)(base:Nat)(h:base<=w.heap.size):WrR base (w.alloc (.cells #[.slice none 0 0,.nilIface] 474)) w.heap.size [] :=
 ⟨⟨none,0,zK.new w _ _,yA.nil _ _ _ _ _ _⟩,h⟩
end
end
end Go.Proofs.YtgphfebjjedeaaaGreatDoor
