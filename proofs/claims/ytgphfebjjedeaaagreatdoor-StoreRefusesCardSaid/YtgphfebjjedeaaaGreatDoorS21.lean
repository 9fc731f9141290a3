import Derived.BigQuiet
import Derived.Deep.DrawnRows
import Derived.Deep.RegionHeld3
import Derived.IntWalk
import Derived.Test.YtgphfebjjedeaaaGreatDoorS19
namespace Go.Proofs.YtgphfebjjedeaaaGreatDoor
open Lib renaming hid->oh
set_option maxRecDepth 100000
section
open Go.RowKit
section
variable {F:NP}{ad:Nat->Addr}{w w':World}
theorem zIp(kb:Nat)(e:zS)(key:ByteArray)(hk:w.cell? ⟨kb,0,none⟩=some (.string key)) :
  Calls Tryz.prog 261 #[.agg #[.string e.key,.string e.value,.int .i64 e.chain,.int .i64 e.size],.pointer (some ⟨kb,0,none⟩)] w λx w'=>x=.returned (.bool (!ltS e.key key))/\zF w w':=by
 have hlt:=zQ hk;have hk0:(w.alloc (.cells #[.string e.key,.string e.value,.int .i64 e.chain,.int .i64 e.size] 289)).cell? ⟨kb,0,none⟩=some (.string key):=zI ((zss w).alloc _) hk
 go_enter Tryz.func261, Tryz.ntmps261
 go_wp2_with fail;go_ret;exact⟨rfl,(zss w).alloc _⟩
theorem zIq(kb:Nat)(k:ByteArray)(key:ByteArray)(hk:w.cell? ⟨kb,0,none⟩=some (.string key)) :
  Calls Tryz.prog 263 #[.string k,.pointer (some ⟨kb,0,none⟩)] w λx w'=>x=.returned (.bool (!leS k key))/\zF w w':=by
 go_enter Tryz.func263, Tryz.ntmps263
 go_wp2_with fail;go_ret;exact⟨zO (by simp[leS]),zA.refl _ _⟩
theorem zDo{α:Type}{p:α->Bool}{l:List α}{k:Nat}(hk:k<l.length)(h:∀x∈l.take k,p x=false)(hp:p l[k]=true):l.findIdx p=k:=by
 rw[List.findIdx_eq hk];exact⟨hp,λj hj=>h _ (List.mem_take_iff_getElem.2 ⟨j,by omega,rfl⟩)⟩
theorem zEX{α:Type}{p:α->Bool}{l:List α}(h:∀x∈l,p x=false):l.findIdx p=l.length:=List.findIdx_eq_length.2 h
theorem zEY(kb:Nat)(key:ByteArray)(hk:w.cell? ⟨kb,0,none⟩=some (.string key))(ve:Value)(l:List zS)(hve:Sl F w 4 zAA ve l) :
  Calls Tryz.prog 260 #[ve,.func (.func 261) #[] #[.pointer (some ⟨kb,0,none⟩)]] w λx w'=>x=.returned (.int .i64 (l.findIdx λe=>!ltS e.key key:Nat))/\zF w w':=by
 obtain⟨ae,ce,rfl,he1,he2,he3,hee⟩:=hve;unfold maxLen at he2
 go_enter Tryz.func260, Tryz.ntmps260
 go_wp2_with fail;go_loopg [9] l.length (λm i wr=>∃k:Nat,k+m=l.length/\i=.int .i64 k/\Hid (∀x∈l.take k,(!ltS x.key key)=false)/\zF w wr)
 case atStart=>exact⟨0,by omega,rfl,oh (by simp),zA.refl _ _⟩
 case round =>
  obtain⟨k,hkm,rfl,HZ,hm⟩:=hrel;by_cases hlt:k<l.length
  .obtain⟨b,off,rfl,hb,hF,hc⟩:=Sl.at hee hm (λ_ _ f=>f.elim) k hlt;have c0:=hc 0 _ rfl;simp only[uS] at c0;have c1:=hc 1 _ rfl;have c2:=hc 2 _ rfl;have c3:=hc 3 _ rfl;have hkb:=zI hm hk;have HM:=oh hm;have HEE:=oh hee;have HK:=oh hk;clear hc hee hk hm;have hkb2:=λv=>zI ((zss wr).alloc v) hkb
   go_wp2_with fail;refine (zIp kb l[k] key (hkb2 _)).mono ?_;rintro x w1 ⟨rfl,hm1⟩;have HM1:Hid (zF w w1):=oh ((HM.out.alloc _).trans hm1);clear hm1 hkb hkb2;cases ht:ltS l[k].key key
   .have HT:=oh ht;clear ht;go_wp2_with fail;go_ret;exact⟨by rw[zDo hlt HZ.out (by rw[HT.out];rfl)];rfl,HM1.out⟩
   .have HT:=oh ht;clear ht;go_wp2_with fail;go_roundg (gk-1)
    case measure=>omega
    case rel=>exact⟨k+1,by omega,by go_num,oh (λx hx=>by
     rw[vB l k l[k] (by simp[hlt])] at hx;rcases wM.1 hx with h|h
     .exact HZ.out x h
     .rw[tF.1 h,HT.out];rfl),HM1.out⟩
  .have hke:k=l.length:=by omega
   go_wp2_with fail;go_ret;exact⟨by rw[zEX (by have:=HZ.out;rwa [hke,wX] at this)];rfl,hm⟩
theorem zHT(kb:Nat)(key:ByteArray)(hk:w.cell? ⟨kb,0,none⟩=some (.string key))(ve:Value)(l:List ByteArray)(hve:Sl F w 1 zBP ve l) :
  Calls Tryz.prog 262 #[ve,.func (.func 263) #[] #[.pointer (some ⟨kb,0,none⟩)]] w λx w'=>x=.returned (.int .i64 (l.findIdx λk=>!leS k key:Nat))/\zF w w':=by
 obtain⟨ae,ce,rfl,he1,he2,he3,hee⟩:=hve;unfold maxLen at he2
 go_enter Tryz.func262, Tryz.ntmps262
 go_wp2_with fail;go_loopg [9] l.length (λm i wr=>∃k:Nat,k+m=l.length/\i=.int .i64 k/\Hid (∀x∈l.take k,(!leS x key)=false)/\zF w wr)
 case atStart=>exact⟨0,by omega,rfl,oh (by simp),zA.refl _ _⟩
 case round =>
  obtain⟨k,hkm,rfl,HZ,hm⟩:=hrel;by_cases hlt:k<l.length
  .obtain⟨b,off,rfl,hb,hF,hc⟩:=Sl.at hee hm (λ_ _ f=>f.elim) k hlt;have c0:=hc 0 _ rfl;simp only[uS,uY] at c0;have hkb:=zI hm hk;have HM:=oh hm;have HEE:=oh hee;have HK:=oh hk;clear hc hee hk hm;go_wp2_with fail;refine (zIq kb l[k] key hkb).mono ?_;rintro x w1 ⟨rfl,hm1⟩;have HM1:Hid (zF w w1):=oh (HM.out.trans hm1);clear hm1 hkb;cases ht:leS l[k] key
   .have HT:=oh ht;clear ht;go_wp2_with fail;go_ret;exact⟨by rw[zDo hlt HZ.out (by rw[HT.out];rfl)];rfl,HM1.out⟩
   .have HT:=oh ht;clear ht;go_wp2_with fail;go_roundg (gk-1)
    case measure=>omega
    case rel=>exact⟨k+1,by omega,by go_num,oh (λx hx=>by
     rw[vB l k l[k] (by simp[hlt])] at hx;rcases wM.1 hx with h|h
     .exact HZ.out x h
     .rw[tF.1 h,HT.out];rfl),HM1.out⟩
  .have hke:k=l.length:=by omega
   go_wp2_with fail;go_ret;exact⟨by rw[zEX (by have:=HZ.out;rwa [hke,wX] at this)];rfl,hm⟩
theorem zLo(a b:ByteArray):(a.toList == b.toList)=decide (a=b):=by
 by_cases h:a=b
 .rw[h];simp
 .rw[uX h,uO];intro e;rw[ByteArray.toList_eq,ByteArray.toList_eq] at e;exact h (rO (Array.toList_inj.1 e))
def jD(n:zK)(key:ByteArray):Nat × Bool :=
 if n.leaf then
  let i:=n.entries.findIdx λe=>!ltS e.key key
  (i,match n.entries[i]? with|some e=>decide (e.key=key)|none=>false)
 else (n.keys.findIdx λk=>!leS k key,false)
theorem zBl(n:zK)(key:ByteArray)(ve vk vi:Value)(hve:Sl F w 4 zAA ve n.entries)(hvk:Sl F w 1 zBP vk n.keys) :
  Calls Tryz.prog 181 #[.agg #[.bool n.leaf,ve,vk,vi],.string key] w λx w'=>x=.returned (.tuple #[.int .i64 ((jD n key).1:Nat),.bool (jD n key).2])/\zF w w':=by
 have m0:zF w ((w.alloc (.cells #[.bool n.leaf,ve,vk,vi] 277)).alloc (.cells #[.string key] 9)):=((zss w).alloc _).alloc _;have HE:=oh (hve.ext m0);have HK:=oh (hvk.ext m0);have M0:=oh m0;clear hve hvk m0;cases hleaf:n.leaf
 .have HR:Hid (jD n key=(n.keys.findIdx λk=>!leS k key,false)):=oh (by unfold jD;rw[hleaf];rfl);rw[hleaf] at HE HK M0;clear hleaf
  go_enter Tryz.func181, Tryz.ntmps181
  go_wp2_with fail;refine (zHT (w.heap.size+1) key (by go_cell) vk n.keys HK.out).mono ?_;rintro x w1 ⟨rfl,hm1⟩;have HM1:=oh (M0.out.trans hm1);clear hm1;go_wp2_with fail;go_ret2
  exact⟨by rw[HR.out];rfl,HM1.out⟩
 .rw[hleaf] at HE HK M0;have HL:=oh hleaf;clear hleaf;obtain⟨q,hq⟩:∃q,q=n.entries.findIdx λe=>!ltS e.key key:=⟨_,rfl⟩
  have HR:Hid (jD n key=(q,match n.entries[q]? with|some e=>decide (e.key=key)|none=>false)):=oh (by unfold jD;rw[HL.out,hq];rfl);have HQ:=oh hq;clear hq;obtain⟨ae,ce,rfl,he1,he2,he3,hee⟩:=_root_.id HE.out;have HEE:=oh hee;clear hee;by_cases hlt:q<n.entries.length
  .go_enter Tryz.func181, Tryz.ntmps181
   go_wp2_with fail;refine (zEY (w.heap.size+1) key (by go_cell) _ n.entries HE.out).mono ?_;rintro x w1 ⟨rfl,hm1⟩;rw[<- HQ.out];have HM1:=oh (M0.out.trans hm1);obtain⟨b,off,rfl,hb,hF,hc⟩:=Sl.at HEE.out hm1 (λ_ _ f=>f.elim) q hlt;have c0:=hc 0 _ rfl;simp only[uS] at c0;have x1:w1.cell? ⟨w.heap.size,1,none⟩=some (.slice (some ⟨b,off,none⟩) n.entries.length ce):=zI hm1 (by go_cell);have x2:w1.cell? ⟨w.heap.size+1,0,none⟩=some (.string key):=zI hm1 (by go_cell);have hd:decide ((q:Int)<(n.entries.length:Int))=true:=uU (by omega);have HG:Hid (n.entries[q]? = some n.entries[q]):=oh (uA hlt);clear hm1 hc;go_wp2_with fail;go_quiet (fail)
   go_wp2_with fail;go_ret2
   exact⟨by rw[zLo,HR.out,HG.out];rfl,HM1.out.drewN _⟩
  .go_enter Tryz.func181, Tryz.ntmps181
   go_wp2_with fail;refine (zEY (w.heap.size+1) key (by go_cell) _ n.entries HE.out).mono ?_;rintro x w1 ⟨rfl,hm1⟩;rw[<- HQ.out];have HM1:=oh (M0.out.trans hm1);have x1:w1.cell? ⟨w.heap.size,1,none⟩=some (.slice ae n.entries.length ce):=zI hm1 (by go_cell);have hd:decide ((q:Int)<(n.entries.length:Int))=false:=uX (by omega);have HG:Hid (n.entries[q]? = none):=oh (wT (by omega));clear hm1;go_wp2_with fail;go_quiet (fail)
   go_wp2_with fail;go_ret2
   exact⟨by rw[HR.out,HG.out];rfl,HM1.out.drewN _⟩
end
end
section
theorem zJ3(a b:ByteArray):(!leS a b)=ltS b a:=by
 cases h:ltS b a with
 | true =>
  rw[Bool.not_eq_true',<- tY];intro e;rcases (zHz a b).1 e with k|k
  .rw[zIU h] at k;cases k
  .rw[k,zCh] at h;cases h
 | false =>
  rw[Bool.not_eq_false',zHz];exact (zFi h).imp id Eq.symm
theorem zBm{n:zK}(h:n.leaf=true)(key:ByteArray):jD n key=(zBJ key n.entries,zEJ key n.entries):=by
 unfold jD;rw[h];rfl
theorem zCG{n:zK}(h:n.leaf=false)(key:ByteArray):jD n key=(zBI key n.keys,false):=by
 have e:(λk=>!leS k key)=λs=>ltS key s:=by funext s;exact zJ3 s key
 unfold jD zBI;rw[h,e];rfl
end
section
open Go.RowKit
attribute [local go_sem ↓] Go.wp_at_zero Go.wp_at_succ
theorem zCq:∀{l:List ByteArray},qV l=true ↔ ∀(i:Nat) (a b:ByteArray),l[i]? = some a->l[i+1]? = some b->ltS a b=true
 | []=>by simp[qV]
 | [_]=>by simp[qV]
 | x :: y :: l=>by
  rw[qV,uF,zCq (l:=y :: l)];constructor
  .rintro⟨h1,h2⟩ i a b ha hb;cases i with
   | zero=>simp at ha hb;subst ha hb;exact h1
   | succ i=>exact h2 i a b (by simpa using ha) (by simpa using hb)
  .intro h;exact⟨h 0 x y rfl rfl,λi a b ha hb=>h (i+1) a b (by simpa using ha) (by simpa using hb)⟩
def zJ4(l:List ByteArray)(k:Nat):Prop:=∀(i:Nat) (a b:ByteArray),i+1<k->l[i]? = some a->l[i+1]? = some b->ltS a b=true
theorem zGh{l:List ByteArray}{k:Nat}(h:zJ4 l k)(hk:l.length<=k):qV l=true :=
 zCq.2 λi a b ha hb=>h i a b (by have:=(uB.1 hb).1;omega) ha hb
theorem zFM{l:List ByteArray}{k:Nat}{a b:ByteArray}(h:zJ4 l (k+1))(ha:l[k]? = some a)(hb:l[k+1]? = some b)(hl:leS b a=false):zJ4 l (k+2):=by
 intro i x y hi hx hy;by_cases e:i=k
 .subst e;rw[ha] at hx;rw[hb] at hy;injection hx with hx;injection hy with hy;subst hx hy;have:=zJ3 b a;rw[hl] at this;exact this.symm
 .exact h i x y (by omega) hx hy
theorem zEZ{l:List ByteArray}{k:Nat}{a b:ByteArray}(ha:l[k]? = some a)(hb:l[k+1]? = some b)(hl:leS b a=true):qV l=false:=by
 rw[<- tY];intro h;have h1:=zCq.1 h k a b ha hb;have:=zJ3 b a;rw[hl,h1] at this;cases this
section
variable {F:NP}{ad:Nat->Addr}{w w':World}
theorem zCH(n:Int)(w:World) : Calls Tryz.prog 383 #[.int .i64 n] w λe w'=>e=.returned (.bool (zA9 n))/\w=w':=by
 by_cases h1:2<=n
 all_goals
  have h2:=oh h1
  go_enter Tryz.func383, Tryz.ntmps383
  go_wp2
  go_ret;exact⟨zO (by have:=h2.out;simp only[zA9];first|(rw[uU this];simp)|(rw[uX (by omega)];simp)),rfl⟩
theorem zHU(e:zS)(w:World) : Calls Tryz.prog 380 #[.agg #[.string e.key,.string e.value,.int .i64 e.chain,.int .i64 e.size]] w λx w'=>x=.returned (.bool (vI e))/\zF w w':=by
 have M0:Hid (zF w (w.alloc (.cells #[.string e.key,.string e.value,.int .i64 e.chain,.int .i64 e.size] 289))):=oh ((zss w).alloc _);cases hk:zAK e.key with
 | false =>
  have HR:Hid (vI e=false):=oh (by unfold vI;rw[hk];rfl)
  go_enter Tryz.func380, Tryz.ntmps380
  go_wp2_with fail;refine (jT _ _).mono ?_;rintro x w1 ⟨rfl,rfl⟩;rw[hk];go_wp2_with fail;go_ret;exact⟨zO HR.out.symm,M0.out⟩
 | true =>
  by_cases hz:e.chain=0
  .have hzb:(e.chain == 0)=true:=tL.2 hz;have HR:Hid (vI e=(decide (e.size=0) && decide (e.value.size<=24))):=oh (by unfold vI;rw[hk,if_pos hz];rfl);clear hz;by_cases hs:e.size=0
   .have hsb:(e.size == 0)=true:=tL.2 hs;have HS:=oh hs;clear hs;by_cases hv:(e.value.size:Int)<=24
    all_goals
     have HV:=oh hv
     go_enter Tryz.func380, Tryz.ntmps380
     go_wp2_with fail;refine (jT _ _).mono ?_;rintro x w1 ⟨rfl,rfl⟩;rw[hk];go_wp2_with fail;go_ret;exact⟨zO (by rw[HR.out,HS.out];have:=HV.out;first|(rw[uU (show e.value.size<=24 by omega)];simp;done)|(rw[uX (show ¬ e.value.size<=24 by omega)];simp;omega)),M0.out⟩
   .have hsb:(e.size == 0)=false:=uO.2 hs;have HS:=oh hs;clear hs
    go_enter Tryz.func380, Tryz.ntmps380
    go_wp2_with fail;refine (jT _ _).mono ?_;rintro x w1 ⟨rfl,rfl⟩;rw[hk];go_wp2_with fail;go_ret;exact⟨zO (by rw[HR.out,uX HS.out];rfl),M0.out⟩
  .have hzb:(e.chain == 0)=false:=uO.2 hz;have HR:Hid (vI e=(zA9 e.chain && decide (e.value.size=0) && decide (24<e.size) && decide (e.size<=4096))):=oh (by unfold vI;rw[hk,if_neg hz];rfl);clear hz;cases hkd:zA9 e.chain with
   | false =>
    rw[hkd] at HR
    go_enter Tryz.func380, Tryz.ntmps380
    go_wp2_with fail;refine (jT _ _).mono ?_;rintro x w1 ⟨rfl,rfl⟩;rw[hk];go_wp2_with fail;refine (zCH _ _).mono ?_;rintro x w1 ⟨rfl,rfl⟩;rw[hkd];go_wp2_with fail;go_ret;exact⟨zO (by rw[HR.out];rfl),M0.out⟩
   | true =>
    rw[hkd] at HR;have hve:(e.value.toList == [])=decide (e.value.size=0):=by
     rw[ByteArray.toList_eq];have:e.value.data.toList.length=e.value.size:=by rw[tD];rfl
     by_cases hv0:e.value.size=0
     .rw[uU hv0,wR (by omega:e.value.data.toList.length=0)];rfl
     .rw[uX hv0,uO];intro h;rw[h] at this;simp at this;omega
    by_cases hv0:e.value.size=0
    .have hv1:e.value=⟨#[]⟩:=rO (tQ hv0);rw[uU hv0] at HR;clear hve hv0;by_cases h24:24<e.size
     .rw[uU h24] at HR;by_cases h4:e.size<=4096
      all_goals
       have HV:=oh hv1;have HD:=oh h4;clear hv1
       go_enter Tryz.func380, Tryz.ntmps380
       go_wp2_with fail;refine (jT _ _).mono ?_;rintro x w1 ⟨rfl,rfl⟩;rw[hk];go_wp2_with fail;refine (zCH _ _).mono ?_;rintro x w1 ⟨rfl,rfl⟩;rw[hkd,HV.out];go_wp2_with fail;go_ret;exact⟨zO (by rw[HR.out];have:=HD.out;first|(rw[uU (show e.size<=4096 by omega)];rfl)|(rw[uX (show ¬ e.size<=4096 by omega)];rfl)),(zss w).alloc _⟩
     .rw[uX h24] at HR;have HV:=oh hv1;clear hv1
      go_enter Tryz.func380, Tryz.ntmps380
      go_wp2_with fail;refine (jT _ _).mono ?_;rintro x w1 ⟨rfl,rfl⟩;rw[hk];go_wp2_with fail;refine (zCH _ _).mono ?_;rintro x w1 ⟨rfl,rfl⟩;rw[hkd,HV.out];go_wp2_with fail;go_ret;exact⟨zO (by rw[HR.out];rfl),(zss w).alloc _⟩
    .rw[uX hv0] at hve HR;clear hv0
     go_enter Tryz.func380, Tryz.ntmps380
     go_wp2_with fail;refine (jT _ _).mono ?_;rintro x w1 ⟨rfl,rfl⟩;rw[hk];go_wp2_with fail;refine (zCH _ _).mono ?_;rintro x w1 ⟨rfl,rfl⟩;rw[hkd];go_wp2_with fail;go_ret;exact⟨zO (by rw[HR.out];rfl),M0.out⟩
theorem zFN(e:zS)(w:World) : Calls Tryz.prog 382 #[.agg #[.string e.key,.string e.value,.int .i64 e.chain,.int .i64 e.size]] w λx w'=>x=.returned (.string e.key)/\zF w w':=by
 go_enter Tryz.func382, Tryz.ntmps382
 go_wp2_with fail;go_ret;exact⟨rfl,(zss w).alloc _⟩
theorem zHV(k:ByteArray)(w:World) : Calls Tryz.prog 386 #[.string k] w λx w'=>x=.returned (.string k)/\w=w':=by
 go_enter Tryz.func386, Tryz.ntmps386
 go_wp2_with fail;go_ret;exact⟨rfl,rfl⟩
end
section
variable {F:NP}{ad:Nat->Addr}{w w':World}
theorem zGi(ve:Value)(l:List zS)(hve:Sl F w 4 zAA ve l) :
    Calls Tryz.prog 381 #[ve,.func (.func 382) #[] #[]] w λx w'=>x=.returned (.bool (qV (l.map (·.key))))/\zF w w':=by
  obtain⟨ae,ce,rfl,he1,he2,he3,hee⟩:=hve
  unfold maxLen at he2
  go_enter Tryz.func381, Tryz.ntmps381
  go_wp2_with fail
  go_loopg [5] l.length (λm i wr=>∃k:Nat,k+m=l.length/\i=.int .i64 ((k+1:Nat):Int)/\Hid (zJ4 (l.map (·.key)) (k+1))/\zF w wr)
  case atStart=>exact⟨0,by omega,rfl,oh (λi a b hi=>by omega),zA.refl _ _⟩
  case round =>
    obtain⟨k,hkm,rfl,HZ,hm⟩:=hrel
    by_cases hlt:k+1<l.length
    . obtain⟨b,off,rfl,hb,hF,hc⟩:=Sl.at hee hm (λ_ _ f=>f.elim) (k+1) hlt
      obtain⟨b',off',hbb,hb',hF',hd⟩:=Sl.at hee hm (λ_ _ f=>f.elim) k (by omega)
      injection hbb with hbb
      injection hbb with hbb1 hbb2
      subst hbb1 hbb2
      have c0:=hc 0 _ rfl
      simp only[uS] at c0
      have c1:=hc 1 _ rfl
      have c2:=hc 2 _ rfl
      have c3:=hc 3 _ rfl
      have d0:=hd 0 _ rfl
      simp only[uS] at d0
      have d1:=hd 1 _ rfl
      have d2:=hd 2 _ rfl
      have d3:=hd 3 _ rfl
      have HM:=oh hm
      have HEE:=oh hee
      clear hc hd hee hm
      have i1:(0:Int)<=(k:Int)+1:=by omega
      have i2:(k:Int)+1<(l.length:Int):=by omega
      have i3:(0:Int)<=(k:Int):=by omega
      have i4:(k:Int)<(l.length:Int):=by omega
      have hw1:IntKind.i64.wrap ((k:Int)+1-1)=(k:Int):=by rw[show (k:Int)+1-1=k by omega];exact IntWalk.i64_in _ (by omega)
      have hw2:IntKind.i64.wrap (k:Int)=(k:Int):=IntWalk.i64_in _ (by omega)
      go_wp2_with fail
      go_region_held3 (λw'=>w'.cell? ⟨b,off+(k+1) * 4,none⟩=some (.string l[k+1].key)/\w'.cell? ⟨b,off+(k+1) * 4+1,none⟩=some (.string l[k+1].value)/\w'.cell? ⟨b,off+(k+1) * 4+2,none⟩=some (.int .i64 l[k+1].chain)/\w'.cell? ⟨b,off+(k+1) * 4+3,none⟩=some (.int .i64 l[k+1].size) /\
          w'.cell? ⟨b,off+k * 4,none⟩=some (.string l[k].key)/\w'.cell? ⟨b,off+k * 4+1,none⟩=some (.string l[k].value)/\w'.cell? ⟨b,off+k * 4+2,none⟩=some (.int .i64 l[k].chain)/\w'.cell? ⟨b,off+k * 4+3,none⟩=some (.int .i64 l[k].size))
        (first|(with_reducible exact⟨x0,x1,x2,x3,y0,y1,y2,y3⟩)|go_keep)
        (first
          | (go_at_call 382;(with_reducible refine (zFN l[k+1] _).mono ?_);rintro x w1 ⟨rfl,hm1⟩;have x0:=zI hm1 c0;have x1:=zI hm1 c1;have x2:=zI hm1 c2;have x3:=zI hm1 c3;have y0:=zI hm1 d0;have y1:=zI hm1 d1;have y2:=zI hm1 d2;have y3:=zI hm1 d3)
          | (go_at_call 382;(with_reducible refine (zFN l[k] _).mono ?_);rintro x w2 ⟨rfl,hm2⟩;have hmm:=hm1.trans hm2;have x0:=zI hmm c0;have x1:=zI hmm c1;have x2:=zI hmm c2;have x3:=zI hmm c3;have y0:=zI hmm d0;have y1:=zI hmm d1;have y2:=zI hmm d2;have y3:=zI hmm d3)
          | fail)
      clear c0 c1 c2 c3 d0 d1 d2 d3 x0 x1 x2 x3 y0 y1 y2 y3
      have HM2:Hid (zF w w2):=oh (HM.out.drew.trans hmm)
      clear hm1 hm2 hmm
      have g0:(l.map (·.key))[k]? = some l[k].key:=by simp[uA (show k<l.length by omega)]
      have g1:(l.map (·.key))[k+1]? = some l[k+1].key:=by simp[uA hlt]
      have G0:=oh g0
      have G1:=oh g1
      clear g0 g1 hw1 hw2
      go_wp2_with fail
      all_goals rename_i hh
      all_goals have HT:=oh hh
      all_goals clear hh
      all_goals first
        | (go_ret
           exact⟨zO (zEZ G0.out G1.out (by unfold leS;have:=HT.out;simpa using this)).symm,HM2.out⟩)
        | (go_roundg (gk - 1)
           case measure => omega
           case rel=>exact⟨k+1,by omega,by go_num,oh (zFM HZ.out G0.out G1.out (by unfold leS;have:=HT.out;simpa using this)),HM2.out⟩)
    . have hke:l.length<=k+1:=by omega
      have HK:=oh hke
      go_wp2_with fail
      go_ret
      exact⟨zO (zGh HZ.out (by rw[wD];exact HK.out)).symm,hm⟩
theorem zGj(ve:Value)(l:List ByteArray)(hve:Sl F w 1 zBP ve l) :
    Calls Tryz.prog 385 #[ve,.func (.func 386) #[] #[]] w λx w'=>x=.returned (.bool (qV l))/\zF w w':=by
  obtain⟨ae,ce,rfl,he1,he2,he3,hee⟩:=hve
  unfold maxLen at he2
  go_enter Tryz.func385, Tryz.ntmps385
  go_wp2_with fail
  go_loopg [5] l.length (λm i wr=>∃k:Nat,k+m=l.length/\i=.int .i64 ((k+1:Nat):Int)/\Hid (zJ4 l (k+1))/\zF w wr)
  case atStart=>exact⟨0,by omega,rfl,oh (λi a b hi=>by omega),zA.refl _ _⟩
  case round =>
    obtain⟨k,hkm,rfl,HZ,hm⟩:=hrel
    by_cases hlt:k+1<l.length
    . obtain⟨b,off,rfl,hb,hF,hc⟩:=Sl.at hee hm (λ_ _ f=>f.elim) (k+1) hlt
      obtain⟨b',off',hbb,hb',hF',hd⟩:=Sl.at hee hm (λ_ _ f=>f.elim) k (by omega)
      injection hbb with hbb
      injection hbb with hbb1 hbb2
      subst hbb1 hbb2
      have c0:=hc 0 _ rfl
      simp only[uS,uY] at c0
      have d0:=hd 0 _ rfl
      simp only[uS,uY] at d0
      have HM:=oh hm
      have HEE:=oh hee
      clear hc hd hee hm
      have i1:(0:Int)<=(k:Int)+1:=by omega
      have i2:(k:Int)+1<(l.length:Int):=by omega
      have i3:(0:Int)<=(k:Int):=by omega
      have i4:(k:Int)<(l.length:Int):=by omega
      have hw1:IntKind.i64.wrap ((k:Int)+1-1)=(k:Int):=by rw[show (k:Int)+1-1=k by omega];exact IntWalk.i64_in _ (by omega)
      have hw2:IntKind.i64.wrap (k:Int)=(k:Int):=IntWalk.i64_in _ (by omega)
      go_wp2_with fail
      go_region_held3 (λw'=>w'.cell? ⟨b,off+(k+1),none⟩=some (.string l[k+1])/\w'.cell? ⟨b,off+k,none⟩=some (.string l[k]))
        (first|(with_reducible exact⟨c0,d0⟩)|go_keep)
        (first
          | (go_at_call 386;(with_reducible refine (zHV _ _).mono ?_);rintro x w1 ⟨rfl,rfl⟩)
          | fail)
      clear c0 d0
      have HM2:Hid (zF w wr.drew):=oh HM.out.drew
      have G0:Hid (l[k]? = some l[k]):=oh (uA (by omega))
      have G1:Hid (l[k+1]? = some l[k+1]):=oh (uA hlt)
      clear hw1 hw2
      go_wp2_with fail
      all_goals rename_i hh
      all_goals have HT:=oh hh
      all_goals clear hh
      all_goals first
        | (go_ret
           exact⟨zO (zEZ G0.out G1.out (by unfold leS;have:=HT.out;simpa using this)).symm,HM2.out⟩)
        | (go_roundg (gk - 1)
           case measure => omega
           case rel=>exact⟨k+1,by omega,by go_num,oh (zFM HZ.out G0.out G1.out (by unfold leS;have:=HT.out;simpa using this)),HM2.out⟩)
    . have hke:l.length<=k+1:=by omega
      have HK:=oh hke
      go_wp2_with fail
      go_ret
      exact⟨zO (zGh HZ.out HK.out).symm,hm⟩
end
end
section
open Go.RowKit
section
variable {F:NP}{ad:Nat->Addr}{w w':World}
theorem zEy{α:Type}{l:List α}{k:Nat}{x:α}(hk:k<l.length)(h:x ∉ l.take k)(hx:l[k]≠x):x ∉ l.take (k+1):=by
 rw[vB l k l[k] (by simp[hk])];intro hm;rcases wM.1 hm with h1|h1
 .exact h h1
 .exact hx (tF.1 h1).symm
def zME(l:List Int)(n:Int)(w:World)(e:Ending)(w':World):Prop:=∃i:Int,e=.returned (.int .i64 i)/\(n∈l/\0<=i\/n ∉ l/\i = -1)/\w=w'
theorem zHW(v:Value)(l:List Int)(n:Int)(hv:Sl F w 1 yX v l) : Calls Tryz.prog 387 #[v,.int .i64 n] w (zME l n w):=by
 obtain⟨a,c,rfl,h1,h2,h3,hc⟩:=hv;unfold maxLen at h2
 go_enter Tryz.func387, Tryz.ntmps387
 go_wp2_with fail;go_loopg [8] l.length (λm i wr=>∃k:Nat,k+m=l.length/\i=.int .i64 k/\Hid (n ∉ l.take k)/\w=wr)
 case atStart=>exact⟨0,by omega,rfl,oh (by simp),rfl⟩
 case round =>
  obtain⟨k,hkm,rfl,HZ,rfl⟩:=hrel;by_cases hlt:k<l.length
  .obtain⟨b,off,rfl,hb,hF,hd⟩:=Sl.at hc (zA.refl (λ_=>False) w) (λ_ _ f=>f.elim) k hlt;have c0:=hd 0 _ rfl;simp only[uS,uY] at c0;clear hd;by_cases hn:l[k]=n
   .have hn1:(n == l[k])=true:=by rw[hn];simp
    have HN:=oh hn;clear hn;go_wp2_with fail;go_ret;exact⟨(k:Int),rfl,.inl ⟨by rw[<- HN.out];exact tX hlt,by omega⟩,rfl⟩
   .have hn1:(n == l[k])=false:=uO.2 (λh=>hn h.symm);have HN:=oh hn;clear hn;go_wp2_with fail;go_roundg (gk-1)
    case measure=>omega
    case rel=>exact⟨k+1,by omega,by go_num,oh (zEy hlt HZ.out HN.out),rfl⟩
  .have hke:k=l.length:=by omega
   go_wp2_with fail;go_ret;exact⟨-1,rfl,.inr ⟨by have:=HZ.out;rwa [hke,wX] at this,rfl⟩,rfl⟩
theorem zEz(v:Value)(l:List Int)(n:Int)(hv:Sl F w 1 yX v l) : Calls Tryz.prog 384 #[v,.int .i64 n] w λe w'=>e=.returned (.bool (decide (n∈l)))/\w=w':=by
 have HV:=oh hv;clear hv
 go_enter Tryz.func384, Tryz.ntmps384
 go_wp2_with fail;refine (zHW v l n HV.out).mono ?_;rintro e w1 ⟨i,rfl,⟨hm,hi⟩|⟨hm,rfl⟩,rfl⟩
 .have HM:=oh hm;clear hm;go_wp2_with fail;go_ret;exact⟨zO (by rw[uU HM.out]),rfl⟩
 .have HM:=oh hm;clear hm;go_wp2_with fail;go_ret;exact⟨zO (by rw[uX HM.out]),rfl⟩
end
def zDF(n:zK):Bool:=n.entries.all vI && (n.keys.isEmpty && n.kids.isEmpty) && qV (n.entries.map (·.key))
def zBn(n:zK):Bool:=n.entries.isEmpty && decide (2<=n.kids.length) && decide (n.kids.length=n.keys.length+1) && decide (n.kids.length<=256) && n.kids.all zA9 && decide n.kids.Nodup && n.keys.all zAK && qV n.keys
theorem zCr{n:zK}(h:n.leaf=true):zY n=(zDF n && decide (n.entries.length<=65535)):=by
 unfold zY zDF;rw[if_pos h];simp only[Bool.and_assoc]
theorem zAi{n:zK}(h:n.leaf=false):zY n=zBn n:=by
 unfold zY zBn;rw[if_neg (by rw[h];simp)]
theorem zEa{α:Type}{p:α->Bool}{l:List α}{k:Nat}(hk:k<l.length)(h:∀x∈l.take k,p x=true)(hp:p l[k]=true):∀x∈l.take (k+1),p x=true:=by
 intro x hx;rw[vB l k l[k] (by simp[hk])] at hx;rcases wM.1 hx with h1|h1
 .exact h x h1
 .rw[tF.1 h1];exact hp
theorem zEb{α:Type}{p:α->Bool}{l:List α}{k:Nat}(hk:k=l.length)(h:∀x∈l.take k,p x=true):l.all p=true:=by
 rw[hk,wX] at h;exact wO.2 h
theorem zFt{α:Type}{p:α->Bool}{l:List α}{k:Nat}(hk:k<l.length)(hp:p l[k]=false):l.all p=false:=by
 rw[<- tY,wO];intro h;have:=h l[k] (tX hk);rw[hp] at this;cases this
theorem Sl.pre{α:Type}{F:NP}{w:World}{sz:Nat}{enc:α->List Value}{a:Option Addr}{n cap:Nat}{l:List α}(h:Sl F w sz enc (.slice a n cap) l)(k:Nat)(hk:k<=l.length):Sl F w sz enc (.slice a k cap) (l.take k):=by
 obtain⟨a',cap',e,h1,h2,h3,h4⟩:=h;injection e with e1 e2 e3;subst e1 e3;have hl:(l.take k).length=k:=by simp;omega
 refine⟨a,cap,by rw[hl],by omega,h2,by omega,?_⟩;rcases h4 with rfl|⟨b,off,rfl,hb,hF,hc⟩
 .exact .inl (by simp)
 .exact .inr ⟨b,off,rfl,hb,hF,λi x hi j u hu=>hc i x (by
   rw[List.getElem?_take] at hi;split at hi
   .exact hi
   .cases hi) j u hu⟩
section
variable {F:NP}{ad:Nat->Addr}{w w':World}
theorem zIr(n:zK)(ve vk vi:Value)(hve:Sl F w 4 zAA ve n.entries)(hvk:Sl F w 1 zBP vk n.keys)(hvi:Sl F w 1 yX vi n.kids) :
  Calls Tryz.prog 374 #[.agg #[.bool n.leaf,ve,vk,vi]] w λe w'=>e=.returned (.bool (zDF n))/\zF w w':=by
 have HVE:=oh hve;obtain⟨ae,ce,rfl,he1,he2,he3,hee⟩:=hve;obtain⟨ak,ck,rfl,hk1,hk2,hk3,hkk⟩:=hvk;obtain⟨ai,ci,rfl,hi1,hi2,hi3,hii⟩:=hvi;unfold maxLen at he2 hk2 hi2;clear hkk hii;generalize hlf:n.leaf=lf
 clear hlf
 go_enter Tryz.func374, Tryz.ntmps374
 go_wp2_with fail;go_loopg [8] n.entries.length (λm i wr=>∃k:Nat,k+m=n.entries.length/\i=.int .i64 k/\Hid (∀x∈n.entries.take k,vI x=true)/\zF w wr/\wr.cell? ⟨w.heap.size,1,none⟩=some (.slice ae n.entries.length ce)/\wr.cell? ⟨w.heap.size,2,none⟩=some (.slice ak n.keys.length ck)/\wr.cell? ⟨w.heap.size,3,none⟩=some (.slice ai n.kids.length ci))
 case atStart=>exact⟨0,by omega,rfl,oh (by simp),zr.alloc _,by go_cell,by go_cell,by go_cell⟩
 case round =>
  obtain⟨k,hkm,rfl,HZ,hm,b1,b2,b3⟩:=hrel;by_cases hlt:k<n.entries.length
  .obtain⟨b,off,rfl,hb,hF,hc⟩:=Sl.at hee hm (λ_ _ f=>f.elim) k hlt;have c0:=hc 0 _ rfl;simp only[uS] at c0;have c1:=hc 1 _ rfl;have c2:=hc 2 _ rfl;have c3:=hc 3 _ rfl;have HM:=oh hm;have HEE:=oh hee;clear hc hee hm;go_wp2_with fail;refine (zHU n.entries[k] _).mono ?_;rintro x w1 ⟨rfl,hm1⟩;have hz1:=zI hm1 (qC b1 _);have hz2:=zI hm1 (qC b2 _);have hz3:=zI hm1 (qC b3 _);have HM1:Hid (zF w w1):=oh ((HM.out.alloc _).trans hm1);clear hm1 c0 c1 c2 c3 b1 b2 b3;cases ht:vI n.entries[k]
   .have HT:=oh ht;clear ht;go_wp2_with fail;go_ret;exact⟨zO (by unfold zDF;rw[zFt hlt HT.out];rfl),HM1.out⟩
   .have HT:=oh ht;clear ht;go_wp2_with fail;go_roundg (gk-1)
    case measure=>omega
    case rel=>exact⟨k+1,by omega,by go_num,oh (zEa hlt HZ.out HT.out),HM1.out,hz1,hz2,hz3⟩
  .have hke:k=n.entries.length:=by omega
   have HA:Hid (n.entries.all vI=true):=oh (zEb hke HZ.out);have HM:=oh hm;have HVE1:=oh (HVE.out.ext hm);clear HZ hke hee hm;by_cases hz:n.keys.length=0/\n.kids.length=0
   .have hd:((n.keys.length:Int)+(n.kids.length:Int) == 0)=true:=by rw[tL];omega
    have HZ:=oh hz;clear hz;go_wp2_with fail;refine (zGi _ _ HVE1.out).mono ?_;rintro x w1 ⟨rfl,hm1⟩;have HM1:=oh (HM.out.trans hm1);clear hm1;go_wp2_with fail;go_ret;exact⟨zO (by
     unfold zDF;rw[HA.out,wN.2 (wR HZ.out.1),wN.2 (wR HZ.out.2)];rfl),HM1.out⟩
   .have hd:((n.keys.length:Int)+(n.kids.length:Int) == 0)=false:=by rw[uO];omega
    have HZ:=oh hz;clear hz;go_wp2_with fail;go_ret;exact⟨zO (by
     unfold zDF;have:(n.keys.isEmpty && n.kids.isEmpty)=false:=by
      rw[<- tY,uF,wN,wN];rintro⟨a,b⟩;exact HZ.out ⟨by rw[a];rfl,by rw[b];rfl⟩
     rw[this];simp),HM.out⟩
end
def zEc(n:zK):Bool:=n.entries.isEmpty && decide (2<=n.kids.length) && decide (n.kids.length=n.keys.length+1) && decide (n.kids.length<=256)
theorem zAU(n:zK):zBn n=(zEc n && (n.kids.all zA9 && decide n.kids.Nodup) && n.keys.all zAK && qV n.keys):=by
 unfold zBn zEc;simp only[Bool.and_assoc]
theorem zBo(n:zK):zEc n=true ↔ n.entries.length=0/\2<=n.kids.length/\n.kids.length=n.keys.length+1/\n.kids.length<=256:=by
 unfold zEc;simp only[uF,uM,wN,List.length_eq_zero_iff,and_assoc]
theorem zHX{l:List Int}{k:Nat}(hk:k<l.length)(h:(l.take k).Nodup)(hn:l[k] ∉ l.take k):(l.take (k+1)).Nodup:=by
 rw[vB l k l[k] (by simp[hk])];rw[tU];refine⟨h,by simp,λa ha b hb e=>?_⟩;rw[tF.1 hb] at e;rw[e] at ha;exact hn ha
theorem zIs{l:List Int}{k:Nat}(hk:k<l.length)(hn:l[k]∈l.take k):¬ l.Nodup:=by
 intro h;obtain⟨i,hi,e⟩:=uR hn;rw[List.getElem_take] at e;have hik:i<k:=by simp at hi;omega
 exact tO.1 h i k (by omega) hk hik e
section
variable {F:NP}{ad:Nat->Addr}{w w':World}
theorem zHY(n:zK)(ve vk vi:Value)(hve:Sl F w 4 zAA ve n.entries)(hvk:Sl F w 1 zBP vk n.keys)(hvi:Sl F w 1 yX vi n.kids) :
  Calls Tryz.prog 375 #[.agg #[.bool n.leaf,ve,vk,vi]] w λe w'=>e=.returned (.bool (zBn n))/\zF w w':=by
 have HVI:=oh hvi;have HVK:=oh hvk;obtain⟨ae,ce,rfl,he1,he2,he3,hee⟩:=hve;obtain⟨ak,ck,rfl,hk1,hk2,hk3,hkk⟩:=hvk;obtain⟨ai,ci,rfl,hi1,hi2,hi3,hii⟩:=hvi;unfold maxLen at he2 hk2 hi2;clear hee;generalize hlf:n.leaf=lf
 clear hlf;cases hh:zEc n with
 | false =>
  have HR:Hid (zBn n=false):=oh (by rw[zAU,hh];rfl);have hn:¬ (n.entries.length=0/\2<=n.kids.length/\n.kids.length=n.keys.length+1/\n.kids.length<=256):=λh=>by rw[(zBo n).2 h] at hh;cases hh
  clear hh hkk hii HVI HVK;generalize n.entries.length=N1 at *
  generalize n.kids.length=N2 at *
  generalize n.keys.length=N3 at *
  by_cases h1:(0:Int)<(N1:Int)
  .clear hn
   go_enter Tryz.func375, Tryz.ntmps375
   go_wp2_with fail;go_ret;exact⟨zO HR.out.symm,(zss w).alloc _⟩
  .by_cases h2:(N2:Int)<2
   .clear hn
    go_enter Tryz.func375, Tryz.ntmps375
    go_wp2_with fail;go_ret;exact⟨zO HR.out.symm,(zss w).alloc _⟩
   .by_cases h3:N2=N3+1
    .subst h3;have h4:(256:Int)<(N3:Int)+1:=by omega
     clear hn
     go_enter Tryz.func375, Tryz.ntmps375
     go_wp2_with fail;go_ret;exact⟨zO HR.out.symm,(zss w).alloc _⟩
    .have h5:((N2:Int) != (N3:Int)+1)=true:=by rw[bne_iff_ne];omega
     clear hn h3
     go_enter Tryz.func375, Tryz.ntmps375
     go_wp2_with fail;go_ret;exact⟨zO HR.out.symm,(zss w).alloc _⟩
 | true =>
  have HR:Hid (zBn n=((n.kids.all zA9 && decide n.kids.Nodup) && n.keys.all zAK && qV n.keys)):=oh (by rw[zAU,hh,Bool.true_and]);obtain⟨g1,g2,g3,g4⟩:=(zBo n).1 hh;rw[g3] at hi1 hi3 g2 g4;rw[g1,g3];have HG3:=oh g3;have h2:¬ (n.keys.length:Int)+1<2:=by omega
  have h4:¬ (256:Int)<(n.keys.length:Int)+1:=by omega
  clear hh g1 g3
  go_enter Tryz.func375, Tryz.ntmps375
  go_wp2_with fail;go_loopg [36] (n.keys.length+1) (λm i wr=>∃k:Nat,k+m=n.keys.length+1/\i=.int .i64 k/\Hid ((∀x∈n.kids.take k,zA9 x=true)/\(n.kids.take k).Nodup)/\zF w wr/\wr.cell? ⟨w.heap.size,2,none⟩=some (.slice ak n.keys.length ck)/\wr.cell? ⟨w.heap.size,3,none⟩=some (.slice ai (n.keys.length+1) ci))
  case atStart=>exact⟨0,by omega,rfl,oh ⟨by simp,by simp⟩,zr.alloc _,by go_cell,by go_cell⟩
  case round =>
   obtain⟨k,hkm,rfl,HZ,hm,b2,b3⟩:=hrel;by_cases hlt1:k<n.keys.length+1
   .have hlt:k<n.kids.length:=by rw[HG3.out];exact hlt1
    obtain⟨b,off,rfl,hb,hF,hc⟩:=Sl.at hii hm (λ_ _ f=>f.elim) k hlt;have c0:=hc 0 _ rfl;simp only[uS,uY] at c0;have HM:=oh hm;have HII:=oh hii;have HKK:=oh hkk;have HP:=oh ((HVI.out.ext hm).pre k (by rw[HG3.out];omega));have HLT:=oh hlt;generalize hkx:n.kids[k]=kx at c0
    have HKX:=oh hkx;clear hkx;clear hc hlt hii hm hkk;go_wp2_with fail;refine (zCH kx _).mono ?_;rintro x w1 ⟨rfl,rfl⟩;cases ht:zA9 kx
    .have HT:=oh ht;clear ht;go_wp2_with fail;go_ret;exact⟨zO (by rw[HR.out,zFt HLT.out ((congrArg zA9 HKX.out).trans HT.out)];rfl),HM.out⟩
    .have HT:=oh ht;clear ht;go_wp2_with fail;refine (zEz _ _ kx HP.out).mono ?_;rintro x w1 ⟨rfl,rfl⟩;by_cases hc:kx∈n.kids.take k
     .have HC:=oh hc;rw[uU hc];clear hc;go_wp2_with fail;go_ret;exact⟨zO (by rw[HR.out,uX (zIs HLT.out (HKX.out ▸ HC.out))];simp),HM.out⟩
     .have HC:=oh hc;rw[uX hc];clear hc;go_wp2_with fail;go_roundg (gk-1)
      case measure=>omega
      case rel=>exact⟨k+1,by omega,by go_num,oh ⟨zEa HLT.out HZ.out.1 ((congrArg zA9 HKX.out).trans HT.out),zHX HLT.out HZ.out.2 (HKX.out ▸ HC.out)⟩,HM.out,b2,b3⟩
   .have hke:k=n.kids.length:=by rw[HG3.out];omega
    have HA:Hid ((n.kids.all zA9 && decide n.kids.Nodup)=true):=oh (by
     rw[zEb hke HZ.out.1];have:=HZ.out.2;rw[hke,wX] at this;rw[uU this];rfl)
    have HM:=oh hm;clear hii HZ hke hm hkm;go_wp2_with fail;have hm:=HM.out;clear HM;obtain⟨wo,rfl⟩:∃wo:World,wo=wr:=⟨_,rfl⟩;go_loopg [56] n.keys.length (λm i wr=>∃k:Nat,k+m=n.keys.length/\i=.int .i64 k/\Hid (∀x∈n.keys.take k,zAK x=true)/\zF w wr/\wr.cell? ⟨w.heap.size,2,none⟩=some (.slice ak n.keys.length ck))
    case atStart=>exact⟨0,by omega,rfl,oh (by simp),hm,b2⟩
    case round =>
     obtain⟨k,hkm,rfl,HZ,hm,b2⟩:=hrel;by_cases hlt:k<n.keys.length
     .obtain⟨b,off,rfl,hb,hF,hc⟩:=Sl.at hkk hm (λ_ _ f=>f.elim) k hlt;have c0:=hc 0 _ rfl;simp only[uS,uY] at c0;have HM:=oh hm;have HKK:=oh hkk;clear hc hkk hm;go_wp2_with fail;refine (jT n.keys[k] _).mono ?_;rintro x w1 ⟨rfl,rfl⟩;cases ht:zAK n.keys[k]
      .have HT:=oh ht;clear ht;go_wp2_with fail;go_ret;exact⟨zO (by rw[HR.out,zFt hlt HT.out];simp),HM.out⟩
      .have HT:=oh ht;clear ht;go_wp2_with fail;go_roundg (gk-1)
       case measure=>omega
       case rel=>exact⟨k+1,by omega,by go_num,oh (zEa hlt HZ.out HT.out),HM.out,b2⟩
     .have hke:k=n.keys.length:=by omega
      have HB:Hid (n.keys.all zAK=true):=oh (zEb hke HZ.out);have HM:=oh hm;have HVK1:=oh (HVK.out.ext hm);clear HZ hke hm hkk;go_wp2_with fail;refine (zGj _ _ HVK1.out).mono ?_;rintro x w1 ⟨rfl,hm1⟩;have HM1:=oh (HM.out.trans hm1);clear hm1;go_wp2_with fail;go_ret;exact⟨zO (by rw[HR.out,HA.out,HB.out];rfl),HM1.out⟩
end
def zCs(n:zK):Option Err:=if zY n=true then none else some ([-1],1)
section
variable {F:NP}{ad:Nat->Addr}{w w':World}
theorem zE0(hL:zZ F ad w)(n:zK)(ve vk vi:Value)(hve:Sl F w 4 zAA ve n.entries)(hvk:Sl F w 1 zBP vk n.keys)(hvi:Sl F w 1 yX vi n.kids) :
  Calls Tryz.prog 337 #[.agg #[.bool n.leaf,ve,vk,vi]] w λe w'=>∃ev,e=.returned ev/\zAB F ad w' ev (zCs n)/\zF w w':=by
 have m0:zF w (w.alloc (.cells #[.bool n.leaf,ve,vk,vi] 277)):=(zss w).alloc _;have HB0:=oh (zJ.new w #[.bool n.leaf,ve,vk,vi] 277);have HVE:=oh (hve.ext m0);have HVK:=oh (hvk.ext m0);have HVI:=oh (hvi.ext m0);have HL:=oh (hL.mods m0.ext);have HM0:=oh m0;have HN1:Hid (∀w1,zF w w1->zZ F ad w1):=oh (λw1 h=>hL.mods h.ext);obtain⟨ae,ce,rfl,he1,he2,he3,_⟩:=hve;clear hvk hvi hL m0;unfold maxLen at he2;cases hlf:n.leaf
 .have HR:Hid (zCs n=if zBn n=true then none else some ([-1],1)):=oh (by unfold zCs;rw[zAi hlf]);rw[hlf] at HB0 HVE HVK HVI HM0 HL;have HCI:=oh (zHY n _ _ _ HVE.out HVK.out HVI.out);rw[hlf] at HCI;clear hlf
  go_enter Tryz.func337, Tryz.ntmps337
  go_wp2_with fail;refine (HCI.out).mono ?_;rintro e w1 ⟨rfl,hm1⟩;have hB1:=HB0.out.ext hm1;have b0:=hB1.d 0 (.bool false) rfl;have b1:=hB1.d 1 (.slice ae n.entries.length ce) rfl;have HM1:=oh (HM0.out.trans hm1);have hL1:=HN1.out _ HM1.out;have g1:=hL1.c1;have HL1:=oh hL1;clear hm1 hB1 hL1;cases hin:zBn n
  .rw[hin,if_neg (by simp)] at HR;go_wp2_with fail;refine (yD HL1.out _ _ [] 1 (.sent 1 (by decide) (by decide))).mono ?_;rintro e w2 ⟨f,rfl,hE,hm2⟩;have HE:=oh hE;have HM2:=oh (HM1.out.trans hm2);clear hE hm2;go_wp2_with fail;go_ret;exact⟨_,rfl,by rw[HR.out];exact⟨f,rfl,HE.out⟩,HM2.out⟩
  .rw[hin,if_pos rfl] at HR;have hz:n.entries.length=0:=by
    rw[zAU] at hin;simp only[uF] at hin;exact ((zBo n).1 hin.1.1.1).1
   rw[hz] at b1;clear hin hz;go_wp2_with fail;go_ret;exact⟨_,rfl,by rw[HR.out];rfl,HM1.out⟩
 .have HR:Hid (zCs n=if (zDF n && decide (n.entries.length<=65535))=true then none else some ([-1],1)):=oh (by unfold zCs;rw[zCr hlf]);rw[hlf] at HB0 HVE HVK HVI HM0 HL;have HCI:=oh (zIr n _ _ _ HVE.out HVK.out HVI.out);rw[hlf] at HCI;clear hlf
  go_enter Tryz.func337, Tryz.ntmps337
  go_wp2_with fail;refine (HCI.out).mono ?_;rintro e w1 ⟨rfl,hm1⟩;have hB1:=HB0.out.ext hm1;have b0:=hB1.d 0 (.bool true) rfl;have b1:=hB1.d 1 (.slice ae n.entries.length ce) rfl;have HM1:=oh (HM0.out.trans hm1);have hL1:=HN1.out _ HM1.out;have g1:=hL1.c1;have HL1:=oh hL1;clear hm1 hB1 hL1;cases hin:zDF n
  .rw[hin,Bool.false_and,if_neg (by simp)] at HR;clear hin;go_wp2_with fail;refine (yD HL1.out _ _ [] 1 (.sent 1 (by decide) (by decide))).mono ?_;rintro e w2 ⟨f,rfl,hE,hm2⟩;have HE:=oh hE;have HM2:=oh (HM1.out.trans hm2);clear hE hm2;go_wp2_with fail;go_ret;exact⟨_,rfl,by rw[HR.out];exact⟨f,rfl,HE.out⟩,HM2.out⟩
  .rw[hin,Bool.true_and] at HR;clear hin;by_cases hl:(65535:Int)<(n.entries.length:Int)
   .rw[uX (by omega),if_neg (by simp)] at HR;go_wp2_with fail;refine (yD HL1.out _ _ [] 1 (.sent 1 (by decide) (by decide))).mono ?_;rintro e w2 ⟨f,rfl,hE,hm2⟩;have HE:=oh hE;have HM2:=oh (HM1.out.trans hm2);clear hE hm2;go_wp2_with fail;go_ret;exact⟨_,rfl,by rw[HR.out];exact⟨f,rfl,HE.out⟩,HM2.out⟩
   .rw[uU (by omega),if_pos rfl] at HR;go_wp2_with fail;go_ret;exact⟨_,rfl,by rw[HR.out];rfl,HM1.out⟩
end
end
section
open Go.RowKit
attribute [local go_sem ↓] Go.wp_at_zero Go.wp_at_succ
theorem zCX{α:Type}(f:α->List UInt8)(l:List α)(k:Nat):((l.take k).flatMap f).length<=(l.flatMap f).length:=by
 have h:l.flatMap f=(l.take k).flatMap f++(l.drop k).flatMap f:=by rw[<- tE,wS]
 rw[h,uC];omega
def jM(n:zK)(k:Nat):List UInt8:=zP 2 n.entries.length++(n.entries.take k).flatMap qY
def jA(n:zK)(k:Nat):List UInt8:=zP 2 n.kids.length++(zP 4 (n.kids.headD 0).toNat++((n.keys.zip n.kids.tail).take k).flatMap vW)
theorem zFu(n:zK):jM n 0=zP 2 n.entries.length:=by simp[jM]
theorem zFv(n:zK){k:Nat}{e:zS}(h:n.entries[k]? = some e):jM n (k+1)=jM n k++qY e:=by
 unfold jM;rw[vB _ _ _ h,tE,<- uN];simp
theorem zGk{n:zK}(hl:n.leaf=true){k:Nat}(hk:k=n.entries.length):jM n k=zT n:=by
 unfold jM zT;rw[hk,wX,if_pos hl]
theorem zGl{n:zK}(hl:n.leaf=true)(k:Nat):(jM n k).length<=(zT n).length:=by
 unfold zT jM;rw[if_pos hl];have:=zCX qY n.entries k;simp only[uC];omega
theorem zE1(n:zK):jA n 0=zP 2 n.kids.length++zP 4 (n.kids.headD 0).toNat:=by simp[jA]
theorem zE2(n:zK){k:Nat}{s:ByteArray}{c:Int}(h:n.keys[k]? = some s)(h2:n.kids[k+1]? = some c):jA n (k+1)=jA n k++vW (s,c):=by
 have hz:(n.keys.zip n.kids.tail)[k]? = some (s,c):=by
  rw[List.getElem?_zip_eq_some];exact⟨h,by rw[List.getElem?_tail];exact h2⟩
 unfold jA;rw[vB _ _ _ hz,tE];simp only[uN,wG,List.flatMap_nil,wB]
theorem zFw{n:zK}(hl:n.leaf=false)(_hk2:n.kids.length=n.keys.length+1){k:Nat}(hk:k=n.keys.length):jA n k=zT n:=by
 unfold jA zT;rw[uV (by simp;omega),if_neg (by rw[hl];simp)]
theorem zFx{n:zK}(hl:n.leaf=false)(k:Nat):(jA n k).length<=(zT n).length:=by
 unfold zT jA;rw[if_neg (by rw[hl];simp)];have:=zCX vW (n.keys.zip n.kids.tail) k;simp only[uC];omega
def zKs(F:NP)(ad:Nat->Addr)(w:World)(n:zK)(e:Ending)(w':World):Prop :=
 zF w w'/\((zY n=true/\∃a c,e=.returned (.tuple #[.slice a (zT n).length c,.nilIface])/\yA (λ_=>False) w' w.heap.size 5 1 zM (.slice a (zT n).length c) (zT n)) \/
  (zY n=false/\∃f,e=.returned (.tuple #[.slice none 0 0,zD f])/\yG F ad w' (zD f) [-1, -1] 1))
theorem zCI{n:zK}(hl:n.leaf=true)(hr:zY n=true){k:Nat}{e:zS}(h:n.entries[k]? = some e):vI e=true:=by
 rw[zCr hl] at hr;unfold zDF at hr;simp only[uF,wO] at hr;exact hr.1.1.1 e (uP h)
theorem zIt{n:zK}(hl:n.leaf=true)(hr:zY n=true):n.entries.length<=65535:=by
 rw[zCr hl] at hr;simp only[uF,uM] at hr;exact hr.2
theorem zHZ{n:zK}(hl:n.leaf=false)(hr:zY n=true){k:Nat}{s:ByteArray}(h:n.keys[k]? = some s):s.size<256:=by
 rw[zAi hl,zAU] at hr;simp only[uF,wO] at hr;have:=(zAz s).1 (hr.1.2 s (uP h));omega
theorem zFO{n:zK}(hl:n.leaf=false)(hr:zY n=true):2<=n.kids.length/\n.kids.length<=256/\n.kids.length=n.keys.length+1:=by
 rw[zAi hl,zAU] at hr;simp only[uF] at hr;have:=(zBo n).1 hr.1.1.1;omega
theorem zFP{n:zK}(hl:n.leaf=false)(hr:zY n=true){k:Nat}{c:Int}(h:n.kids[k]? = some c):2<=c/\c<256:=by
 rw[zAi hl,zAU] at hr;simp only[uF,wO] at hr;simpa[zA9] using hr.1.1.2.1 c (uP h)
section
variable {F:NP}{ad:Nat->Addr}{w w':World}
theorem WrR.new(w:World)(base:Nat)(h:base<=w.heap.size):WrR base (w.alloc (.cells #[.slice none 0 0,.nilIface] 474)) w.heap.size [] :=
 ⟨⟨none,0,zJ.new w _ _,yA.nil _ _ _ _ _ _⟩,h⟩
end
end
end Go.Proofs.YtgphfebjjedeaaaGreatDoor
