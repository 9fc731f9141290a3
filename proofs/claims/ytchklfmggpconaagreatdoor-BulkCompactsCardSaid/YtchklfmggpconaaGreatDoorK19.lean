import Derived.Test.YtchklfmggpconaaGreatDoorK13
import Derived.BigQuiet
import Derived.Test.YtchklfmggpconaaGreatDoorK08
import Derived.Deep.DrawnRows
import Derived.Deep.RegionHeld3
import Derived.IntWalk
namespace Go.Proofs.YtchklfmggpconaaGreatDoor
open Lib renaming hid->oh
set_option maxRecDepth 100000
section
open Go.RowKit
section
variable {F:Nat->Prop}{ad:Nat->Addr}{w w':World}
theorem zOb(kb:Nat)(e:zI)(key:ByteArray)(hk:w.cell? ⟨kb,0,none⟩=some (.string key)) :
  Calls Tryz.prog 123 #[.agg #[.string e.key,.string e.value,.int .i64 e.chain,.int .i64 e.size],.pointer (some ⟨kb,0,none⟩)] w λx w'=>x=.returned (.bool (!qJ e.key key))/\zJ w w':=by
 have hlt:=qY hk;have hk0:(w.alloc (.cells #[.string e.key,.string e.value,.int .i64 e.chain,.int .i64 e.size] 141)).cell? ⟨kb,0,none⟩=some (.string key):=zC ((zA.refl _ w).alloc _) hk
 go_enter Tryz.func123, Tryz.ntmps123
 go_wp2_with fail;go_ret;exact⟨rfl,(zA.refl _ w).alloc _⟩
theorem zOc(kb:Nat)(k:ByteArray)(key:ByteArray)(hk:w.cell? ⟨kb,0,none⟩=some (.string key)) :
  Calls Tryz.prog 125 #[.string k,.pointer (some ⟨kb,0,none⟩)] w λx w'=>x=.returned (.bool (!leS k key))/\zJ w w':=by
 go_enter Tryz.func125, Tryz.ntmps125
 go_wp2_with fail;go_ret;exact⟨zX (by simp[leS]),zA.refl _ _⟩
theorem zGn{α:Type}{p:α->Bool}{l:List α}{k:Nat}(hk:k<l.length)(h:∀x∈l.take k,p x=false)(hp:p l[k]=true):l.findIdx p=k:=by
 rw[List.findIdx_eq hk];exact⟨hp,λj hj=>h _ (List.mem_take_iff_getElem.2 ⟨j,by omega,rfl⟩)⟩
theorem zHY{α:Type}{p:α->Bool}{l:List α}(h:∀x∈l,p x=false):l.findIdx p=l.length:=List.findIdx_eq_length.2 h
theorem zHZ(kb:Nat)(key:ByteArray)(hk:w.cell? ⟨kb,0,none⟩=some (.string key))(ve:Value)(l:List zI)(hve:Sl F w 4 vA ve l) :
  Calls Tryz.prog 122 #[ve,.func (.func 123) #[] #[.pointer (some ⟨kb,0,none⟩)]] w λx w'=>x=.returned (.int .i64 (l.findIdx λe=>!qJ e.key key:Nat))/\zJ w w':=by
 obtain⟨ae,ce,rfl,he1,he2,he3,hee⟩:=hve;unfold maxLen at he2
 go_enter Tryz.func122, Tryz.ntmps122
 go_wp2_with fail;go_loopg [9] l.length (λm i wr=>∃k:Nat,k+m=l.length/\i=.int .i64 k/\Hid (∀x∈l.take k,(!qJ x.key key)=false)/\zJ w wr)
 case atStart=>exact⟨0,by omega,rfl,oh (by simp),zA.refl _ _⟩
 case round =>
  obtain⟨k,hkm,rfl,HZ,hm⟩:=hrel;by_cases hlt:k<l.length
  .obtain⟨b,off,rfl,hb,hF,hc⟩:=Sl.at hee hm (λ_ _ f=>f.elim) k hlt;have c0:=hc 0 _ rfl;simp only[uO] at c0;have c1:=hc 1 _ rfl;have c2:=hc 2 _ rfl;have c3:=hc 3 _ rfl;have hkb:=zC hm hk;have HM:=oh hm;have HEE:=oh hee;have HK:=oh hk;clear hc hee hk hm;have hkb2:=λv=>zC ((zA.refl _ wr).alloc v) hkb
   go_wp2_with fail;refine (zOb kb l[k] key (hkb2 _)).mono ?_;rintro x w1 ⟨rfl,hm1⟩;have HM1:Hid (zJ w w1):=oh ((HM.out.alloc _).trans hm1);clear hm1 hkb hkb2;cases ht:qJ l[k].key key
   .have HT:=oh ht;clear ht;go_wp2_with fail;go_ret;exact⟨by rw[zGn hlt HZ.out (by rw[HT.out];rfl)];rfl,HM1.out⟩
   .have HT:=oh ht;clear ht;go_wp2_with fail;go_roundg (gk-1)
    case measure=>omega
    case rel=>exact⟨k+1,by omega,by go_num,oh (λx hx=>by
     rw[yJ l k l[k] (by simp[hlt])] at hx;rcases uG.1 hx with h|h
     .exact HZ.out x h
     .rw[wS.1 h,HT.out];rfl),HM1.out⟩
  .have hke:k=l.length:=by omega
   go_wp2_with fail;go_ret;exact⟨by rw[zHY (by have:=HZ.out;rwa [hke,wU] at this)];rfl,hm⟩
theorem zMX(kb:Nat)(key:ByteArray)(hk:w.cell? ⟨kb,0,none⟩=some (.string key))(ve:Value)(l:List ByteArray)(hve:Sl F w 1 qK ve l) :
  Calls Tryz.prog 124 #[ve,.func (.func 125) #[] #[.pointer (some ⟨kb,0,none⟩)]] w λx w'=>x=.returned (.int .i64 (l.findIdx λk=>!leS k key:Nat))/\zJ w w':=by
 obtain⟨ae,ce,rfl,he1,he2,he3,hee⟩:=hve;unfold maxLen at he2
 go_enter Tryz.func124, Tryz.ntmps124
 go_wp2_with fail;go_loopg [9] l.length (λm i wr=>∃k:Nat,k+m=l.length/\i=.int .i64 k/\Hid (∀x∈l.take k,(!leS x key)=false)/\zJ w wr)
 case atStart=>exact⟨0,by omega,rfl,oh (by simp),zA.refl _ _⟩
 case round =>
  obtain⟨k,hkm,rfl,HZ,hm⟩:=hrel;by_cases hlt:k<l.length
  .obtain⟨b,off,rfl,hb,hF,hc⟩:=Sl.at hee hm (λ_ _ f=>f.elim) k hlt;have c0:=hc 0 _ rfl;simp only[uO,wK] at c0;have hkb:=zC hm hk;have HM:=oh hm;have HEE:=oh hee;have HK:=oh hk;clear hc hee hk hm;go_wp2_with fail;refine (zOc kb l[k] key hkb).mono ?_;rintro x w1 ⟨rfl,hm1⟩;have HM1:Hid (zJ w w1):=oh (HM.out.trans hm1);clear hm1 hkb;cases ht:leS l[k] key
   .have HT:=oh ht;clear ht;go_wp2_with fail;go_ret;exact⟨by rw[zGn hlt HZ.out (by rw[HT.out];rfl)];rfl,HM1.out⟩
   .have HT:=oh ht;clear ht;go_wp2_with fail;go_roundg (gk-1)
    case measure=>omega
    case rel=>exact⟨k+1,by omega,by go_num,oh (λx hx=>by
     rw[yJ l k l[k] (by simp[hlt])] at hx;rcases uG.1 hx with h|h
     .exact HZ.out x h
     .rw[wS.1 h,HT.out];rfl),HM1.out⟩
  .have hke:k=l.length:=by omega
   go_wp2_with fail;go_ret;exact⟨by rw[zHY (by have:=HZ.out;rwa [hke,wU] at this)];rfl,hm⟩
theorem zR0(a b:ByteArray):(a.toList == b.toList)=decide (a=b):=by
 by_cases h:a=b
 .rw[h];simp
 .rw[uX h,uV];intro e;rw[ByteArray.toList_eq,ByteArray.toList_eq] at e;exact h (pN (Array.toList_inj.1 e))
def zAy(n:zF)(key:ByteArray):Nat × Bool :=
 if n.leaf then
  let i:=n.entries.findIdx λe=>!qJ e.key key
  (i,match n.entries[i]? with|some e=>decide (e.key=key)|none=>false)
 else (n.keys.findIdx λk=>!leS k key,false)
theorem zDc(n:zF)(key:ByteArray)(ve vk vi:Value)(hve:Sl F w 4 vA ve n.entries)(hvk:Sl F w 1 qK vk n.keys) :
  Calls Tryz.prog 89 #[.agg #[.bool n.leaf,ve,vk,vi],.string key] w λx w'=>x=.returned (.tuple #[.int .i64 ((zAy n key).1:Nat),.bool (zAy n key).2])/\zJ w w':=by
 have m0:zJ w ((w.alloc (.cells #[.bool n.leaf,ve,vk,vi] 118)).alloc (.cells #[.string key] 9)):=((zA.refl _ w).alloc _).alloc _;have HE:=oh (hve.ext m0);have HK:=oh (hvk.ext m0);have M0:=oh m0;clear hve hvk m0;cases hleaf:n.leaf
 .have HR:Hid (zAy n key=(n.keys.findIdx λk=>!leS k key,false)):=oh (by unfold zAy;rw[hleaf];rfl);rw[hleaf] at HE HK M0;clear hleaf
  go_enter Tryz.func89, Tryz.ntmps89
  go_wp2_with fail;refine (zMX (w.heap.size+1) key (by go_cell) vk n.keys HK.out).mono ?_;rintro x w1 ⟨rfl,hm1⟩;have HM1:=oh (M0.out.trans hm1);clear hm1;go_wp2_with fail;go_ret2
  exact⟨by rw[HR.out];rfl,HM1.out⟩
 .rw[hleaf] at HE HK M0;have HL:=oh hleaf;clear hleaf;obtain⟨q,hq⟩:∃q,q=n.entries.findIdx λe=>!qJ e.key key:=⟨_,rfl⟩
  have HR:Hid (zAy n key=(q,match n.entries[q]? with|some e=>decide (e.key=key)|none=>false)):=oh (by unfold zAy;rw[HL.out,hq];rfl);have HQ:=oh hq;clear hq;obtain⟨ae,ce,rfl,he1,he2,he3,hee⟩:=_root_.id HE.out;have HEE:=oh hee;clear hee;by_cases hlt:q<n.entries.length
  .go_enter Tryz.func89, Tryz.ntmps89
   go_wp2_with fail;refine (zHZ (w.heap.size+1) key (by go_cell) _ n.entries HE.out).mono ?_;rintro x w1 ⟨rfl,hm1⟩;rw[<- HQ.out];have HM1:=oh (M0.out.trans hm1);obtain⟨b,off,rfl,hb,hF,hc⟩:=Sl.at HEE.out hm1 (λ_ _ f=>f.elim) q hlt;have c0:=hc 0 _ rfl;simp only[uO] at c0;have x1:w1.cell? ⟨w.heap.size,1,none⟩=some (.slice (some ⟨b,off,none⟩) n.entries.length ce):=zC hm1 (by go_cell);have x2:w1.cell? ⟨w.heap.size+1,0,none⟩=some (.string key):=zC hm1 (by go_cell);have hd:decide ((q:Int)<(n.entries.length:Int))=true:=wC (by omega);have HG:Hid (n.entries[q]? = some n.entries[q]):=oh (uA hlt);clear hm1 hc;go_wp2_with fail;go_quiet (fail)
   go_wp2_with fail;go_ret2
   exact⟨by rw[zR0,HR.out,HG.out];rfl,HM1.out.drewN _⟩
  .go_enter Tryz.func89, Tryz.ntmps89
   go_wp2_with fail;refine (zHZ (w.heap.size+1) key (by go_cell) _ n.entries HE.out).mono ?_;rintro x w1 ⟨rfl,hm1⟩;rw[<- HQ.out];have HM1:=oh (M0.out.trans hm1);have x1:w1.cell? ⟨w.heap.size,1,none⟩=some (.slice ae n.entries.length ce):=zC hm1 (by go_cell);have hd:decide ((q:Int)<(n.entries.length:Int))=false:=uX (by omega);have HG:Hid (n.entries[q]? = none):=oh (rQ (by omega));clear hm1;go_wp2_with fail;go_quiet (fail)
   go_wp2_with fail;go_ret2
   exact⟨by rw[HR.out,HG.out];rfl,HM1.out.drewN _⟩
end
end
section
theorem zPz(a b:ByteArray):(!leS a b)=qJ b a:=by
 cases h:qJ b a with
 | true =>
  rw[Bool.not_eq_true',<- pK];intro e;rcases (zJb a b).1 e with k|k
  .rw[zBR h] at k;cases k
  .rw[k,jJ] at h;cases h
 | false =>
  rw[Bool.not_eq_false',zJb];exact (zCr h).imp id Eq.symm
theorem zE9{n:zF}(h:n.leaf=true)(key:ByteArray):zAy n key=(vY key n.entries,zAt key n.entries):=by
 unfold zAy;rw[h];rfl
theorem zEB{n:zF}(h:n.leaf=false)(key:ByteArray):zAy n key=(zAY key n.keys,false):=by
 have e:(λk=>!leS k key)=λs=>qJ key s:=by funext s;exact zPz s key
 unfold zAy zAY;rw[h,e];rfl
end
section
open Go.RowKit
attribute [local go_sem ↓] Go.wp_at_zero Go.wp_at_succ
theorem zFA:∀{l:List ByteArray},jS l=true ↔ ∀(i:Nat) (a b:ByteArray),l[i]? = some a->l[i+1]? = some b->qJ a b=true
 | []=>by simp[jS]
 | [_]=>by simp[jS]
 | x :: y :: l=>by
  rw[jS,uK,zFA (l:=y :: l)];constructor
  .rintro⟨h1,h2⟩ i a b ha hb;cases i with
   | zero=>simp at ha hb;subst ha hb;exact h1
   | succ i=>exact h2 i a b (by simpa using ha) (by simpa using hb)
  .intro h;exact⟨h 0 x y rfl rfl,λi a b ha hb=>h (i+1) a b (by simpa using ha) (by simpa using hb)⟩
def zP0(l:List ByteArray)(k:Nat):Prop:=∀(i:Nat) (a b:ByteArray),i+1<k->l[i]? = some a->l[i+1]? = some b->qJ a b=true
theorem zKw{l:List ByteArray}{k:Nat}(h:zP0 l k)(hk:l.length<=k):jS l=true :=
 zFA.2 λi a b ha hb=>h i a b (by have:=(uB.1 hb).1;omega) ha hb
theorem zIq{l:List ByteArray}{k:Nat}{a b:ByteArray}(h:zP0 l (k+1))(ha:l[k]? = some a)(hb:l[k+1]? = some b)(hl:leS b a=false):zP0 l (k+2):=by
 intro i x y hi hx hy;by_cases e:i=k
 .subst e;rw[ha] at hx;rw[hb] at hy;injection hx with hx;injection hy with hy;subst hx hy;have:=zPz b a;rw[hl] at this;exact this.symm
 .exact h i x y (by omega) hx hy
theorem zHa{l:List ByteArray}{k:Nat}{a b:ByteArray}(ha:l[k]? = some a)(hb:l[k+1]? = some b)(hl:leS b a=true):jS l=false:=by
 rw[<- pK];intro h;have h1:=zFA.1 h k a b ha hb;have:=zPz b a;rw[hl,h1] at this;cases this
section
variable {F:Nat->Prop}{ad:Nat->Addr}{w w':World}
theorem zEC(n:Int)(w:World) : Calls Tryz.prog 190 #[.int .i64 n] w λe w'=>e=.returned (.bool (zCL n))/\w=w':=by
 by_cases h1:2<=n
 all_goals
  have h2:=oh h1
  go_enter Tryz.func190, Tryz.ntmps190
  go_wp2
  go_ret;exact⟨zX (by have:=h2.out;simp only[zCL];first|(rw[wC this];simp)|(rw[uX (by omega)];simp)),rfl⟩
theorem zMY(e:zI)(w:World) : Calls Tryz.prog 187 #[.agg #[.string e.key,.string e.value,.int .i64 e.chain,.int .i64 e.size]] w λx w'=>x=.returned (.bool (yC e))/\zJ w w':=by
 have M0:Hid (zJ w (w.alloc (.cells #[.string e.key,.string e.value,.int .i64 e.chain,.int .i64 e.size] 141))):=oh ((zA.refl _ w).alloc _);cases hk:qC e.key with
 | false =>
  have HR:Hid (yC e=false):=oh (by unfold yC;rw[hk];rfl)
  go_enter Tryz.func187, Tryz.ntmps187
  go_wp2_with fail;refine (zBK _ _).mono ?_;rintro x w1 ⟨rfl,rfl⟩;rw[hk];go_wp2_with fail;go_ret;exact⟨zX HR.out.symm,M0.out⟩
 | true =>
  by_cases hz:e.chain=0
  .have hzb:(e.chain == 0)=true:=tU.2 hz;have HR:Hid (yC e=(decide (e.size=0) && decide (e.value.size<=24))):=oh (by unfold yC;rw[hk,if_pos hz];rfl);clear hz;by_cases hs:e.size=0
   .have hsb:(e.size == 0)=true:=tU.2 hs;have HS:=oh hs;clear hs;by_cases hv:(e.value.size:Int)<=24
    all_goals
     have HV:=oh hv
     go_enter Tryz.func187, Tryz.ntmps187
     go_wp2_with fail;refine (zBK _ _).mono ?_;rintro x w1 ⟨rfl,rfl⟩;rw[hk];go_wp2_with fail;go_ret;exact⟨zX (by rw[HR.out,HS.out];have:=HV.out;first|(rw[wC (show e.value.size<=24 by omega)];simp;done)|(rw[uX (show ¬ e.value.size<=24 by omega)];simp;omega)),M0.out⟩
   .have hsb:(e.size == 0)=false:=uV.2 hs;have HS:=oh hs;clear hs
    go_enter Tryz.func187, Tryz.ntmps187
    go_wp2_with fail;refine (zBK _ _).mono ?_;rintro x w1 ⟨rfl,rfl⟩;rw[hk];go_wp2_with fail;go_ret;exact⟨zX (by rw[HR.out,uX HS.out];rfl),M0.out⟩
  .have hzb:(e.chain == 0)=false:=uV.2 hz;have HR:Hid (yC e=(zCL e.chain && decide (e.value.size=0) && decide (24<e.size) && decide (e.size<=4096))):=oh (by unfold yC;rw[hk,if_neg hz];rfl);clear hz;cases hkd:zCL e.chain with
   | false =>
    rw[hkd] at HR
    go_enter Tryz.func187, Tryz.ntmps187
    go_wp2_with fail;refine (zBK _ _).mono ?_;rintro x w1 ⟨rfl,rfl⟩;rw[hk];go_wp2_with fail;refine (zEC _ _).mono ?_;rintro x w1 ⟨rfl,rfl⟩;rw[hkd];go_wp2_with fail;go_ret;exact⟨zX (by rw[HR.out];rfl),M0.out⟩
   | true =>
    rw[hkd] at HR;have hve:(e.value.toList == [])=decide (e.value.size=0):=by
     rw[ByteArray.toList_eq];have:e.value.data.toList.length=e.value.size:=by rw[rE];rfl
     by_cases hv0:e.value.size=0
     .rw[wC hv0,tB (by omega:e.value.data.toList.length=0)];rfl
     .rw[uX hv0,uV];intro h;rw[h] at this;simp at this;omega
    by_cases hv0:e.value.size=0
    .have hv1:e.value=⟨#[]⟩:=pN (pA hv0);rw[wC hv0] at HR;clear hve hv0;by_cases h24:24<e.size
     .rw[wC h24] at HR;by_cases h4:e.size<=4096
      all_goals
       have HV:=oh hv1;have HD:=oh h4;clear hv1
       go_enter Tryz.func187, Tryz.ntmps187
       go_wp2_with fail;refine (zBK _ _).mono ?_;rintro x w1 ⟨rfl,rfl⟩;rw[hk];go_wp2_with fail;refine (zEC _ _).mono ?_;rintro x w1 ⟨rfl,rfl⟩;rw[hkd,HV.out];go_wp2_with fail;go_ret;exact⟨zX (by rw[HR.out];have:=HD.out;first|(rw[wC (show e.size<=4096 by omega)];rfl)|(rw[uX (show ¬ e.size<=4096 by omega)];rfl)),(zA.refl _ w).alloc _⟩
     .rw[uX h24] at HR;have HV:=oh hv1;clear hv1
      go_enter Tryz.func187, Tryz.ntmps187
      go_wp2_with fail;refine (zBK _ _).mono ?_;rintro x w1 ⟨rfl,rfl⟩;rw[hk];go_wp2_with fail;refine (zEC _ _).mono ?_;rintro x w1 ⟨rfl,rfl⟩;rw[hkd,HV.out];go_wp2_with fail;go_ret;exact⟨zX (by rw[HR.out];rfl),(zA.refl _ w).alloc _⟩
    .rw[uX hv0] at hve HR;clear hv0
     go_enter Tryz.func187, Tryz.ntmps187
     go_wp2_with fail;refine (zBK _ _).mono ?_;rintro x w1 ⟨rfl,rfl⟩;rw[hk];go_wp2_with fail;refine (zEC _ _).mono ?_;rintro x w1 ⟨rfl,rfl⟩;rw[hkd];go_wp2_with fail;go_ret;exact⟨zX (by rw[HR.out];rfl),M0.out⟩
theorem zIr(e:zI)(w:World) : Calls Tryz.prog 189 #[.agg #[.string e.key,.string e.value,.int .i64 e.chain,.int .i64 e.size]] w λx w'=>x=.returned (.string e.key)/\zJ w w':=by
 go_enter Tryz.func189, Tryz.ntmps189
 go_wp2_with fail;go_ret;exact⟨rfl,(zA.refl _ w).alloc _⟩
theorem zMZ(k:ByteArray)(w:World) : Calls Tryz.prog 193 #[.string k] w λx w'=>x=.returned (.string k)/\w=w':=by
 go_enter Tryz.func193, Tryz.ntmps193
 go_wp2_with fail;go_ret;exact⟨rfl,rfl⟩
end
section
variable {F:Nat->Prop}{ad:Nat->Addr}{w w':World}
theorem zKx(ve:Value)(l:List zI)(hve:Sl F w 4 vA ve l) :
    Calls Tryz.prog 188 #[ve,.func (.func 189) #[] #[]] w λx w'=>x=.returned (.bool (jS (l.map (·.key))))/\zJ w w':=by
  obtain⟨ae,ce,rfl,he1,he2,he3,hee⟩:=hve
  unfold maxLen at he2
  go_enter Tryz.func188, Tryz.ntmps188
  go_wp2_with fail
  go_loopg [5] l.length (λm i wr=>∃k:Nat,k+m=l.length/\i=.int .i64 ((k+1:Nat):Int)/\Hid (zP0 (l.map (·.key)) (k+1))/\zJ w wr)
  case atStart=>exact⟨0,by omega,rfl,oh (λi a b hi=>by omega),zA.refl _ _⟩
  case round =>
    obtain⟨k,hkm,rfl,HZ,hm⟩:=hrel
    by_cases hlt:k+1<l.length
    . obtain⟨b,off,rfl,hb,hF,hc⟩:=Sl.at hee hm (λ_ _ f=>f.elim) (k+1) hlt
      obtain⟨b',off',hbb,hb',hF',hd⟩:=Sl.at hee hm (λ_ _ f=>f.elim) k (by omega)
      injection hbb with hbb
      injection hbb with hbb1 hbb2
      subst hbb1 hbb2
      have c0:=hc 0 _ rfl
      simp only[uO] at c0
      have c1:=hc 1 _ rfl
      have c2:=hc 2 _ rfl
      have c3:=hc 3 _ rfl
      have d0:=hd 0 _ rfl
      simp only[uO] at d0
      have d1:=hd 1 _ rfl
      have d2:=hd 2 _ rfl
      have d3:=hd 3 _ rfl
      have HM:=oh hm
      have HEE:=oh hee
      clear hc hd hee hm
      have i1:(0:Int)<=(k:Int)+1:=by omega
      have i2:(k:Int)+1<(l.length:Int):=by omega
      have i3:(0:Int)<=(k:Int):=by omega
      have i4:(k:Int)<(l.length:Int):=by omega
      have hw1:IntKind.i64.wrap ((k:Int)+1-1)=(k:Int):=by rw[show (k:Int)+1-1=k by omega];exact IntWalk.i64_in _ (by omega)
      have hw2:IntKind.i64.wrap (k:Int)=(k:Int):=IntWalk.i64_in _ (by omega)
      go_wp2_with fail
      go_region_held3 (λw'=>w'.cell? ⟨b,off+(k+1) * 4,none⟩=some (.string l[k+1].key)/\w'.cell? ⟨b,off+(k+1) * 4+1,none⟩=some (.string l[k+1].value)/\w'.cell? ⟨b,off+(k+1) * 4+2,none⟩=some (.int .i64 l[k+1].chain)/\w'.cell? ⟨b,off+(k+1) * 4+3,none⟩=some (.int .i64 l[k+1].size) /\
          w'.cell? ⟨b,off+k * 4,none⟩=some (.string l[k].key)/\w'.cell? ⟨b,off+k * 4+1,none⟩=some (.string l[k].value)/\w'.cell? ⟨b,off+k * 4+2,none⟩=some (.int .i64 l[k].chain)/\w'.cell? ⟨b,off+k * 4+3,none⟩=some (.int .i64 l[k].size))
        (first|(with_reducible exact⟨x0,x1,x2,x3,y0,y1,y2,y3⟩)|go_keep)
        (first
          | (go_at_call 189;(with_reducible refine (zIr l[k+1] _).mono ?_);rintro x w1 ⟨rfl,hm1⟩;have x0:=zC hm1 c0;have x1:=zC hm1 c1;have x2:=zC hm1 c2;have x3:=zC hm1 c3;have y0:=zC hm1 d0;have y1:=zC hm1 d1;have y2:=zC hm1 d2;have y3:=zC hm1 d3)
          | (go_at_call 189;(with_reducible refine (zIr l[k] _).mono ?_);rintro x w2 ⟨rfl,hm2⟩;have hmm:=hm1.trans hm2;have x0:=zC hmm c0;have x1:=zC hmm c1;have x2:=zC hmm c2;have x3:=zC hmm c3;have y0:=zC hmm d0;have y1:=zC hmm d1;have y2:=zC hmm d2;have y3:=zC hmm d3)
          | fail)
      clear c0 c1 c2 c3 d0 d1 d2 d3 x0 x1 x2 x3 y0 y1 y2 y3
      have HM2:Hid (zJ w w2):=oh (HM.out.drew.trans hmm)
      clear hm1 hm2 hmm
      have g0:(l.map (·.key))[k]? = some l[k].key:=by simp[uA (show k<l.length by omega)]
      have g1:(l.map (·.key))[k+1]? = some l[k+1].key:=by simp[uA hlt]
      have G0:=oh g0
      have G1:=oh g1
      clear g0 g1 hw1 hw2
      go_wp2_with fail
      all_goals rename_i hh
      all_goals have HT:=oh hh
      all_goals clear hh
      all_goals first
        | (go_ret
           exact⟨zX (zHa G0.out G1.out (by unfold leS;have:=HT.out;simpa using this)).symm,HM2.out⟩)
        | (go_roundg (gk - 1)
           case measure => omega
           case rel=>exact⟨k+1,by omega,by go_num,oh (zIq HZ.out G0.out G1.out (by unfold leS;have:=HT.out;simpa using this)),HM2.out⟩)
    . have hke:l.length<=k+1:=by omega
      have HK:=oh hke
      go_wp2_with fail
      go_ret
      exact⟨zX (zKw HZ.out (by rw[uU];exact HK.out)).symm,hm⟩
theorem zKy(ve:Value)(l:List ByteArray)(hve:Sl F w 1 qK ve l) :
    Calls Tryz.prog 192 #[ve,.func (.func 193) #[] #[]] w λx w'=>x=.returned (.bool (jS l))/\zJ w w':=by
  obtain⟨ae,ce,rfl,he1,he2,he3,hee⟩:=hve
  unfold maxLen at he2
  go_enter Tryz.func192, Tryz.ntmps192
  go_wp2_with fail
  go_loopg [5] l.length (λm i wr=>∃k:Nat,k+m=l.length/\i=.int .i64 ((k+1:Nat):Int)/\Hid (zP0 l (k+1))/\zJ w wr)
  case atStart=>exact⟨0,by omega,rfl,oh (λi a b hi=>by omega),zA.refl _ _⟩
  case round =>
    obtain⟨k,hkm,rfl,HZ,hm⟩:=hrel
    by_cases hlt:k+1<l.length
    . obtain⟨b,off,rfl,hb,hF,hc⟩:=Sl.at hee hm (λ_ _ f=>f.elim) (k+1) hlt
      obtain⟨b',off',hbb,hb',hF',hd⟩:=Sl.at hee hm (λ_ _ f=>f.elim) k (by omega)
      injection hbb with hbb
      injection hbb with hbb1 hbb2
      subst hbb1 hbb2
      have c0:=hc 0 _ rfl
      simp only[uO,wK] at c0
      have d0:=hd 0 _ rfl
      simp only[uO,wK] at d0
      have HM:=oh hm
      have HEE:=oh hee
      clear hc hd hee hm
      have i1:(0:Int)<=(k:Int)+1:=by omega
      have i2:(k:Int)+1<(l.length:Int):=by omega
      have i3:(0:Int)<=(k:Int):=by omega
      have i4:(k:Int)<(l.length:Int):=by omega
      have hw1:IntKind.i64.wrap ((k:Int)+1-1)=(k:Int):=by rw[show (k:Int)+1-1=k by omega];exact IntWalk.i64_in _ (by omega)
      have hw2:IntKind.i64.wrap (k:Int)=(k:Int):=IntWalk.i64_in _ (by omega)
      go_wp2_with fail
      go_region_held3 (λw'=>w'.cell? ⟨b,off+(k+1),none⟩=some (.string l[k+1])/\w'.cell? ⟨b,off+k,none⟩=some (.string l[k]))
        (first|(with_reducible exact⟨c0,d0⟩)|go_keep)
        (first
          | (go_at_call 193;(with_reducible refine (zMZ _ _).mono ?_);rintro x w1 ⟨rfl,rfl⟩)
          | fail)
      clear c0 d0
      have HM2:Hid (zJ w wr.drew):=oh HM.out.drew
      have G0:Hid (l[k]? = some l[k]):=oh (uA (by omega))
      have G1:Hid (l[k+1]? = some l[k+1]):=oh (uA hlt)
      clear hw1 hw2
      go_wp2_with fail
      all_goals rename_i hh
      all_goals have HT:=oh hh
      all_goals clear hh
      all_goals first
        | (go_ret
           exact⟨zX (zHa G0.out G1.out (by unfold leS;have:=HT.out;simpa using this)).symm,HM2.out⟩)
        | (go_roundg (gk - 1)
           case measure => omega
           case rel=>exact⟨k+1,by omega,by go_num,oh (zIq HZ.out G0.out G1.out (by unfold leS;have:=HT.out;simpa using this)),HM2.out⟩)
    . have hke:l.length<=k+1:=by omega
      have HK:=oh hke
      go_wp2_with fail
      go_ret
      exact⟨zX (zKw HZ.out HK.out).symm,hm⟩
end
end
section
open Go.RowKit
section
variable {F:Nat->Prop}{ad:Nat->Addr}{w w':World}
theorem zIR{α:Type}{l:List α}{k:Nat}{x:α}(hk:k<l.length)(h:x ∉ l.take k)(hx:l[k]≠x):x ∉ l.take (k+1):=by
 rw[yJ l k l[k] (by simp[hk])];intro hm;rcases uG.1 hm with h1|h1
 .exact h h1
 .exact hx (wS.1 h1).symm
def zSH(l:List Int)(n:Int)(w:World)(e:Ending)(w':World):Prop:=∃i:Int,e=.returned (.int .i64 i)/\(n∈l/\0<=i\/n ∉ l/\i = -1)/\w=w'
theorem zMa(v:Value)(l:List Int)(n:Int)(hv:Sl F w 1 yB v l) : Calls Tryz.prog 206 #[v,.int .i64 n] w (zSH l n w):=by
 obtain⟨a,c,rfl,h1,h2,h3,hc⟩:=hv;unfold maxLen at h2
 go_enter Tryz.func206, Tryz.ntmps206
 go_wp2_with fail;go_loopg [8] l.length (λm i wr=>∃k:Nat,k+m=l.length/\i=.int .i64 k/\Hid (n ∉ l.take k)/\w=wr)
 case atStart=>exact⟨0,by omega,rfl,oh (by simp),rfl⟩
 case round =>
  obtain⟨k,hkm,rfl,HZ,rfl⟩:=hrel;by_cases hlt:k<l.length
  .obtain⟨b,off,rfl,hb,hF,hd⟩:=Sl.at hc (zA.refl (λ_=>False) w) (λ_ _ f=>f.elim) k hlt;have c0:=hd 0 _ rfl;simp only[uO,wK] at c0;clear hd;by_cases hn:l[k]=n
   .have hn1:(n == l[k])=true:=by rw[hn];simp
    have HN:=oh hn;clear hn;go_wp2_with fail;go_ret;exact⟨(k:Int),rfl,.inl ⟨by rw[<- HN.out];exact wH hlt,by omega⟩,rfl⟩
   .have hn1:(n == l[k])=false:=uV.2 (λh=>hn h.symm);have HN:=oh hn;clear hn;go_wp2_with fail;go_roundg (gk-1)
    case measure=>omega
    case rel=>exact⟨k+1,by omega,by go_num,oh (zIR hlt HZ.out HN.out),rfl⟩
  .have hke:k=l.length:=by omega
   go_wp2_with fail;go_ret;exact⟨-1,rfl,.inr ⟨by have:=HZ.out;rwa [hke,wU] at this,rfl⟩,rfl⟩
theorem zIS(v:Value)(l:List Int)(n:Int)(hv:Sl F w 1 yB v l) : Calls Tryz.prog 191 #[v,.int .i64 n] w λe w'=>e=.returned (.bool (decide (n∈l)))/\w=w':=by
 have HV:=oh hv;clear hv
 go_enter Tryz.func191, Tryz.ntmps191
 go_wp2_with fail;refine (zMa v l n HV.out).mono ?_;rintro e w1 ⟨i,rfl,⟨hm,hi⟩|⟨hm,rfl⟩,rfl⟩
 .have HM:=oh hm;clear hm;go_wp2_with fail;go_ret;exact⟨zX (by rw[wC HM.out]),rfl⟩
 .have HM:=oh hm;clear hm;go_wp2_with fail;go_ret;exact⟨zX (by rw[uX HM.out]),rfl⟩
end
def zFi(n:zF):Bool:=n.entries.all yC && (n.keys.isEmpty && n.kids.isEmpty) && jS (n.entries.map (·.key))
def zDd(n:zF):Bool:=n.entries.isEmpty && decide (2<=n.kids.length) && decide (n.kids.length=n.keys.length+1) && decide (n.kids.length<=256) && n.kids.all zCL && decide n.kids.Nodup && n.keys.all qC && jS n.keys
theorem zFB{n:zF}(h:n.leaf=true):zM n=(zFi n && decide (n.entries.length<=65535)):=by
 unfold zM zFi;rw[if_pos h];simp only[Bool.and_assoc]
theorem zCB{n:zF}(h:n.leaf=false):zM n=zDd n:=by
 unfold zM zDd;rw[if_neg (by rw[h];simp)]
theorem zHb{α:Type}{p:α->Bool}{l:List α}{k:Nat}(hk:k<l.length)(h:∀x∈l.take k,p x=true)(hp:p l[k]=true):∀x∈l.take (k+1),p x=true:=by
 intro x hx;rw[yJ l k l[k] (by simp[hk])] at hx;rcases uG.1 hx with h1|h1
 .exact h x h1
 .rw[wS.1 h1];exact hp
theorem zHc{α:Type}{p:α->Bool}{l:List α}{k:Nat}(hk:k=l.length)(h:∀x∈l.take k,p x=true):l.all p=true:=by
 rw[hk,wU] at h;exact tD.2 h
theorem zJo{α:Type}{p:α->Bool}{l:List α}{k:Nat}(hk:k<l.length)(hp:p l[k]=false):l.all p=false:=by
 rw[<- pK,tD];intro h;have:=h l[k] (wH hk);rw[hp] at this;cases this
theorem Sl.pre{α:Type}{F:Nat->Prop}{w:World}{sz:Nat}{enc:α->List Value}{a:Option Addr}{n cap:Nat}{l:List α}(h:Sl F w sz enc (.slice a n cap) l)(k:Nat)(hk:k<=l.length):Sl F w sz enc (.slice a k cap) (l.take k):=by
 obtain⟨a',cap',e,h1,h2,h3,h4⟩:=h;injection e with e1 e2 e3;subst e1 e3;have hl:(l.take k).length=k:=by simp;omega
 refine⟨a,cap,by rw[hl],by omega,h2,by omega,?_⟩;rcases h4 with rfl|⟨b,off,rfl,hb,hF,hc⟩
 .exact .inl (by simp)
 .exact .inr ⟨b,off,rfl,hb,hF,λi x hi j u hu=>hc i x (by
   rw[List.getElem?_take] at hi;split at hi
   .exact hi
   .cases hi) j u hu⟩
section
variable {F:Nat->Prop}{ad:Nat->Addr}{w w':World}
theorem zOd(n:zF)(ve vk vi:Value)(hve:Sl F w 4 vA ve n.entries)(hvk:Sl F w 1 qK vk n.keys)(hvi:Sl F w 1 yB vi n.kids) :
  Calls Tryz.prog 170 #[.agg #[.bool n.leaf,ve,vk,vi]] w λe w'=>e=.returned (.bool (zFi n))/\zJ w w':=by
 have HVE:=oh hve;obtain⟨ae,ce,rfl,he1,he2,he3,hee⟩:=hve;obtain⟨ak,ck,rfl,hk1,hk2,hk3,hkk⟩:=hvk;obtain⟨ai,ci,rfl,hi1,hi2,hi3,hii⟩:=hvi;unfold maxLen at he2 hk2 hi2;clear hkk hii;generalize hlf:n.leaf=lf
 clear hlf
 go_enter Tryz.func170, Tryz.ntmps170
 go_wp2_with fail;go_loopg [8] n.entries.length (λm i wr=>∃k:Nat,k+m=n.entries.length/\i=.int .i64 k/\Hid (∀x∈n.entries.take k,yC x=true)/\zJ w wr/\wr.cell? ⟨w.heap.size,1,none⟩=some (.slice ae n.entries.length ce)/\wr.cell? ⟨w.heap.size,2,none⟩=some (.slice ak n.keys.length ck)/\wr.cell? ⟨w.heap.size,3,none⟩=some (.slice ai n.kids.length ci))
 case atStart=>exact⟨0,by omega,rfl,oh (by simp),(zA.refl _ _).alloc _,by go_cell,by go_cell,by go_cell⟩
 case round =>
  obtain⟨k,hkm,rfl,HZ,hm,b1,b2,b3⟩:=hrel;by_cases hlt:k<n.entries.length
  .obtain⟨b,off,rfl,hb,hF,hc⟩:=Sl.at hee hm (λ_ _ f=>f.elim) k hlt;have c0:=hc 0 _ rfl;simp only[uO] at c0;have c1:=hc 1 _ rfl;have c2:=hc 2 _ rfl;have c3:=hc 3 _ rfl;have HM:=oh hm;have HEE:=oh hee;clear hc hee hm;go_wp2_with fail;refine (zMY n.entries[k] _).mono ?_;rintro x w1 ⟨rfl,hm1⟩;have hz1:=zC hm1 (zH b1 _);have hz2:=zC hm1 (zH b2 _);have hz3:=zC hm1 (zH b3 _);have HM1:Hid (zJ w w1):=oh ((HM.out.alloc _).trans hm1);clear hm1 c0 c1 c2 c3 b1 b2 b3;cases ht:yC n.entries[k]
   .have HT:=oh ht;clear ht;go_wp2_with fail;go_ret;exact⟨zX (by unfold zFi;rw[zJo hlt HT.out];rfl),HM1.out⟩
   .have HT:=oh ht;clear ht;go_wp2_with fail;go_roundg (gk-1)
    case measure=>omega
    case rel=>exact⟨k+1,by omega,by go_num,oh (zHb hlt HZ.out HT.out),HM1.out,hz1,hz2,hz3⟩
  .have hke:k=n.entries.length:=by omega
   have HA:Hid (n.entries.all yC=true):=oh (zHc hke HZ.out);have HM:=oh hm;have HVE1:=oh (HVE.out.ext hm);clear HZ hke hee hm;by_cases hz:n.keys.length=0/\n.kids.length=0
   .have hd:((n.keys.length:Int)+(n.kids.length:Int) == 0)=true:=by rw[tU];omega
    have HZ:=oh hz;clear hz;go_wp2_with fail;refine (zKx _ _ HVE1.out).mono ?_;rintro x w1 ⟨rfl,hm1⟩;have HM1:=oh (HM.out.trans hm1);clear hm1;go_wp2_with fail;go_ret;exact⟨zX (by
     unfold zFi;rw[HA.out,wX.2 (tB HZ.out.1),wX.2 (tB HZ.out.2)];rfl),HM1.out⟩
   .have hd:((n.keys.length:Int)+(n.kids.length:Int) == 0)=false:=by rw[uV];omega
    have HZ:=oh hz;clear hz;go_wp2_with fail;go_ret;exact⟨zX (by
     unfold zFi;have:(n.keys.isEmpty && n.kids.isEmpty)=false:=by
      rw[<- pK,uK,wX,wX];rintro⟨a,b⟩;exact HZ.out ⟨by rw[a];rfl,by rw[b];rfl⟩
     rw[this];simp),HM.out⟩
end
def zHd(n:zF):Bool:=n.entries.isEmpty && decide (2<=n.kids.length) && decide (n.kids.length=n.keys.length+1) && decide (n.kids.length<=256)
theorem zBy(n:zF):zDd n=(zHd n && (n.kids.all zCL && decide n.kids.Nodup) && n.keys.all qC && jS n.keys):=by
 unfold zDd zHd;simp only[Bool.and_assoc]
theorem zDe(n:zF):zHd n=true ↔ n.entries.length=0/\2<=n.kids.length/\n.kids.length=n.keys.length+1/\n.kids.length<=256:=by
 unfold zHd;simp only[uK,uQ,wX,wL,and_assoc]
theorem zMb{l:List Int}{k:Nat}(hk:k<l.length)(h:(l.take k).Nodup)(hn:l[k] ∉ l.take k):(l.take (k+1)).Nodup:=by
 rw[yJ l k l[k] (by simp[hk])];rw[wD];refine⟨h,by simp,λa ha b hb e=>?_⟩;rw[wS.1 hb] at e;rw[e] at ha;exact hn ha
theorem zOe{l:List Int}{k:Nat}(hk:k<l.length)(hn:l[k]∈l.take k):¬ l.Nodup:=by
 intro h;obtain⟨i,hi,e⟩:=wQ hn;rw[nC] at e;have hik:i<k:=by simp at hi;omega
 exact List.pairwise_iff_getElem.1 h i k (by omega) hk hik e
section
variable {F:Nat->Prop}{ad:Nat->Addr}{w w':World}
theorem zMc(n:zF)(ve vk vi:Value)(hve:Sl F w 4 vA ve n.entries)(hvk:Sl F w 1 qK vk n.keys)(hvi:Sl F w 1 yB vi n.kids) :
  Calls Tryz.prog 171 #[.agg #[.bool n.leaf,ve,vk,vi]] w λe w'=>e=.returned (.bool (zDd n))/\zJ w w':=by
 have HVI:=oh hvi;have HVK:=oh hvk;obtain⟨ae,ce,rfl,he1,he2,he3,hee⟩:=hve;obtain⟨ak,ck,rfl,hk1,hk2,hk3,hkk⟩:=hvk;obtain⟨ai,ci,rfl,hi1,hi2,hi3,hii⟩:=hvi;unfold maxLen at he2 hk2 hi2;clear hee;generalize hlf:n.leaf=lf
 clear hlf;cases hh:zHd n with
 | false =>
  have HR:Hid (zDd n=false):=oh (by rw[zBy,hh];rfl);have hn:¬ (n.entries.length=0/\2<=n.kids.length/\n.kids.length=n.keys.length+1/\n.kids.length<=256):=λh=>by rw[(zDe n).2 h] at hh;cases hh
  clear hh hkk hii HVI HVK;generalize n.entries.length=N1 at *
  generalize n.kids.length=N2 at *
  generalize n.keys.length=N3 at *
  by_cases h1:(0:Int)<(N1:Int)
  .clear hn
   go_enter Tryz.func171, Tryz.ntmps171
   go_wp2_with fail;go_ret;exact⟨zX HR.out.symm,(zA.refl _ w).alloc _⟩
  .by_cases h2:(N2:Int)<2
   .clear hn
    go_enter Tryz.func171, Tryz.ntmps171
    go_wp2_with fail;go_ret;exact⟨zX HR.out.symm,(zA.refl _ w).alloc _⟩
   .by_cases h3:N2=N3+1
    .subst h3;have h4:(256:Int)<(N3:Int)+1:=by omega
     clear hn
     go_enter Tryz.func171, Tryz.ntmps171
     go_wp2_with fail;go_ret;exact⟨zX HR.out.symm,(zA.refl _ w).alloc _⟩
    .have h5:((N2:Int) != (N3:Int)+1)=true:=by rw[bne_iff_ne];omega
     clear hn h3
     go_enter Tryz.func171, Tryz.ntmps171
     go_wp2_with fail;go_ret;exact⟨zX HR.out.symm,(zA.refl _ w).alloc _⟩
 | true =>
  have HR:Hid (zDd n=((n.kids.all zCL && decide n.kids.Nodup) && n.keys.all qC && jS n.keys)):=oh (by rw[zBy,hh,pO]);obtain⟨g1,g2,g3,g4⟩:=(zDe n).1 hh;rw[g3] at hi1 hi3 g2 g4;rw[g1,g3];have HG3:=oh g3;have h2:¬ (n.keys.length:Int)+1<2:=by omega
  have h4:¬ (256:Int)<(n.keys.length:Int)+1:=by omega
  clear hh g1 g3
  go_enter Tryz.func171, Tryz.ntmps171
  go_wp2_with fail;go_loopg [36] (n.keys.length+1) (λm i wr=>∃k:Nat,k+m=n.keys.length+1/\i=.int .i64 k/\Hid ((∀x∈n.kids.take k,zCL x=true)/\(n.kids.take k).Nodup)/\zJ w wr/\wr.cell? ⟨w.heap.size,2,none⟩=some (.slice ak n.keys.length ck)/\wr.cell? ⟨w.heap.size,3,none⟩=some (.slice ai (n.keys.length+1) ci))
  case atStart=>exact⟨0,by omega,rfl,oh ⟨by simp,by simp⟩,(zA.refl _ _).alloc _,by go_cell,by go_cell⟩
  case round =>
   obtain⟨k,hkm,rfl,HZ,hm,b2,b3⟩:=hrel;by_cases hlt1:k<n.keys.length+1
   .have hlt:k<n.kids.length:=by rw[HG3.out];exact hlt1
    obtain⟨b,off,rfl,hb,hF,hc⟩:=Sl.at hii hm (λ_ _ f=>f.elim) k hlt;have c0:=hc 0 _ rfl;simp only[uO,wK] at c0;have HM:=oh hm;have HII:=oh hii;have HKK:=oh hkk;have HP:=oh ((HVI.out.ext hm).pre k (by rw[HG3.out];omega));have HLT:=oh hlt;generalize hkx:n.kids[k]=kx at c0
    have HKX:=oh hkx;clear hkx;clear hc hlt hii hm hkk;go_wp2_with fail;refine (zEC kx _).mono ?_;rintro x w1 ⟨rfl,rfl⟩;cases ht:zCL kx
    .have HT:=oh ht;clear ht;go_wp2_with fail;go_ret;exact⟨zX (by rw[HR.out,zJo HLT.out ((congrArg zCL HKX.out).trans HT.out)];rfl),HM.out⟩
    .have HT:=oh ht;clear ht;go_wp2_with fail;refine (zIS _ _ kx HP.out).mono ?_;rintro x w1 ⟨rfl,rfl⟩;by_cases hc:kx∈n.kids.take k
     .have HC:=oh hc;rw[wC hc];clear hc;go_wp2_with fail;go_ret;exact⟨zX (by rw[HR.out,uX (zOe HLT.out (HKX.out ▸ HC.out))];simp),HM.out⟩
     .have HC:=oh hc;rw[uX hc];clear hc;go_wp2_with fail;go_roundg (gk-1)
      case measure=>omega
      case rel=>exact⟨k+1,by omega,by go_num,oh ⟨zHb HLT.out HZ.out.1 ((congrArg zCL HKX.out).trans HT.out),zMb HLT.out HZ.out.2 (HKX.out ▸ HC.out)⟩,HM.out,b2,b3⟩
   .have hke:k=n.kids.length:=by rw[HG3.out];omega
    have HA:Hid ((n.kids.all zCL && decide n.kids.Nodup)=true):=oh (by
     rw[zHc hke HZ.out.1];have:=HZ.out.2;rw[hke,wU] at this;rw[wC this];rfl)
    have HM:=oh hm;clear hii HZ hke hm hkm;go_wp2_with fail;have hm:=HM.out;clear HM;obtain⟨wo,rfl⟩:∃wo:World,wo=wr:=⟨_,rfl⟩;go_loopg [56] n.keys.length (λm i wr=>∃k:Nat,k+m=n.keys.length/\i=.int .i64 k/\Hid (∀x∈n.keys.take k,qC x=true)/\zJ w wr/\wr.cell? ⟨w.heap.size,2,none⟩=some (.slice ak n.keys.length ck))
    case atStart=>exact⟨0,by omega,rfl,oh (by simp),hm,b2⟩
    case round =>
     obtain⟨k,hkm,rfl,HZ,hm,b2⟩:=hrel;by_cases hlt:k<n.keys.length
     .obtain⟨b,off,rfl,hb,hF,hc⟩:=Sl.at hkk hm (λ_ _ f=>f.elim) k hlt;have c0:=hc 0 _ rfl;simp only[uO,wK] at c0;have HM:=oh hm;have HKK:=oh hkk;clear hc hkk hm;go_wp2_with fail;refine (zBK n.keys[k] _).mono ?_;rintro x w1 ⟨rfl,rfl⟩;cases ht:qC n.keys[k]
      .have HT:=oh ht;clear ht;go_wp2_with fail;go_ret;exact⟨zX (by rw[HR.out,zJo hlt HT.out];simp),HM.out⟩
      .have HT:=oh ht;clear ht;go_wp2_with fail;go_roundg (gk-1)
       case measure=>omega
       case rel=>exact⟨k+1,by omega,by go_num,oh (zHb hlt HZ.out HT.out),HM.out,b2⟩
     .have hke:k=n.keys.length:=by omega
      have HB:Hid (n.keys.all qC=true):=oh (zHc hke HZ.out);have HM:=oh hm;have HVK1:=oh (HVK.out.ext hm);clear HZ hke hm hkk;go_wp2_with fail;refine (zKy _ _ HVK1.out).mono ?_;rintro x w1 ⟨rfl,hm1⟩;have HM1:=oh (HM.out.trans hm1);clear hm1;go_wp2_with fail;go_ret;exact⟨zX (by rw[HR.out,HA.out,HB.out];rfl),HM1.out⟩
end
def zBz(n:zF):Option Err:=if zM n=true then none else some ([-1],1)
section
variable {F:Nat->Prop}{ad:Nat->Addr}{w w':World}
theorem zEq(hL:yW F ad w)(n:zF)(ve vk vi:Value)(hve:Sl F w 4 vA ve n.entries)(hvk:Sl F w 1 qK vk n.keys)(hvi:Sl F w 1 yB vi n.kids) :
  Calls Tryz.prog 129 #[.agg #[.bool n.leaf,ve,vk,vi]] w λe w'=>∃ev,e=.returned ev/\zBt F ad w' ev (zBz n)/\zJ w w':=by
 have m0:zJ w (w.alloc (.cells #[.bool n.leaf,ve,vk,vi] 118)):=(zA.refl _ w).alloc _;have HB0:=oh (zL.new w #[.bool n.leaf,ve,vk,vi] 118);have HVE:=oh (hve.ext m0);have HVK:=oh (hvk.ext m0);have HVI:=oh (hvi.ext m0);have HL:=oh (hL.mods m0.ext);have HM0:=oh m0;have HN1:Hid (∀w1,zJ w w1->yW F ad w1):=oh (λw1 h=>hL.mods h.ext);obtain⟨ae,ce,rfl,he1,he2,he3,_⟩:=hve;clear hvk hvi hL m0;unfold maxLen at he2;cases hlf:n.leaf
 .have HR:Hid (zBz n=if zDd n=true then none else some ([-1],1)):=oh (by unfold zBz;rw[zCB hlf]);rw[hlf] at HB0 HVE HVK HVI HM0 HL;have HCI:=oh (zMc n _ _ _ HVE.out HVK.out HVI.out);rw[hlf] at HCI;clear hlf
  go_enter Tryz.func129, Tryz.ntmps129
  go_wp2_with fail;refine (HCI.out).mono ?_;rintro e w1 ⟨rfl,hm1⟩;have hB1:=HB0.out.ext hm1;have b0:=hB1.cell (o:=0) (v:=.bool false) rfl;have b1:=hB1.cell (o:=1) (v:=.slice ae n.entries.length ce) rfl;have HM1:=oh (HM0.out.trans hm1);have hL1:=HN1.out _ HM1.out;have g1:=hL1.c1;have HL1:=oh hL1;clear hm1 hB1 hL1;cases hin:zDd n
  .rw[hin,if_neg (by simp)] at HR;go_wp2_with fail;refine (qG HL1.out _ _ [] 1 (.sent 1 (by decide) (by decide))).mono ?_;rintro e w2 ⟨f,rfl,hE,hm2⟩;have HE:=oh hE;have HM2:=oh (HM1.out.trans hm2);clear hE hm2;go_wp2_with fail;go_ret;exact⟨_,rfl,by rw[HR.out];exact⟨f,rfl,HE.out⟩,HM2.out⟩
  .rw[hin,if_pos rfl] at HR;have hz:n.entries.length=0:=by
    rw[zBy] at hin;simp only[uK] at hin;exact ((zDe n).1 hin.1.1.1).1
   rw[hz] at b1;clear hin hz;go_wp2_with fail;go_ret;exact⟨_,rfl,by rw[HR.out];rfl,HM1.out⟩
 .have HR:Hid (zBz n=if (zFi n && decide (n.entries.length<=65535))=true then none else some ([-1],1)):=oh (by unfold zBz;rw[zFB hlf]);rw[hlf] at HB0 HVE HVK HVI HM0 HL;have HCI:=oh (zOd n _ _ _ HVE.out HVK.out HVI.out);rw[hlf] at HCI;clear hlf
  go_enter Tryz.func129, Tryz.ntmps129
  go_wp2_with fail;refine (HCI.out).mono ?_;rintro e w1 ⟨rfl,hm1⟩;have hB1:=HB0.out.ext hm1;have b0:=hB1.cell (o:=0) (v:=.bool true) rfl;have b1:=hB1.cell (o:=1) (v:=.slice ae n.entries.length ce) rfl;have HM1:=oh (HM0.out.trans hm1);have hL1:=HN1.out _ HM1.out;have g1:=hL1.c1;have HL1:=oh hL1;clear hm1 hB1 hL1;cases hin:zFi n
  .rw[hin,nD,if_neg (by simp)] at HR;clear hin;go_wp2_with fail;refine (qG HL1.out _ _ [] 1 (.sent 1 (by decide) (by decide))).mono ?_;rintro e w2 ⟨f,rfl,hE,hm2⟩;have HE:=oh hE;have HM2:=oh (HM1.out.trans hm2);clear hE hm2;go_wp2_with fail;go_ret;exact⟨_,rfl,by rw[HR.out];exact⟨f,rfl,HE.out⟩,HM2.out⟩
  .rw[hin,pO] at HR;clear hin;by_cases hl:(65535:Int)<(n.entries.length:Int)
   .rw[uX (by omega),if_neg (by simp)] at HR;go_wp2_with fail;refine (qG HL1.out _ _ [] 1 (.sent 1 (by decide) (by decide))).mono ?_;rintro e w2 ⟨f,rfl,hE,hm2⟩;have HE:=oh hE;have HM2:=oh (HM1.out.trans hm2);clear hE hm2;go_wp2_with fail;go_ret;exact⟨_,rfl,by rw[HR.out];exact⟨f,rfl,HE.out⟩,HM2.out⟩
   .rw[wC (by omega),if_pos rfl] at HR;go_wp2_with fail;go_ret;exact⟨_,rfl,by rw[HR.out];rfl,HM1.out⟩
end
end
end Go.Proofs.YtchklfmggpconaaGreatDoor
