import Derived.BigQuiet
import Derived.Test.YteabpacpngaoaaaGreatDoorC10
import Derived.Test.YteabpacpngaoaaaGreatDoorC24
namespace Go.Proofs.YteabpacpngaoaaaGreatDoor
open Lib renaming hid->oh
set_option maxRecDepth 100000
section
open Go.RowKit
section
variable {F:Nat->Prop}{ad:Nat->Addr}{w w':World}
theorem zOO(kb:Nat)(e:zV)(key:ByteArray)(hk:w.cell? ⟨kb,0,none⟩=some (.string key)) :
  Calls Tryz.prog 196 #[.agg #[.string e.key,.string e.value,.int .i64 e.chain,.int .i64 e.size],.pointer (some ⟨kb,0,none⟩)] w λx w'=>x=.returned (.bool (!ltS e.key key))/\zF w w':=by
 have hlt:=yH hk;have hk0:(w.alloc (.cells #[.string e.key,.string e.value,.int .i64 e.chain,.int .i64 e.size] 228)).cell? ⟨kb,0,none⟩=some (.string key):=zE ((zA.refl _ w).alloc _) hk
 go_enter Tryz.func196, Tryz.ntmps196
 go_wp2_with fail;go_ret;exact⟨rfl,(zA.refl _ w).alloc _⟩
theorem zOP(kb:Nat)(k:ByteArray)(key:ByteArray)(hk:w.cell? ⟨kb,0,none⟩=some (.string key)) :
  Calls Tryz.prog 198 #[.string k,.pointer (some ⟨kb,0,none⟩)] w λx w'=>x=.returned (.bool (!leS k key))/\zF w w':=by
 go_enter Tryz.func198, Tryz.ntmps198
 go_wp2_with fail;go_ret;exact⟨yB (by simp[leS]),zA.refl _ _⟩
theorem zGf{α:Type}{p:α->Bool}{l:List α}{k:Nat}(hk:k<l.length)(h:∀x∈l.take k,p x=false)(hp:p l[k]=true):l.findIdx p=k:=by
 rw[List.findIdx_eq hk];exact⟨hp,λj hj=>h _ (List.mem_take_iff_getElem.2 ⟨j,by omega,rfl⟩)⟩
theorem zHm{α:Type}{p:α->Bool}{l:List α}(h:∀x∈l,p x=false):l.findIdx p=l.length:=List.findIdx_eq_length.2 h
theorem zHn(kb:Nat)(key:ByteArray)(hk:w.cell? ⟨kb,0,none⟩=some (.string key))(ve:Value)(l:List zV)(hve:Sl F w 4 zAO ve l) :
  Calls Tryz.prog 195 #[ve,.func (.func 196) #[] #[.pointer (some ⟨kb,0,none⟩)]] w λx w'=>x=.returned (.int .i64 (l.findIdx λe=>!ltS e.key key:Nat))/\zF w w':=by
 obtain⟨ae,ce,rfl,he1,he2,he3,hee⟩:=hve;unfold maxLen at he2
 go_enter Tryz.func195, Tryz.ntmps195
 go_wp2_with fail;go_loopg [9] l.length (λm i wr=>∃k:Nat,k+m=l.length/\i=.int .i64 k/\Hid (∀x∈l.take k,(!ltS x.key key)=false)/\zF w wr)
 case atStart=>exact⟨0,by omega,rfl,oh (by simp),zA.refl _ _⟩
 case round =>
  obtain⟨k,hkm,rfl,HZ,hm⟩:=hrel;by_cases hlt:k<l.length
  .obtain⟨b,off,rfl,hb,hF,hc⟩:=Sl.at hee hm (λ_ _ f=>f.elim) k hlt;have c0:=hc 0 _ rfl;simp only[Nat.add_zero] at c0;have c1:=hc 1 _ rfl;have c2:=hc 2 _ rfl;have c3:=hc 3 _ rfl;have hkb:=zE hm hk;have HM:=oh hm;have HEE:=oh hee;have HK:=oh hk;clear hc hee hk hm;have hkb2:=λv=>zE ((zA.refl _ wr).alloc v) hkb
   go_wp2_with fail;refine (zOO kb l[k] key (hkb2 _)).mono ?_;rintro x w1 ⟨rfl,hm1⟩;have HM1:Hid (zF w w1):=oh ((HM.out.alloc _).trans hm1);clear hm1 hkb hkb2;cases ht:ltS l[k].key key
   .have HT:=oh ht;clear ht;go_wp2_with fail;go_ret;exact⟨by rw[zGf hlt HZ.out (by rw[HT.out];rfl)];rfl,HM1.out⟩
   .have HT:=oh ht;clear ht;go_wp2_with fail;go_roundg (gk-1)
    case measure=>omega
    case rel=>exact⟨k+1,by omega,by go_num,oh (λx hx=>by
     rw[jA l k l[k] (by simp[hlt])] at hx;rcases List.mem_append.1 hx with h|h
     .exact HZ.out x h
     .rw[List.mem_singleton.1 h,HT.out];rfl),HM1.out⟩
  .have hke:k=l.length:=by omega
   go_wp2_with fail;go_ret;exact⟨by rw[zHm (by have:=HZ.out;rwa [hke,List.take_length] at this)];rfl,hm⟩
theorem zMV(kb:Nat)(key:ByteArray)(hk:w.cell? ⟨kb,0,none⟩=some (.string key))(ve:Value)(l:List ByteArray)(hve:Sl F w 1 vZ ve l) :
  Calls Tryz.prog 197 #[ve,.func (.func 198) #[] #[.pointer (some ⟨kb,0,none⟩)]] w λx w'=>x=.returned (.int .i64 (l.findIdx λk=>!leS k key:Nat))/\zF w w':=by
 obtain⟨ae,ce,rfl,he1,he2,he3,hee⟩:=hve;unfold maxLen at he2
 go_enter Tryz.func197, Tryz.ntmps197
 go_wp2_with fail;go_loopg [9] l.length (λm i wr=>∃k:Nat,k+m=l.length/\i=.int .i64 k/\Hid (∀x∈l.take k,(!leS x key)=false)/\zF w wr)
 case atStart=>exact⟨0,by omega,rfl,oh (by simp),zA.refl _ _⟩
 case round =>
  obtain⟨k,hkm,rfl,HZ,hm⟩:=hrel;by_cases hlt:k<l.length
  .obtain⟨b,off,rfl,hb,hF,hc⟩:=Sl.at hee hm (λ_ _ f=>f.elim) k hlt;have c0:=hc 0 _ rfl;simp only[Nat.add_zero,Nat.mul_one] at c0;have hkb:=zE hm hk;have HM:=oh hm;have HEE:=oh hee;have HK:=oh hk;clear hc hee hk hm;go_wp2_with fail;refine (zOP kb l[k] key hkb).mono ?_;rintro x w1 ⟨rfl,hm1⟩;have HM1:Hid (zF w w1):=oh (HM.out.trans hm1);clear hm1 hkb;cases ht:leS l[k] key
   .have HT:=oh ht;clear ht;go_wp2_with fail;go_ret;exact⟨by rw[zGf hlt HZ.out (by rw[HT.out];rfl)];rfl,HM1.out⟩
   .have HT:=oh ht;clear ht;go_wp2_with fail;go_roundg (gk-1)
    case measure=>omega
    case rel=>exact⟨k+1,by omega,by go_num,oh (λx hx=>by
     rw[jA l k l[k] (by simp[hlt])] at hx;rcases List.mem_append.1 hx with h|h
     .exact HZ.out x h
     .rw[List.mem_singleton.1 h,HT.out];rfl),HM1.out⟩
  .have hke:k=l.length:=by omega
   go_wp2_with fail;go_ret;exact⟨by rw[zHm (by have:=HZ.out;rwa [hke,List.take_length] at this)];rfl,hm⟩
theorem zR2(a b:ByteArray):(a.toList == b.toList)=decide (a=b):=by
 by_cases h:a=b
 .rw[h];simp
 .rw[decide_eq_false h,beq_eq_false_iff_ne];intro e;rw[ByteArray.toList_eq,ByteArray.toList_eq] at e;exact h (ByteArray.ext (Array.toList_inj.1 e))
def zE2(n:zJ)(key:ByteArray):Nat × Bool :=
 if n.leaf then
  let i:=n.entries.findIdx λe=>!ltS e.key key
  (i,match n.entries[i]? with|some e=>decide (e.key=key)|none=>false)
 else (n.keys.findIdx λk=>!leS k key,false)
theorem zFi(n:zJ)(key:ByteArray)(ve vk vi:Value)(hve:Sl F w 4 zAO ve n.entries)(hvk:Sl F w 1 vZ vk n.keys) :
  Calls Tryz.prog 125 #[.agg #[.bool n.leaf,ve,vk,vi],.string key] w λx w'=>x=.returned (.tuple #[.int .i64 ((zE2 n key).1:Nat),.bool (zE2 n key).2])/\zF w w':=by
 have m0:zF w ((w.alloc (.cells #[.bool n.leaf,ve,vk,vi] 174)).alloc (.cells #[.string key] 9)):=((zA.refl _ w).alloc _).alloc _;have HE:=oh (hve.ext m0);have HK:=oh (hvk.ext m0);have M0:=oh m0;clear hve hvk m0;cases hleaf:n.leaf
 .have HR:Hid (zE2 n key=(n.keys.findIdx λk=>!leS k key,false)):=oh (by unfold zE2;rw[hleaf];rfl);rw[hleaf] at HE HK M0;clear hleaf
  go_enter Tryz.func125, Tryz.ntmps125
  go_wp2_with fail;refine (zMV (w.heap.size+1) key (by go_cell) vk n.keys HK.out).mono ?_;rintro x w1 ⟨rfl,hm1⟩;have HM1:=oh (M0.out.trans hm1);clear hm1;go_wp2_with fail;go_ret2
  exact⟨by rw[HR.out];rfl,HM1.out⟩
 .rw[hleaf] at HE HK M0;have HL:=oh hleaf;clear hleaf;obtain⟨q,hq⟩:∃q,q=n.entries.findIdx λe=>!ltS e.key key:=⟨_,rfl⟩
  have HR:Hid (zE2 n key=(q,match n.entries[q]? with|some e=>decide (e.key=key)|none=>false)):=oh (by unfold zE2;rw[HL.out,hq];rfl);have HQ:=oh hq;clear hq;obtain⟨ae,ce,rfl,he1,he2,he3,hee⟩:=_root_.id HE.out;have HEE:=oh hee;clear hee;by_cases hlt:q<n.entries.length
  .go_enter Tryz.func125, Tryz.ntmps125
   go_wp2_with fail;refine (zHn (w.heap.size+1) key (by go_cell) _ n.entries HE.out).mono ?_;rintro x w1 ⟨rfl,hm1⟩;rw[<- HQ.out];have HM1:=oh (M0.out.trans hm1);obtain⟨b,off,rfl,hb,hF,hc⟩:=Sl.at HEE.out hm1 (λ_ _ f=>f.elim) q hlt;have c0:=hc 0 _ rfl;simp only[Nat.add_zero] at c0;have x1:w1.cell? ⟨w.heap.size,1,none⟩=some (.slice (some ⟨b,off,none⟩) n.entries.length ce):=zE hm1 (by go_cell);have x2:w1.cell? ⟨w.heap.size+1,0,none⟩=some (.string key):=zE hm1 (by go_cell);have hd:decide ((q:Int)<(n.entries.length:Int))=true:=decide_eq_true (by omega);have HG:Hid (n.entries[q]? = some n.entries[q]):=oh (List.getElem?_eq_getElem hlt);clear hm1 hc;go_wp2_with fail;go_quiet (fail)
   go_wp2_with fail;go_ret2
   exact⟨by rw[zR2,HR.out,HG.out];rfl,HM1.out.drewN _⟩
  .go_enter Tryz.func125, Tryz.ntmps125
   go_wp2_with fail;refine (zHn (w.heap.size+1) key (by go_cell) _ n.entries HE.out).mono ?_;rintro x w1 ⟨rfl,hm1⟩;rw[<- HQ.out];have HM1:=oh (M0.out.trans hm1);have x1:w1.cell? ⟨w.heap.size,1,none⟩=some (.slice ae n.entries.length ce):=zE hm1 (by go_cell);have hd:decide ((q:Int)<(n.entries.length:Int))=false:=decide_eq_false (by omega);have HG:Hid (n.entries[q]? = none):=oh (List.getElem?_eq_none (by omega));clear hm1;go_wp2_with fail;go_quiet (fail)
   go_wp2_with fail;go_ret2
   exact⟨by rw[HR.out,HG.out];rfl,HM1.out.drewN _⟩
end
end
section
theorem zPo(a b:ByteArray):(!leS a b)=ltS b a:=by
 cases h:ltS b a with
 | true =>
  rw[Bool.not_eq_true',<- Bool.not_eq_true];intro e;rcases (zNK a b).1 e with k|k
  .rw[zEm h] at k;cases k
  .rw[k,zBA] at h;cases h
 | false =>
  rw[Bool.not_eq_false',zNK];exact (zDo h).imp id Eq.symm
theorem zMW{n:zJ}(h:n.leaf=true)(key:ByteArray):zE2 n key=(zAI key n.entries,zAf key n.entries):=by
 unfold zE2;rw[h];rfl
theorem zK9{n:zJ}(h:n.leaf=false)(key:ByteArray):zE2 n key=(zBS key n.keys,false):=by
 have e:(λk=>!leS k key)=λs=>ltS key s:=by funext s;exact zPo s key
 unfold zE2 zBS;rw[h,e];rfl
end
section
open Go.RowKit
attribute [local go_sem ↓] Go.wp_at_zero Go.wp_at_succ
theorem zFM:∀{l:List ByteArray},jY l=true ↔ ∀(i:Nat) (a b:ByteArray),l[i]? = some a->l[i+1]? = some b->ltS a b=true
 | []=>by simp[jY]
 | [_]=>by simp[jY]
 | x :: y :: l=>by
  rw[jY,Bool.and_eq_true,zFM (l:=y :: l)];constructor
  .rintro⟨h1,h2⟩ i a b ha hb;cases i with
   | zero=>simp at ha hb;subst ha hb;exact h1
   | succ i=>exact h2 i a b (by simpa using ha) (by simpa using hb)
  .intro h;exact⟨h 0 x y rfl rfl,λi a b ha hb=>h (i+1) a b (by simpa using ha) (by simpa using hb)⟩
def zPp(l:List ByteArray)(k:Nat):Prop:=∀(i:Nat) (a b:ByteArray),i+1<k->l[i]? = some a->l[i+1]? = some b->ltS a b=true
theorem zLA{l:List ByteArray}{k:Nat}(h:zPp l k)(hk:l.length<=k):jY l=true :=
 zFM.2 λi a b ha hb=>h i a b (by have:=(List.getElem?_eq_some_iff.1 hb).1;omega) ha hb
theorem zJA{l:List ByteArray}{k:Nat}{a b:ByteArray}(h:zPp l (k+1))(ha:l[k]? = some a)(hb:l[k+1]? = some b)(hl:leS b a=false):zPp l (k+2):=by
 intro i x y hi hx hy;by_cases e:i=k
 .subst e;rw[ha] at hx;rw[hb] at hy;injection hx with hx;injection hy with hy;subst hx hy;have:=zPo b a;rw[hl] at this;exact this.symm
 .exact h i x y (by omega) hx hy
theorem zHo{l:List ByteArray}{k:Nat}{a b:ByteArray}(ha:l[k]? = some a)(hb:l[k+1]? = some b)(hl:leS b a=true):jY l=false:=by
 rw[<- Bool.not_eq_true];intro h;have h1:=zFM.1 h k a b ha hb;have:=zPo b a;rw[hl,h1] at this;cases this
section
variable {F:Nat->Prop}{ad:Nat->Addr}{w w':World}
theorem zEa(n:Int)(w:World) : Calls Tryz.prog 289 #[.int .i64 n] w λe w'=>e=.returned (.bool (zCo n))/\w=w':=by
 by_cases h1:2<=n
 all_goals
  have h2:=oh h1
  go_enter Tryz.func289, Tryz.ntmps289
  go_wp2
  go_ret;exact⟨yB (by have:=h2.out;simp only[zCo];first|(rw[decide_eq_true this];simp)|(rw[decide_eq_false (by omega)];simp)),rfl⟩
theorem zMX(e:zV)(w:World) : Calls Tryz.prog 286 #[.agg #[.string e.key,.string e.value,.int .i64 e.chain,.int .i64 e.size]] w λx w'=>x=.returned (.bool (vC e))/\zF w w':=by
 have M0:Hid (zF w (w.alloc (.cells #[.string e.key,.string e.value,.int .i64 e.chain,.int .i64 e.size] 228))):=oh ((zA.refl _ w).alloc _);cases hk:zAE e.key with
 | false =>
  have HR:Hid (vC e=false):=oh (by unfold vC;rw[hk];rfl)
  go_enter Tryz.func286, Tryz.ntmps286
  go_wp2_with fail;refine (zCH _ _).mono ?_;rintro x w1 ⟨rfl,rfl⟩;rw[hk];go_wp2_with fail;go_ret;exact⟨yB HR.out.symm,M0.out⟩
 | true =>
  by_cases hz:e.chain=0
  .have hzb:(e.chain == 0)=true:=beq_iff_eq.2 hz;have HR:Hid (vC e=(decide (e.size=0) && decide (e.value.size<=24))):=oh (by unfold vC;rw[hk,if_pos hz];rfl);clear hz;by_cases hs:e.size=0
   .have hsb:(e.size == 0)=true:=beq_iff_eq.2 hs;have HS:=oh hs;clear hs;by_cases hv:(e.value.size:Int)<=24
    all_goals
     have HV:=oh hv
     go_enter Tryz.func286, Tryz.ntmps286
     go_wp2_with fail;refine (zCH _ _).mono ?_;rintro x w1 ⟨rfl,rfl⟩;rw[hk];go_wp2_with fail;go_ret;exact⟨yB (by rw[HR.out,HS.out];have:=HV.out;first|(rw[decide_eq_true (show e.value.size<=24 by omega)];simp;done)|(rw[decide_eq_false (show ¬ e.value.size<=24 by omega)];simp;omega)),M0.out⟩
   .have hsb:(e.size == 0)=false:=beq_eq_false_iff_ne.2 hs;have HS:=oh hs;clear hs
    go_enter Tryz.func286, Tryz.ntmps286
    go_wp2_with fail;refine (zCH _ _).mono ?_;rintro x w1 ⟨rfl,rfl⟩;rw[hk];go_wp2_with fail;go_ret;exact⟨yB (by rw[HR.out,decide_eq_false HS.out];rfl),M0.out⟩
  .have hzb:(e.chain == 0)=false:=beq_eq_false_iff_ne.2 hz;have HR:Hid (vC e=(zCo e.chain && decide (e.value.size=0) && decide (24<e.size) && decide (e.size<=4096))):=oh (by unfold vC;rw[hk,if_neg hz];rfl);clear hz;cases hkd:zCo e.chain with
   | false =>
    rw[hkd] at HR
    go_enter Tryz.func286, Tryz.ntmps286
    go_wp2_with fail;refine (zCH _ _).mono ?_;rintro x w1 ⟨rfl,rfl⟩;rw[hk];go_wp2_with fail;refine (zEa _ _).mono ?_;rintro x w1 ⟨rfl,rfl⟩;rw[hkd];go_wp2_with fail;go_ret;exact⟨yB (by rw[HR.out];rfl),M0.out⟩
   | true =>
    rw[hkd] at HR;have hve:(e.value.toList == [])=decide (e.value.size=0):=by
     rw[ByteArray.toList_eq];have:e.value.data.toList.length=e.value.size:=by rw[Array.length_toList];rfl
     by_cases hv0:e.value.size=0
     .rw[decide_eq_true hv0,List.eq_nil_of_length_eq_zero (by omega:e.value.data.toList.length=0)];rfl
     .rw[decide_eq_false hv0,beq_eq_false_iff_ne];intro h;rw[h] at this;simp at this;omega
    by_cases hv0:e.value.size=0
    .have hv1:e.value=⟨#[]⟩:=ByteArray.ext (Array.eq_empty_of_size_eq_zero hv0);rw[decide_eq_true hv0] at HR;clear hve hv0;by_cases h24:24<e.size
     .rw[decide_eq_true h24] at HR;by_cases h4:e.size<=4096
      all_goals
       have HV:=oh hv1;have HD:=oh h4;clear hv1
       go_enter Tryz.func286, Tryz.ntmps286
       go_wp2_with fail;refine (zCH _ _).mono ?_;rintro x w1 ⟨rfl,rfl⟩;rw[hk];go_wp2_with fail;refine (zEa _ _).mono ?_;rintro x w1 ⟨rfl,rfl⟩;rw[hkd,HV.out];go_wp2_with fail;go_ret;exact⟨yB (by rw[HR.out];have:=HD.out;first|(rw[decide_eq_true (show e.size<=4096 by omega)];rfl)|(rw[decide_eq_false (show ¬ e.size<=4096 by omega)];rfl)),(zA.refl _ w).alloc _⟩
     .rw[decide_eq_false h24] at HR;have HV:=oh hv1;clear hv1
      go_enter Tryz.func286, Tryz.ntmps286
      go_wp2_with fail;refine (zCH _ _).mono ?_;rintro x w1 ⟨rfl,rfl⟩;rw[hk];go_wp2_with fail;refine (zEa _ _).mono ?_;rintro x w1 ⟨rfl,rfl⟩;rw[hkd,HV.out];go_wp2_with fail;go_ret;exact⟨yB (by rw[HR.out];rfl),(zA.refl _ w).alloc _⟩
    .rw[decide_eq_false hv0] at hve HR;clear hv0
     go_enter Tryz.func286, Tryz.ntmps286
     go_wp2_with fail;refine (zCH _ _).mono ?_;rintro x w1 ⟨rfl,rfl⟩;rw[hk];go_wp2_with fail;refine (zEa _ _).mono ?_;rintro x w1 ⟨rfl,rfl⟩;rw[hkd];go_wp2_with fail;go_ret;exact⟨yB (by rw[HR.out];rfl),M0.out⟩
theorem zJB(e:zV)(w:World) : Calls Tryz.prog 288 #[.agg #[.string e.key,.string e.value,.int .i64 e.chain,.int .i64 e.size]] w λx w'=>x=.returned (.string e.key)/\zF w w':=by
 go_enter Tryz.func288, Tryz.ntmps288
 go_wp2_with fail;go_ret;exact⟨rfl,(zA.refl _ w).alloc _⟩
theorem zMY(k:ByteArray)(w:World) : Calls Tryz.prog 292 #[.string k] w λx w'=>x=.returned (.string k)/\w=w':=by
 go_enter Tryz.func292, Tryz.ntmps292
 go_wp2_with fail;go_ret;exact⟨rfl,rfl⟩
end
section
variable {F:Nat->Prop}{ad:Nat->Addr}{w w':World}
theorem zLB(ve:Value)(l:List zV)(hve:Sl F w 4 zAO ve l) :
    Calls Tryz.prog 287 #[ve,.func (.func 288) #[] #[]] w λx w'=>x=.returned (.bool (jY (l.map (·.key))))/\zF w w':=by
  obtain⟨ae,ce,rfl,he1,he2,he3,hee⟩:=hve
  unfold maxLen at he2
  go_enter Tryz.func287, Tryz.ntmps287
  go_wp2_with fail
  go_loopg [5] l.length (λm i wr=>∃k:Nat,k+m=l.length/\i=.int .i64 ((k+1:Nat):Int)/\Hid (zPp (l.map (·.key)) (k+1))/\zF w wr)
  case atStart=>exact⟨0,by omega,rfl,oh (λi a b hi=>by omega),zA.refl _ _⟩
  case round =>
    obtain⟨k,hkm,rfl,HZ,hm⟩:=hrel
    by_cases hlt:k+1<l.length
    . obtain⟨b,off,rfl,hb,hF,hc⟩:=Sl.at hee hm (λ_ _ f=>f.elim) (k+1) hlt
      obtain⟨b',off',hbb,hb',hF',hd⟩:=Sl.at hee hm (λ_ _ f=>f.elim) k (by omega)
      injection hbb with hbb
      injection hbb with hbb1 hbb2
      subst hbb1 hbb2
      have c0:=hc 0 _ rfl
      simp only[Nat.add_zero] at c0
      have c1:=hc 1 _ rfl
      have c2:=hc 2 _ rfl
      have c3:=hc 3 _ rfl
      have d0:=hd 0 _ rfl
      simp only[Nat.add_zero] at d0
      have d1:=hd 1 _ rfl
      have d2:=hd 2 _ rfl
      have d3:=hd 3 _ rfl
      have HM:=oh hm
      have HEE:=oh hee
      clear hc hd hee hm
      have i1:(0:Int)<=(k:Int)+1:=by omega
      have i2:(k:Int)+1<(l.length:Int):=by omega
      have i3:(0:Int)<=(k:Int):=by omega
      have i4:(k:Int)<(l.length:Int):=by omega
      have hw1:IntKind.i64.wrap ((k:Int)+1-1)=(k:Int):=by rw[show (k:Int)+1-1=k by omega];exact IntWalk.i64_in _ (by omega)
      have hw2:IntKind.i64.wrap (k:Int)=(k:Int):=IntWalk.i64_in _ (by omega)
      go_wp2_with fail
      go_region_held3 (λw'=>w'.cell? ⟨b,off+(k+1) * 4,none⟩=some (.string l[k+1].key)/\w'.cell? ⟨b,off+(k+1) * 4+1,none⟩=some (.string l[k+1].value)/\w'.cell? ⟨b,off+(k+1) * 4+2,none⟩=some (.int .i64 l[k+1].chain)/\w'.cell? ⟨b,off+(k+1) * 4+3,none⟩=some (.int .i64 l[k+1].size) /\
          w'.cell? ⟨b,off+k * 4,none⟩=some (.string l[k].key)/\w'.cell? ⟨b,off+k * 4+1,none⟩=some (.string l[k].value)/\w'.cell? ⟨b,off+k * 4+2,none⟩=some (.int .i64 l[k].chain)/\w'.cell? ⟨b,off+k * 4+3,none⟩=some (.int .i64 l[k].size))
        (first|(with_reducible exact⟨x0,x1,x2,x3,y0,y1,y2,y3⟩)|go_keep)
        (first
          | (go_at_call 288;(with_reducible refine (zJB l[k+1] _).mono ?_);rintro x w1 ⟨rfl,hm1⟩;have x0:=zE hm1 c0;have x1:=zE hm1 c1;have x2:=zE hm1 c2;have x3:=zE hm1 c3;have y0:=zE hm1 d0;have y1:=zE hm1 d1;have y2:=zE hm1 d2;have y3:=zE hm1 d3)
          | (go_at_call 288;(with_reducible refine (zJB l[k] _).mono ?_);rintro x w2 ⟨rfl,hm2⟩;have hmm:=hm1.trans hm2;have x0:=zE hmm c0;have x1:=zE hmm c1;have x2:=zE hmm c2;have x3:=zE hmm c3;have y0:=zE hmm d0;have y1:=zE hmm d1;have y2:=zE hmm d2;have y3:=zE hmm d3)
          | fail)
      clear c0 c1 c2 c3 d0 d1 d2 d3 x0 x1 x2 x3 y0 y1 y2 y3
      have HM2:Hid (zF w w2):=oh (HM.out.drew.trans hmm)
      clear hm1 hm2 hmm
      have g0:(l.map (·.key))[k]? = some l[k].key:=by simp[List.getElem?_eq_getElem (show k<l.length by omega)]
      have g1:(l.map (·.key))[k+1]? = some l[k+1].key:=by simp[List.getElem?_eq_getElem hlt]
      have G0:=oh g0
      have G1:=oh g1
      clear g0 g1 hw1 hw2
      go_wp2_with fail
      all_goals rename_i hh
      all_goals have HT:=oh hh
      all_goals clear hh
      all_goals first
        | (go_ret
           exact⟨yB (zHo G0.out G1.out (by unfold leS;have:=HT.out;simpa using this)).symm,HM2.out⟩)
        | (go_roundg (gk - 1)
           case measure => omega
           case rel=>exact⟨k+1,by omega,by go_num,oh (zJA HZ.out G0.out G1.out (by unfold leS;have:=HT.out;simpa using this)),HM2.out⟩)
    . have hke:l.length<=k+1:=by omega
      have HK:=oh hke
      go_wp2_with fail
      go_ret
      exact⟨yB (zLA HZ.out (by rw[List.length_map];exact HK.out)).symm,hm⟩
theorem zLC(ve:Value)(l:List ByteArray)(hve:Sl F w 1 vZ ve l) :
    Calls Tryz.prog 291 #[ve,.func (.func 292) #[] #[]] w λx w'=>x=.returned (.bool (jY l))/\zF w w':=by
  obtain⟨ae,ce,rfl,he1,he2,he3,hee⟩:=hve
  unfold maxLen at he2
  go_enter Tryz.func291, Tryz.ntmps291
  go_wp2_with fail
  go_loopg [5] l.length (λm i wr=>∃k:Nat,k+m=l.length/\i=.int .i64 ((k+1:Nat):Int)/\Hid (zPp l (k+1))/\zF w wr)
  case atStart=>exact⟨0,by omega,rfl,oh (λi a b hi=>by omega),zA.refl _ _⟩
  case round =>
    obtain⟨k,hkm,rfl,HZ,hm⟩:=hrel
    by_cases hlt:k+1<l.length
    . obtain⟨b,off,rfl,hb,hF,hc⟩:=Sl.at hee hm (λ_ _ f=>f.elim) (k+1) hlt
      obtain⟨b',off',hbb,hb',hF',hd⟩:=Sl.at hee hm (λ_ _ f=>f.elim) k (by omega)
      injection hbb with hbb
      injection hbb with hbb1 hbb2
      subst hbb1 hbb2
      have c0:=hc 0 _ rfl
      simp only[Nat.add_zero,Nat.mul_one] at c0
      have d0:=hd 0 _ rfl
      simp only[Nat.add_zero,Nat.mul_one] at d0
      have HM:=oh hm
      have HEE:=oh hee
      clear hc hd hee hm
      have i1:(0:Int)<=(k:Int)+1:=by omega
      have i2:(k:Int)+1<(l.length:Int):=by omega
      have i3:(0:Int)<=(k:Int):=by omega
      have i4:(k:Int)<(l.length:Int):=by omega
      have hw1:IntKind.i64.wrap ((k:Int)+1-1)=(k:Int):=by rw[show (k:Int)+1-1=k by omega];exact IntWalk.i64_in _ (by omega)
      have hw2:IntKind.i64.wrap (k:Int)=(k:Int):=IntWalk.i64_in _ (by omega)
      go_wp2_with fail
      go_region_held3 (λw'=>w'.cell? ⟨b,off+(k+1),none⟩=some (.string l[k+1])/\w'.cell? ⟨b,off+k,none⟩=some (.string l[k]))
        (first|(with_reducible exact⟨c0,d0⟩)|go_keep)
        (first
          | (go_at_call 292;(with_reducible refine (zMY _ _).mono ?_);rintro x w1 ⟨rfl,rfl⟩)
          | fail)
      clear c0 d0
      have HM2:Hid (zF w wr.drew):=oh HM.out.drew
      have G0:Hid (l[k]? = some l[k]):=oh (List.getElem?_eq_getElem (by omega))
      have G1:Hid (l[k+1]? = some l[k+1]):=oh (List.getElem?_eq_getElem hlt)
      clear hw1 hw2
      go_wp2_with fail
      all_goals rename_i hh
      all_goals have HT:=oh hh
      all_goals clear hh
      all_goals first
        | (go_ret
           exact⟨yB (zHo G0.out G1.out (by unfold leS;have:=HT.out;simpa using this)).symm,HM2.out⟩)
        | (go_roundg (gk - 1)
           case measure => omega
           case rel=>exact⟨k+1,by omega,by go_num,oh (zJA HZ.out G0.out G1.out (by unfold leS;have:=HT.out;simpa using this)),HM2.out⟩)
    . have hke:l.length<=k+1:=by omega
      have HK:=oh hke
      go_wp2_with fail
      go_ret
      exact⟨yB (zLA HZ.out HK.out).symm,hm⟩
end
end
section
open Go.RowKit
section
variable {F:Nat->Prop}{ad:Nat->Addr}{w w':World}
theorem zIi{α:Type}{l:List α}{k:Nat}{x:α}(hk:k<l.length)(h:x ∉ l.take k)(hx:l[k]≠x):x ∉ l.take (k+1):=by
 rw[jA l k l[k] (by simp[hk])];intro hm;rcases List.mem_append.1 hm with h1|h1
 .exact h h1
 .exact hx (List.mem_singleton.1 h1).symm
def zSK(l:List Int)(n:Int)(w:World)(e:Ending)(w':World):Prop:=∃i:Int,e=.returned (.int .i64 i)/\(n∈l/\0<=i\/n ∉ l/\i = -1)/\w=w'
theorem zMZ(v:Value)(l:List Int)(n:Int)(hv:Sl F w 1 yK v l) : Calls Tryz.prog 295 #[v,.int .i64 n] w (zSK l n w):=by
 obtain⟨a,c,rfl,h1,h2,h3,hc⟩:=hv;unfold maxLen at h2
 go_enter Tryz.func295, Tryz.ntmps295
 go_wp2_with fail;go_loopg [8] l.length (λm i wr=>∃k:Nat,k+m=l.length/\i=.int .i64 k/\Hid (n ∉ l.take k)/\w=wr)
 case atStart=>exact⟨0,by omega,rfl,oh (by simp),rfl⟩
 case round =>
  obtain⟨k,hkm,rfl,HZ,rfl⟩:=hrel;by_cases hlt:k<l.length
  .obtain⟨b,off,rfl,hb,hF,hd⟩:=Sl.at hc (zA.refl (λ_=>False) w) (λ_ _ f=>f.elim) k hlt;have c0:=hd 0 _ rfl;simp only[Nat.add_zero,Nat.mul_one] at c0;clear hd;by_cases hn:l[k]=n
   .have hn1:(n == l[k])=true:=by rw[hn];simp
    have HN:=oh hn;clear hn;go_wp2_with fail;go_ret;exact⟨(k:Int),rfl,.inl ⟨by rw[<- HN.out];exact List.getElem_mem hlt,by omega⟩,rfl⟩
   .have hn1:(n == l[k])=false:=beq_eq_false_iff_ne.2 (λh=>hn h.symm);have HN:=oh hn;clear hn;go_wp2_with fail;go_roundg (gk-1)
    case measure=>omega
    case rel=>exact⟨k+1,by omega,by go_num,oh (zIi hlt HZ.out HN.out),rfl⟩
  .have hke:k=l.length:=by omega
   go_wp2_with fail;go_ret;exact⟨-1,rfl,.inr ⟨by have:=HZ.out;rwa [hke,List.take_length] at this,rfl⟩,rfl⟩
theorem zIj(v:Value)(l:List Int)(n:Int)(hv:Sl F w 1 yK v l) : Calls Tryz.prog 290 #[v,.int .i64 n] w λe w'=>e=.returned (.bool (decide (n∈l)))/\w=w':=by
 have HV:=oh hv;clear hv
 go_enter Tryz.func290, Tryz.ntmps290
 go_wp2_with fail;refine (zMZ v l n HV.out).mono ?_;rintro e w1 ⟨i,rfl,⟨hm,hi⟩|⟨hm,rfl⟩,rfl⟩
 .have HM:=oh hm;clear hm;go_wp2_with fail;go_ret;exact⟨yB (by rw[decide_eq_true HM.out]),rfl⟩
 .have HM:=oh hm;clear hm;go_wp2_with fail;go_ret;exact⟨yB (by rw[decide_eq_false HM.out]),rfl⟩
end
def zFj(n:zJ):Bool:=n.entries.all vC && (n.keys.isEmpty && n.kids.isEmpty) && jY (n.entries.map (·.key))
def zDu(n:zJ):Bool:=n.entries.isEmpty && decide (2<=n.kids.length) && decide (n.kids.length=n.keys.length+1) && decide (n.kids.length<=256) && n.kids.all zCo && decide n.kids.Nodup && n.keys.all zAE && jY n.keys
theorem zFN{n:zJ}(h:n.leaf=true):zO n=(zFj n && decide (n.entries.length<=65535)):=by
 unfold zO zFj;rw[if_pos h];simp only[Bool.and_assoc]
theorem zCS{n:zJ}(h:n.leaf=false):zO n=zDu n:=by
 unfold zO zDu;rw[if_neg (by rw[h];simp)]
theorem zHp{α:Type}{p:α->Bool}{l:List α}{k:Nat}(hk:k<l.length)(h:∀x∈l.take k,p x=true)(hp:p l[k]=true):∀x∈l.take (k+1),p x=true:=by
 intro x hx;rw[jA l k l[k] (by simp[hk])] at hx;rcases List.mem_append.1 hx with h1|h1
 .exact h x h1
 .rw[List.mem_singleton.1 h1];exact hp
theorem zHq{α:Type}{p:α->Bool}{l:List α}{k:Nat}(hk:k=l.length)(h:∀x∈l.take k,p x=true):l.all p=true:=by
 rw[hk,List.take_length] at h;exact List.all_eq_true.2 h
theorem zJy{α:Type}{p:α->Bool}{l:List α}{k:Nat}(hk:k<l.length)(hp:p l[k]=false):l.all p=false:=by
 rw[<- Bool.not_eq_true,List.all_eq_true];intro h;have:=h l[k] (List.getElem_mem hk);rw[hp] at this;cases this
theorem Sl.pre{α:Type}{F:Nat->Prop}{w:World}{sz:Nat}{enc:α->List Value}{a:Option Addr}{n cap:Nat}{l:List α}(h:Sl F w sz enc (.slice a n cap) l)(k:Nat)(hk:k<=l.length):Sl F w sz enc (.slice a k cap) (l.take k):=by
 obtain⟨a',cap',e,h1,h2,h3,h4⟩:=h;injection e with e1 e2 e3;subst e1 e3;have hl:(l.take k).length=k:=by simp;omega
 refine⟨a,cap,by rw[hl],by omega,h2,by omega,?_⟩;rcases h4 with rfl|⟨b,off,rfl,hb,hF,hc⟩
 .exact .inl (by simp)
 .exact .inr ⟨b,off,rfl,hb,hF,λi x hi j u hu=>hc i x (by
   rw[List.getElem?_take] at hi;split at hi
   .exact hi
   .cases hi) j u hu⟩
section
variable {F:Nat->Prop}{ad:Nat->Addr}{w w':World}
theorem zOQ(n:zJ)(ve vk vi:Value)(hve:Sl F w 4 zAO ve n.entries)(hvk:Sl F w 1 vZ vk n.keys)(hvi:Sl F w 1 yK vi n.kids) :
  Calls Tryz.prog 276 #[.agg #[.bool n.leaf,ve,vk,vi]] w λe w'=>e=.returned (.bool (zFj n))/\zF w w':=by
 have HVE:=oh hve;obtain⟨ae,ce,rfl,he1,he2,he3,hee⟩:=hve;obtain⟨ak,ck,rfl,hk1,hk2,hk3,hkk⟩:=hvk;obtain⟨ai,ci,rfl,hi1,hi2,hi3,hii⟩:=hvi;unfold maxLen at he2 hk2 hi2;clear hkk hii;generalize hlf:n.leaf=lf
 clear hlf
 go_enter Tryz.func276, Tryz.ntmps276
 go_wp2_with fail;go_loopg [8] n.entries.length (λm i wr=>∃k:Nat,k+m=n.entries.length/\i=.int .i64 k/\Hid (∀x∈n.entries.take k,vC x=true)/\zF w wr/\wr.cell? ⟨w.heap.size,1,none⟩=some (.slice ae n.entries.length ce)/\wr.cell? ⟨w.heap.size,2,none⟩=some (.slice ak n.keys.length ck)/\wr.cell? ⟨w.heap.size,3,none⟩=some (.slice ai n.kids.length ci))
 case atStart=>exact⟨0,by omega,rfl,oh (by simp),(zA.refl _ _).alloc _,by go_cell,by go_cell,by go_cell⟩
 case round =>
  obtain⟨k,hkm,rfl,HZ,hm,b1,b2,b3⟩:=hrel;by_cases hlt:k<n.entries.length
  .obtain⟨b,off,rfl,hb,hF,hc⟩:=Sl.at hee hm (λ_ _ f=>f.elim) k hlt;have c0:=hc 0 _ rfl;simp only[Nat.add_zero] at c0;have c1:=hc 1 _ rfl;have c2:=hc 2 _ rfl;have c3:=hc 3 _ rfl;have HM:=oh hm;have HEE:=oh hee;clear hc hee hm;go_wp2_with fail;refine (zMX n.entries[k] _).mono ?_;rintro x w1 ⟨rfl,hm1⟩;have hz1:=zE hm1 (zM b1 _);have hz2:=zE hm1 (zM b2 _);have hz3:=zE hm1 (zM b3 _);have HM1:Hid (zF w w1):=oh ((HM.out.alloc _).trans hm1);clear hm1 c0 c1 c2 c3 b1 b2 b3;cases ht:vC n.entries[k]
   .have HT:=oh ht;clear ht;go_wp2_with fail;go_ret;exact⟨yB (by unfold zFj;rw[zJy hlt HT.out];rfl),HM1.out⟩
   .have HT:=oh ht;clear ht;go_wp2_with fail;go_roundg (gk-1)
    case measure=>omega
    case rel=>exact⟨k+1,by omega,by go_num,oh (zHp hlt HZ.out HT.out),HM1.out,hz1,hz2,hz3⟩
  .have hke:k=n.entries.length:=by omega
   have HA:Hid (n.entries.all vC=true):=oh (zHq hke HZ.out);have HM:=oh hm;have HVE1:=oh (HVE.out.ext hm);clear HZ hke hee hm;by_cases hz:n.keys.length=0/\n.kids.length=0
   .have hd:((n.keys.length:Int)+(n.kids.length:Int) == 0)=true:=by rw[beq_iff_eq];omega
    have HZ:=oh hz;clear hz;go_wp2_with fail;refine (zLB _ _ HVE1.out).mono ?_;rintro x w1 ⟨rfl,hm1⟩;have HM1:=oh (HM.out.trans hm1);clear hm1;go_wp2_with fail;go_ret;exact⟨yB (by
     unfold zFj;rw[HA.out,List.isEmpty_iff.2 (List.eq_nil_of_length_eq_zero HZ.out.1),List.isEmpty_iff.2 (List.eq_nil_of_length_eq_zero HZ.out.2)];rfl),HM1.out⟩
   .have hd:((n.keys.length:Int)+(n.kids.length:Int) == 0)=false:=by rw[beq_eq_false_iff_ne];omega
    have HZ:=oh hz;clear hz;go_wp2_with fail;go_ret;exact⟨yB (by
     unfold zFj;have:(n.keys.isEmpty && n.kids.isEmpty)=false:=by
      rw[<- Bool.not_eq_true,Bool.and_eq_true,List.isEmpty_iff,List.isEmpty_iff];rintro⟨a,b⟩;exact HZ.out ⟨by rw[a];rfl,by rw[b];rfl⟩
     rw[this];simp),HM.out⟩
end
def zHr(n:zJ):Bool:=n.entries.isEmpty && decide (2<=n.kids.length) && decide (n.kids.length=n.keys.length+1) && decide (n.kids.length<=256)
theorem zCA(n:zJ):zDu n=(zHr n && (n.kids.all zCo && decide n.kids.Nodup) && n.keys.all zAE && jY n.keys):=by
 unfold zDu zHr;simp only[Bool.and_assoc]
theorem zDv(n:zJ):zHr n=true ↔ n.entries.length=0/\2<=n.kids.length/\n.kids.length=n.keys.length+1/\n.kids.length<=256:=by
 unfold zHr;simp only[Bool.and_eq_true,decide_eq_true_eq,List.isEmpty_iff,List.length_eq_zero_iff,and_assoc]
theorem zMa{l:List Int}{k:Nat}(hk:k<l.length)(h:(l.take k).Nodup)(hn:l[k] ∉ l.take k):(l.take (k+1)).Nodup:=by
 rw[jA l k l[k] (by simp[hk])];rw[List.nodup_append];refine⟨h,by simp,λa ha b hb e=>?_⟩;rw[List.mem_singleton.1 hb] at e;rw[e] at ha;exact hn ha
theorem zOR{l:List Int}{k:Nat}(hk:k<l.length)(hn:l[k]∈l.take k):¬ l.Nodup:=by
 intro h;obtain⟨i,hi,e⟩:=List.getElem_of_mem hn;rw[List.getElem_take] at e;have hik:i<k:=by simp at hi;omega
 exact List.pairwise_iff_getElem.1 h i k (by omega) hk hik e
section
variable {F:Nat->Prop}{ad:Nat->Addr}{w w':World}
theorem zMb(n:zJ)(ve vk vi:Value)(hve:Sl F w 4 zAO ve n.entries)(hvk:Sl F w 1 vZ vk n.keys)(hvi:Sl F w 1 yK vi n.kids) :
  Calls Tryz.prog 277 #[.agg #[.bool n.leaf,ve,vk,vi]] w λe w'=>e=.returned (.bool (zDu n))/\zF w w':=by
 have HVI:=oh hvi;have HVK:=oh hvk;obtain⟨ae,ce,rfl,he1,he2,he3,hee⟩:=hve;obtain⟨ak,ck,rfl,hk1,hk2,hk3,hkk⟩:=hvk;obtain⟨ai,ci,rfl,hi1,hi2,hi3,hii⟩:=hvi;unfold maxLen at he2 hk2 hi2;clear hee;generalize hlf:n.leaf=lf
 clear hlf;cases hh:zHr n with
 | false =>
  have HR:Hid (zDu n=false):=oh (by rw[zCA,hh];rfl);have hn:¬ (n.entries.length=0/\2<=n.kids.length/\n.kids.length=n.keys.length+1/\n.kids.length<=256):=λh=>by rw[(zDv n).2 h] at hh;cases hh
  clear hh hkk hii HVI HVK;generalize n.entries.length=N1 at *
  generalize n.kids.length=N2 at *
  generalize n.keys.length=N3 at *
  by_cases h1:(0:Int)<(N1:Int)
  .clear hn
   go_enter Tryz.func277, Tryz.ntmps277
   go_wp2_with fail;go_ret;exact⟨yB HR.out.symm,(zA.refl _ w).alloc _⟩
  .by_cases h2:(N2:Int)<2
   .clear hn
    go_enter Tryz.func277, Tryz.ntmps277
    go_wp2_with fail;go_ret;exact⟨yB HR.out.symm,(zA.refl _ w).alloc _⟩
   .by_cases h3:N2=N3+1
    .subst h3;have h4:(256:Int)<(N3:Int)+1:=by omega
     clear hn
     go_enter Tryz.func277, Tryz.ntmps277
     go_wp2_with fail;go_ret;exact⟨yB HR.out.symm,(zA.refl _ w).alloc _⟩
    .have h5:((N2:Int) != (N3:Int)+1)=true:=by rw[bne_iff_ne];omega
     clear hn h3
     go_enter Tryz.func277, Tryz.ntmps277
     go_wp2_with fail;go_ret;exact⟨yB HR.out.symm,(zA.refl _ w).alloc _⟩
 | true =>
  have HR:Hid (zDu n=((n.kids.all zCo && decide n.kids.Nodup) && n.keys.all zAE && jY n.keys)):=oh (by rw[zCA,hh,Bool.true_and]);obtain⟨g1,g2,g3,g4⟩:=(zDv n).1 hh;rw[g3] at hi1 hi3 g2 g4;rw[g1,g3];have HG3:=oh g3;have h2:¬ (n.keys.length:Int)+1<2:=by omega
  have h4:¬ (256:Int)<(n.keys.length:Int)+1:=by omega
  clear hh g1 g3
  go_enter Tryz.func277, Tryz.ntmps277
  go_wp2_with fail;go_loopg [36] (n.keys.length+1) (λm i wr=>∃k:Nat,k+m=n.keys.length+1/\i=.int .i64 k/\Hid ((∀x∈n.kids.take k,zCo x=true)/\(n.kids.take k).Nodup)/\zF w wr/\wr.cell? ⟨w.heap.size,2,none⟩=some (.slice ak n.keys.length ck)/\wr.cell? ⟨w.heap.size,3,none⟩=some (.slice ai (n.keys.length+1) ci))
  case atStart=>exact⟨0,by omega,rfl,oh ⟨by simp,by simp⟩,(zA.refl _ _).alloc _,by go_cell,by go_cell⟩
  case round =>
   obtain⟨k,hkm,rfl,HZ,hm,b2,b3⟩:=hrel;by_cases hlt1:k<n.keys.length+1
   .have hlt:k<n.kids.length:=by rw[HG3.out];exact hlt1
    obtain⟨b,off,rfl,hb,hF,hc⟩:=Sl.at hii hm (λ_ _ f=>f.elim) k hlt;have c0:=hc 0 _ rfl;simp only[Nat.add_zero,Nat.mul_one] at c0;have HM:=oh hm;have HII:=oh hii;have HKK:=oh hkk;have HP:=oh ((HVI.out.ext hm).pre k (by rw[HG3.out];omega));have HLT:=oh hlt;generalize hkx:n.kids[k]=kx at c0
    have HKX:=oh hkx;clear hkx;clear hc hlt hii hm hkk;go_wp2_with fail;refine (zEa kx _).mono ?_;rintro x w1 ⟨rfl,rfl⟩;cases ht:zCo kx
    .have HT:=oh ht;clear ht;go_wp2_with fail;go_ret;exact⟨yB (by rw[HR.out,zJy HLT.out ((congrArg zCo HKX.out).trans HT.out)];rfl),HM.out⟩
    .have HT:=oh ht;clear ht;go_wp2_with fail;refine (zIj _ _ kx HP.out).mono ?_;rintro x w1 ⟨rfl,rfl⟩;by_cases hc:kx∈n.kids.take k
     .have HC:=oh hc;rw[decide_eq_true hc];clear hc;go_wp2_with fail;go_ret;exact⟨yB (by rw[HR.out,decide_eq_false (zOR HLT.out (HKX.out ▸ HC.out))];simp),HM.out⟩
     .have HC:=oh hc;rw[decide_eq_false hc];clear hc;go_wp2_with fail;go_roundg (gk-1)
      case measure=>omega
      case rel=>exact⟨k+1,by omega,by go_num,oh ⟨zHp HLT.out HZ.out.1 ((congrArg zCo HKX.out).trans HT.out),zMa HLT.out HZ.out.2 (HKX.out ▸ HC.out)⟩,HM.out,b2,b3⟩
   .have hke:k=n.kids.length:=by rw[HG3.out];omega
    have HA:Hid ((n.kids.all zCo && decide n.kids.Nodup)=true):=oh (by
     rw[zHq hke HZ.out.1];have:=HZ.out.2;rw[hke,List.take_length] at this;rw[decide_eq_true this];rfl)
    have HM:=oh hm;clear hii HZ hke hm hkm;go_wp2_with fail;have hm:=HM.out;clear HM;obtain⟨wo,rfl⟩:∃wo:World,wo=wr:=⟨_,rfl⟩;go_loopg [56] n.keys.length (λm i wr=>∃k:Nat,k+m=n.keys.length/\i=.int .i64 k/\Hid (∀x∈n.keys.take k,zAE x=true)/\zF w wr/\wr.cell? ⟨w.heap.size,2,none⟩=some (.slice ak n.keys.length ck))
    case atStart=>exact⟨0,by omega,rfl,oh (by simp),hm,b2⟩
    case round =>
     obtain⟨k,hkm,rfl,HZ,hm,b2⟩:=hrel;by_cases hlt:k<n.keys.length
     .obtain⟨b,off,rfl,hb,hF,hc⟩:=Sl.at hkk hm (λ_ _ f=>f.elim) k hlt;have c0:=hc 0 _ rfl;simp only[Nat.add_zero,Nat.mul_one] at c0;have HM:=oh hm;have HKK:=oh hkk;clear hc hkk hm;go_wp2_with fail;refine (zCH n.keys[k] _).mono ?_;rintro x w1 ⟨rfl,rfl⟩;cases ht:zAE n.keys[k]
      .have HT:=oh ht;clear ht;go_wp2_with fail;go_ret;exact⟨yB (by rw[HR.out,zJy hlt HT.out];simp),HM.out⟩
      .have HT:=oh ht;clear ht;go_wp2_with fail;go_roundg (gk-1)
       case measure=>omega
       case rel=>exact⟨k+1,by omega,by go_num,oh (zHp hlt HZ.out HT.out),HM.out,b2⟩
     .have hke:k=n.keys.length:=by omega
      have HB:Hid (n.keys.all zAE=true):=oh (zHq hke HZ.out);have HM:=oh hm;have HVK1:=oh (HVK.out.ext hm);clear HZ hke hm hkk;go_wp2_with fail;refine (zLC _ _ HVK1.out).mono ?_;rintro x w1 ⟨rfl,hm1⟩;have HM1:=oh (HM.out.trans hm1);clear hm1;go_wp2_with fail;go_ret;exact⟨yB (by rw[HR.out,HA.out,HB.out];rfl),HM1.out⟩
end
def zCB(n:zJ):Option Err:=if zO n=true then none else some ([-1],1)
section
variable {F:Nat->Prop}{ad:Nat->Addr}{w w':World}
theorem zE3(hL:yG F ad w)(n:zJ)(ve vk vi:Value)(hve:Sl F w 4 zAO ve n.entries)(hvk:Sl F w 1 vZ vk n.keys)(hvi:Sl F w 1 yK vi n.kids) :
  Calls Tryz.prog 216 #[.agg #[.bool n.leaf,ve,vk,vi]] w λe w'=>∃ev,e=.returned ev/\zBw F ad w' ev (zCB n)/\zF w w':=by
 have m0:zF w (w.alloc (.cells #[.bool n.leaf,ve,vk,vi] 174)):=(zA.refl _ w).alloc _;have HB0:=oh (zH.new w #[.bool n.leaf,ve,vk,vi] 174);have HVE:=oh (hve.ext m0);have HVK:=oh (hvk.ext m0);have HVI:=oh (hvi.ext m0);have HL:=oh (hL.mods m0.ext);have HM0:=oh m0;have HN1:Hid (∀w1,zF w w1->yG F ad w1):=oh (λw1 h=>hL.mods h.ext);obtain⟨ae,ce,rfl,he1,he2,he3,_⟩:=hve;clear hvk hvi hL m0;unfold maxLen at he2;cases hlf:n.leaf
 .have HR:Hid (zCB n=if zDu n=true then none else some ([-1],1)):=oh (by unfold zCB;rw[zCS hlf]);rw[hlf] at HB0 HVE HVK HVI HM0 HL;have HCI:=oh (zMb n _ _ _ HVE.out HVK.out HVI.out);rw[hlf] at HCI;clear hlf
  go_enter Tryz.func216, Tryz.ntmps216
  go_wp2_with fail;refine (HCI.out).mono ?_;rintro e w1 ⟨rfl,hm1⟩;have hB1:=HB0.out.ext hm1;have b0:=hB1.cell (o:=0) (v:=.bool false) rfl;have b1:=hB1.cell (o:=1) (v:=.slice ae n.entries.length ce) rfl;have HM1:=oh (HM0.out.trans hm1);have hL1:=HN1.out _ HM1.out;have g1:=hL1.c1;have HL1:=oh hL1;clear hm1 hB1 hL1;cases hin:zDu n
  .rw[hin,if_neg (by simp)] at HR;go_wp2_with fail;refine (qN HL1.out _ _ [] 1 (.sent 1 (by decide) (by decide))).mono ?_;rintro e w2 ⟨f,rfl,hE,hm2⟩;have HE:=oh hE;have HM2:=oh (HM1.out.trans hm2);clear hE hm2;go_wp2_with fail;go_ret;exact⟨_,rfl,by rw[HR.out];exact⟨f,rfl,HE.out⟩,HM2.out⟩
  .rw[hin,if_pos rfl] at HR;have hz:n.entries.length=0:=by
    rw[zCA] at hin;simp only[Bool.and_eq_true] at hin;exact ((zDv n).1 hin.1.1.1).1
   rw[hz] at b1;clear hin hz;go_wp2_with fail;go_ret;exact⟨_,rfl,by rw[HR.out];rfl,HM1.out⟩
 .have HR:Hid (zCB n=if (zFj n && decide (n.entries.length<=65535))=true then none else some ([-1],1)):=oh (by unfold zCB;rw[zFN hlf]);rw[hlf] at HB0 HVE HVK HVI HM0 HL;have HCI:=oh (zOQ n _ _ _ HVE.out HVK.out HVI.out);rw[hlf] at HCI;clear hlf
  go_enter Tryz.func216, Tryz.ntmps216
  go_wp2_with fail;refine (HCI.out).mono ?_;rintro e w1 ⟨rfl,hm1⟩;have hB1:=HB0.out.ext hm1;have b0:=hB1.cell (o:=0) (v:=.bool true) rfl;have b1:=hB1.cell (o:=1) (v:=.slice ae n.entries.length ce) rfl;have HM1:=oh (HM0.out.trans hm1);have hL1:=HN1.out _ HM1.out;have g1:=hL1.c1;have HL1:=oh hL1;clear hm1 hB1 hL1;cases hin:zFj n
  .rw[hin,Bool.false_and,if_neg (by simp)] at HR;clear hin;go_wp2_with fail;refine (qN HL1.out _ _ [] 1 (.sent 1 (by decide) (by decide))).mono ?_;rintro e w2 ⟨f,rfl,hE,hm2⟩;have HE:=oh hE;have HM2:=oh (HM1.out.trans hm2);clear hE hm2;go_wp2_with fail;go_ret;exact⟨_,rfl,by rw[HR.out];exact⟨f,rfl,HE.out⟩,HM2.out⟩
  .rw[hin,Bool.true_and] at HR;clear hin;by_cases hl:(65535:Int)<(n.entries.length:Int)
   .rw[decide_eq_false (by omega),if_neg (by simp)] at HR;go_wp2_with fail;refine (qN HL1.out _ _ [] 1 (.sent 1 (by decide) (by decide))).mono ?_;rintro e w2 ⟨f,rfl,hE,hm2⟩;have HE:=oh hE;have HM2:=oh (HM1.out.trans hm2);clear hE hm2;go_wp2_with fail;go_ret;exact⟨_,rfl,by rw[HR.out];exact⟨f,rfl,HE.out⟩,HM2.out⟩
   .rw[decide_eq_true (by omega),if_pos rfl] at HR;go_wp2_with fail;go_ret;exact⟨_,rfl,by rw[HR.out];rfl,HM1.out⟩
end
end
section
open Go.RowKit
attribute [local go_sem ↓] Go.wp_at_zero Go.wp_at_succ
theorem zE4{α:Type}(f:α->List UInt8)(l:List α)(k:Nat):((l.take k).flatMap f).length<=(l.flatMap f).length:=by
 have h:l.flatMap f=(l.take k).flatMap f++(l.drop k).flatMap f:=by rw[<- List.flatMap_append,List.take_append_drop]
 rw[h,List.length_append];omega
def zBN(n:zJ)(k:Nat):List UInt8:=yD 2 n.entries.length++(n.entries.take k).flatMap zAP
def zAr(n:zJ)(k:Nat):List UInt8:=yD 2 n.kids.length++(yD 4 (n.kids.headD 0).toNat++((n.keys.zip n.kids.tail).take k).flatMap zAi)
theorem zJz(n:zJ):zBN n 0=yD 2 n.entries.length:=by simp[zBN]
theorem zJ0(n:zJ){k:Nat}{e:zV}(h:n.entries[k]? = some e):zBN n (k+1)=zBN n k++zAP e:=by
 unfold zBN;rw[jA _ _ _ h,List.flatMap_append,<- List.append_assoc];simp
theorem zLD{n:zJ}(hl:n.leaf=true){k:Nat}(hk:k=n.entries.length):zBN n k=yE n:=by
 unfold zBN yE;rw[hk,List.take_length,if_pos hl]
theorem zLE{n:zJ}(hl:n.leaf=true)(k:Nat):(zBN n k).length<=(yE n).length:=by
 unfold yE zBN;rw[if_pos hl];have:=zE4 zAP n.entries k;simp only[List.length_append];omega
theorem zIk(n:zJ):zAr n 0=yD 2 n.kids.length++yD 4 (n.kids.headD 0).toNat:=by simp[zAr]
theorem zIl(n:zJ){k:Nat}{s:ByteArray}{c:Int}(h:n.keys[k]? = some s)(h2:n.kids[k+1]? = some c):zAr n (k+1)=zAr n k++zAi (s,c):=by
 have hz:(n.keys.zip n.kids.tail)[k]? = some (s,c):=by
  rw[List.getElem?_zip_eq_some];exact⟨h,by rw[List.getElem?_tail];exact h2⟩
 unfold zAr;rw[jA _ _ _ hz,List.flatMap_append];simp only[List.append_assoc,List.flatMap_cons,List.flatMap_nil,List.append_nil]
theorem zJ1{n:zJ}(hl:n.leaf=false)(_hk2:n.kids.length=n.keys.length+1){k:Nat}(hk:k=n.keys.length):zAr n k=yE n:=by
 unfold zAr yE;rw[List.take_of_length_le (by simp;omega),if_neg (by rw[hl];simp)]
theorem zJ2{n:zJ}(hl:n.leaf=false)(k:Nat):(zAr n k).length<=(yE n).length:=by
 unfold yE zAr;rw[if_neg (by rw[hl];simp)];have:=zE4 zAi (n.keys.zip n.kids.tail) k;simp only[List.length_append];omega
def zQp(F:Nat->Prop)(ad:Nat->Addr)(w:World)(n:zJ)(e:Ending)(w':World):Prop :=
 zF w w'/\((zO n=true/\∃a c,e=.returned (.tuple #[.slice a (yE n).length c,.nilIface])/\yC (λ_=>False) w' w.heap.size 5 1 zZ (.slice a (yE n).length c) (yE n)) \/
  (zO n=false/\∃f,e=.returned (.tuple #[.slice none 0 0,zL f])/\vB F ad w' (zL f) [-1, -1] 1))
theorem zGg{n:zJ}(hl:n.leaf=true)(hr:zO n=true){k:Nat}{e:zV}(h:n.entries[k]? = some e):vC e=true:=by
 rw[zFN hl] at hr;unfold zFj at hr;simp only[Bool.and_eq_true,List.all_eq_true] at hr;exact hr.1.1.1 e (List.mem_of_getElem? h)
theorem zOS{n:zJ}(hl:n.leaf=true)(hr:zO n=true):n.entries.length<=65535:=by
 rw[zFN hl] at hr;simp only[Bool.and_eq_true,decide_eq_true_eq] at hr;exact hr.2
theorem zMc{n:zJ}(hl:n.leaf=false)(hr:zO n=true){k:Nat}{s:ByteArray}(h:n.keys[k]? = some s):s.size<256:=by
 rw[zCS hl,zCA] at hr;simp only[Bool.and_eq_true,List.all_eq_true] at hr;have:=(zAo s).1 (hr.1.2 s (List.mem_of_getElem? h));omega
theorem zJC{n:zJ}(hl:n.leaf=false)(hr:zO n=true):2<=n.kids.length/\n.kids.length<=256/\n.kids.length=n.keys.length+1:=by
 rw[zCS hl,zCA] at hr;simp only[Bool.and_eq_true] at hr;have:=(zDv n).1 hr.1.1.1;omega
theorem zJD{n:zJ}(hl:n.leaf=false)(hr:zO n=true){k:Nat}{c:Int}(h:n.kids[k]? = some c):2<=c/\c<256:=by
 rw[zCS hl,zCA] at hr;simp only[Bool.and_eq_true,List.all_eq_true] at hr;simpa[zCo] using hr.1.1.2.1 c (List.mem_of_getElem? h)
section
variable {F:Nat->Prop}{ad:Nat->Addr}{w w':World}
theorem WrR.new(w:World)(base:Nat)(h:base<=w.heap.size):WrR base (w.alloc (.cells #[.slice none 0 0,.nilIface] 337)) w.heap.size [] :=
 ⟨⟨none,0,zH.new w _ _,yC.nil _ _ _ _ _ _⟩,h⟩
end
end
end Go.Proofs.YteabpacpngaoaaaGreatDoor
