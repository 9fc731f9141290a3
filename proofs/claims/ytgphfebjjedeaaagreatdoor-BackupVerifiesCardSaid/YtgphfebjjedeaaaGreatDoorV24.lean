import Derived.Test.YtgphfebjjedeaaaGreatDoorV23
import Derived.Deep.RegionHeld3
import Derived.Test.YtgphfebjjedeaaaGreatDoorV21
namespace Go.Proofs.YtgphfebjjedeaaaGreatDoor
open Lib renaming hid->oh
set_option maxRecDepth 100000
section
open Go.RowKit
def zAf(p:yF):zJ ⊕ Err :=
 if p.kind=3\/p.kind=2 then (match zEM (decide (p.kind=3)) p.body with|some n=>.inl n|none=>.inr ([zBq p.id],5)) else .inr ([zBq p.id],5)
def GA.load(G:GA)(id:Int):zJ ⊕ Err :=
 match G.get id with
 | .inr (l,k)=>.inr (-1 :: l,k)
 | .inl p=>match zAf p with
  | .inl n=>.inl n
  | .inr (l,k)=>.inr (-1 :: l,k)
def zDw(G:GA)(e:zR):ByteArray ⊕ Err :=
 if e.chain=0 then .inl e.value else match zAc G e.chain e.size with
  | none=>.inl ⟨((qU G e.size.toNat e.chain e.size).1.flatMap (·.2)).toArray⟩
  | some (l,k)=>.inr (-1 :: l,k)
def zF5(G:GA)(e:zR):Prop:=e.chain≠0->25<=e.size->e.size<=4096->zBH G e.size.toNat e.chain e.size
theorem zI2{p:yF}{n:zJ}(h:zAf p=.inl n):zQ n=true/\n.leaf=decide (p.kind=3):=by
 unfold zAf at h;split at h
 .split at h
  .rename_i h1;injection h with h;subst h;unfold zEM at h1;simp only at h1;split at h1
   .rename_i h2;injection h1 with h1;subst h1;refine⟨h2.2.1,?_⟩;unfold jZ;simp only;split
    .rename_i h3;simpa using h3.symm
    .rename_i h3;simpa using h3
   .cases h1
  .cases h
 .cases h
theorem GA.load_right{G:GA}{id:Int}{n:zJ}(h:G.load id=.inl n):zQ n=true:=by
 unfold GA.load at h;split at h
 .cases h
 .split at h
  .rename_i h1;injection h with h;subst h;exact (zI2 h1).1
  .cases h
def GA.node(G:GA)(id:Nat):Option zJ:=if id<G.blocks then (match G.view id with
 | some (.inl p)=>(match zAf p with | .inl n=>some n | .inr _=>none)
 | _=>none) else none
theorem GA.node_load{G:GA}{id:Nat}{n:zJ}(h:G.node id=some n):G.knows (id:Int)/\G.load (id:Int)=.inl n:=by
 unfold GA.node at h;split at h
 .rename_i hlt;split at h
  .rename_i p hp;refine⟨λ_=>⟨_,by rw[uK];exact hp⟩,?_⟩;unfold GA.load;rw[zLR hlt hp];simp only;split at h
   .rename_i h1;injection h with h;subst h;rw[h1]
   .cases h
  .cases h
 .cases h
def GA.R(G:GA)(c s:Int):Option ByteArray:=match zAc G c s with
 | none=>some ⟨((qU G s.toNat c s).1.flatMap (·.2)).toArray⟩
 | some _=>none
theorem Sl.slc{α:Type}{F:NP}{w:World}{sz:Nat}{enc:α->List Value}{a:Option Addr}{n c:Nat}{l:List α}(h:Sl F w sz enc (.slice a n c) l)(i j:Nat)(hij:i<=j)(hj:j<=n) :
  Sl F w sz enc (.slice (if c=i then a else a.map (·.add (i * sz))) (j-i) (c-i)) ((l.drop i).take (j-i)):=by
 obtain⟨a',cap,he,h1,h2,h3,h4⟩:=h;simp only[Value.slice.injEq] at he;obtain⟨rfl,rfl,rfl⟩:=he;have hlen:((l.drop i).take (j-i)).length=j-i:=by simp;omega
 refine⟨_,c-i,by rw[hlen],by rw[hlen];omega,by omega,by rw[hlen];omega,?_⟩;rcases h4 with rfl|⟨b,off,rfl,hb,hF,hc⟩
 .exact .inl (by simp)
 .by_cases hz:c=i
  .exact .inl (tE (by rw[hlen];omega))
  .refine .inr ⟨b,off+i * sz,?_,hb,hF,λk x hk q u hu=>?_⟩
   .rw[if_neg hz];simp only[Option.map_some,Addr.add];by_cases h0:i * sz=0
    .rw[if_pos h0,h0];rfl
    .rw[if_neg h0]
   .have hk1:k<j-i:=by
     have:=(uB.1 hk).1;rwa [hlen] at this
    rw[List.getElem?_take_of_lt hk1,tV] at hk;have:=hc (i+k) x hk q u hu;rw[<- this];congr 2
    rw[rP];omega
theorem Sl.tail_{α:Type}{F:NP}{w:World}{sz:Nat}{enc:α->List Value}{a:Option Addr}{n c:Nat}{l:List α}(h:Sl F w sz enc (.slice a n c) l)(i:Nat)(hi:i<=n) :
  Sl F w sz enc (.slice (if c=i then a else a.map (·.add (i * sz))) (n-i) (c-i)) (l.drop i):=by
 have:=h.slc i n hi (uJ _);obtain⟨a',cap,he, -⟩:=_root_.id h;simp only[Value.slice.injEq] at he;rw[he.2.1] at this ⊢;rwa [wB (by simp)] at this
section
variable {F H:NP}{w w':World}
theorem zEw(lv mv:Value)(L M:List zR)(hl:Sl F w 4 jW lv L)(hm:Sl H w 4 jW mv M)(i many:Nat)(h1:i+many<=L.length)(hb:L.length<=1000000)(hb2:M.length<=1000000) :
  Calls Tryz.prog 269 #[lv,.int .i64 (i:Int),.int .i64 (many:Int),mv] w λe w'=>∃v,e=.returned v/\yA (λ_=>False) w' w.heap.size 289 4 jW v (L.take i++M++L.drop (i+many))/\zG w w':=by
 obtain⟨la,lc,rfl,l1,l2,l3, -⟩:=_root_.id hl;unfold maxLen at l2;have HL:=oh hl;have HM:=oh hm;have hO0:Hid (yA (λ_=>False) (w.alloc (.cells #[] 289)) w.heap.size 289 4 jW (.slice (some ⟨w.heap.size,0,none⟩) 0 0) ([]:List zR)):=oh (yA.empty (λk f=>f.elim) _ _ _ zBT.len);have hm0:Hid (zG w (w.alloc (.cells #[] 289))):=oh ((zss w).alloc _);obtain⟨ma,mc,rfl,m1,m2,m3, -⟩:=hm;have u1:IntKind.i64.wrap ((i:Int)+(many:Int))=((i+many:Nat):Int):=by rw[IntWalk.i64_in _ (by omega)];omega
 have lt1:(L.take i).length=i:=by rw[uQ];omega
 have lt2:(L.drop (i+many)).length=L.length-(i+many):=wM;have HT1:=oh lt1;have HT2:=oh lt2;clear hl lt1 lt2;have p1:Hid (Sl F w 4 jW (.slice la i lc) (L.take i)):=oh (HL.out.pre i (by omega));have p3:Hid (Sl F w 4 jW (.slice (if lc=i+many then la else la.map (·.add ((i+many) * 4))) (L.length-(i+many)) (lc-(i+many))) (L.drop (i+many))):=oh (by have:=HL.out.tail_ (i+many) h1;simpa only[uY] using this);obtain⟨R,hR⟩:∃R,R=L.take i++M++L.drop (i+many):=⟨_,rfl⟩;rw[<- hR];have HR:=oh hR;clear hR
 go_enter Tryz.func269, Tryz.ntmps269
 go_wp2_with (first
  | (at_builtin;refine yC Tryz.elE zBT rfl _ _ rfl w.heap.size _ (.slice la i lc) [] (L.take i) rfl rfl hO0.out (p1.out.ext hm0.out) (by rw[HT1.out];simp only[uF];omega) (by simp) (λf=>f) ?_;rw[wN,uF,HT1.out,uV];intro a1 c1 w1 hO1 hm1 hat1;have HO1:=oh hO1;have HM1:Hid (zG w w1):=oh (zA.past hm0.out (hm1.mono (λk hk=>(hO0.out.lt k hk).1)));clear hO1 hm1 hat1)
  | (at_builtin;refine yC Tryz.elE zBT rfl _ _ rfl w.heap.size (.slice a1 i c1) (.slice ma M.length mc) (L.take i) M rfl rfl HO1.out (HM.out.ext HM1.out) (by rw[HT1.out];omega) HM1.out.size (λf=>f) ?_;rw[HT1.out];intro a2 c2 w2 hO2 hm2 hat2;have HO2:=oh hO2;have HM2:Hid (zG w w2):=oh (zA.past HM1.out (hm2.mono (λk hk=>(HO1.out.lt k hk).1)));clear hO2 hm2 hat2)
  | (at_builtin;refine yC Tryz.elE zBT rfl _ _ rfl w.heap.size (.slice a2 (i+M.length) c2) _ (L.take i++M) (L.drop (i+many)) rfl rfl HO2.out (p3.out.ext HM2.out) (by rw[uC,HT1.out,HT2.out];omega) HM2.out.size (λf=>f) ?_;rw[uC,HT1.out,HT2.out];intro a3 c3 w3 hO3 hm3 hat3;have HO3:=oh hO3;have HM3:Hid (zG w w3):=oh (zA.past HM2.out (hm3.mono (λk hk=>(HO2.out.lt k hk).1)));clear hO3 hm3 hat3)
  | fail)
 all_goals
  go_ret;exact⟨_,rfl,by rw[HR.out];exact HO3.out,HM3.out⟩
theorem zPJ(lv:Value)(L:List zR)(hl:Sl F w 4 jW lv L)(k:Nat)(hk:k=L.length)(hb:L.length<=1000000) :
  Calls Tryz.prog 269 #[lv,.int .i64 (k:Int),.int .i64 0,.slice none 0 0] w λe w'=>∃a c,e=.returned (.slice a k c)/\yA (λ_=>False) w' w.heap.size 289 4 jW (.slice a k c) L/\zG w w':=by
 have h:=zEw lv (.slice none 0 0) L [] hl (Sl.nil (λ_=>False) w 4 jW) k 0 (by omega) hb (by simp);refine h.mono ?_;rintro e w' ⟨v,rfl,ho,hm⟩;have e1:L.take k++[]++L.drop (k+0)=L:=by rw[uO,wJ,wC]
 rw[e1] at ho;obtain⟨a,c,rfl,_⟩:=ho.form;subst hk;exact⟨a,c,rfl,ho,hm⟩
theorem zPK(lv:Value)(L:List zR)(hl:Sl F w 4 jW lv L)(k:Nat)(hk:k=L.length)(hb:L.length<=1000000) :
  Calls Tryz.prog 269 #[lv,.int .i64 0,.int .i64 0,.slice none 0 0] w λe w'=>∃a c,e=.returned (.slice a k c)/\yA (λ_=>False) w' w.heap.size 289 4 jW (.slice a k c) L/\zG w w':=by
 have h:=zEw lv (.slice none 0 0) L [] hl (Sl.nil (λ_=>False) w 4 jW) 0 0 (by omega) hb (by simp);refine h.mono ?_;rintro e w' ⟨v,rfl,ho,hm⟩;have e1:L.take 0++[]++L.drop (0+0)=L:=by simp
 rw[e1] at ho;obtain⟨a,c,rfl,_⟩:=ho.form;subst hk;exact⟨a,c,rfl,ho,hm⟩
theorem zGX(lv mv:Value)(L M:List ByteArray)(hl:Sl F w 1 vQ lv L)(hm:Sl H w 1 vQ mv M)(i many:Nat)(h1:i+many<=L.length)(hb:L.length<=1000000)(hb2:M.length<=1000000) :
  Calls Tryz.prog 272 #[lv,.int .i64 (i:Int),.int .i64 (many:Int),mv] w λe w'=>∃v,e=.returned v/\yA (λ_=>False) w' w.heap.size 9 1 vQ v (L.take i++M++L.drop (i+many))/\zG w w':=by
 obtain⟨la,lc,rfl,l1,l2,l3, -⟩:=_root_.id hl;unfold maxLen at l2;have HL:=oh hl;have HM:=oh hm;have hO0:Hid (yA (λ_=>False) (w.alloc (.cells #[] 9)) w.heap.size 9 1 vQ (.slice (some ⟨w.heap.size,0,none⟩) 0 0) ([]:List ByteArray)):=oh (yA.empty (λk f=>f.elim) _ _ _ zB0.len);have hm0:Hid (zG w (w.alloc (.cells #[] 9))):=oh ((zss w).alloc _);obtain⟨ma,mc,rfl,m1,m2,m3, -⟩:=hm;have u1:IntKind.i64.wrap ((i:Int)+(many:Int))=((i+many:Nat):Int):=by rw[IntWalk.i64_in _ (by omega)];omega
 have lt1:(L.take i).length=i:=by rw[uQ];omega
 have lt2:(L.drop (i+many)).length=L.length-(i+many):=wM;have HT1:=oh lt1;have HT2:=oh lt2;clear hl lt1 lt2;have p1:Hid (Sl F w 1 vQ (.slice la i lc) (L.take i)):=oh (HL.out.pre i (by omega));have p3:Hid (Sl F w 1 vQ (.slice (if lc=i+many then la else la.map (·.add (i+many))) (L.length-(i+many)) (lc-(i+many))) (L.drop (i+many))):=oh (by have:=HL.out.tail_ (i+many) h1;simpa only[uY] using this);obtain⟨R,hR⟩:∃R,R=L.take i++M++L.drop (i+many):=⟨_,rfl⟩;rw[<- hR];have HR:=oh hR;clear hR
 go_enter Tryz.func272, Tryz.ntmps272
 go_wp2_with (first
  | (at_builtin;refine yC Tryz.elS zB0 rfl _ _ rfl w.heap.size _ (.slice la i lc) [] (L.take i) rfl rfl hO0.out (p1.out.ext hm0.out) (by rw[HT1.out];simp only[uF];omega) (by simp) (λf=>f) ?_;rw[wN,uF,HT1.out,uV];intro a1 c1 w1 hO1 hm1 hat1;have HO1:=oh hO1;have HM1:Hid (zG w w1):=oh (zA.past hm0.out (hm1.mono (λk hk=>(hO0.out.lt k hk).1)));clear hO1 hm1 hat1)
  | (at_builtin;refine yC Tryz.elS zB0 rfl _ _ rfl w.heap.size (.slice a1 i c1) (.slice ma M.length mc) (L.take i) M rfl rfl HO1.out (HM.out.ext HM1.out) (by rw[HT1.out];omega) HM1.out.size (λf=>f) ?_;rw[HT1.out];intro a2 c2 w2 hO2 hm2 hat2;have HO2:=oh hO2;have HM2:Hid (zG w w2):=oh (zA.past HM1.out (hm2.mono (λk hk=>(HO1.out.lt k hk).1)));clear hO2 hm2 hat2)
  | (at_builtin;refine yC Tryz.elS zB0 rfl _ _ rfl w.heap.size (.slice a2 (i+M.length) c2) _ (L.take i++M) (L.drop (i+many)) rfl rfl HO2.out (p3.out.ext HM2.out) (by rw[uC,HT1.out,HT2.out];omega) HM2.out.size (λf=>f) ?_;rw[uC,HT1.out,HT2.out];intro a3 c3 w3 hO3 hm3 hat3;have HO3:=oh hO3;have HM3:Hid (zG w w3):=oh (zA.past HM2.out (hm3.mono (λk hk=>(HO2.out.lt k hk).1)));clear hO3 hm3 hat3)
  | fail)
 all_goals
  go_ret;exact⟨_,rfl,by rw[HR.out];exact HO3.out,HM3.out⟩
theorem zJd(lv:Value)(L:List ByteArray)(hl:Sl F w 1 vQ lv L)(k:Nat)(hk:k=L.length)(hb:L.length<=1000000) :
  Calls Tryz.prog 272 #[lv,.int .i64 (k:Int),.int .i64 0,.slice none 0 0] w λe w'=>∃a c,e=.returned (.slice a k c)/\yA (λ_=>False) w' w.heap.size 9 1 vQ (.slice a k c) L/\zG w w':=by
 have h:=zGX lv (.slice none 0 0) L [] hl (Sl.nil (λ_=>False) w 1 vQ) k 0 (by omega) hb (by simp);refine h.mono ?_;rintro e w' ⟨v,rfl,ho,hm⟩;have e1:L.take k++[]++L.drop (k+0)=L:=by rw[uO,wJ,wC]
 rw[e1] at ho;obtain⟨a,c,rfl,_⟩:=ho.form;subst hk;exact⟨a,c,rfl,ho,hm⟩
theorem zJe(lv:Value)(L:List ByteArray)(hl:Sl F w 1 vQ lv L)(k:Nat)(hk:k=L.length)(hb:L.length<=1000000) :
  Calls Tryz.prog 272 #[lv,.int .i64 0,.int .i64 0,.slice none 0 0] w λe w'=>∃a c,e=.returned (.slice a k c)/\yA (λ_=>False) w' w.heap.size 9 1 vQ (.slice a k c) L/\zG w w':=by
 have h:=zGX lv (.slice none 0 0) L [] hl (Sl.nil (λ_=>False) w 1 vQ) 0 0 (by omega) hb (by simp);refine h.mono ?_;rintro e w' ⟨v,rfl,ho,hm⟩;have e1:L.take 0++[]++L.drop (0+0)=L:=by simp
 rw[e1] at ho;obtain⟨a,c,rfl,_⟩:=ho.form;subst hk;exact⟨a,c,rfl,ho,hm⟩
theorem zEx(lv mv:Value)(L M:List Int)(hl:Sl F w 1 yL lv L)(hm:Sl H w 1 yL mv M)(i many:Nat)(h1:i+many<=L.length)(hb:L.length<=1000000)(hb2:M.length<=1000000) :
  Calls Tryz.prog 271 #[lv,.int .i64 (i:Int),.int .i64 (many:Int),mv] w λe w'=>∃v,e=.returned v/\yA (λ_=>False) w' w.heap.size 3 1 yL v (L.take i++M++L.drop (i+many))/\zG w w':=by
 obtain⟨la,lc,rfl,l1,l2,l3, -⟩:=_root_.id hl;unfold maxLen at l2;have HL:=oh hl;have HM:=oh hm;have hO0:Hid (yA (λ_=>False) (w.alloc (.cells #[] 3)) w.heap.size 3 1 yL (.slice (some ⟨w.heap.size,0,none⟩) 0 0) ([]:List Int)):=oh (yA.empty (λk f=>f.elim) _ _ _ jR.len);have hm0:Hid (zG w (w.alloc (.cells #[] 3))):=oh ((zss w).alloc _);obtain⟨ma,mc,rfl,m1,m2,m3, -⟩:=hm;have u1:IntKind.i64.wrap ((i:Int)+(many:Int))=((i+many:Nat):Int):=by rw[IntWalk.i64_in _ (by omega)];omega
 have lt1:(L.take i).length=i:=by rw[uQ];omega
 have lt2:(L.drop (i+many)).length=L.length-(i+many):=wM;have HT1:=oh lt1;have HT2:=oh lt2;clear hl lt1 lt2;have p1:Hid (Sl F w 1 yL (.slice la i lc) (L.take i)):=oh (HL.out.pre i (by omega));have p3:Hid (Sl F w 1 yL (.slice (if lc=i+many then la else la.map (·.add (i+many))) (L.length-(i+many)) (lc-(i+many))) (L.drop (i+many))):=oh (by have:=HL.out.tail_ (i+many) h1;simpa only[uY] using this);obtain⟨R,hR⟩:∃R,R=L.take i++M++L.drop (i+many):=⟨_,rfl⟩;rw[<- hR];have HR:=oh hR;clear hR
 go_enter Tryz.func271, Tryz.ntmps271
 go_wp2_with (first
  | (at_builtin;refine yC Tryz.elI jR rfl _ _ rfl w.heap.size _ (.slice la i lc) [] (L.take i) rfl rfl hO0.out (p1.out.ext hm0.out) (by rw[HT1.out];simp only[uF];omega) (by simp) (λf=>f) ?_;rw[wN,uF,HT1.out,uV];intro a1 c1 w1 hO1 hm1 hat1;have HO1:=oh hO1;have HM1:Hid (zG w w1):=oh (zA.past hm0.out (hm1.mono (λk hk=>(hO0.out.lt k hk).1)));clear hO1 hm1 hat1)
  | (at_builtin;refine yC Tryz.elI jR rfl _ _ rfl w.heap.size (.slice a1 i c1) (.slice ma M.length mc) (L.take i) M rfl rfl HO1.out (HM.out.ext HM1.out) (by rw[HT1.out];omega) HM1.out.size (λf=>f) ?_;rw[HT1.out];intro a2 c2 w2 hO2 hm2 hat2;have HO2:=oh hO2;have HM2:Hid (zG w w2):=oh (zA.past HM1.out (hm2.mono (λk hk=>(HO1.out.lt k hk).1)));clear hO2 hm2 hat2)
  | (at_builtin;refine yC Tryz.elI jR rfl _ _ rfl w.heap.size (.slice a2 (i+M.length) c2) _ (L.take i++M) (L.drop (i+many)) rfl rfl HO2.out (p3.out.ext HM2.out) (by rw[uC,HT1.out,HT2.out];omega) HM2.out.size (λf=>f) ?_;rw[uC,HT1.out,HT2.out];intro a3 c3 w3 hO3 hm3 hat3;have HO3:=oh hO3;have HM3:Hid (zG w w3):=oh (zA.past HM2.out (hm3.mono (λk hk=>(HO2.out.lt k hk).1)));clear hO3 hm3 hat3)
  | fail)
 all_goals
  go_ret;exact⟨_,rfl,by rw[HR.out];exact HO3.out,HM3.out⟩
theorem zJf(lv:Value)(L:List Int)(hl:Sl F w 1 yL lv L)(k:Nat)(hk:k=L.length)(hb:L.length<=1000000) :
  Calls Tryz.prog 271 #[lv,.int .i64 (k:Int),.int .i64 0,.slice none 0 0] w λe w'=>∃a c,e=.returned (.slice a k c)/\yA (λ_=>False) w' w.heap.size 3 1 yL (.slice a k c) L/\zG w w':=by
 have h:=zEx lv (.slice none 0 0) L [] hl (Sl.nil (λ_=>False) w 1 yL) k 0 (by omega) hb (by simp);refine h.mono ?_;rintro e w' ⟨v,rfl,ho,hm⟩;have e1:L.take k++[]++L.drop (k+0)=L:=by rw[uO,wJ,wC]
 rw[e1] at ho;obtain⟨a,c,rfl,_⟩:=ho.form;subst hk;exact⟨a,c,rfl,ho,hm⟩
theorem zJg(lv:Value)(L:List Int)(hl:Sl F w 1 yL lv L)(k:Nat)(hk:k=L.length)(hb:L.length<=1000000) :
  Calls Tryz.prog 271 #[lv,.int .i64 0,.int .i64 0,.slice none 0 0] w λe w'=>∃a c,e=.returned (.slice a k c)/\yA (λ_=>False) w' w.heap.size 3 1 yL (.slice a k c) L/\zG w w':=by
 have h:=zEx lv (.slice none 0 0) L [] hl (Sl.nil (λ_=>False) w 1 yL) 0 0 (by omega) hb (by simp);refine h.mono ?_;rintro e w' ⟨v,rfl,ho,hm⟩;have e1:L.take 0++[]++L.drop (0+0)=L:=by simp
 rw[e1] at ho;obtain⟨a,c,rfl,_⟩:=ho.form;subst hk;exact⟨a,c,rfl,ho,hm⟩
end
end
section
open Go.RowKit
attribute [local go_sem ↓] Go.wp_at_zero Go.wp_at_succ
section
variable {P P' F F':NP}{ad:Nat->Addr}{w w':World}{c s:Nat}{G:GA}{l:List Nat}
theorem zEg(n:zJ)(ve vk vi:Value)(w:World)(hve:Sl F w 4 jW ve n.entries)(hvk:Sl F w 1 vQ vk n.keys)(hb:zH n<=4611686018427387904)(z:Int)(hz : -4611686018427387904<=z)(hz2:z<=9223372036854775807) :
  Calls Tryz.prog 274 #[.agg #[.bool n.leaf,ve,vk,vi],.int .i64 z] w λe w'=>e=.returned (.bool (decide (zH n<=z-24)))/\zG w w':=by
 have HW:=λW (m:zG w W)=>zHn (vi:=vi) n ve vk W (hve.ext m) (hvk.ext m) hb
 obtain⟨ea,ec,rfl,_,_,_,_⟩:=hve;obtain⟨ka,kc,rfl,_,_,_,_⟩:=hvk;have HWL:=oh HW;have hz3:IntKind.i64.wrap (z-24)=z-24:=by rw[IntWalk.i64_in _ (by omega)]
 clear HW
 go_enter Tryz.func274, Tryz.ntmps274
 go_wp2_with fail;refine (HWL.out _ ?_).mono ?_
 .first|exact zA.refl _ _|exact zr.alloc _
 rintro e w1 ⟨rfl,hm⟩;have HM:=oh hm;clear hm;go_wp2_with fail;go_ret;exact⟨rfl,by first|exact HM.out|exact ((zss w).alloc _).trans HM.out⟩
theorem zDx(h:vJ F w P c s G l)(gen:Nat) : Calls Tryz.prog 275 #[pgV c s gen] w λe w'=>e=.returned (.int .i64 (G.size:Int))/\zG w w':=by
 unfold pgV;have m0:zG w (w.alloc (gP c s gen)):=(zss w).alloc _;obtain⟨d,HH,h1,h2⟩:=zQc (h.at m0);have gf1:=Tryz.geoF1;have H1:=oh h1;have H2:=oh h2;have M0:=oh m0;clear h1 h2 h m0
 go_enter Tryz.func275, Tryz.ntmps275
 go_wp2_with fail;refine H1.out.mono ?_;rintro e w1 ⟨rfl,rfl⟩;go_wp2_with fail;refine (H2.out _ zr).mono ?_;rintro e w2 ⟨rfl,hm⟩;have HM:=oh hm;clear hm;go_wp2_with fail;go_ret;exact⟨rfl,M0.out.trans HM.out⟩
def jA(G:GA)(l:List Nat)(old:Nat):GA :=
 if old=0\/jS l old=true then G else if qN l=none then G else G.drop old
def zAY(l:List Nat)(old:Nat):List Nat :=
 if old=0 then zBG l else if jS l old=true then l else match qN l with
  | none=>l
  | some i=>(yZ (l.set i 2) old).1
def zAC(l:List Nat)(old:Nat):Option Nat:=if old≠0/\jS l old=true then some old else qN l
def zKa(l:List Nat)(old:Nat):Prop:=old=0\/l[old]? = some 1\/l[old]? = some 2
def zSh(ad:Nat->Addr)(o:Option Nat)(F':NP)(w':World)(e:Ending):Prop :=
 (∃i,o=some i/\e=.returned (.tuple #[.int .i64 (i:Int),.nilIface]))\/(o=none/\∃f,e=.returned (.tuple #[.int .i64 0,zI f])/\yN F' ad w' (zI f) [-1] 3)
theorem zPL{l:List Nat}{i old:Nat}(hi:qN l=some i)(h2:2<=old)(h1:l[old]? = some 1):(yZ (l.set i 2) old).2=none:=by
 have hne:i≠old:=λe=>by
  have:=(zAj hi).1;rw[e,h1] at this;simp at this
 have hlt:=(uB.1 h1).1;have hc:vL (l.set i 2) (old:Int)=none:=by
  unfold vL;rw[if_neg (by rw[tG];omega)]
 unfold yZ;rw[hc];simp only[uK,wE hne,h1];simp
theorem zPM(hL:yE F ad w)(hP:∀k,P k->F k)(h:vJ F w P c s G l)(gen old:Nat)(hok:zKa l old)(ho2:old=0\/2<=old)(hob:old<256) :
  Calls Tryz.prog 276 #[pgV c s gen,.int .i64 (old:Int)] w (zCb F P ad w c s (jA G l old) (zAY l old) (zSh ad (zAC l old))):=by
 have m0:zG w (w.alloc (gP c s gen)):=(zss w).alloc _;have HB0:=oh (zK.new w (gP c s gen) 140);have HM0:=oh m0;have HP:=oh hP;have HG:=oh (h.at m0);have HL:=oh (hL.mods m0.ext);have HN0:Hid (zU P P F F ad w _):=oh (zU.ext hL hP m0);have HBP:Hid (¬ P w.heap.size):=oh (λhp=>by have:=h.bd _ hp;omega);have HOK:=oh hok;clear hL hP h m0 hok;unfold pgV;by_cases hz:old=0
 .subst hz;have HT:=oh (zM7 HL.out HP.out HG.out);have HE:Hid (jA G l 0=G/\zAY l 0=zBG l/\zAC l 0=qN l):=oh ⟨by unfold jA;rw[if_pos (.inl rfl)],by unfold zAY;rw[if_pos rfl],by unfold zAC;rw[if_neg (by simp)]⟩;clear ho2 hob
  go_enter Tryz.func276, Tryz.ntmps276
  go_wp2_with fail;refine HT.out.mono ?_;rintro e w1 ⟨P1,F1,hG1,hN1,hr⟩;have HG1:=oh hG1;have HN1:=oh hN1;clear hG1 hN1;rcases hr with ⟨i,hi,hil,rfl⟩|⟨hi,f,rfl,hE⟩
  .have HI:=oh hi;clear hi;go_wp2_with fail;go_ret2
   refine⟨P1,F1,?_,HN0.out.trans HN1.out,?_⟩
   .rw[HE.out.1,HE.out.2.1];exact HG1.out
   .rw[HE.out.2.2];exact .inl ⟨i,HI.out,rfl⟩
  .have HI:=oh hi;have HEE:=oh hE;clear hi hE;go_wp2_with fail;go_ret2
   refine⟨P1,F1,?_,HN0.out.trans HN1.out,?_⟩
   .rw[HE.out.1,HE.out.2.1];exact HG1.out
   .rw[HE.out.2.2];exact .inr ⟨HI.out,f,rfl,HEE.out⟩
 .have hz1:¬ (old:Int)=0:=by omega
  have h2:2<=old:=by omega
  have HF:=oh (zRs HG.out (old:Int));cases hfr:jS l (old:Int) with
  | true =>
   rw[hfr] at HF;have HE:Hid (jA G l old=G/\zAY l old=l/\zAC l old=some old):=oh ⟨by unfold jA;rw[if_pos (.inr hfr)],by unfold zAY;rw[if_neg hz,if_pos hfr],by unfold zAC;rw[if_pos ⟨hz,hfr⟩]⟩;clear hfr hz ho2
   go_enter Tryz.func276, Tryz.ntmps276
   go_wp2_with fail;refine HF.out.mono ?_;rintro e w1 ⟨rfl,rfl⟩;go_wp2_with fail;go_ret2
   refine⟨P,F,?_,HN0.out,?_⟩
   .rw[HE.out.1,HE.out.2.1];exact HG.out
   .rw[HE.out.2.2];exact .inl ⟨old,rfl,rfl⟩
  | false =>
   rw[hfr] at HF;have h1:l[old]? = some 1:=by
    rcases HOK.out with h|h|h
    .exact absurd h hz
    .exact h
    .unfold jS at hfr;rw[uK,h] at hfr;simp at hfr
   have HE:Hid (jA G l old=(if qN l=none then G else G.drop old)/\zAY l old=(match qN l with|none=>l|some i=>(yZ (l.set i 2) old).1)/\zAC l old=qN l):=oh
    ⟨by unfold jA;rw[if_neg (by rw[hfr];simp[hz])],by unfold zAY;rw[if_neg hz,if_neg (by rw[hfr];simp)],by unfold zAC;rw[if_neg (by rw[hfr];simp)]⟩
   have H1:=oh h1;have HT:=oh (zM7 HL.out HP.out HG.out);clear hfr hz ho2 h1
   go_enter Tryz.func276, Tryz.ntmps276
   go_wp2_with fail;refine HF.out.mono ?_;rintro e w1 ⟨rfl,rfl⟩;go_wp2_with fail;refine HT.out.mono ?_;rintro e w1 ⟨P1,F1,hG1,hN1,hr⟩;have HB1:=oh (hN1.blk HB0.out HBP.out);have HBP1:Hid (¬ P1 w.heap.size):=oh (hN1.not HB0.out.lt HBP.out);have HG1:=oh hG1;have HN1:=oh (HN0.out.trans hN1);clear hG1 hN1;rcases hr with ⟨i,hi,hil,rfl⟩|⟨hi,f,rfl,hE⟩
   .have HTK:Hid (zBG l=l.set i 2):=oh (by unfold zBG;rw[hi]);have HGV:Hid ((yZ (zBG l) (old:Int)).2=none):=oh (by rw[HTK.out];exact zPL hi h2 H1.out);have HI:=oh hi;clear hi;have b0:=HB1.out.d 0 (.pointer (some ⟨c,0,none⟩)) rfl;go_wp2_with fail;refine (zQa HN1.out.env HN1.out.sub HG1.out old).mono ?_;rintro e w2 ⟨P2,F2,hG2,hN2,bb,rfl⟩;have HB2:=oh (hN2.blk HB1.out HBP1.out);have b1:=HB2.out.d 1 (.pointer (some ⟨s,0,none⟩)) rfl;have HG2:=oh hG2;have HN2:=oh (HN1.out.trans hN2);clear hG2 hN2;go_wp2_with fail;refine (zQb HN2.out.env HN2.out.sub HG2.out (old:Int)).mono ?_;rintro e w3 ⟨P3,F3,hG3,hN3,ev,rfl,hev⟩;rw[HGV.out] at hev;cases hev
    have HG3:=oh hG3;have HN3:=oh (HN2.out.trans hN3);clear hG3 hN3;go_wp2_with fail;go_ret2
    refine⟨P3,F3,?_,HN3.out,?_⟩
    .rw[HE.out.1,HE.out.2.1,HI.out,if_neg (by simp)];simp only;rw[<- HTK.out];exact HG3.out
    .rw[HE.out.2.2];exact .inl ⟨i,HI.out,rfl⟩
   .have HI:=oh hi;have HEE:=oh hE;clear hi hE;go_wp2_with fail;go_ret2
    refine⟨P1,F1,?_,HN1.out,?_⟩
    .rw[HE.out.1,HE.out.2.1,HI.out,if_pos rfl];have:zBG l=l:=by unfold zBG;rw[HI.out]
     rw[<- this];exact HG1.out
    .rw[HE.out.2.2];exact .inr ⟨HI.out,f,rfl,HEE.out⟩
end
end
section
open Go.RowKit
def GA.total(G:GA):Prop:=∀i,i<G.blocks->∃r,G.view i=some r
theorem GA.total.knows{G:GA}(h:G.total)(id:Int):G.knows id:=λhc=>by
 unfold GA.check at hc;split at hc
 .cases hc
 .exact h _ (by omega)
theorem zPN{G:GA}(h:G.total)(p:yF):(G.put p).total:=λi hi=>by
 show ∃r,upd G.view p.id.toNat (some (.inl p)) i=some r;by_cases e:i=p.id.toNat
 .subst e;rw[zDV];exact⟨_,rfl⟩
 .rw[zFM _ _ e];exact h i hi
structure zQv(R:Int->Int->Option ByteArray)(m:zJ)(p:List zE):Prop where
 leaf:m.leaf=true
 right:zQ m=true
 len:m.entries.length=p.length
 tells:∀(i:Nat) (e:zR) (x:zE),m.entries[i]? = some e->p[i]? = some x->e.key=x.1/\zFO R e=some x.2
noncomputable def GA.R2 (G:GA) (c s:Int):Option ByteArray:=open Classical in if zBH G s.toNat c s then G.R c s else none
theorem GA.R2_some{G:GA}{c s:Int}{v:ByteArray}(h:G.R2 c s=some v):zBH G s.toNat c s/\G.R c s=some v:=by
 unfold GA.R2 at h;split at h
 .rename_i hw;exact⟨hw,h⟩
 .cases h
theorem zG9{G:GA}{e:zR}{v:ByteArray}(h:zFO G.R2 e=some v):zDw G e=.inl v/\zF5 G e:=by
 unfold zFO at h;unfold zDw zF5;by_cases hc:e.chain=0
 .rw[if_pos hc] at h ⊢;exact⟨by rw[Option.some.inj h],λhn=>absurd hc hn⟩
 .rw[if_neg hc] at h ⊢;obtain⟨h1,h2⟩:=GA.R2_some h;refine⟨?_,λ_ _ _=>h1⟩;unfold GA.R at h2;split at h2
  .rename_i h3;rw[h3];simp only;rw[Option.some.inj h2]
  .cases h2
theorem zDy(k:ByteArray):inB e0 none k:=by
 refine⟨?_,λh hh=>by cases hh⟩;unfold qH;have:e0.toList=[]:=by simp[ByteArray.toList_eq]
 rw[this];cases k.toList <;> rfl
def zSR(G:GA)(root d:Nat)(l:List zE):Prop :=
 (l=[]/\root=0/\d=0)\/(2<=root/\root<256/\d<=16/\Tr G.node G.R2 e0 none root d l)
structure WkS where
 pages:List Int
 keys:List ByteArray
 depth:Nat
variable {G:GA}{gen:Nat}{st st1:WkS}{id:Int}{p:yF}
theorem zDz:∀(n:Nat) (l:List Int),l.Nodup->(∀i∈l,0<=i/\i<(n:Int))->l.length<=n
 | 0,[],_,_=>uJ _
 | 0,i :: l,_,h=>by have:=h i uH;omega
 | n+1,l,hn,h=>by
  by_cases hm:(n:Int)∈l
  .have h1:=zDz n (l.erase (n:Int)) (hn.erase _) (λi hi=>by
    rw[hn.mem_erase_iff] at hi;have:=h i hi.2;have:=hi.1;omega)
   rw[List.length_erase_of_mem hm] at h1;omega
  .have:=zDz n l hn (λi hi=>by
    have h1:=h i hi;have h2:i≠(n:Int):=λe=>hm (e ▸ hi)
    omega)
   omega
abbrev StC:=List (zJ × Int)
def zAD(n:zJ):Nat:=if n.leaf then n.entries.length else n.kids.length
def zDa(n:zJ):Int:=max 0 ((zAD n:Int)-1)
def zAS(G:GA)(st:StC)(id:Int):StC ⊕ Err :=
 if 16<=st.length then .inr ([zBq id],5) else match G.load id with
  | .inr e=>.inr e
  | .inl n=>.inl ((n,0) :: st)
def zCs(last:Bool)(st:StC):StC:=match st with
 | []=>[]
 | (n,a) :: r=>if last=true then (n,zDa n) :: r else (n,a) :: r
def zOD(G:GA)(last:Bool):Nat->StC->StC ⊕ Err
 | 0,st=>.inl st
 | _+1,[]=>.inl []
 | f+1,(n,a) :: r=>if n.leaf=true then .inl ((n,a) :: r) else
  match zAS G ((n,a) :: r) (n.kids.getD a.toNat 0) with
  | .inr e=>.inr e
  | .inl st=>zOD G last f (zCs last st)
def zB1(G:GA)(last:Bool)(st:StC):StC ⊕ Err:=zOD G last (18-st.length) st
def qI(G:GA)(by_:Int):StC->StC ⊕ Err
 | []=>.inl []
 | (n,a) :: r=>if 0<=a+by_/\a+by_<(zAD n:Int) then zB1 G (decide (by_<0)) ((n,a+by_) :: r) else qI G by_ r
def zOE(st:StC):Bool:=match st with
 | []=>false
 | (n,_) :: _=>n.entries.isEmpty
def zOF(G:GA)(root:Int)(last:Bool):StC ⊕ Err :=
 if root=0 then .inl [] else match zAS G [] root with
  | .inr e=>.inr e
  | .inl st=>match zB1 G last (zCs last st) with
   | .inr e=>.inr e
   | .inl st1=>if zOE st1=true then .inl [] else .inl st1
def jQ(G:GA)(key:ByteArray):Nat->StC->Int->StC ⊕ Err
 | 0,_,id=>.inr ([zBq id],5)
 | f+1,st,id=>match zAS G st id with
  | .inr e=>.inr e
  | .inl []=>.inl []
  | .inl ((n,_) :: r)=>if n.leaf=true then .inl ((n,((zBI n key).1:Int)) :: r) else jQ G key f ((n,((zBI n key).1:Int)) :: r) (n.kids.getD (zBI n key).1 0)
def zDb(G:GA)(root:Int)(key:ByteArray):StC ⊕ Err :=
 if root=0 then .inl [] else match jQ G key 17 [] root with
  | .inr e=>.inr e
  | .inl []=>.inl []
  | .inl ((n,a) :: r)=>if a<(n.entries.length:Int) then .inl ((n,a) :: r) else qI G 1 ((n,a-1) :: r)
def zLh(x:zJ × Int):Prop:=zQ x.1=true /\ -2<=x.2/\x.2<=65537
def zJh(x:zJ × Int):Prop:=x.1.leaf=false->0<=x.2/\x.2<(x.1.kids.length:Int)
def zSi(st:StC):Prop:=(∀x∈st,zLh x)/\st.length<=16
section
variable {G:GA}{st st1:StC}{id:Int}{last:Bool}
theorem zAZ{n:zJ}(h:zQ n=true):n.entries.length<=65535/\n.kids.length<=256/\(n.leaf=false->2<=n.kids.length):=by
 unfold zQ at h;split at h
 .rename_i hl;simp only[uL,uR,wV] at h;refine⟨h.2,by rw[h.1.1.2];simp,λhf=>by rw[hl] at hf;cases hf⟩
 .simp only[uL,uR,wV] at h;obtain⟨⟨⟨⟨⟨⟨⟨h1,h2⟩,h3⟩,h4⟩,h5⟩,h6⟩,h7⟩,h8⟩:=h;exact⟨by rw[h1];simp,h4,λ_=>h2⟩
theorem zLi{n:zJ}(h:zQ n=true):zLh (n,zDa n)/\zJh (n,zDa n):=by
 obtain⟨h1,h2,h3⟩:=zAZ h;have he:(zAD n:Int)<=65535:=by unfold zAD;split <;> omega
 refine⟨⟨h,by show (-2:Int)<=max 0 ((zAD n:Int)-1);omega,by show max 0 ((zAD n:Int)-1)<=65537;omega⟩,λhl=>?_⟩;have:=h3 hl;show 0<=zDa n/\zDa n<(n.kids.length:Int);unfold zDa zAD;rw[if_neg (by rw[show n.leaf=false from hl];simp)];omega
theorem zKb{n:zJ}(h:zQ n=true):zLh (n,0)/\zJh (n,0):=by
 obtain⟨h1,h2,h3⟩:=zAZ h;refine⟨⟨h,by show (-2:Int)<=0;omega,by show (0:Int)<=65537;omega⟩,λhl=>?_⟩;have:=h3 hl;show (0:Int)<=0/\(0:Int)<(n.kids.length:Int);omega
theorem zLj(h:zSi st)(hp:zAS G st id=.inl st1):zSi st1/\∃n,st1=(n,0) :: st/\G.load id=.inl n:=by
 unfold zAS at hp;split at hp
 .cases hp
 .rename_i hl;split at hp
  .cases hp
  .rename_i n hn;injection hp with hp;subst hp;refine⟨⟨λx hx=>?_,by simp;omega⟩,n,rfl,hn⟩;rcases uP.1 hx with rfl|hx
   .exact (zKb (GA.load_right hn)).1
   .exact h.1 x hx
theorem zLk(last:Bool)(st:StC):(zCs last st).length=st.length:=by
 unfold zCs;cases st with
 | nil=>rfl
 | cons x r=>obtain⟨n,a⟩:=x;simp only;split <;> rfl
theorem zQw{n:zJ}(hr:zQ n=true)(key:ByteArray):(zBI n key).1<=65535/\(n.leaf=true->(zBI n key).1<=n.entries.length)/\(n.leaf=false->(zBI n key).1<n.kids.length):=by
 obtain⟨h1,h2,h3⟩:=zAZ hr;cases hl:n.leaf with
 | true =>
  rw[zC0 hl];have:vN key n.entries<=n.entries.length:=tZ;exact⟨by show vN key n.entries<=_;omega,λ_=>this,λh=>by cases h⟩
 | false =>
  have hk:=(zAv hr hl).2.1;rw[zEc hl];have:zAh key n.keys<=n.keys.length:=tZ;exact⟨by show zAh key n.keys<=_;omega,λh=>(by cases h),λ_=>(by show zAh key n.keys<_;omega)⟩
theorem zD0{n:zJ}{a:Int}{r:StC}(hl:n.leaf=false)(hlen:r.length+1<=16):zB1 G last ((n,a) :: r)=match zAS G ((n,a) :: r) (n.kids.getD a.toNat 0) with | .inr e=>.inr e | .inl st=>zB1 G last (zCs last st):=by
 unfold zB1;have e:18-((n,a) :: r).length=(16-r.length)+1:=by simp only[uD];omega
 rw[e,zOD,if_neg (by rw[hl];simp)];cases hp:zAS G ((n,a) :: r) (n.kids.getD a.toNat 0) with
 | inr e=>rfl
 | inl st =>
  simp only;have hst:st.length=r.length+2:=by
   unfold zAS at hp;split at hp
   .cases hp
   .split at hp
    .cases hp
    .injection hp with hp;subst hp;simp
  rw[zLk,hst];congr 1
  omega
theorem zD1{n:zJ}{a:Int}{r:StC}(hl:n.leaf=true)(hlen:r.length+1<=16):zB1 G last ((n,a) :: r)=.inl ((n,a) :: r):=by
 unfold zB1;have e:18-((n,a) :: r).length=(16-r.length)+1:=by simp only[uD];omega
 rw[e,zOD,if_pos hl]
end
inductive TrE (V:Nat->Option zJ):Nat->NP
 | leaf {id n}:V id=some n->n.leaf=true->n.entries≠[]->TrE V id 1
 | inner {id n d}:V id=some n->n.leaf=false->(∀k∈n.kids,TrE V k.toNat d)->TrE V id (d+1)
inductive Ctx (G:GA) (L:List zE) (D:Nat):StC->List zE->List zE->List zE->Nat->ByteArray->Option ByteArray->Prop
 | nil:Ctx G L D [] [] L [] D e0 none
 | cons {n:zJ} {j:Nat} {r pre suf d lo hi} {parts:List (List zE)} {p:List zE}:Ctx G L D r pre parts.flatten suf (d+1) lo hi->n.leaf=false->zQ n=true->parts.length=n.kids.length ->
   (∀(i:Nat) (k:Int) (p:List zE),n.kids[i]? = some k->parts[i]? = some p->Tr G.node G.R2 (zFP lo n.keys i) (zFQ hi n.keys i) k.toNat d p)->(∀k∈n.kids,TrE G.node k.toNat d)->(∀s∈n.keys,inB lo hi s)->parts[j]? = some p ->
   Ctx G L D ((n,(j:Int)) :: r) (pre++(parts.take j).flatten) p ((parts.drop (j+1)).flatten++suf) d (zFP lo n.keys j) (zFQ hi n.keys j)
def zCk(G:GA)(L:List zE)(D:Nat)(st:StC)(i:Nat):Prop :=
 ∃(n:zJ) (a:Nat) (r:StC) (pre p suf:List zE) (lo:ByteArray) (hi:Option ByteArray),st=(n,(a:Int)) :: r/\Ctx G L D r pre p suf 1 lo hi/\zQv G.R2 n p/\a<p.length/\i=pre.length+a
def zDc(G:GA)(L:List zE)(D:Nat)(st:StC)(i:Int):Prop:=(0<=i/\i<(L.length:Int)/\zCk G L D st i.toNat)\/((i<0\/(L.length:Int)<=i)/\st=[])
section
variable {G:GA}{L pre f suf p:List zE}{D d id:Nat}{st r:StC}{lo:ByteArray}{hi:Option ByteArray}{n:zJ}
theorem zQx{α:Type}{l:List α}{j:Nat}{x:α}(h:l[j]? = some x):l=l.take j++x :: l.drop (j+1):=by
 obtain⟨hj,rfl⟩:=uB.1 h;rw[List.getElem_cons_drop,wC]
theorem zKc{parts:List (List zE)}{j:Nat}(h:parts[j]? = some p):parts.flatten=(parts.take j).flatten++p++(parts.drop (j+1)).flatten:=by
 conv=>lhs;rw[zQx h]
 simp
theorem zJi{parts:List (List zE)}{j:Nat}(h:parts[j]? = some p):(parts.take (j+1)).flatten.length=(parts.take j).flatten.length+p.length:=by
 rw[List.take_add_one,h,List.flatten_append,uC];simp only[Option.toList_some,p6,pP,wJ]
theorem Ctx.whole(h:Ctx G L D r pre f suf d lo hi):L=pre++f++suf:=by
 induction h with
 | nil=>simp
 | cons _ _ _ _ _ _ _ h8 ih=>rw[ih,zKc h8];simp
theorem Ctx.deep(h:Ctx G L D r pre f suf d lo hi):r.length+d=D:=by
 induction h with
 | nil=>simp
 | cons _ _ _ _ _ _ _ _ ih=>simp only[uD];omega
theorem TrE.ne{R:Int->Int->Option ByteArray}{V:Nat->Option zJ}(h:Tr V R lo hi id d f):TrE V id d->f≠[]:=by
 induction h with
 | @leaf lo hi id n l h1 h2 h3 h4 h5 h6 =>
  intro he;cases he with
  | leaf k1 k2 k3 =>
   rw[h1] at k1;injection k1 with k1;subst k1;rintro rfl;exact k3 (rY.1 h4)
  | inner k1 k2 k3=>rw[h1] at k1;injection k1 with k1;subst k1;rw[h2] at k2;cases k2
 | @inner lo hi id n d parts h1 h2 h3 h4 h5 h6 ih =>
  intro he hf;cases he with
  | leaf k1 k2 k3=>rw[h1] at k1;injection k1 with k1;subst k1;rw[h2] at k2;cases k2
  | inner k1 k2 k3 =>
   rw[h1] at k1;injection k1 with k1;subst k1;have h7:=(zAZ h3).2.2 h2;have hk:0<n.kids.length:=by omega
   have hp:0<parts.length:=by omega
   have:=ih 0 n.kids[0] parts[0] (uA hk) (uA hp) (k3 _ (wL hk));exact this (List.flatten_eq_nil_iff.1 hf _ (wL hp))
def goA(G:GA)(last:Bool)(r:StC)(id:Int):StC ⊕ Err:=match zAS G r id with
 | .inr e=>.inr e
 | .inl st=>zB1 G last (zCs last st)
theorem zLl(last:Bool)(n:zJ)(r:StC):zCs last ((n,0) :: r)=(n,if last=true then zDa n else 0) :: r:=by
 unfold zCs;cases last <;> rfl
theorem zKd{n:zJ}(hn:zQ n=true)(hl:n.leaf=false){j:Nat}(hj:j<n.kids.length):n.kids.getD j 0=((n.kids[j].toNat:Nat):Int):=by
 have:=((zAv hn hl).2.2 _ (wL hj)).1;rw[tM,uA hj];simp only[pN];omega
theorem zQy(last:Bool)(h:Tr G.node G.R2 lo hi id d f):∀{r:StC} {pre suf:List zE},TrE G.node id d->Ctx G L D r pre f suf d lo hi->D<=16 ->
  ∃st',goA G last r (id:Int)=.inl st'/\zCk G L D st' (if last=true then pre.length+f.length-1 else pre.length):=by
 induction h with
 | @leaf lo hi id n l h1 h2 h3 h4 h5 h6 =>
  intro r pre suf hE hC hD;have hdp:=hC.deep;have hne:=TrE.ne (.leaf h1 h2 h3 h4 h5 h6:Tr G.node G.R2 lo hi id 1 l) hE;have hpos:0<l.length:=rT.2 hne;have hp:zAS G r (id:Int)=.inl ((n,0) :: r):=by
   unfold zAS;rw[if_neg (by omega),(GA.node_load h1).2]
  unfold goA;rw[hp];simp only;rw[zLl,zD1 h2 (by omega)];cases last with
  | false=>exact⟨_,rfl,n,0,r,pre,l,suf,lo,hi,rfl,hC,⟨h2,h3,h4,h5⟩,hpos,by simp⟩
  | true =>
   refine⟨_,rfl,n,l.length-1,r,pre,l,suf,lo,hi,?_,hC,⟨h2,h3,h4,h5⟩,by omega,by simp;omega⟩;simp only[tY];congr 2
   unfold zDa zAD;rw[if_pos h2,h4];omega
 | @inner lo hi id n d parts h1 h2 h3 h4 h5 h6 ih =>
  intro r pre suf hE hC hD;have hdp:=hC.deep;have hkids:=(zAZ h3).2.2 h2;cases hE with
  | leaf k1 k2 k3=>rw[h1] at k1;injection k1 with k1;subst k1;rw[h2] at k2;cases k2
  | inner k1 k2 k3 =>
   rw[h1] at k1;injection k1 with k1;subst k1;have hp:zAS G r (id:Int)=.inl ((n,0) :: r):=by
    unfold zAS;rw[if_neg (by omega),(GA.node_load h1).2]
   unfold goA;rw[hp];simp only;obtain⟨j,hj,hjt,hjl⟩:∃j:Nat,(if last=true then zDa n else 0)=(j:Int)/\j<n.kids.length/\(j=if last=true then n.kids.length-1 else 0):=by
    cases last with
    | false=>exact⟨0,rfl,by omega,rfl⟩
    | true =>
     refine⟨n.kids.length-1,?_,by omega,rfl⟩;simp only[tY];unfold zDa zAD;rw[if_neg (by rw[h2];simp)];omega
   rw[zLl,hj,zD0 h2 (by omega),uK,zKd h3 h2 hjt];have hjp:j<parts.length:=by omega
   have hpj:parts[j]? = some parts[j]:=uA hjp;have hCj:=Ctx.cons hC h2 h3 h4 h5 k3 h6 hpj;obtain⟨st',e1,e2⟩:=ih j n.kids[j] parts[j] (uA hjt) hpj (k3 _ (wL hjt)) hCj hD;refine⟨st',e1,?_⟩;have hfl:=congrArg List.length (zKc hpj);simp only[uC] at hfl e2 ⊢;cases last with
   | false =>
    simp only[tO,wH] at hjl e2 ⊢;rw[hjl] at e2;simpa using e2
   | true =>
    simp only[tY] at hjl e2 ⊢;have hd:parts.drop (j+1)=[]:=tH (by omega);rw[hd] at hfl;simp only[pP,uF,uO] at hfl;rw[hfl];rwa [rE] at e2
theorem zLm(hD:D<=16)(h:Ctx G L D r pre f suf d lo hi):(suf=[]/\qI G 1 r=.inl [])\/(suf≠[]/\∃st',qI G 1 r=.inl st'/\zCk G L D st' (pre.length+f.length)):=by
 induction h with
 | nil=>exact .inl ⟨rfl,rfl⟩
 | @cons n j r pre suf d lo hi parts p h1 h2 h3 h4 h5 h6 h7 h8 ih =>
  have hdp:=h1.deep;have hj:=(uB.1 h8).1;have hfl:=congrArg List.length (zKc h8);simp only[uC] at hfl;by_cases hn:j+1<n.kids.length
  .have hjp:j+1<parts.length:=by omega
   have hpj:parts[j+1]? = some parts[j+1]:=uA hjp;have hCj:=Ctx.cons h1 h2 h3 h4 h5 h6 h7 hpj;have hT:=h5 (j+1) n.kids[j+1] parts[j+1] (uA hn) hpj;have hE:=h6 _ (wL hn);obtain⟨st',e1,e2⟩:=zQy false hT hE hCj hD;refine .inr ⟨?_,st',?_,?_⟩
   .intro hs;have:=TrE.ne hT hE;rw[wK hjp,p6] at hs;exact this (List.append_eq_nil_iff.1 (List.append_eq_nil_iff.1 hs).1).1
   .unfold qI;rw[if_pos (by unfold zAD;rw[if_neg (by rw[h2];simp)];omega),show decide ((1:Int)<0)=false from rfl,show ((j:Int)+1)=((j+1:Nat):Int) by omega,zD0 h2 (by omega),uK,zKd h3 h2 hn];exact e1
   .simp only[wH,tO,uC] at e2 ⊢;have hs:(parts.take (j+1)).flatten.length=(parts.take j).flatten.length+p.length:=zJi h8;rw[hs] at e2;rwa [rE]
  .have hd:parts.drop (j+1)=[]:=tH (by omega);have hm:qI G 1 ((n,(j:Int)) :: r)=qI G 1 r:=by
    conv=>lhs;unfold qI
    rw[if_neg (by unfold zAD;rw[if_neg (by rw[h2];simp)];omega)]
   rw[hm,hd];rw[hd] at hfl;simp only[pP,wN,uC,uF,uO] at hfl ⊢;rcases ih with ⟨i1,i2⟩|⟨i1,st',i2,i3⟩
   .exact .inl ⟨i1,i2⟩
   .refine .inr ⟨i1,st',i2,?_⟩;rw[hfl] at i3;rwa [rE]
theorem zQz(hD:D<=16)(h:Ctx G L D r pre f suf d lo hi):(pre=[]/\qI G (-1) r=.inl [])\/(pre≠[]/\∃st',qI G (-1) r=.inl st'/\zCk G L D st' (pre.length-1)):=by
 induction h with
 | nil=>exact .inl ⟨rfl,rfl⟩
 | @cons n j r pre suf d lo hi parts p h1 h2 h3 h4 h5 h6 h7 h8 ih =>
  have hdp:=h1.deep;have hj:=(uB.1 h8).1;by_cases hn:1<=j
  .have hjp:j-1<parts.length:=by omega
   have hjk:j-1<n.kids.length:=by omega
   have hpj:parts[j-1]? = some parts[j-1]:=uA hjp;have hCj:=Ctx.cons h1 h2 h3 h4 h5 h6 h7 hpj;have hT:=h5 (j-1) n.kids[j-1] parts[j-1] (uA hjk) hpj;have hE:=h6 _ (wL hjk);have hne:=TrE.ne hT hE;obtain⟨st',e1,e2⟩:=zQy true hT hE hCj hD;have hs:(parts.take j).flatten.length=(parts.take (j-1)).flatten.length+parts[j-1].length:=by
    obtain⟨q,rfl⟩:∃q,j=q+1:=⟨j-1,by omega⟩;exact zJi hpj
   have hpos:0<parts[j-1].length:=rT.2 hne;refine .inr ⟨?_,st',?_,?_⟩
   .intro hs2;have:=congrArg List.length hs2;simp only[uC,uF] at this;omega
   .unfold qI;rw[if_pos (by unfold zAD;rw[if_neg (by rw[h2];simp)];omega),show decide ((-1:Int)<0)=true from rfl,show ((j:Int) + -1)=((j-1:Nat):Int) by omega,zD0 h2 (by omega),uK,zKd h3 h2 hjk];exact e1
   .simp only[tY,uC] at e2 ⊢;rw[hs];have e3:pre.length+(parts.take (j-1)).flatten.length+parts[j-1].length-1=pre.length+((parts.take (j-1)).flatten.length+parts[j-1].length)-1:=by omega
    rwa [e3] at e2
  .have hj0:j=0:=by omega
   subst hj0;have hm:qI G (-1) ((n,((0:Nat):Int)) :: r)=qI G (-1) r:=by
    conv=>lhs;unfold qI
    rw[if_neg (by omega)]
   rw[hm];simp only[p7,pP,wJ];exact ih
end
def zJj(G:GA)(root d:Nat)(l:List zE):Prop:=zSR G root d l/\(root≠0->TrE G.node root d)
def zEC(key:ByteArray)(l:List zE):Nat:=l.findIdx λx=>!qH x.1 key
section
variable {G:GA}{L pre f suf p:List zE}{D d id i root:Nat}{st r:StC}{lo:ByteArray}{hi:Option ByteArray}{n:zJ}{key:ByteArray}
theorem zCk.lt(h:zCk G L D st i):i<L.length:=by
 obtain⟨n,a,r,pre,p,suf,lo,hi,rfl,hC,hl,ha,rfl⟩:=h;have:=congrArg List.length hC.whole;simp only[uC] at this;omega
theorem zCk.on(h:zCk G L D st i):zDc G L D st (i:Int):=.inl ⟨by omega,by have:=h.lt;omega,by rwa [uK]⟩
theorem zCk.pair(h:zCk G L D st i):∃(n:zJ) (a:Nat) (r:StC) (e:zR) (x:zE),st=(n,(a:Int)) :: r/\n.entries[a]? = some e/\L[i]? = some x/\e.key=x.1/\zDw G e=.inl x.2/\zF5 G e/\zQ n=true/\n.leaf=true:=by
 obtain⟨n,a,r,pre,p,suf,lo,hi,rfl,hC,hl,ha,rfl⟩:=h;have hea:a<n.entries.length:=by rw[hl.len];exact ha
 have h1:=hl.tells a n.entries[a] p[a] (uA hea) (uA ha);refine⟨n,a,r,n.entries[a],p[a],rfl,uA hea,?_,h1.1,(zG9 h1.2).1,(zG9 h1.2).2,hl.right,hl.leaf⟩;rw[hC.whole,uM,wS (by omega),Nat.add_sub_cancel_left,tF ha,uA ha]
theorem Ctx.small(h:Ctx G L D r pre f suf d lo hi):∀y∈r,0<=y.2/\y.2<=65535:=by
 induction h with
 | nil=>intro y hy;simp at hy
 | @cons n j r pre suf d lo hi parts p h1 h2 h3 h4 h5 h6 h7 h8 ih =>
  intro y hy;rcases uP.1 hy with rfl|hy
  .have hj:=(uB.1 h8).1;have:=(zAZ h3).2.1;show 0<=(j:Int)/\(j:Int)<=65535;omega
  .exact ih y hy
theorem zDc.small{i:Int}(h:zDc G L D st i):∀y∈st,0<=y.2/\y.2<=65535:=by
 rcases h with ⟨_,_,n,a,r,pre,p,suf,lo,hi,rfl,hC,hl,ha,_⟩|⟨_,rfl⟩
 .intro y hy;rcases uP.1 hy with rfl|hy
  .have:=(zAZ hl.right).1;have:=hl.len;show 0<=(a:Int)/\(a:Int)<=65535;omega
  .exact hC.small y hy
 .intro y hy;simp at hy
theorem zQ0(hD:D<=16)(h:zCk G L D st i):∃st',qI G 1 st=.inl st'/\zDc G L D st' ((i:Int)+1):=by
 obtain⟨n,a,r,pre,p,suf,lo,hi,rfl,hC,hl,ha,rfl⟩:=h;have hw:=congrArg List.length hC.whole;have hdp:=hC.deep;simp only[uC] at hw;by_cases hn:a+1<p.length
 .refine⟨(n,((a+1:Nat):Int)) :: r,?_,?_⟩
  .unfold qI;rw[if_pos (by unfold zAD;rw[if_pos hl.leaf,hl.len];omega),show ((a:Int)+1)=((a+1:Nat):Int) by omega,zD1 hl.leaf (by omega)]
  .have:zCk G L D ((n,((a+1:Nat):Int)) :: r) (pre.length+a+1):=⟨n,a+1,r,pre,p,suf,lo,hi,rfl,hC,hl,hn,by omega⟩;exact this.on
 .have hm:qI G 1 ((n,(a:Int)) :: r)=qI G 1 r:=by
   conv=>lhs;unfold qI
   rw[if_neg (by unfold zAD;rw[if_pos hl.leaf,hl.len];omega)]
  rw[hm];rcases zLm hD hC with ⟨k1,k2⟩|⟨k1,st',k2,k3⟩
  .refine⟨[],k2,.inr ⟨.inr ?_,rfl⟩⟩;subst k1;simp only[uF] at hw;omega
  .refine⟨st',k2,?_⟩;have:=k3.on;rwa [show ((pre.length+p.length:Nat):Int)=((pre.length+a:Nat):Int)+1 by omega] at this
theorem zQ1(hD:D<=16)(h:zCk G L D st i):∃st',qI G (-1) st=.inl st'/\zDc G L D st' ((i:Int)-1):=by
 obtain⟨n,a,r,pre,p,suf,lo,hi,rfl,hC,hl,ha,rfl⟩:=h;have hdp:=hC.deep;by_cases hn:1<=a
 .refine⟨(n,((a-1:Nat):Int)) :: r,?_,?_⟩
  .unfold qI;rw[if_pos (by unfold zAD;rw[if_pos hl.leaf,hl.len];omega),show ((a:Int) + -1)=((a-1:Nat):Int) by omega,zD1 hl.leaf (by omega)]
  .have:zCk G L D ((n,((a-1:Nat):Int)) :: r) (pre.length+a-1):=⟨n,a-1,r,pre,p,suf,lo,hi,rfl,hC,hl,by omega,by omega⟩;have:=this.on;rwa [show ((pre.length+a-1:Nat):Int)=((pre.length+a:Nat):Int)-1 by omega] at this
 .have ha0:a=0:=by omega
  subst ha0;have hm:qI G (-1) ((n,((0:Nat):Int)) :: r)=qI G (-1) r:=by
   conv=>lhs;unfold qI
   rw[if_neg (by omega)]
  rw[hm];rcases zQz hD hC with ⟨k1,k2⟩|⟨k1,st',k2,k3⟩
  .refine⟨[],k2,.inr ⟨.inl ?_,rfl⟩⟩;subst k1;simp only[uF];omega
  .refine⟨st',k2,?_⟩;have hp:0<pre.length:=rT.2 k1;have:=k3.on;rwa [show ((pre.length-1:Nat):Int)=((pre.length+0:Nat):Int)-1 by omega] at this
theorem zTE(last:Bool)(h:zJj G root d L):∃st',zOF G (root:Int) last=.inl st'/\zDc G L d st' (if last=true then (L.length:Int)-1 else 0):=by
 obtain⟨h1,h2⟩:=h;rcases h1 with ⟨rfl,rfl,rfl⟩|⟨h1,_,h3,h4⟩
 .refine⟨[],by unfold zOF;exact if_pos rfl,.inr ⟨?_,rfl⟩⟩;cases last
  .exact .inr (by simp)
  .exact .inl (by simp)
 .have hE:=h2 (by omega);have hv:L≠[]:=TrE.ne h4 hE;have hpos:0<L.length:=rT.2 hv;obtain⟨st',e1,e2⟩:=zQy (L:=L) (D:=d) last h4 hE .nil h3;have he:zOF G (root:Int) last=.inl st':=by
   unfold zOF;rw[if_neg (by omega)];unfold goA at e1;cases hp:zAS G [] (root:Int) with
   | inr e=>rw[hp] at e1;cases e1
   | inl st =>
    rw[hp] at e1;simp only at e1 ⊢;rw[e1];simp only;obtain⟨n,a,r,pre,p,suf,lo,hi,rfl,hC,hl,ha,_⟩:=e2;rw[if_neg];unfold zOE;simp only;rw[wV];intro hne;have:=hl.len;rw[hne] at this;simp at this;omega
  refine⟨st',he,?_⟩;have:=e2.on;cases last with
  | false=>simpa using this
  | true =>
   simp only[tY,uF,uV] at this ⊢;rwa [show ((L.length-1:Nat):Int)=(L.length:Int)-1 by omega] at this
theorem Ctx.ahead(h:Ctx G L D r pre f suf d lo hi):(∀x∈pre,qH x.1 lo=true)/\(∀x∈suf,∃h,hi=some h/\qH x.1 h=false):=by
 induction h with
 | nil=>exact⟨λx hx=>by simp at hx,λx hx=>by simp at hx⟩
 | @cons n j r pre suf d lo hi parts p h1 h2 h3 h4 h5 h6 h7 h8 ih =>
  obtain⟨i1,i2⟩:=ih;obtain⟨q1,q2, -⟩:=zAv h3 h2;have hj:=(uB.1 h8).1;refine⟨λx hx=>?_,λx hx=>?_⟩
  .unfold zFP;by_cases hj0:j=0
   .subst hj0;rw[if_pos rfl];simp only[p7,pP,wJ] at hx;exact i1 x hx
   .have hjk:j-1<n.keys.length:=by omega
    rw[if_neg hj0];have e:n.keys.getD (j-1) lo=n.keys[j-1]:=by simp[List.getD,hjk]
    rw[e];rcases uN.1 hx with hx|hx
    .exact zCp (i1 x hx) (h7 _ (wL hjk)).1
    .obtain⟨q,hq,hx⟩:=nL.1 hx;obtain⟨i,hi',e2⟩:=wI hq;rw[uQ] at hi';have hip:i<parts.length:=by omega
     have hik:i<n.kids.length:=by omega
     have hie:i<n.keys.length:=by omega
     rw[rR] at e2;have hT:=h5 i n.kids[i] parts[i] (uA hik) (uA hip);have hb:=(hT.keys x (by rw[e2];exact hx)).2 n.keys[i] (by unfold zFQ;rw[uA hie]);by_cases hij:i=j-1
     .subst hij;exact hb
     .exact qQ hb (zQN q1 (by omega) (uA hie) (uA hjk))
  .unfold zFQ;rcases uN.1 hx with hx|hx
   .obtain⟨q,hq,hx⟩:=nL.1 hx;obtain⟨i,hi',e2⟩:=wI hq;rw[wM] at hi';rw[List.getElem_drop] at e2;have hip:j+1+i<parts.length:=by omega
    have hik:j+1+i<n.kids.length:=by omega
    have hjk:j<n.keys.length:=by omega
    have hie:j+i<n.keys.length:=by omega
    have hT:=h5 (j+1+i) n.kids[j+1+i] parts[j+1+i] (uA hik) (uA hip);have hb:=(hT.keys x (by rw[e2];exact hx)).1;unfold zFP at hb;rw[if_neg (by omega)] at hb;have e:n.keys.getD (j+1+i-1) lo=n.keys[j+i]:=by
     rw[show j+1+i-1=j+i by omega];simp[List.getD,hie]
    rw[e] at hb;refine⟨n.keys[j],by rw[uA hjk],?_⟩;by_cases hi0:i=0
    .subst hi0;exact hb
    .have:=zQN q1 (show j<j+i by omega) (uA hjk) (uA hie);cases hc:qH x.1 n.keys[j] with
     | false=>rfl
     | true=>have:=qQ hc this;rw[hb] at this;cases this
   .obtain⟨h,rfl,hh⟩:=i2 x hx;cases hk:n.keys[j]? with
    | none=>exact⟨h,rfl,hh⟩
    | some s =>
     obtain⟨hjk,rfl⟩:=uB.1 hk;refine⟨n.keys[j],rfl,?_⟩;have:=(h7 _ (wL hjk)).2 h rfl;cases hc:qH x.1 n.keys[j] with
     | false=>rfl
     | true=>have:=qQ hc this;rw[hh] at this;cases this
theorem zLn(h:Tr G.node G.R2 lo hi id d f)(key:ByteArray):∀{fuel:Nat} {r:StC} {pre suf:List zE},TrE G.node id d->Ctx G L D r pre f suf d lo hi->D<=16->d<=fuel->inB lo hi key ->
  ∃(n:zJ) (r':StC) (pre' p suf':List zE) (lo':ByteArray) (hi':Option ByteArray),jQ G key fuel r (id:Int)=.inl ((n,(vN key n.entries:Int)) :: r')/\Ctx G L D r' pre' p suf' 1 lo' hi'/\zQv G.R2 n p/\inB lo' hi' key:=by
 induction h with
 | @leaf lo hi id n l h1 h2 h3 h4 h5 h6 =>
  intro fuel r pre suf hE hC hD hf hk;have hdp:=hC.deep;obtain⟨fuel,rfl⟩:∃q,fuel=q+1:=⟨fuel-1,by omega⟩;have hp:zAS G r (id:Int)=.inl ((n,0) :: r):=by
   unfold zAS;rw[if_neg (by omega),(GA.node_load h1).2]
  refine⟨n,r,pre,l,suf,lo,hi,?_,hC,⟨h2,h3,h4,h5⟩,hk⟩;rw[jQ,hp];simp only;rw[if_pos h2,zC0 h2]
 | @inner lo hi id n d parts h1 h2 h3 h4 h5 h6 ih =>
  intro fuel r pre suf hE hC hD hf hk;have hdp:=hC.deep;obtain⟨fuel,rfl⟩:∃q,fuel=q+1:=⟨fuel-1,by omega⟩;cases hE with
  | leaf k1 k2 k3=>rw[h1] at k1;injection k1 with k1;subst k1;rw[h2] at k2;cases k2
  | inner k1 k2 k3 =>
   rw[h1] at k1;injection k1 with k1;subst k1;obtain⟨r1,r2,_⟩:=zAv h3 h2;obtain⟨k,p,q1,q2,q3,q4⟩:=zMv r1 r2 h4 h5 hk;have hp:zAS G r (id:Int)=.inl ((n,0) :: r):=by
    unfold zAS;rw[if_neg (by omega),(GA.node_load h1).2]
   have hCj:=Ctx.cons hC h2 h3 h4 h5 k3 h6 q2;obtain⟨hjt,rfl⟩:=uB.1 q1;obtain⟨n',r',pre',p',suf',lo',hi',e1,e2⟩:=ih _ _ p q1 q2 (k3 _ (wL hjt)) hCj hD (by omega:d<=fuel) q3;refine⟨n',r',pre',p',suf',lo',hi',?_,e2⟩;rw[jQ,hp];simp only;rw[if_neg (by rw[h2];simp),zEc h2];simp only;rw[zKd h3 h2 hjt];exact e1
theorem zLo{α:Type}{q:α->Bool}{A B:List α}(hA:∀x∈A,q x=false)(hB:∀x,B[0]? = some x->q x=true):(A++B).findIdx q=A.length:=by
 induction A with
 | nil =>
  cases B with
  | nil=>rfl
  | cons b B=>simp only[wN,rS,hB b rfl,cond_true,uF]
 | cons a A ih =>
  rw[wX,rS,hA a uH];simp only[cond_false,uD];rw[ih (λx hx=>hA x (uI _ hx))]
theorem zQ2(key:ByteArray)(h:zJj G root d L):∃st',zDb G (root:Int) key=.inl st'/\zDc G L d st' (zEC key L:Int):=by
 obtain⟨h1,h2⟩:=h;rcases h1 with ⟨rfl,rfl,rfl⟩|⟨h1,_,h3,h4⟩
 .exact⟨[],by unfold zDb;exact if_pos rfl,.inr ⟨.inr (by simp[zEC]),rfl⟩⟩
 .have hE:=h2 (by omega);obtain⟨n,r,pre,p,suf,lo,hi,e1,hC,hl,hk⟩:=zLn (L:=L) (D:=d) (fuel:=17) h4 key hE .nil h3 (by omega) (zDy key);have hw:=hC.whole;have hdp:=hC.deep;obtain⟨b1,b2⟩:=hC.ahead;obtain⟨a,ha⟩:∃a,a=vN key n.entries:=⟨_,rfl⟩;rw[<- ha] at e1;have hal:a<=n.entries.length:=by rw[ha];exact tZ
  have hpl:=hl.len;have hpre:∀x∈pre,(!qH x.1 key)=false:=λx hx=>by
   rw[zCp (b1 x hx) hk.1];rfl
  have hsuf:∀x∈suf,(!qH x.1 key)=true:=λx hx=>by
   obtain⟨h,e,hh⟩:=b2 x hx;have:=hk.2 h e;cases hc:qH x.1 key with
   | false=>rfl
   | true=>have:=qQ hc this;rw[hh] at this;cases this
  have hlow:∀x∈p.take a,(!qH x.1 key)=false:=λx hx=>by
   obtain⟨i,hi',e⟩:=wI hx;rw[uQ] at hi';rw[rR] at e;have hie:i<n.entries.length:=by omega
   have hip:i<p.length:=by omega
   have k1:=(hl.tells i n.entries[i] p[i] (uA hie) (uA hip)).1;have k2:=zDo (f:=λe:zR=>!qH e.key key) (i:=i) (by show i<vN key n.entries;omega) (uA hie);rw[k1,e] at k2;exact k2
  have hseek:zEC key L=pre.length+a:=by
   unfold zEC;have hL:L=(pre++p.take a)++(p.drop a++suf):=by
    rw[hw,uM,uM,<- uM (p.take a),wC]
   have hAl:(pre++p.take a).length=pre.length+a:=by rw[uC,uQ];omega
   rw[hL,<- hAl];refine zLo (λx hx=>?_) (λx hx=>?_)
   .rcases uN.1 hx with hx|hx
    .exact hpre x hx
    .exact hlow x hx
   .by_cases hap:a<p.length
    .have hie:a<n.entries.length:=by omega
     rw[tF (by rw[wM];omega),tV,uO,uA hap] at hx;injection hx with hx;have k1:=(hl.tells a n.entries[a] p[a] (uA hie) (uA hap)).1;have k2:(!qH n.entries[a].key key)=true:=zDp (f:=λe:zR=>!qH e.key key) (l:=n.entries) (by
      have:n.entries.findIdx (λe:zR=>!qH e.key key)=a:=ha.symm;rw[this];exact uA hie)
     rw[k1,hx] at k2;exact k2
    .rw[tH (by omega),wN] at hx;exact hsuf x (wD hx)
  rw[hseek];unfold zDb;rw[if_neg (by omega),e1];simp only;by_cases hap:a<p.length
  .rw[if_pos (by omega)];have:zCk G L d ((n,(a:Int)) :: r) (pre.length+a):=⟨n,a,r,pre,p,suf,lo,hi,rfl,hC,hl,hap,rfl⟩;exact⟨_,rfl,this.on⟩
  .rw[if_neg (by omega)];have hm:qI G 1 ((n,(a:Int)-1) :: r)=qI G 1 r:=by
    conv=>lhs;unfold qI
    rw[if_neg (by unfold zAD;rw[if_pos hl.leaf];omega)]
   rw[hm];have hwl:=congrArg List.length hw;simp only[uC] at hwl;rcases zLm h3 hC with ⟨k1,k2⟩|⟨k1,st',k2,k3⟩
   .refine⟨[],k2,.inr ⟨.inr ?_,rfl⟩⟩;subst k1;simp only[uF] at hwl;omega
   .refine⟨st',k2,?_⟩;have:=k3.on;rwa [show pre.length+p.length=pre.length+a by omega] at this
end
end
end Go.Proofs.YtgphfebjjedeaaaGreatDoor
