import Derived.Test.YtchklfmggpconaaGreatDoorK21
namespace Go.Proofs.YtchklfmggpconaaGreatDoor
open Lib renaming hid->oh
set_option maxRecDepth 100000
open Go.RowKit
theorem Sl.slc{α:Type}{F:Nat->Prop}{w:World}{sz:Nat}{enc:α->List Value}{a:Option Addr}{n c:Nat}{l:List α}(h:Sl F w sz enc (.slice a n c) l)(i j:Nat)(hij:i<=j)(hj:j<=n) :
  Sl F w sz enc (.slice (if c=i then a else a.map (·.add (i * sz))) (j-i) (c-i)) ((l.drop i).take (j-i)):=by
 obtain⟨a',cap,he,h1,h2,h3,h4⟩:=h;simp only[Value.slice.injEq] at he;obtain⟨rfl,rfl,rfl⟩:=he;have hlen:((l.drop i).take (j-i)).length=j-i:=by simp;omega
 refine⟨_,c-i,by rw[hlen],by rw[hlen];omega,by omega,by rw[hlen];omega,?_⟩;rcases h4 with rfl|⟨b,off,rfl,hb,hF,hc⟩
 .exact .inl (by simp)
 .by_cases hz:c=i
  .exact .inl (tB (by rw[hlen];omega))
  .refine .inr ⟨b,off+i * sz,?_,hb,hF,λk x hk q u hu=>?_⟩
   .rw[if_neg hz];simp only[Option.map_some,Addr.add];by_cases h0:i * sz=0
    .rw[if_pos h0,h0];rfl
    .rw[if_neg h0]
   .have hk1:k<j-i:=by
     have:=(uB.1 hk).1;rwa [hlen] at this
    rw[List.getElem?_take_of_lt hk1,rH] at hk;have:=hc (i+k) x hk q u hu;rw[<- this];congr 2
    rw[rS];omega
theorem Sl.tail_{α:Type}{F:Nat->Prop}{w:World}{sz:Nat}{enc:α->List Value}{a:Option Addr}{n c:Nat}{l:List α}(h:Sl F w sz enc (.slice a n c) l)(i:Nat)(hi:i<=n) :
  Sl F w sz enc (.slice (if c=i then a else a.map (·.add (i * sz))) (n-i) (c-i)) (l.drop i):=by
 have:=h.slc i n hi (uJ _);obtain⟨a',cap,he, -⟩:=_root_.id h;simp only[Value.slice.injEq] at he;rw[he.2.1] at this ⊢;rwa [wE (by simp)] at this
section
variable {F H:Nat->Prop}{w w':World}
theorem zGI(lv mv:Value)(L M:List zI)(hl:Sl F w 4 vA lv L)(hm:Sl H w 4 vA mv M)(i many:Nat)(h1:i+many<=L.length)(hb:L.length<=1000000)(hb2:M.length<=1000000) :
  Calls Tryz.prog 92 #[lv,.int .i64 (i:Int),.int .i64 (many:Int),mv] w λe w'=>∃v,e=.returned v/\zU (λ_=>False) w' w.heap.size 141 4 vA v (L.take i++M++L.drop (i+many))/\zJ w w':=by
 obtain⟨la,lc,rfl,l1,l2,l3, -⟩:=_root_.id hl;unfold maxLen at l2;have HL:=oh hl;have HM:=oh hm;have hO0:Hid (zU (λ_=>False) (w.alloc (.cells #[] 141)) w.heap.size 141 4 vA (.slice (some ⟨w.heap.size,0,none⟩) 0 0) ([]:List zI)):=oh (zU.empty (λk f=>f.elim) _ _ _ yU.len);have hm0:Hid (zJ w (w.alloc (.cells #[] 141))):=oh ((zA.refl _ w).alloc _);obtain⟨ma,mc,rfl,m1,m2,m3, -⟩:=hm;have u1:IntKind.i64.wrap ((i:Int)+(many:Int))=((i+many:Nat):Int):=by rw[IntWalk.i64_in _ (by omega)];omega
 have lt1:(L.take i).length=i:=by rw[uP];omega
 have lt2:(L.drop (i+many)).length=L.length-(i+many):=u0;have HT1:=oh lt1;have HT2:=oh lt2;clear hl lt1 lt2;have p1:Hid (Sl F w 4 vA (.slice la i lc) (L.take i)):=oh (HL.out.pre i (by omega));have p3:Hid (Sl F w 4 vA (.slice (if lc=i+many then la else la.map (·.add ((i+many) * 4))) (L.length-(i+many)) (lc-(i+many))) (L.drop (i+many))):=oh (by have:=HL.out.tail_ (i+many) h1;simpa only[wK] using this);obtain⟨R,hR⟩:∃R,R=L.take i++M++L.drop (i+many):=⟨_,rfl⟩;rw[<- hR];have HR:=oh hR;clear hR
 go_enter Tryz.func92, Tryz.ntmps92
 go_wp2_with (first
  | (at_builtin;refine yH Tryz.elE yU rfl _ _ rfl w.heap.size _ (.slice la i lc) [] (L.take i) rfl rfl hO0.out (p1.out.ext hm0.out) (by rw[HT1.out];simp only[uE];omega) (by simp) (λf=>f) ?_;rw[uT,uE,HT1.out,uR];intro a1 c1 w1 hO1 hm1 hat1;have HO1:=oh hO1;have HM1:Hid (zJ w w1):=oh (zA.past hm0.out (hm1.mono (λk hk=>(hO0.out.lt k hk).1)));clear hO1 hm1 hat1)
  | (at_builtin;refine yH Tryz.elE yU rfl _ _ rfl w.heap.size (.slice a1 i c1) (.slice ma M.length mc) (L.take i) M rfl rfl HO1.out (HM.out.ext HM1.out) (by rw[HT1.out];omega) HM1.out.size (λf=>f) ?_;rw[HT1.out];intro a2 c2 w2 hO2 hm2 hat2;have HO2:=oh hO2;have HM2:Hid (zJ w w2):=oh (zA.past HM1.out (hm2.mono (λk hk=>(HO1.out.lt k hk).1)));clear hO2 hm2 hat2)
  | (at_builtin;refine yH Tryz.elE yU rfl _ _ rfl w.heap.size (.slice a2 (i+M.length) c2) _ (L.take i++M) (L.drop (i+many)) rfl rfl HO2.out (p3.out.ext HM2.out) (by rw[uC,HT1.out,HT2.out];omega) HM2.out.size (λf=>f) ?_;rw[uC,HT1.out,HT2.out];intro a3 c3 w3 hO3 hm3 hat3;have HO3:=oh hO3;have HM3:Hid (zJ w w3):=oh (zA.past HM2.out (hm3.mono (λk hk=>(HO2.out.lt k hk).1)));clear hO3 hm3 hat3)
  | fail)
 all_goals
  go_ret;exact⟨_,rfl,by rw[HR.out];exact HO3.out,HM3.out⟩
theorem zOm(lv:Value)(L:List zI)(hl:Sl F w 4 vA lv L)(k:Nat)(hk:k=L.length)(hb:L.length<=1000000) :
  Calls Tryz.prog 92 #[lv,.int .i64 (k:Int),.int .i64 0,.slice none 0 0] w λe w'=>∃a c,e=.returned (.slice a k c)/\zU (λ_=>False) w' w.heap.size 141 4 vA (.slice a k c) L/\zJ w w':=by
 have h:=zGI lv (.slice none 0 0) L [] hl (Sl.nil (λ_=>False) w 4 vA) k 0 (by omega) hb (by simp);refine h.mono ?_;rintro e w' ⟨v,rfl,ho,hm⟩;have e1:L.take k++[]++L.drop (k+0)=L:=by rw[uO,wR,uZ]
 rw[e1] at ho;obtain⟨a,c,rfl,_⟩:=ho.form;subst hk;exact⟨a,c,rfl,ho,hm⟩
theorem zOn(lv:Value)(L:List zI)(hl:Sl F w 4 vA lv L)(k:Nat)(hk:k=L.length)(hb:L.length<=1000000) :
  Calls Tryz.prog 92 #[lv,.int .i64 0,.int .i64 0,.slice none 0 0] w λe w'=>∃a c,e=.returned (.slice a k c)/\zU (λ_=>False) w' w.heap.size 141 4 vA (.slice a k c) L/\zJ w w':=by
 have h:=zGI lv (.slice none 0 0) L [] hl (Sl.nil (λ_=>False) w 4 vA) 0 0 (by omega) hb (by simp);refine h.mono ?_;rintro e w' ⟨v,rfl,ho,hm⟩;have e1:L.take 0++[]++L.drop (0+0)=L:=by simp
 rw[e1] at ho;obtain⟨a,c,rfl,_⟩:=ho.form;subst hk;exact⟨a,c,rfl,ho,hm⟩
theorem zGJ(lv mv:Value)(L M:List ByteArray)(hl:Sl F w 1 qK lv L)(hm:Sl H w 1 qK mv M)(i many:Nat)(h1:i+many<=L.length)(hb:L.length<=1000000)(hb2:M.length<=1000000) :
  Calls Tryz.prog 95 #[lv,.int .i64 (i:Int),.int .i64 (many:Int),mv] w λe w'=>∃v,e=.returned v/\zU (λ_=>False) w' w.heap.size 9 1 qK v (L.take i++M++L.drop (i+many))/\zJ w w':=by
 obtain⟨la,lc,rfl,l1,l2,l3, -⟩:=_root_.id hl;unfold maxLen at l2;have HL:=oh hl;have HM:=oh hm;have hO0:Hid (zU (λ_=>False) (w.alloc (.cells #[] 9)) w.heap.size 9 1 qK (.slice (some ⟨w.heap.size,0,none⟩) 0 0) ([]:List ByteArray)):=oh (zU.empty (λk f=>f.elim) _ _ _ yV.len);have hm0:Hid (zJ w (w.alloc (.cells #[] 9))):=oh ((zA.refl _ w).alloc _);obtain⟨ma,mc,rfl,m1,m2,m3, -⟩:=hm;have u1:IntKind.i64.wrap ((i:Int)+(many:Int))=((i+many:Nat):Int):=by rw[IntWalk.i64_in _ (by omega)];omega
 have lt1:(L.take i).length=i:=by rw[uP];omega
 have lt2:(L.drop (i+many)).length=L.length-(i+many):=u0;have HT1:=oh lt1;have HT2:=oh lt2;clear hl lt1 lt2;have p1:Hid (Sl F w 1 qK (.slice la i lc) (L.take i)):=oh (HL.out.pre i (by omega));have p3:Hid (Sl F w 1 qK (.slice (if lc=i+many then la else la.map (·.add (i+many))) (L.length-(i+many)) (lc-(i+many))) (L.drop (i+many))):=oh (by have:=HL.out.tail_ (i+many) h1;simpa only[wK] using this);obtain⟨R,hR⟩:∃R,R=L.take i++M++L.drop (i+many):=⟨_,rfl⟩;rw[<- hR];have HR:=oh hR;clear hR
 go_enter Tryz.func95, Tryz.ntmps95
 go_wp2_with (first
  | (at_builtin;refine yH Tryz.elS yV rfl _ _ rfl w.heap.size _ (.slice la i lc) [] (L.take i) rfl rfl hO0.out (p1.out.ext hm0.out) (by rw[HT1.out];simp only[uE];omega) (by simp) (λf=>f) ?_;rw[uT,uE,HT1.out,uR];intro a1 c1 w1 hO1 hm1 hat1;have HO1:=oh hO1;have HM1:Hid (zJ w w1):=oh (zA.past hm0.out (hm1.mono (λk hk=>(hO0.out.lt k hk).1)));clear hO1 hm1 hat1)
  | (at_builtin;refine yH Tryz.elS yV rfl _ _ rfl w.heap.size (.slice a1 i c1) (.slice ma M.length mc) (L.take i) M rfl rfl HO1.out (HM.out.ext HM1.out) (by rw[HT1.out];omega) HM1.out.size (λf=>f) ?_;rw[HT1.out];intro a2 c2 w2 hO2 hm2 hat2;have HO2:=oh hO2;have HM2:Hid (zJ w w2):=oh (zA.past HM1.out (hm2.mono (λk hk=>(HO1.out.lt k hk).1)));clear hO2 hm2 hat2)
  | (at_builtin;refine yH Tryz.elS yV rfl _ _ rfl w.heap.size (.slice a2 (i+M.length) c2) _ (L.take i++M) (L.drop (i+many)) rfl rfl HO2.out (p3.out.ext HM2.out) (by rw[uC,HT1.out,HT2.out];omega) HM2.out.size (λf=>f) ?_;rw[uC,HT1.out,HT2.out];intro a3 c3 w3 hO3 hm3 hat3;have HO3:=oh hO3;have HM3:Hid (zJ w w3):=oh (zA.past HM2.out (hm3.mono (λk hk=>(HO2.out.lt k hk).1)));clear hO3 hm3 hat3)
  | fail)
 all_goals
  go_ret;exact⟨_,rfl,by rw[HR.out];exact HO3.out,HM3.out⟩
theorem zIw(lv:Value)(L:List ByteArray)(hl:Sl F w 1 qK lv L)(k:Nat)(hk:k=L.length)(hb:L.length<=1000000) :
  Calls Tryz.prog 95 #[lv,.int .i64 (k:Int),.int .i64 0,.slice none 0 0] w λe w'=>∃a c,e=.returned (.slice a k c)/\zU (λ_=>False) w' w.heap.size 9 1 qK (.slice a k c) L/\zJ w w':=by
 have h:=zGJ lv (.slice none 0 0) L [] hl (Sl.nil (λ_=>False) w 1 qK) k 0 (by omega) hb (by simp);refine h.mono ?_;rintro e w' ⟨v,rfl,ho,hm⟩;have e1:L.take k++[]++L.drop (k+0)=L:=by rw[uO,wR,uZ]
 rw[e1] at ho;obtain⟨a,c,rfl,_⟩:=ho.form;subst hk;exact⟨a,c,rfl,ho,hm⟩
theorem zIx(lv:Value)(L:List ByteArray)(hl:Sl F w 1 qK lv L)(k:Nat)(hk:k=L.length)(hb:L.length<=1000000) :
  Calls Tryz.prog 95 #[lv,.int .i64 0,.int .i64 0,.slice none 0 0] w λe w'=>∃a c,e=.returned (.slice a k c)/\zU (λ_=>False) w' w.heap.size 9 1 qK (.slice a k c) L/\zJ w w':=by
 have h:=zGJ lv (.slice none 0 0) L [] hl (Sl.nil (λ_=>False) w 1 qK) 0 0 (by omega) hb (by simp);refine h.mono ?_;rintro e w' ⟨v,rfl,ho,hm⟩;have e1:L.take 0++[]++L.drop (0+0)=L:=by simp
 rw[e1] at ho;obtain⟨a,c,rfl,_⟩:=ho.form;subst hk;exact⟨a,c,rfl,ho,hm⟩
theorem zEa(lv mv:Value)(L M:List Int)(hl:Sl F w 1 yB lv L)(hm:Sl H w 1 yB mv M)(i many:Nat)(h1:i+many<=L.length)(hb:L.length<=1000000)(hb2:M.length<=1000000) :
  Calls Tryz.prog 94 #[lv,.int .i64 (i:Int),.int .i64 (many:Int),mv] w λe w'=>∃v,e=.returned v/\zU (λ_=>False) w' w.heap.size 3 1 yB v (L.take i++M++L.drop (i+many))/\zJ w w':=by
 obtain⟨la,lc,rfl,l1,l2,l3, -⟩:=_root_.id hl;unfold maxLen at l2;have HL:=oh hl;have HM:=oh hm;have hO0:Hid (zU (λ_=>False) (w.alloc (.cells #[] 3)) w.heap.size 3 1 yB (.slice (some ⟨w.heap.size,0,none⟩) 0 0) ([]:List Int)):=oh (zU.empty (λk f=>f.elim) _ _ _ yG.len);have hm0:Hid (zJ w (w.alloc (.cells #[] 3))):=oh ((zA.refl _ w).alloc _);obtain⟨ma,mc,rfl,m1,m2,m3, -⟩:=hm;have u1:IntKind.i64.wrap ((i:Int)+(many:Int))=((i+many:Nat):Int):=by rw[IntWalk.i64_in _ (by omega)];omega
 have lt1:(L.take i).length=i:=by rw[uP];omega
 have lt2:(L.drop (i+many)).length=L.length-(i+many):=u0;have HT1:=oh lt1;have HT2:=oh lt2;clear hl lt1 lt2;have p1:Hid (Sl F w 1 yB (.slice la i lc) (L.take i)):=oh (HL.out.pre i (by omega));have p3:Hid (Sl F w 1 yB (.slice (if lc=i+many then la else la.map (·.add (i+many))) (L.length-(i+many)) (lc-(i+many))) (L.drop (i+many))):=oh (by have:=HL.out.tail_ (i+many) h1;simpa only[wK] using this);obtain⟨R,hR⟩:∃R,R=L.take i++M++L.drop (i+many):=⟨_,rfl⟩;rw[<- hR];have HR:=oh hR;clear hR
 go_enter Tryz.func94, Tryz.ntmps94
 go_wp2_with (first
  | (at_builtin;refine yH Tryz.elI yG rfl _ _ rfl w.heap.size _ (.slice la i lc) [] (L.take i) rfl rfl hO0.out (p1.out.ext hm0.out) (by rw[HT1.out];simp only[uE];omega) (by simp) (λf=>f) ?_;rw[uT,uE,HT1.out,uR];intro a1 c1 w1 hO1 hm1 hat1;have HO1:=oh hO1;have HM1:Hid (zJ w w1):=oh (zA.past hm0.out (hm1.mono (λk hk=>(hO0.out.lt k hk).1)));clear hO1 hm1 hat1)
  | (at_builtin;refine yH Tryz.elI yG rfl _ _ rfl w.heap.size (.slice a1 i c1) (.slice ma M.length mc) (L.take i) M rfl rfl HO1.out (HM.out.ext HM1.out) (by rw[HT1.out];omega) HM1.out.size (λf=>f) ?_;rw[HT1.out];intro a2 c2 w2 hO2 hm2 hat2;have HO2:=oh hO2;have HM2:Hid (zJ w w2):=oh (zA.past HM1.out (hm2.mono (λk hk=>(HO1.out.lt k hk).1)));clear hO2 hm2 hat2)
  | (at_builtin;refine yH Tryz.elI yG rfl _ _ rfl w.heap.size (.slice a2 (i+M.length) c2) _ (L.take i++M) (L.drop (i+many)) rfl rfl HO2.out (p3.out.ext HM2.out) (by rw[uC,HT1.out,HT2.out];omega) HM2.out.size (λf=>f) ?_;rw[uC,HT1.out,HT2.out];intro a3 c3 w3 hO3 hm3 hat3;have HO3:=oh hO3;have HM3:Hid (zJ w w3):=oh (zA.past HM2.out (hm3.mono (λk hk=>(HO2.out.lt k hk).1)));clear hO3 hm3 hat3)
  | fail)
 all_goals
  go_ret;exact⟨_,rfl,by rw[HR.out];exact HO3.out,HM3.out⟩
theorem zIy(lv:Value)(L:List Int)(hl:Sl F w 1 yB lv L)(k:Nat)(hk:k=L.length)(hb:L.length<=1000000) :
  Calls Tryz.prog 94 #[lv,.int .i64 (k:Int),.int .i64 0,.slice none 0 0] w λe w'=>∃a c,e=.returned (.slice a k c)/\zU (λ_=>False) w' w.heap.size 3 1 yB (.slice a k c) L/\zJ w w':=by
 have h:=zEa lv (.slice none 0 0) L [] hl (Sl.nil (λ_=>False) w 1 yB) k 0 (by omega) hb (by simp);refine h.mono ?_;rintro e w' ⟨v,rfl,ho,hm⟩;have e1:L.take k++[]++L.drop (k+0)=L:=by rw[uO,wR,uZ]
 rw[e1] at ho;obtain⟨a,c,rfl,_⟩:=ho.form;subst hk;exact⟨a,c,rfl,ho,hm⟩
theorem zIz(lv:Value)(L:List Int)(hl:Sl F w 1 yB lv L)(k:Nat)(hk:k=L.length)(hb:L.length<=1000000) :
  Calls Tryz.prog 94 #[lv,.int .i64 0,.int .i64 0,.slice none 0 0] w λe w'=>∃a c,e=.returned (.slice a k c)/\zU (λ_=>False) w' w.heap.size 3 1 yB (.slice a k c) L/\zJ w w':=by
 have h:=zEa lv (.slice none 0 0) L [] hl (Sl.nil (λ_=>False) w 1 yB) 0 0 (by omega) hb (by simp);refine h.mono ?_;rintro e w' ⟨v,rfl,ho,hm⟩;have e1:L.take 0++[]++L.drop (0+0)=L:=by simp
 rw[e1] at ho;obtain⟨a,c,rfl,_⟩:=ho.form;subst hk;exact⟨a,c,rfl,ho,hm⟩
end
abbrev StC:=List (zF × Int)
def zAC(n:zF):Nat:=if n.leaf then n.entries.length else n.kids.length
def zDG(n:zF):Int:=max 0 ((zAC n:Int)-1)
def zAP(G:GA)(st:StC)(id:Int):StC ⊕ Err :=
 if 16<=st.length then .inr ([zBs id],5) else match G.load id with
  | .inr e=>.inr e
  | .inl n=>.inl ((n,0) :: st)
def zCb(last:Bool)(st:StC):StC:=match st with
 | []=>[]
 | (n,a) :: r=>if last=true then (n,zDG n) :: r else (n,a) :: r
def zNa(G:GA)(last:Bool):Nat->StC->StC ⊕ Err
 | 0,st=>.inl st
 | _+1,[]=>.inl []
 | f+1,(n,a) :: r=>if n.leaf=true then .inl ((n,a) :: r) else
  match zAP G ((n,a) :: r) (n.kids.getD a.toNat 0) with
  | .inr e=>.inr e
  | .inl st=>zNa G last f (zCb last st)
def zBh(G:GA)(last:Bool)(st:StC):StC ⊕ Err:=zNa G last (18-st.length) st
def qN(G:GA)(by_:Int):StC->StC ⊕ Err
 | []=>.inl []
 | (n,a) :: r=>if 0<=a+by_/\a+by_<(zAC n:Int) then zBh G (decide (by_<0)) ((n,a+by_) :: r) else qN G by_ r
def zNb(st:StC):Bool:=match st with
 | []=>false
 | (n,_) :: _=>n.entries.isEmpty
def zNc(G:GA)(root:Int)(last:Bool):StC ⊕ Err :=
 if root=0 then .inl [] else match zAP G [] root with
  | .inr e=>.inr e
  | .inl st=>match zBh G last (zCb last st) with
   | .inr e=>.inr e
   | .inl st1=>if zNb st1=true then .inl [] else .inl st1
def jP(G:GA)(key:ByteArray):Nat->StC->Int->StC ⊕ Err
 | 0,_,id=>.inr ([zBs id],5)
 | f+1,st,id=>match zAP G st id with
  | .inr e=>.inr e
  | .inl []=>.inl []
  | .inl ((n,_) :: r)=>if n.leaf=true then .inl ((n,((zAy n key).1:Int)) :: r) else jP G key f ((n,((zAy n key).1:Int)) :: r) (n.kids.getD (zAy n key).1 0)
def zDH(G:GA)(root:Int)(key:ByteArray):StC ⊕ Err :=
 if root=0 then .inl [] else match jP G key 17 [] root with
  | .inr e=>.inr e
  | .inl []=>.inl []
  | .inl ((n,a) :: r)=>if a<(n.entries.length:Int) then .inl ((n,a) :: r) else qN G 1 ((n,a-1) :: r)
def zK5(x:zF × Int):Prop:=zM x.1=true /\ -2<=x.2/\x.2<=65537
def zI0(x:zF × Int):Prop:=x.1.leaf=false->0<=x.2/\x.2<(x.1.kids.length:Int)
def zRX(st:StC):Prop:=(∀x∈st,zK5 x)/\st.length<=16
section
variable {G:GA}{st st1:StC}{id:Int}{last:Bool}
theorem zAV{n:zF}(h:zM n=true):n.entries.length<=65535/\n.kids.length<=256/\(n.leaf=false->2<=n.kids.length):=by
 unfold zM at h;split at h
 .rename_i hl;simp only[uK,uQ,wX] at h;refine⟨h.2,by rw[h.1.1.2];simp,λhf=>by rw[hl] at hf;cases hf⟩
 .simp only[uK,uQ,wX] at h;obtain⟨⟨⟨⟨⟨⟨⟨h1,h2⟩,h3⟩,h4⟩,h5⟩,h6⟩,h7⟩,h8⟩:=h;exact⟨by rw[h1];simp,h4,λ_=>h2⟩
theorem zK6{n:zF}(h:zM n=true):zK5 (n,zDG n)/\zI0 (n,zDG n):=by
 obtain⟨h1,h2,h3⟩:=zAV h;have he:(zAC n:Int)<=65535:=by unfold zAC;split <;> omega
 refine⟨⟨h,by show (-2:Int)<=max 0 ((zAC n:Int)-1);omega,by show max 0 ((zAC n:Int)-1)<=65537;omega⟩,λhl=>?_⟩;have:=h3 hl;show 0<=zDG n/\zDG n<(n.kids.length:Int);unfold zDG zAC;rw[if_neg (by rw[show n.leaf=false from hl];simp)];omega
theorem zJx{n:zF}(h:zM n=true):zK5 (n,0)/\zI0 (n,0):=by
 obtain⟨h1,h2,h3⟩:=zAV h;refine⟨⟨h,by show (-2:Int)<=0;omega,by show (0:Int)<=65537;omega⟩,λhl=>?_⟩;have:=h3 hl;show (0:Int)<=0/\(0:Int)<(n.kids.length:Int);omega
theorem zK7(h:zRX st)(hp:zAP G st id=.inl st1):zRX st1/\∃n,st1=(n,0) :: st/\G.load id=.inl n:=by
 unfold zAP at hp;split at hp
 .cases hp
 .rename_i hl;split at hp
  .cases hp
  .rename_i n hn;injection hp with hp;subst hp;refine⟨⟨λx hx=>?_,by simp;omega⟩,n,rfl,hn⟩;rcases uN.1 hx with rfl|hx
   .exact (zJx (GA.load_right hn)).1
   .exact h.1 x hx
theorem zK8(last:Bool)(st:StC):(zCb last st).length=st.length:=by
 unfold zCb;cases st with
 | nil=>rfl
 | cons x r=>obtain⟨n,a⟩:=x;simp only;split <;> rfl
theorem zP4{n:zF}(hr:zM n=true)(key:ByteArray):(zAy n key).1<=65535/\(n.leaf=true->(zAy n key).1<=n.entries.length)/\(n.leaf=false->(zAy n key).1<n.kids.length):=by
 obtain⟨h1,h2,h3⟩:=zAV hr;cases hl:n.leaf with
 | true =>
  rw[zE9 hl];have:vY key n.entries<=n.entries.length:=rD;exact⟨by show vY key n.entries<=_;omega,λ_=>this,λh=>by cases h⟩
 | false =>
  have hk:=(jC hr hl).2.1;rw[zEB hl];have:zAY key n.keys<=n.keys.length:=rD;exact⟨by show zAY key n.keys<=_;omega,λh=>(by cases h),λ_=>(by show zAY key n.keys<_;omega)⟩
theorem zDi{n:zF}{a:Int}{r:StC}(hl:n.leaf=false)(hlen:r.length+1<=16):zBh G last ((n,a) :: r)=match zAP G ((n,a) :: r) (n.kids.getD a.toNat 0) with | .inr e=>.inr e | .inl st=>zBh G last (zCb last st):=by
 unfold zBh;have e:18-((n,a) :: r).length=(16-r.length)+1:=by simp only[uD];omega
 rw[e,zNa,if_neg (by rw[hl];simp)];cases hp:zAP G ((n,a) :: r) (n.kids.getD a.toNat 0) with
 | inr e=>rfl
 | inl st =>
  simp only;have hst:st.length=r.length+2:=by
   unfold zAP at hp;split at hp
   .cases hp
   .split at hp
    .cases hp
    .injection hp with hp;subst hp;simp
  rw[zK8,hst];congr 1
  omega
theorem zDj{n:zF}{a:Int}{r:StC}(hl:n.leaf=true)(hlen:r.length+1<=16):zBh G last ((n,a) :: r)=.inl ((n,a) :: r):=by
 unfold zBh;have e:18-((n,a) :: r).length=(16-r.length)+1:=by simp only[uD];omega
 rw[e,zNa,if_pos hl]
end
inductive TrE (V:Nat->Option zF):Nat->Nat->Prop
 | leaf {id n}:V id=some n->n.leaf=true->n.entries≠[]->TrE V id 1
 | inner {id n d}:V id=some n->n.leaf=false->(∀k∈n.kids,TrE V k.toNat d)->TrE V id (d+1)
inductive Ctx (G:GA) (L:List zE) (D:Nat):StC->List zE->List zE->List zE->Nat->ByteArray->Option ByteArray->Prop
 | nil:Ctx G L D [] [] L [] D e0 none
 | cons {n:zF} {j:Nat} {r pre suf d lo hi} {parts:List (List zE)} {p:List zE}:Ctx G L D r pre parts.flatten suf (d+1) lo hi->n.leaf=false->zM n=true->parts.length=n.kids.length ->
   (∀(i:Nat) (k:Int) (p:List zE),n.kids[i]? = some k->parts[i]? = some p->Tr G.node G.R2 (zDF lo n.keys i) (zDx hi n.keys i) k.toNat d p)->(∀k∈n.kids,TrE G.node k.toNat d)->(∀s∈n.keys,inB lo hi s)->parts[j]? = some p ->
   Ctx G L D ((n,(j:Int)) :: r) (pre++(parts.take j).flatten) p ((parts.drop (j+1)).flatten++suf) d (zDF lo n.keys j) (zDx hi n.keys j)
def zCR(G:GA)(L:List zE)(D:Nat)(st:StC)(i:Nat):Prop :=
 ∃(n:zF) (a:Nat) (r:StC) (pre p suf:List zE) (lo:ByteArray) (hi:Option ByteArray),st=(n,(a:Int)) :: r/\Ctx G L D r pre p suf 1 lo hi/\zP2 G.R2 n p/\a<p.length/\i=pre.length+a
def zDI(G:GA)(L:List zE)(D:Nat)(st:StC)(i:Int):Prop:=(0<=i/\i<(L.length:Int)/\zCR G L D st i.toNat)\/((i<0\/(L.length:Int)<=i)/\st=[])
section
variable {G:GA}{L pre f suf p:List zE}{D d id:Nat}{st r:StC}{lo:ByteArray}{hi:Option ByteArray}{n:zF}
theorem zP5{α:Type}{l:List α}{j:Nat}{x:α}(h:l[j]? = some x):l=l.take j++x :: l.drop (j+1):=by
 obtain⟨hj,rfl⟩:=uB.1 h;rw[List.getElem_cons_drop,uZ]
theorem zJy{parts:List (List zE)}{j:Nat}(h:parts[j]? = some p):parts.flatten=(parts.take j).flatten++p++(parts.drop (j+1)).flatten:=by
 conv=>lhs;rw[zP5 h]
 simp
theorem zI1{parts:List (List zE)}{j:Nat}(h:parts[j]? = some p):(parts.take (j+1)).flatten.length=(parts.take j).flatten.length+p.length:=by
 rw[List.take_add_one,h,tQ,uC];simp only[Option.toList_some,wT,tO,wR]
theorem Ctx.whole(h:Ctx G L D r pre f suf d lo hi):L=pre++f++suf:=by
 induction h with
 | nil=>simp
 | cons _ _ _ _ _ _ _ h8 ih=>rw[ih,zJy h8];simp
theorem Ctx.deep(h:Ctx G L D r pre f suf d lo hi):r.length+d=D:=by
 induction h with
 | nil=>simp
 | cons _ _ _ _ _ _ _ _ ih=>simp only[uD];omega
theorem TrE.ne{R:Int->Int->Option ByteArray}{V:Nat->Option zF}(h:Tr V R lo hi id d f):TrE V id d->f≠[]:=by
 induction h with
 | @leaf lo hi id n l h1 h2 h3 h4 h5 h6 =>
  intro he;cases he with
  | leaf k1 k2 k3 =>
   rw[h1] at k1;injection k1 with k1;subst k1;rintro rfl;exact k3 (wL.1 h4)
  | inner k1 k2 k3=>rw[h1] at k1;injection k1 with k1;subst k1;rw[h2] at k2;cases k2
 | @inner lo hi id n d parts h1 h2 h3 h4 h5 h6 ih =>
  intro he hf;cases he with
  | leaf k1 k2 k3=>rw[h1] at k1;injection k1 with k1;subst k1;rw[h2] at k2;cases k2
  | inner k1 k2 k3 =>
   rw[h1] at k1;injection k1 with k1;subst k1;have h7:=(zAV h3).2.2 h2;have hk:0<n.kids.length:=by omega
   have hp:0<parts.length:=by omega
   have:=ih 0 n.kids[0] parts[0] (uA hk) (uA hp) (k3 _ (wH hk));exact this (List.flatten_eq_nil_iff.1 hf _ (wH hp))
def goA(G:GA)(last:Bool)(r:StC)(id:Int):StC ⊕ Err:=match zAP G r id with
 | .inr e=>.inr e
 | .inl st=>zBh G last (zCb last st)
theorem zK9(last:Bool)(n:zF)(r:StC):zCb last ((n,0) :: r)=(n,if last=true then zDG n else 0) :: r:=by
 unfold zCb;cases last <;> rfl
theorem zJz{n:zF}(hn:zM n=true)(hl:n.leaf=false){j:Nat}(hj:j<n.kids.length):n.kids.getD j 0=((n.kids[j].toNat:Nat):Int):=by
 have:=((jC hn hl).2.2 _ (wH hj)).1;rw[List.getD_eq_getElem?_getD,uA hj];simp only[Option.getD_some];omega
theorem zP6(last:Bool)(h:Tr G.node G.R2 lo hi id d f):∀{r:StC} {pre suf:List zE},TrE G.node id d->Ctx G L D r pre f suf d lo hi->D<=16 ->
  ∃st',goA G last r (id:Int)=.inl st'/\zCR G L D st' (if last=true then pre.length+f.length-1 else pre.length):=by
 induction h with
 | @leaf lo hi id n l h1 h2 h3 h4 h5 h6 =>
  intro r pre suf hE hC hD;have hdp:=hC.deep;have hne:=TrE.ne (.leaf h1 h2 h3 h4 h5 h6:Tr G.node G.R2 lo hi id 1 l) hE;have hpos:0<l.length:=tE.2 hne;have hp:zAP G r (id:Int)=.inl ((n,0) :: r):=by
   unfold zAP;rw[if_neg (by omega),(GA.node_load h1).2]
  unfold goA;rw[hp];simp only;rw[zK9,zDj h2 (by omega)];cases last with
  | false=>exact⟨_,rfl,n,0,r,pre,l,suf,lo,hi,rfl,hC,⟨h2,h3,h4,h5⟩,hpos,by simp⟩
  | true =>
   refine⟨_,rfl,n,l.length-1,r,pre,l,suf,lo,hi,?_,hC,⟨h2,h3,h4,h5⟩,by omega,by simp;omega⟩;simp only[t8];congr 2
   unfold zDG zAC;rw[if_pos h2,h4];omega
 | @inner lo hi id n d parts h1 h2 h3 h4 h5 h6 ih =>
  intro r pre suf hE hC hD;have hdp:=hC.deep;have hkids:=(zAV h3).2.2 h2;cases hE with
  | leaf k1 k2 k3=>rw[h1] at k1;injection k1 with k1;subst k1;rw[h2] at k2;cases k2
  | inner k1 k2 k3 =>
   rw[h1] at k1;injection k1 with k1;subst k1;have hp:zAP G r (id:Int)=.inl ((n,0) :: r):=by
    unfold zAP;rw[if_neg (by omega),(GA.node_load h1).2]
   unfold goA;rw[hp];simp only;obtain⟨j,hj,hjt,hjl⟩:∃j:Nat,(if last=true then zDG n else 0)=(j:Int)/\j<n.kids.length/\(j=if last=true then n.kids.length-1 else 0):=by
    cases last with
    | false=>exact⟨0,rfl,by omega,rfl⟩
    | true =>
     refine⟨n.kids.length-1,?_,by omega,rfl⟩;simp only[t8];unfold zDG zAC;rw[if_neg (by rw[h2];simp)];omega
   rw[zK9,hj,zDi h2 (by omega),uL,zJz h3 h2 hjt];have hjp:j<parts.length:=by omega
   have hpj:parts[j]? = some parts[j]:=uA hjp;have hCj:=Ctx.cons hC h2 h3 h4 h5 k3 h6 hpj;obtain⟨st',e1,e2⟩:=ih j n.kids[j] parts[j] (uA hjt) hpj (k3 _ (wH hjt)) hCj hD;refine⟨st',e1,?_⟩;have hfl:=congrArg List.length (zJy hpj);simp only[uC] at hfl e2 ⊢;cases last with
   | false =>
    simp only[tP,wG] at hjl e2 ⊢;rw[hjl] at e2;simpa using e2
   | true =>
    simp only[t8] at hjl e2 ⊢;have hd:parts.drop (j+1)=[]:=tG (by omega);rw[hd] at hfl;simp only[tO,uE,uO] at hfl;rw[hfl];rwa [rW] at e2
theorem zLA(hD:D<=16)(h:Ctx G L D r pre f suf d lo hi):(suf=[]/\qN G 1 r=.inl [])\/(suf≠[]/\∃st',qN G 1 r=.inl st'/\zCR G L D st' (pre.length+f.length)):=by
 induction h with
 | nil=>exact .inl ⟨rfl,rfl⟩
 | @cons n j r pre suf d lo hi parts p h1 h2 h3 h4 h5 h6 h7 h8 ih =>
  have hdp:=h1.deep;have hj:=(uB.1 h8).1;have hfl:=congrArg List.length (zJy h8);simp only[uC] at hfl;by_cases hn:j+1<n.kids.length
  .have hjp:j+1<parts.length:=by omega
   have hpj:parts[j+1]? = some parts[j+1]:=uA hjp;have hCj:=Ctx.cons h1 h2 h3 h4 h5 h6 h7 hpj;have hT:=h5 (j+1) n.kids[j+1] parts[j+1] (uA hn) hpj;have hE:=h6 _ (wH hn);obtain⟨st',e1,e2⟩:=zP6 false hT hE hCj hD;refine .inr ⟨?_,st',?_,?_⟩
   .intro hs;have:=TrE.ne hT hE;rw[wO hjp,wT] at hs;exact this (tY.1 (tY.1 hs).1).1
   .unfold qN;rw[if_pos (by unfold zAC;rw[if_neg (by rw[h2];simp)];omega),show decide ((1:Int)<0)=false from rfl,show ((j:Int)+1)=((j+1:Nat):Int) by omega,zDi h2 (by omega),uL,zJz h3 h2 hn];exact e1
   .simp only[wG,tP,uC] at e2 ⊢;have hs:(parts.take (j+1)).flatten.length=(parts.take j).flatten.length+p.length:=zI1 h8;rw[hs] at e2;rwa [rW]
  .have hd:parts.drop (j+1)=[]:=tG (by omega);have hm:qN G 1 ((n,(j:Int)) :: r)=qN G 1 r:=by
    conv=>lhs;unfold qN
    rw[if_neg (by unfold zAC;rw[if_neg (by rw[h2];simp)];omega)]
   rw[hm,hd];rw[hd] at hfl;simp only[tO,uT,uC,uE,uO] at hfl ⊢;rcases ih with ⟨i1,i2⟩|⟨i1,st',i2,i3⟩
   .exact .inl ⟨i1,i2⟩
   .refine .inr ⟨i1,st',i2,?_⟩;rw[hfl] at i3;rwa [rW]
theorem zP7(hD:D<=16)(h:Ctx G L D r pre f suf d lo hi):(pre=[]/\qN G (-1) r=.inl [])\/(pre≠[]/\∃st',qN G (-1) r=.inl st'/\zCR G L D st' (pre.length-1)):=by
 induction h with
 | nil=>exact .inl ⟨rfl,rfl⟩
 | @cons n j r pre suf d lo hi parts p h1 h2 h3 h4 h5 h6 h7 h8 ih =>
  have hdp:=h1.deep;have hj:=(uB.1 h8).1;by_cases hn:1<=j
  .have hjp:j-1<parts.length:=by omega
   have hjk:j-1<n.kids.length:=by omega
   have hpj:parts[j-1]? = some parts[j-1]:=uA hjp;have hCj:=Ctx.cons h1 h2 h3 h4 h5 h6 h7 hpj;have hT:=h5 (j-1) n.kids[j-1] parts[j-1] (uA hjk) hpj;have hE:=h6 _ (wH hjk);have hne:=TrE.ne hT hE;obtain⟨st',e1,e2⟩:=zP6 true hT hE hCj hD;have hs:(parts.take j).flatten.length=(parts.take (j-1)).flatten.length+parts[j-1].length:=by
    obtain⟨q,rfl⟩:∃q,j=q+1:=⟨j-1,by omega⟩;exact zI1 hpj
   have hpos:0<parts[j-1].length:=tE.2 hne;refine .inr ⟨?_,st',?_,?_⟩
   .intro hs2;have:=congrArg List.length hs2;simp only[uC,uE] at this;omega
   .unfold qN;rw[if_pos (by unfold zAC;rw[if_neg (by rw[h2];simp)];omega),show decide ((-1:Int)<0)=true from rfl,show ((j:Int) + -1)=((j-1:Nat):Int) by omega,zDi h2 (by omega),uL,zJz h3 h2 hjk];exact e1
   .simp only[t8,uC] at e2 ⊢;rw[hs];have e3:pre.length+(parts.take (j-1)).flatten.length+parts[j-1].length-1=pre.length+((parts.take (j-1)).flatten.length+parts[j-1].length)-1:=by omega
    rwa [e3] at e2
  .have hj0:j=0:=by omega
   subst hj0;have hm:qN G (-1) ((n,((0:Nat):Int)) :: r)=qN G (-1) r:=by
    conv=>lhs;unfold qN
    rw[if_neg (by omega)]
   rw[hm];simp only[List.take_zero,tO,wR];exact ih
end
def zLB(G:GA)(root d:Nat)(l:List zE):Prop:=zRD G root d l/\(root≠0->TrE G.node root d)
def zFl(key:ByteArray)(l:List zE):Nat:=l.findIdx λx=>!qJ x.1 key
section
variable {G:GA}{L pre f suf p:List zE}{D d id i root:Nat}{st r:StC}{lo:ByteArray}{hi:Option ByteArray}{n:zF}{key:ByteArray}
theorem zCR.lt(h:zCR G L D st i):i<L.length:=by
 obtain⟨n,a,r,pre,p,suf,lo,hi,rfl,hC,hl,ha,rfl⟩:=h;have:=congrArg List.length hC.whole;simp only[uC] at this;omega
theorem zCR.on(h:zCR G L D st i):zDI G L D st (i:Int):=.inl ⟨by omega,by have:=h.lt;omega,by rwa [uL]⟩
theorem zCR.pair(h:zCR G L D st i):∃(n:zF) (a:Nat) (r:StC) (e:zI) (x:zE),st=(n,(a:Int)) :: r/\n.entries[a]? = some e/\L[i]? = some x/\e.key=x.1/\zDh G e=.inl x.2/\zFk G e/\zM n=true/\n.leaf=true:=by
 obtain⟨n,a,r,pre,p,suf,lo,hi,rfl,hC,hl,ha,rfl⟩:=h;have hea:a<n.entries.length:=by rw[hl.len];exact ha
 have h1:=hl.tells a n.entries[a] p[a] (uA hea) (uA ha);refine⟨n,a,r,n.entries[a],p[a],rfl,uA hea,?_,h1.1,(zGp h1.2).1,(zGp h1.2).2,hl.right,hl.leaf⟩;rw[hC.whole,uS,wJ (by omega),Nat.add_sub_cancel_left,uY ha,uA ha]
theorem Ctx.small(h:Ctx G L D r pre f suf d lo hi):∀y∈r,0<=y.2/\y.2<=65535:=by
 induction h with
 | nil=>intro y hy;simp at hy
 | @cons n j r pre suf d lo hi parts p h1 h2 h3 h4 h5 h6 h7 h8 ih =>
  intro y hy;rcases uN.1 hy with rfl|hy
  .have hj:=(uB.1 h8).1;have:=(zAV h3).2.1;show 0<=(j:Int)/\(j:Int)<=65535;omega
  .exact ih y hy
theorem zDI.small{i:Int}(h:zDI G L D st i):∀y∈st,0<=y.2/\y.2<=65535:=by
 rcases h with ⟨_,_,n,a,r,pre,p,suf,lo,hi,rfl,hC,hl,ha,_⟩|⟨_,rfl⟩
 .intro y hy;rcases uN.1 hy with rfl|hy
  .have:=(zAV hl.right).1;have:=hl.len;show 0<=(a:Int)/\(a:Int)<=65535;omega
  .exact hC.small y hy
 .intro y hy;simp at hy
theorem zP8(hD:D<=16)(h:zCR G L D st i):∃st',qN G 1 st=.inl st'/\zDI G L D st' ((i:Int)+1):=by
 obtain⟨n,a,r,pre,p,suf,lo,hi,rfl,hC,hl,ha,rfl⟩:=h;have hw:=congrArg List.length hC.whole;have hdp:=hC.deep;simp only[uC] at hw;by_cases hn:a+1<p.length
 .refine⟨(n,((a+1:Nat):Int)) :: r,?_,?_⟩
  .unfold qN;rw[if_pos (by unfold zAC;rw[if_pos hl.leaf,hl.len];omega),show ((a:Int)+1)=((a+1:Nat):Int) by omega,zDj hl.leaf (by omega)]
  .have:zCR G L D ((n,((a+1:Nat):Int)) :: r) (pre.length+a+1):=⟨n,a+1,r,pre,p,suf,lo,hi,rfl,hC,hl,hn,by omega⟩;exact this.on
 .have hm:qN G 1 ((n,(a:Int)) :: r)=qN G 1 r:=by
   conv=>lhs;unfold qN
   rw[if_neg (by unfold zAC;rw[if_pos hl.leaf,hl.len];omega)]
  rw[hm];rcases zLA hD hC with ⟨k1,k2⟩|⟨k1,st',k2,k3⟩
  .refine⟨[],k2,.inr ⟨.inr ?_,rfl⟩⟩;subst k1;simp only[uE] at hw;omega
  .refine⟨st',k2,?_⟩;have:=k3.on;rwa [show ((pre.length+p.length:Nat):Int)=((pre.length+a:Nat):Int)+1 by omega] at this
theorem zP9(hD:D<=16)(h:zCR G L D st i):∃st',qN G (-1) st=.inl st'/\zDI G L D st' ((i:Int)-1):=by
 obtain⟨n,a,r,pre,p,suf,lo,hi,rfl,hC,hl,ha,rfl⟩:=h;have hdp:=hC.deep;by_cases hn:1<=a
 .refine⟨(n,((a-1:Nat):Int)) :: r,?_,?_⟩
  .unfold qN;rw[if_pos (by unfold zAC;rw[if_pos hl.leaf,hl.len];omega),show ((a:Int) + -1)=((a-1:Nat):Int) by omega,zDj hl.leaf (by omega)]
  .have:zCR G L D ((n,((a-1:Nat):Int)) :: r) (pre.length+a-1):=⟨n,a-1,r,pre,p,suf,lo,hi,rfl,hC,hl,by omega,by omega⟩;have:=this.on;rwa [show ((pre.length+a-1:Nat):Int)=((pre.length+a:Nat):Int)-1 by omega] at this
 .have ha0:a=0:=by omega
  subst ha0;have hm:qN G (-1) ((n,((0:Nat):Int)) :: r)=qN G (-1) r:=by
   conv=>lhs;unfold qN
   rw[if_neg (by omega)]
  rw[hm];rcases zP7 hD hC with ⟨k1,k2⟩|⟨k1,st',k2,k3⟩
  .refine⟨[],k2,.inr ⟨.inl ?_,rfl⟩⟩;subst k1;simp only[uE];omega
  .refine⟨st',k2,?_⟩;have hp:0<pre.length:=tE.2 k1;have:=k3.on;rwa [show ((pre.length-1:Nat):Int)=((pre.length+0:Nat):Int)-1 by omega] at this
theorem zR1(last:Bool)(h:zLB G root d L):∃st',zNc G (root:Int) last=.inl st'/\zDI G L d st' (if last=true then (L.length:Int)-1 else 0):=by
 obtain⟨h1,h2⟩:=h;rcases h1 with ⟨rfl,rfl,rfl⟩|⟨h1,_,h3,h4⟩
 .refine⟨[],by unfold zNc;exact if_pos rfl,.inr ⟨?_,rfl⟩⟩;cases last
  .exact .inr (by simp)
  .exact .inl (by simp)
 .have hE:=h2 (by omega);have hv:L≠[]:=TrE.ne h4 hE;have hpos:0<L.length:=tE.2 hv;obtain⟨st',e1,e2⟩:=zP6 (L:=L) (D:=d) last h4 hE .nil h3;have he:zNc G (root:Int) last=.inl st':=by
   unfold zNc;rw[if_neg (by omega)];unfold goA at e1;cases hp:zAP G [] (root:Int) with
   | inr e=>rw[hp] at e1;cases e1
   | inl st =>
    rw[hp] at e1;simp only at e1 ⊢;rw[e1];simp only;obtain⟨n,a,r,pre,p,suf,lo,hi,rfl,hC,hl,ha,_⟩:=e2;rw[if_neg];unfold zNb;simp only;rw[wX];intro hne;have:=hl.len;rw[hne] at this;simp at this;omega
  refine⟨st',he,?_⟩;have:=e2.on;cases last with
  | false=>simpa using this
  | true =>
   simp only[t8,uE,uR] at this ⊢;rwa [show ((L.length-1:Nat):Int)=(L.length:Int)-1 by omega] at this
theorem Ctx.ahead(h:Ctx G L D r pre f suf d lo hi):(∀x∈pre,qJ x.1 lo=true)/\(∀x∈suf,∃h,hi=some h/\qJ x.1 h=false):=by
 induction h with
 | nil=>exact⟨λx hx=>by simp at hx,λx hx=>by simp at hx⟩
 | @cons n j r pre suf d lo hi parts p h1 h2 h3 h4 h5 h6 h7 h8 ih =>
  obtain⟨i1,i2⟩:=ih;obtain⟨q1,q2, -⟩:=jC h3 h2;have hj:=(uB.1 h8).1;refine⟨λx hx=>?_,λx hx=>?_⟩
  .unfold zDF;by_cases hj0:j=0
   .subst hj0;rw[if_pos rfl];simp only[List.take_zero,tO,wR] at hx;exact i1 x hx
   .have hjk:j-1<n.keys.length:=by omega
    rw[if_neg hj0];have e:n.keys.getD (j-1) lo=n.keys[j-1]:=by simp[List.getD,hjk]
    rw[e];rcases uG.1 hx with hx|hx
    .exact zBb (i1 x hx) (h7 _ (wH hjk)).1
    .obtain⟨q,hq,hx⟩:=rG.1 hx;obtain⟨i,hi',e2⟩:=wQ hq;rw[uP] at hi';have hip:i<parts.length:=by omega
     have hik:i<n.kids.length:=by omega
     have hie:i<n.keys.length:=by omega
     rw[nC] at e2;have hT:=h5 i n.kids[i] parts[i] (uA hik) (uA hip);have hb:=(hT.keys x (by rw[e2];exact hx)).2 n.keys[i] (by unfold zDx;rw[uA hie]);by_cases hij:i=j-1
     .subst hij;exact hb
     .exact vU hb (zPg q1 (by omega) (uA hie) (uA hjk))
  .unfold zDx;rcases uG.1 hx with hx|hx
   .obtain⟨q,hq,hx⟩:=rG.1 hx;obtain⟨i,hi',e2⟩:=wQ hq;rw[u0] at hi';rw[List.getElem_drop] at e2;have hip:j+1+i<parts.length:=by omega
    have hik:j+1+i<n.kids.length:=by omega
    have hjk:j<n.keys.length:=by omega
    have hie:j+i<n.keys.length:=by omega
    have hT:=h5 (j+1+i) n.kids[j+1+i] parts[j+1+i] (uA hik) (uA hip);have hb:=(hT.keys x (by rw[e2];exact hx)).1;unfold zDF at hb;rw[if_neg (by omega)] at hb;have e:n.keys.getD (j+1+i-1) lo=n.keys[j+i]:=by
     rw[show j+1+i-1=j+i by omega];simp[List.getD,hie]
    rw[e] at hb;refine⟨n.keys[j],by rw[uA hjk],?_⟩;by_cases hi0:i=0
    .subst hi0;exact hb
    .have:=zPg q1 (show j<j+i by omega) (uA hjk) (uA hie);cases hc:qJ x.1 n.keys[j] with
     | false=>rfl
     | true=>have:=vU hc this;rw[hb] at this;cases this
   .obtain⟨h,rfl,hh⟩:=i2 x hx;cases hk:n.keys[j]? with
    | none=>exact⟨h,rfl,hh⟩
    | some s =>
     obtain⟨hjk,rfl⟩:=uB.1 hk;refine⟨n.keys[j],rfl,?_⟩;have:=(h7 _ (wH hjk)).2 h rfl;cases hc:qJ x.1 n.keys[j] with
     | false=>rfl
     | true=>have:=vU hc this;rw[hh] at this;cases this
theorem zLC(h:Tr G.node G.R2 lo hi id d f)(key:ByteArray):∀{fuel:Nat} {r:StC} {pre suf:List zE},TrE G.node id d->Ctx G L D r pre f suf d lo hi->D<=16->d<=fuel->inB lo hi key ->
  ∃(n:zF) (r':StC) (pre' p suf':List zE) (lo':ByteArray) (hi':Option ByteArray),jP G key fuel r (id:Int)=.inl ((n,(vY key n.entries:Int)) :: r')/\Ctx G L D r' pre' p suf' 1 lo' hi'/\zP2 G.R2 n p/\inB lo' hi' key:=by
 induction h with
 | @leaf lo hi id n l h1 h2 h3 h4 h5 h6 =>
  intro fuel r pre suf hE hC hD hf hk;have hdp:=hC.deep;obtain⟨fuel,rfl⟩:∃q,fuel=q+1:=⟨fuel-1,by omega⟩;have hp:zAP G r (id:Int)=.inl ((n,0) :: r):=by
   unfold zAP;rw[if_neg (by omega),(GA.node_load h1).2]
  refine⟨n,r,pre,l,suf,lo,hi,?_,hC,⟨h2,h3,h4,h5⟩,hk⟩;rw[jP,hp];simp only;rw[if_pos h2,zE9 h2]
 | @inner lo hi id n d parts h1 h2 h3 h4 h5 h6 ih =>
  intro fuel r pre suf hE hC hD hf hk;have hdp:=hC.deep;obtain⟨fuel,rfl⟩:∃q,fuel=q+1:=⟨fuel-1,by omega⟩;cases hE with
  | leaf k1 k2 k3=>rw[h1] at k1;injection k1 with k1;subst k1;rw[h2] at k2;cases k2
  | inner k1 k2 k3 =>
   rw[h1] at k1;injection k1 with k1;subst k1;obtain⟨r1,r2,_⟩:=jC h3 h2;obtain⟨k,p,q1,q2,q3,q4⟩:=zMD r1 r2 h4 h5 hk;have hp:zAP G r (id:Int)=.inl ((n,0) :: r):=by
    unfold zAP;rw[if_neg (by omega),(GA.node_load h1).2]
   have hCj:=Ctx.cons hC h2 h3 h4 h5 k3 h6 q2;obtain⟨hjt,rfl⟩:=uB.1 q1;obtain⟨n',r',pre',p',suf',lo',hi',e1,e2⟩:=ih _ _ p q1 q2 (k3 _ (wH hjt)) hCj hD (by omega:d<=fuel) q3;refine⟨n',r',pre',p',suf',lo',hi',?_,e2⟩;rw[jP,hp];simp only;rw[if_neg (by rw[h2];simp),zEB h2];simp only;rw[zJz h3 h2 hjt];exact e1
theorem zLD{α:Type}{q:α->Bool}{A B:List α}(hA:∀x∈A,q x=false)(hB:∀x,B[0]? = some x->q x=true):(A++B).findIdx q=A.length:=by
 induction A with
 | nil =>
  cases B with
  | nil=>rfl
  | cons b B=>simp only[uT,pD,hB b rfl,cond_true,uE]
 | cons a A ih =>
  rw[wN,pD,hA a uF];simp only[cond_false,uD];rw[ih (λx hx=>hA x (uI _ hx))]
theorem zQA(key:ByteArray)(h:zLB G root d L):∃st',zDH G (root:Int) key=.inl st'/\zDI G L d st' (zFl key L:Int):=by
 obtain⟨h1,h2⟩:=h;rcases h1 with ⟨rfl,rfl,rfl⟩|⟨h1,_,h3,h4⟩
 .exact⟨[],by unfold zDH;exact if_pos rfl,.inr ⟨.inr (by simp[zFl]),rfl⟩⟩
 .have hE:=h2 (by omega);obtain⟨n,r,pre,p,suf,lo,hi,e1,hC,hl,hk⟩:=zLC (L:=L) (D:=d) (fuel:=17) h4 key hE .nil h3 (by omega) (zCa key);have hw:=hC.whole;have hdp:=hC.deep;obtain⟨b1,b2⟩:=hC.ahead;obtain⟨a,ha⟩:∃a,a=vY key n.entries:=⟨_,rfl⟩;rw[<- ha] at e1;have hal:a<=n.entries.length:=by rw[ha];exact rD
  have hpl:=hl.len;have hpre:∀x∈pre,(!qJ x.1 key)=false:=λx hx=>by
   rw[zBb (b1 x hx) hk.1];rfl
  have hsuf:∀x∈suf,(!qJ x.1 key)=true:=λx hx=>by
   obtain⟨h,e,hh⟩:=b2 x hx;have:=hk.2 h e;cases hc:qJ x.1 key with
   | false=>rfl
   | true=>have:=vU hc this;rw[hh] at this;cases this
  have hlow:∀x∈p.take a,(!qJ x.1 key)=false:=λx hx=>by
   obtain⟨i,hi',e⟩:=wQ hx;rw[uP] at hi';rw[nC] at e;have hie:i<n.entries.length:=by omega
   have hip:i<p.length:=by omega
   have k1:=(hl.tells i n.entries[i] p[i] (uA hie) (uA hip)).1;have k2:=zDV (f:=λe:zI=>!qJ e.key key) (i:=i) (by show i<vY key n.entries;omega) (uA hie);rw[k1,e] at k2;exact k2
  have hseek:zFl key L=pre.length+a:=by
   unfold zFl;have hL:L=(pre++p.take a)++(p.drop a++suf):=by
    rw[hw,uS,uS,<- uS (p.take a),uZ]
   have hAl:(pre++p.take a).length=pre.length+a:=by rw[uC,uP];omega
   rw[hL,<- hAl];refine zLD (λx hx=>?_) (λx hx=>?_)
   .rcases uG.1 hx with hx|hx
    .exact hpre x hx
    .exact hlow x hx
   .by_cases hap:a<p.length
    .have hie:a<n.entries.length:=by omega
     rw[uY (by rw[u0];omega),rH,uO,uA hap] at hx;injection hx with hx;have k1:=(hl.tells a n.entries[a] p[a] (uA hie) (uA hap)).1;have k2:(!qJ n.entries[a].key key)=true:=zDW (f:=λe:zI=>!qJ e.key key) (l:=n.entries) (by
      have:n.entries.findIdx (λe:zI=>!qJ e.key key)=a:=ha.symm;rw[this];exact uA hie)
     rw[k1,hx] at k2;exact k2
    .rw[tG (by omega),uT] at hx;exact hsuf x (wM hx)
  rw[hseek];unfold zDH;rw[if_neg (by omega),e1];simp only;by_cases hap:a<p.length
  .rw[if_pos (by omega)];have:zCR G L d ((n,(a:Int)) :: r) (pre.length+a):=⟨n,a,r,pre,p,suf,lo,hi,rfl,hC,hl,hap,rfl⟩;exact⟨_,rfl,this.on⟩
  .rw[if_neg (by omega)];have hm:qN G 1 ((n,(a:Int)-1) :: r)=qN G 1 r:=by
    conv=>lhs;unfold qN
    rw[if_neg (by unfold zAC;rw[if_pos hl.leaf];omega)]
   rw[hm];have hwl:=congrArg List.length hw;simp only[uC] at hwl;rcases zLA h3 hC with ⟨k1,k2⟩|⟨k1,st',k2,k3⟩
   .refine⟨[],k2,.inr ⟨.inr ?_,rfl⟩⟩;subst k1;simp only[uE] at hwl;omega
   .refine⟨st',k2,?_⟩;have:=k3.on;rwa [show pre.length+p.length=pre.length+a by omega] at this
end
end Go.Proofs.YtchklfmggpconaaGreatDoor
