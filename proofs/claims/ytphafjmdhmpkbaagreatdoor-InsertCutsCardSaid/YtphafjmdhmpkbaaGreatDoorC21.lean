/- insert.laid: a list with others in the place of some. | ref03.Take; ref07.take, word, one. | ref07.Key at a known answer. | ref07.one, entry, kid, in. | ref07.entry, in. -/
import Derived.Test.YtphafjmdhmpkbaaGreatDoorC20
import Derived.Test.YtphafjmdhmpkbaaGreatDoorC18
import Derived.Test.YtphafjmdhmpkbaaGreatDoorC15
import Derived.Test.YtphafjmdhmpkbaaGreatDoorC16
import Derived.Test.YtphafjmdhmpkbaaGreatDoorC07
import Derived.Test.YtphafjmdhmpkbaaGreatDoorC19
import Derived.IntWalk
import Derived.Test.YtphafjmdhmpkbaaGreatDoorC06
namespace Go.Proofs.YtphafjmdhmpkbaaGreatDoor
open Go.RowKit
theorem Sl.slc {α:Type} {F:Nat→Prop} {w:World} {sz:Nat} {enc:α→List Value} {a:Option Addr} {n c:Nat} {l:List α} (h:Sl F w sz enc (.slice a n c) l) (i j:Nat) (hij:i≤j) (hj:j≤n) :
    Sl F w sz enc (.slice (if c=i then a else a.map (·.add (i * sz))) (j - i) (c - i)) ((l.drop i).take (j - i)):=by
  obtain ⟨a',cap,he,h1,h2,h3,h4⟩:=h
  simp only [Value.slice.injEq] at he
  obtain ⟨rfl,rfl,rfl⟩:=he
  have hlen:((l.drop i).take (j - i)).length=j - i:=by simp [List.length_take,List.length_drop];omega
  refine ⟨_,c - i,by rw [hlen],by rw [hlen];omega,by omega,by rw [hlen];omega,?_⟩
  rcases h4 with rfl | ⟨b,off,rfl,hb,hF,hc⟩
  · exact .inl (by simp)
  · by_cases hz:c=i
    · exact .inl (List.eq_nil_of_length_eq_zero (by rw [hlen];omega))
    · refine .inr ⟨b,off+i * sz,?_,hb,hF,fun k x hk q u hu=>?_⟩
      · rw [if_neg hz]
        simp only [Option.map_some,Addr.add]
        by_cases h0:i * sz=0
        · rw [if_pos h0,h0];rfl
        · rw [if_neg h0]
      · have hk1:k < j - i:=by
          have:=(List.getElem?_eq_some_iff.1 hk).1
          rwa [hlen] at this
        rw [List.getElem?_take_of_lt hk1,List.getElem?_drop] at hk
        have:=hc (i+k) x hk q u hu
        rw [← this]
        congr 2
        rw [Nat.add_mul];omega
theorem Sl.tail_ {α:Type} {F:Nat→Prop} {w:World} {sz:Nat} {enc:α→List Value} {a:Option Addr} {n c:Nat} {l:List α} (h:Sl F w sz enc (.slice a n c) l) (i:Nat) (hi:i≤n) :
    Sl F w sz enc (.slice (if c=i then a else a.map (·.add (i * sz))) (n - i) (c - i)) (l.drop i):=by
  have:=h.slc i n hi (Nat.le_refl _)
  obtain ⟨a',cap,he, -⟩:=_root_.id h
  simp only [Value.slice.injEq] at he
  rw [he.2.1] at this ⊢
  rwa [List.take_of_length_le (by simp)] at this
section
variable {F H:Nat→Prop} {w w':World}
set_option maxRecDepth 100000 in
theorem laidE_any (lv mv:Value) (L M:List EntryA) (hl:Sl F w 4 encE lv L) (hm:Sl H w 4 encE mv M) (i many:Nat) (h1:i+many≤L.length) (hb:L.length≤1000000) (hb2:M.length≤1000000) :
    Calls Tryz.prog 106 #[lv,.int .i64 (i:Int),.int .i64 (many:Int),mv] w fun e w'=>∃ v,e=.returned v∧Own (fun _=>False) w' w.heap.size 107 4 encE v (L.take i ++ M ++ L.drop (i+many))∧Ext w w':=by
  obtain ⟨la,lc,rfl,l1,l2,l3, -⟩:=_root_.id hl
  unfold maxLen at l2
  have HL:=Lib.hid hl
  have HM:=Lib.hid hm
  have hO0:Hid (Own (fun _=>False) (w.alloc (.cells #[] 107)) w.heap.size 107 4 encE (.slice (some ⟨w.heap.size,0,none⟩) 0 0) ([]:List EntryA)):=Lib.hid (Own.empty (fun k f=>f.elim) _ _ _ encE_ok.len)
  have hm0:Hid (Ext w (w.alloc (.cells #[] 107))):=Lib.hid ((Mods.refl _ w).alloc _)
  obtain ⟨ma,mc,rfl,m1,m2,m3, -⟩:=hm
  have u1:IntKind.i64.wrap ((i:Int)+(many:Int))=((i+many:Nat):Int):=by rw [IntWalk.i64_in _ (by omega)];omega
  have lt1:(L.take i).length=i:=by rw [List.length_take];omega
  have lt2:(L.drop (i+many)).length=L.length - (i+many):=List.length_drop
  have HT1:=Lib.hid lt1
  have HT2:=Lib.hid lt2
  clear hl lt1 lt2
  have p1:Hid (Sl F w 4 encE (.slice la i lc) (L.take i)):=Lib.hid (HL.out.pre i (by omega))
  have p3:Hid (Sl F w 4 encE (.slice (if lc=i+many then la else la.map (·.add ((i+many) * 4))) (L.length - (i+many)) (lc - (i+many))) (L.drop (i+many))):=Lib.hid (by have:=HL.out.tail_ (i+many) h1;simpa only [Nat.mul_one] using this)
  obtain ⟨R,hR⟩:∃ R,R=L.take i ++ M ++ L.drop (i+many):=⟨_,rfl⟩
  rw [← hR]
  have HR:=Lib.hid hR
  clear hR
  go_enter Tryz.func106, Tryz.ntmps106
  go_wp2_with (first
    | (at_builtin;refine wpl_app2 Tryz.elE encE_ok rfl _ _ rfl w.heap.size _ (.slice la i lc) [] (L.take i) rfl rfl hO0.out (p1.out.ext hm0.out) (by rw [HT1.out];simp only [List.length_nil];omega) (by simp) (fun f=>f) ?_;rw [List.nil_append,List.length_nil,HT1.out,Nat.zero_add];intro a1 c1 w1 hO1 hm1 hat1;have HO1:=Lib.hid hO1;have HM1:Hid (Ext w w1):=Lib.hid (Mods.past hm0.out (hm1.mono (fun k hk=>(hO0.out.lt k hk).1)));clear hO1 hm1 hat1)
    | (at_builtin;refine wpl_app2 Tryz.elE encE_ok rfl _ _ rfl w.heap.size (.slice a1 i c1) (.slice ma M.length mc) (L.take i) M rfl rfl HO1.out (HM.out.ext HM1.out) (by rw [HT1.out];omega) HM1.out.size (fun f=>f) ?_;rw [HT1.out];intro a2 c2 w2 hO2 hm2 hat2;have HO2:=Lib.hid hO2;have HM2:Hid (Ext w w2):=Lib.hid (Mods.past HM1.out (hm2.mono (fun k hk=>(HO1.out.lt k hk).1)));clear hO2 hm2 hat2)
    | (at_builtin;refine wpl_app2 Tryz.elE encE_ok rfl _ _ rfl w.heap.size (.slice a2 (i+M.length) c2) _ (L.take i ++ M) (L.drop (i+many)) rfl rfl HO2.out (p3.out.ext HM2.out) (by rw [List.length_append,HT1.out,HT2.out];omega) HM2.out.size (fun f=>f) ?_;rw [List.length_append,HT1.out,HT2.out];intro a3 c3 w3 hO3 hm3 hat3;have HO3:=Lib.hid hO3;have HM3:Hid (Ext w w3):=Lib.hid (Mods.past HM2.out (hm3.mono (fun k hk=>(HO2.out.lt k hk).1)));clear hO3 hm3 hat3)
    | fail)
  all_goals
    go_ret
    exact ⟨_,rfl,by rw [HR.out];exact HO3.out,HM3.out⟩
theorem laidE_end (lv:Value) (L:List EntryA) (hl:Sl F w 4 encE lv L) (k:Nat) (hk:k=L.length) (hb:L.length≤1000000) :
    Calls Tryz.prog 106 #[lv,.int .i64 (k:Int),.int .i64 0,.slice none 0 0] w fun e w'=>∃ a c,e=.returned (.slice a k c)∧Own (fun _=>False) w' w.heap.size 107 4 encE (.slice a k c) L∧Ext w w':=by
  have h:=laidE_any lv (.slice none 0 0) L [] hl (Sl.nil (fun _=>False) w 4 encE) k 0 (by omega) hb (by simp)
  refine h.mono ?_
  rintro e w' ⟨v,rfl,ho,hm⟩
  have e1:L.take k ++ [] ++ L.drop (k+0)=L:=by rw [Nat.add_zero,List.append_nil,List.take_append_drop]
  rw [e1] at ho
  obtain ⟨a,c,rfl,_⟩:=ho.form
  subst hk
  exact ⟨a,c,rfl,ho,hm⟩
theorem laidE_beg (lv:Value) (L:List EntryA) (hl:Sl F w 4 encE lv L) (k:Nat) (hk:k=L.length) (hb:L.length≤1000000) :
    Calls Tryz.prog 106 #[lv,.int .i64 0,.int .i64 0,.slice none 0 0] w fun e w'=>∃ a c,e=.returned (.slice a k c)∧Own (fun _=>False) w' w.heap.size 107 4 encE (.slice a k c) L∧Ext w w':=by
  have h:=laidE_any lv (.slice none 0 0) L [] hl (Sl.nil (fun _=>False) w 4 encE) 0 0 (by omega) hb (by simp)
  refine h.mono ?_
  rintro e w' ⟨v,rfl,ho,hm⟩
  have e1:L.take 0 ++ [] ++ L.drop (0+0)=L:=by simp
  rw [e1] at ho
  obtain ⟨a,c,rfl,_⟩:=ho.form
  subst hk
  exact ⟨a,c,rfl,ho,hm⟩
set_option maxRecDepth 100000 in
theorem laidS_any (lv mv:Value) (L M:List ByteArray) (hl:Sl F w 1 encS lv L) (hm:Sl H w 1 encS mv M) (i many:Nat) (h1:i+many≤L.length) (hb:L.length≤1000000) (hb2:M.length≤1000000) :
    Calls Tryz.prog 107 #[lv,.int .i64 (i:Int),.int .i64 (many:Int),mv] w fun e w'=>∃ v,e=.returned v∧Own (fun _=>False) w' w.heap.size 9 1 encS v (L.take i ++ M ++ L.drop (i+many))∧Ext w w':=by
  obtain ⟨la,lc,rfl,l1,l2,l3, -⟩:=_root_.id hl
  unfold maxLen at l2
  have HL:=Lib.hid hl
  have HM:=Lib.hid hm
  have hO0:Hid (Own (fun _=>False) (w.alloc (.cells #[] 9)) w.heap.size 9 1 encS (.slice (some ⟨w.heap.size,0,none⟩) 0 0) ([]:List ByteArray)):=Lib.hid (Own.empty (fun k f=>f.elim) _ _ _ encS_ok.len)
  have hm0:Hid (Ext w (w.alloc (.cells #[] 9))):=Lib.hid ((Mods.refl _ w).alloc _)
  obtain ⟨ma,mc,rfl,m1,m2,m3, -⟩:=hm
  have u1:IntKind.i64.wrap ((i:Int)+(many:Int))=((i+many:Nat):Int):=by rw [IntWalk.i64_in _ (by omega)];omega
  have lt1:(L.take i).length=i:=by rw [List.length_take];omega
  have lt2:(L.drop (i+many)).length=L.length - (i+many):=List.length_drop
  have HT1:=Lib.hid lt1
  have HT2:=Lib.hid lt2
  clear hl lt1 lt2
  have p1:Hid (Sl F w 1 encS (.slice la i lc) (L.take i)):=Lib.hid (HL.out.pre i (by omega))
  have p3:Hid (Sl F w 1 encS (.slice (if lc=i+many then la else la.map (·.add (i+many))) (L.length - (i+many)) (lc - (i+many))) (L.drop (i+many))):=Lib.hid (by have:=HL.out.tail_ (i+many) h1;simpa only [Nat.mul_one] using this)
  obtain ⟨R,hR⟩:∃ R,R=L.take i ++ M ++ L.drop (i+many):=⟨_,rfl⟩
  rw [← hR]
  have HR:=Lib.hid hR
  clear hR
  go_enter Tryz.func107, Tryz.ntmps107
  go_wp2_with (first
    | (at_builtin;refine wpl_app2 Tryz.elS encS_ok rfl _ _ rfl w.heap.size _ (.slice la i lc) [] (L.take i) rfl rfl hO0.out (p1.out.ext hm0.out) (by rw [HT1.out];simp only [List.length_nil];omega) (by simp) (fun f=>f) ?_;rw [List.nil_append,List.length_nil,HT1.out,Nat.zero_add];intro a1 c1 w1 hO1 hm1 hat1;have HO1:=Lib.hid hO1;have HM1:Hid (Ext w w1):=Lib.hid (Mods.past hm0.out (hm1.mono (fun k hk=>(hO0.out.lt k hk).1)));clear hO1 hm1 hat1)
    | (at_builtin;refine wpl_app2 Tryz.elS encS_ok rfl _ _ rfl w.heap.size (.slice a1 i c1) (.slice ma M.length mc) (L.take i) M rfl rfl HO1.out (HM.out.ext HM1.out) (by rw [HT1.out];omega) HM1.out.size (fun f=>f) ?_;rw [HT1.out];intro a2 c2 w2 hO2 hm2 hat2;have HO2:=Lib.hid hO2;have HM2:Hid (Ext w w2):=Lib.hid (Mods.past HM1.out (hm2.mono (fun k hk=>(HO1.out.lt k hk).1)));clear hO2 hm2 hat2)
    | (at_builtin;refine wpl_app2 Tryz.elS encS_ok rfl _ _ rfl w.heap.size (.slice a2 (i+M.length) c2) _ (L.take i ++ M) (L.drop (i+many)) rfl rfl HO2.out (p3.out.ext HM2.out) (by rw [List.length_append,HT1.out,HT2.out];omega) HM2.out.size (fun f=>f) ?_;rw [List.length_append,HT1.out,HT2.out];intro a3 c3 w3 hO3 hm3 hat3;have HO3:=Lib.hid hO3;have HM3:Hid (Ext w w3):=Lib.hid (Mods.past HM2.out (hm3.mono (fun k hk=>(HO2.out.lt k hk).1)));clear hO3 hm3 hat3)
    | fail)
  all_goals
    go_ret
    exact ⟨_,rfl,by rw [HR.out];exact HO3.out,HM3.out⟩
theorem laidS_end (lv:Value) (L:List ByteArray) (hl:Sl F w 1 encS lv L) (k:Nat) (hk:k=L.length) (hb:L.length≤1000000) :
    Calls Tryz.prog 107 #[lv,.int .i64 (k:Int),.int .i64 0,.slice none 0 0] w fun e w'=>∃ a c,e=.returned (.slice a k c)∧Own (fun _=>False) w' w.heap.size 9 1 encS (.slice a k c) L∧Ext w w':=by
  have h:=laidS_any lv (.slice none 0 0) L [] hl (Sl.nil (fun _=>False) w 1 encS) k 0 (by omega) hb (by simp)
  refine h.mono ?_
  rintro e w' ⟨v,rfl,ho,hm⟩
  have e1:L.take k ++ [] ++ L.drop (k+0)=L:=by rw [Nat.add_zero,List.append_nil,List.take_append_drop]
  rw [e1] at ho
  obtain ⟨a,c,rfl,_⟩:=ho.form
  subst hk
  exact ⟨a,c,rfl,ho,hm⟩
theorem laidS_beg (lv:Value) (L:List ByteArray) (hl:Sl F w 1 encS lv L) (k:Nat) (hk:k=L.length) (hb:L.length≤1000000) :
    Calls Tryz.prog 107 #[lv,.int .i64 0,.int .i64 0,.slice none 0 0] w fun e w'=>∃ a c,e=.returned (.slice a k c)∧Own (fun _=>False) w' w.heap.size 9 1 encS (.slice a k c) L∧Ext w w':=by
  have h:=laidS_any lv (.slice none 0 0) L [] hl (Sl.nil (fun _=>False) w 1 encS) 0 0 (by omega) hb (by simp)
  refine h.mono ?_
  rintro e w' ⟨v,rfl,ho,hm⟩
  have e1:L.take 0 ++ [] ++ L.drop (0+0)=L:=by simp
  rw [e1] at ho
  obtain ⟨a,c,rfl,_⟩:=ho.form
  subst hk
  exact ⟨a,c,rfl,ho,hm⟩
set_option maxRecDepth 100000 in
theorem laidI_any (lv mv:Value) (L M:List Int) (hl:Sl F w 1 encI lv L) (hm:Sl H w 1 encI mv M) (i many:Nat) (h1:i+many≤L.length) (hb:L.length≤1000000) (hb2:M.length≤1000000) :
    Calls Tryz.prog 108 #[lv,.int .i64 (i:Int),.int .i64 (many:Int),mv] w fun e w'=>∃ v,e=.returned v∧Own (fun _=>False) w' w.heap.size 3 1 encI v (L.take i ++ M ++ L.drop (i+many))∧Ext w w':=by
  obtain ⟨la,lc,rfl,l1,l2,l3, -⟩:=_root_.id hl
  unfold maxLen at l2
  have HL:=Lib.hid hl
  have HM:=Lib.hid hm
  have hO0:Hid (Own (fun _=>False) (w.alloc (.cells #[] 3)) w.heap.size 3 1 encI (.slice (some ⟨w.heap.size,0,none⟩) 0 0) ([]:List Int)):=Lib.hid (Own.empty (fun k f=>f.elim) _ _ _ encI_ok.len)
  have hm0:Hid (Ext w (w.alloc (.cells #[] 3))):=Lib.hid ((Mods.refl _ w).alloc _)
  obtain ⟨ma,mc,rfl,m1,m2,m3, -⟩:=hm
  have u1:IntKind.i64.wrap ((i:Int)+(many:Int))=((i+many:Nat):Int):=by rw [IntWalk.i64_in _ (by omega)];omega
  have lt1:(L.take i).length=i:=by rw [List.length_take];omega
  have lt2:(L.drop (i+many)).length=L.length - (i+many):=List.length_drop
  have HT1:=Lib.hid lt1
  have HT2:=Lib.hid lt2
  clear hl lt1 lt2
  have p1:Hid (Sl F w 1 encI (.slice la i lc) (L.take i)):=Lib.hid (HL.out.pre i (by omega))
  have p3:Hid (Sl F w 1 encI (.slice (if lc=i+many then la else la.map (·.add (i+many))) (L.length - (i+many)) (lc - (i+many))) (L.drop (i+many))):=Lib.hid (by have:=HL.out.tail_ (i+many) h1;simpa only [Nat.mul_one] using this)
  obtain ⟨R,hR⟩:∃ R,R=L.take i ++ M ++ L.drop (i+many):=⟨_,rfl⟩
  rw [← hR]
  have HR:=Lib.hid hR
  clear hR
  go_enter Tryz.func108, Tryz.ntmps108
  go_wp2_with (first
    | (at_builtin;refine wpl_app2 Tryz.elI encI_ok rfl _ _ rfl w.heap.size _ (.slice la i lc) [] (L.take i) rfl rfl hO0.out (p1.out.ext hm0.out) (by rw [HT1.out];simp only [List.length_nil];omega) (by simp) (fun f=>f) ?_;rw [List.nil_append,List.length_nil,HT1.out,Nat.zero_add];intro a1 c1 w1 hO1 hm1 hat1;have HO1:=Lib.hid hO1;have HM1:Hid (Ext w w1):=Lib.hid (Mods.past hm0.out (hm1.mono (fun k hk=>(hO0.out.lt k hk).1)));clear hO1 hm1 hat1)
    | (at_builtin;refine wpl_app2 Tryz.elI encI_ok rfl _ _ rfl w.heap.size (.slice a1 i c1) (.slice ma M.length mc) (L.take i) M rfl rfl HO1.out (HM.out.ext HM1.out) (by rw [HT1.out];omega) HM1.out.size (fun f=>f) ?_;rw [HT1.out];intro a2 c2 w2 hO2 hm2 hat2;have HO2:=Lib.hid hO2;have HM2:Hid (Ext w w2):=Lib.hid (Mods.past HM1.out (hm2.mono (fun k hk=>(HO1.out.lt k hk).1)));clear hO2 hm2 hat2)
    | (at_builtin;refine wpl_app2 Tryz.elI encI_ok rfl _ _ rfl w.heap.size (.slice a2 (i+M.length) c2) _ (L.take i ++ M) (L.drop (i+many)) rfl rfl HO2.out (p3.out.ext HM2.out) (by rw [List.length_append,HT1.out,HT2.out];omega) HM2.out.size (fun f=>f) ?_;rw [List.length_append,HT1.out,HT2.out];intro a3 c3 w3 hO3 hm3 hat3;have HO3:=Lib.hid hO3;have HM3:Hid (Ext w w3):=Lib.hid (Mods.past HM2.out (hm3.mono (fun k hk=>(HO2.out.lt k hk).1)));clear hO3 hm3 hat3)
    | fail)
  all_goals
    go_ret
    exact ⟨_,rfl,by rw [HR.out];exact HO3.out,HM3.out⟩
theorem laidI_end (lv:Value) (L:List Int) (hl:Sl F w 1 encI lv L) (k:Nat) (hk:k=L.length) (hb:L.length≤1000000) :
    Calls Tryz.prog 108 #[lv,.int .i64 (k:Int),.int .i64 0,.slice none 0 0] w fun e w'=>∃ a c,e=.returned (.slice a k c)∧Own (fun _=>False) w' w.heap.size 3 1 encI (.slice a k c) L∧Ext w w':=by
  have h:=laidI_any lv (.slice none 0 0) L [] hl (Sl.nil (fun _=>False) w 1 encI) k 0 (by omega) hb (by simp)
  refine h.mono ?_
  rintro e w' ⟨v,rfl,ho,hm⟩
  have e1:L.take k ++ [] ++ L.drop (k+0)=L:=by rw [Nat.add_zero,List.append_nil,List.take_append_drop]
  rw [e1] at ho
  obtain ⟨a,c,rfl,_⟩:=ho.form
  subst hk
  exact ⟨a,c,rfl,ho,hm⟩
theorem laidI_beg (lv:Value) (L:List Int) (hl:Sl F w 1 encI lv L) (k:Nat) (hk:k=L.length) (hb:L.length≤1000000) :
    Calls Tryz.prog 108 #[lv,.int .i64 0,.int .i64 0,.slice none 0 0] w fun e w'=>∃ a c,e=.returned (.slice a k c)∧Own (fun _=>False) w' w.heap.size 3 1 encI (.slice a k c) L∧Ext w w':=by
  have h:=laidI_any lv (.slice none 0 0) L [] hl (Sl.nil (fun _=>False) w 1 encI) 0 0 (by omega) hb (by simp)
  refine h.mono ?_
  rintro e w' ⟨v,rfl,ho,hm⟩
  have e1:L.take 0 ++ [] ++ L.drop (0+0)=L:=by simp
  rw [e1] at ho
  obtain ⟨a,c,rfl,_⟩:=ho.form
  subst hk
  exact ⟨a,c,rfl,ho,hm⟩
end
end Go.Proofs.YtphafjmdhmpkbaaGreatDoor
namespace Go.Proofs.YtphafjmdhmpkbaaGreatDoor
open Go.RowKit
attribute [local go_sem ↓] Go.wp_at_zero Go.wp_at_succ
section
variable {F:Nat→Prop} {w w' wr w2:World}
end
end Go.Proofs.YtphafjmdhmpkbaaGreatDoor
namespace Go.Proofs.YtphafjmdhmpkbaaGreatDoor
open Go.RowKit
theorem key07_t (s:ByteArray) (w:World) (b:Bool) (h:keyB s=b) : Calls Tryz.prog 27 #[.string s] w fun e w'=>e=.returned (.bool b)∧w=w':=by
  have:=key07_any s w;rw [h] at this;exact this
end Go.Proofs.YtphafjmdhmpkbaaGreatDoor
namespace Go.Proofs.YtphafjmdhmpkbaaGreatDoor
open Go.RowKit
attribute [local go_sem ↓] Go.wp_at_zero Go.wp_at_succ
section
variable {F:Nat→Prop} {w w' wr w2:World}
set_option maxRecDepth 100000 in
theorem kid07_any (n:Int) (w:World) : Calls Tryz.prog 66 #[.int .i64 n] w fun e w'=>e=.returned (.bool (kidB n))∧w=w':=by
  unfold kidB
  by_cases h:2≤n
  · by_cases h2:n≤255
    · have e1:n < 256:=by omega
      go_enter Tryz.func66, Tryz.ntmps66
      go_wp2_with fail
      go_ret
      exact ⟨by simp;omega,rfl⟩
    · go_enter Tryz.func66, Tryz.ntmps66
      go_wp2_with fail
      go_ret
      exact ⟨by simp;omega,rfl⟩
  · go_enter Tryz.func66, Tryz.ntmps66
    go_wp2_with fail
    go_ret
    exact ⟨by simp;omega,rfl⟩
end
section
variable {F:Nat→Prop} {w w' wr w2:World}
set_option maxRecDepth 100000 in
theorem entry07_c (k v:ByteArray) (c z:Int) (w:World) :
    Calls Tryz.prog 65 #[.agg #[.string k,.string v,.int .i64 c,.int .i64 z]] w fun x w'=>x=.returned (.bool (rightE ⟨k,v,c,z⟩))∧Ext w w':=by
  have HM:Hid (Ext w (w.alloc (.cells #[.string k,.string v,.int .i64 c,.int .i64 z] 107))):=Lib.hid ((Mods.refl _ w).alloc _)
  by_cases hc:c=0
  · subst hc
    cases hkb:keyB k with
    | false =>
      have HK:=Lib.hid (fun w=>key07_t k w false hkb)
      have HR:Hid (rightE ⟨k,v,0,z⟩=false):=Lib.hid (by unfold rightE;simp [hkb])
      clear hkb
      go_enter Tryz.func65, Tryz.ntmps65
      go_wp2_with fail
      refine (HK.out _).mono ?_
      rintro e w1 ⟨rfl,rfl⟩
      go_wp2_with fail
      go_ret
      exact ⟨by rw [HR.out];rfl,HM.out⟩
    | true =>
      have HK:=Lib.hid (fun w=>key07_t k w true hkb)
      have HR:Hid (rightE ⟨k,v,0,z⟩=(decide (z=0) && decide (v.size≤24))):=Lib.hid (by unfold rightE;simp [hkb])
      clear hkb
      by_cases h1:(v.size:Int)≤24
      · have HR2:Hid (rightE ⟨k,v,0,z⟩=(z == 0)):=Lib.hid (by rw [HR.out,decide_eq_true (show v.size≤24 by omega),Bool.and_true];rfl)
        go_enter Tryz.func65, Tryz.ntmps65
        go_wp2_with fail
        refine (HK.out _).mono ?_
        rintro e w1 ⟨rfl,rfl⟩
        go_wp2_with fail
        go_ret
        exact ⟨by rw [HR2.out];rfl,HM.out⟩
      · have HR2:Hid (rightE ⟨k,v,0,z⟩=false):=Lib.hid (by rw [HR.out,decide_eq_false (show ¬ v.size≤24 by omega),Bool.and_false])
        go_enter Tryz.func65, Tryz.ntmps65
        go_wp2_with fail
        refine (HK.out _).mono ?_
        rintro e w1 ⟨rfl,rfl⟩
        go_wp2_with fail
        go_ret
        exact ⟨by rw [HR2.out];rfl,HM.out⟩
  · have hcb:(c == 0)=false:=by rw [beq_eq_false_iff_ne];exact hc
    cases hkb:keyB k with
    | false =>
      have HK:=Lib.hid (fun w=>key07_t k w false hkb)
      have HR:Hid (rightE ⟨k,v,c,z⟩=false):=Lib.hid (by unfold rightE;simp [hkb])
      clear hkb hc
      go_enter Tryz.func65, Tryz.ntmps65
      go_wp2_with fail
      refine (HK.out _).mono ?_
      rintro e w1 ⟨rfl,rfl⟩
      go_wp2_with fail
      go_ret
      exact ⟨by rw [HR.out];rfl,HM.out⟩
    | true =>
      have HK:=Lib.hid (fun w=>key07_t k w true hkb)
      have HR:Hid (rightE ⟨k,v,c,z⟩=(kidB c && decide (v.size=0) && decide (24 < z) && decide (z≤4096))):=Lib.hid (by unfold rightE;simp [hkb,hc])
      clear hkb hc
      cases hkd:kidB c with
      | false =>
        have HKD:Hid (∀ w,Calls Tryz.prog 66 #[.int .i64 c] w fun e w'=>e=.returned (.bool false)∧w=w'):=Lib.hid (fun w=>by have:=kid07_any c w;rw [hkd] at this;exact this)
        have HR2:Hid (rightE ⟨k,v,c,z⟩=false):=Lib.hid (by rw [HR.out,hkd];rfl)
        clear hkd
        go_enter Tryz.func65, Tryz.ntmps65
        go_wp2_with fail
        refine (HK.out _).mono ?_
        rintro e w1 ⟨rfl,rfl⟩
        go_wp2_with fail
        refine (HKD.out _).mono ?_
        rintro e w1 ⟨rfl,rfl⟩
        go_wp2_with fail
        go_ret
        exact ⟨by rw [HR2.out];rfl,HM.out⟩
      | true =>
        have HKD:Hid (∀ w,Calls Tryz.prog 66 #[.int .i64 c] w fun e w'=>e=.returned (.bool true)∧w=w'):=Lib.hid (fun w=>by have:=kid07_any c w;rw [hkd] at this;exact this)
        have HR1:Hid (rightE ⟨k,v,c,z⟩=(decide (v.size=0) && decide (24 < z) && decide (z≤4096))):=Lib.hid (by rw [HR.out,hkd];simp)
        clear hkd
        by_cases h1:v.size=0
        · have h1b:((v.size:Int) == 0)=true:=by rw [beq_iff_eq];omega
          have HR2:Hid (rightE ⟨k,v,c,z⟩=(decide (24 < z) && decide (z≤4096))):=Lib.hid (by rw [HR1.out];simp [h1])
          clear h1
          by_cases h2:25≤z
          · have HR3:Hid (rightE ⟨k,v,c,z⟩=decide (z≤4096)):=Lib.hid (by rw [HR2.out,decide_eq_true (show 24 < z by omega),Bool.true_and])
            go_enter Tryz.func65, Tryz.ntmps65
            go_wp2_with fail
            refine (HK.out _).mono ?_
            rintro e w1 ⟨rfl,rfl⟩
            go_wp2_with fail
            refine (HKD.out _).mono ?_
            rintro e w1 ⟨rfl,rfl⟩
            go_wp2_with fail
            go_ret
            exact ⟨by rw [HR3.out];rfl,HM.out⟩
          · have HR3:Hid (rightE ⟨k,v,c,z⟩=false):=Lib.hid (by rw [HR2.out,decide_eq_false (show ¬ 24 < z by omega),Bool.false_and])
            go_enter Tryz.func65, Tryz.ntmps65
            go_wp2_with fail
            refine (HK.out _).mono ?_
            rintro e w1 ⟨rfl,rfl⟩
            go_wp2_with fail
            refine (HKD.out _).mono ?_
            rintro e w1 ⟨rfl,rfl⟩
            go_wp2_with fail
            go_ret
            exact ⟨by rw [HR3.out];rfl,HM.out⟩
        · have h1b:((v.size:Int) == 0)=false:=by rw [beq_eq_false_iff_ne];omega
          have HR2:Hid (rightE ⟨k,v,c,z⟩=false):=Lib.hid (by rw [HR1.out];simp [h1])
          clear h1
          go_enter Tryz.func65, Tryz.ntmps65
          go_wp2_with fail
          refine (HK.out _).mono ?_
          rintro e w1 ⟨rfl,rfl⟩
          go_wp2_with fail
          refine (HKD.out _).mono ?_
          rintro e w1 ⟨rfl,rfl⟩
          go_wp2_with fail
          go_ret
          exact ⟨by rw [HR2.out];rfl,HM.out⟩
theorem entry07_t (e:EntryA) (w:World) (b:Bool) (hb:rightE e=b) :
    Calls Tryz.prog 65 #[.agg #[.string e.key,.string e.value,.int .i64 e.chain,.int .i64 e.size]] w fun x w'=>x=.returned (.bool b)∧Ext w w':=by
  subst hb
  exact entry07_c e.key e.value e.chain e.size w
set_option maxRecDepth 100000 in
theorem in07_any (l:List Int) (v:Value) (hl:Sl F w 1 encI v l) (n:Int) :
    Calls Tryz.prog 67 #[v,.int .i64 n] w fun x w'=>x=.returned (.bool (decide (n ∈ l)))∧w=w':=by
  obtain ⟨la,lc,rfl,h1,h2,h3,hll⟩:=hl
  unfold maxLen at h2
  have HLL:=Lib.hid hll
  clear hll
  go_enter Tryz.func67, Tryz.ntmps67
  go_wp2_with fail
  go_loopg [5] l.length (fun m v5 wr=>wr=w∧∃ (k:Nat),k+m=l.length∧v5=.int .i64 (k:Int)∧Hid (n ∉ l.take k))
  case atStart=>exact ⟨rfl,0,by omega,rfl,Lib.hid (by simp)⟩
  case round =>
    obtain ⟨rfl,k,hkm,rfl,HS⟩:=hrel
    by_cases hlt:k < l.length
    · obtain ⟨b,off,rfl,hb,hF,hc⟩:=Sl.at HLL.out (Mods.refl F wr) (fun _ _ f=>f) k hlt
      obtain ⟨x,hx⟩:∃ x,l[k]? = some x:=⟨_,List.getElem?_eq_getElem hlt⟩
      have hx':l[k]=x:=by rw [List.getElem?_eq_getElem hlt] at hx;exact Option.some.inj hx
      rw [hx'] at hc
      have c0:wr.cell? ⟨b,off+k,none⟩=some (.int .i64 x):=by have:=hc 0 _ rfl;simpa using this
      have HX:=Lib.hid hx
      clear hc hx hx'
      have i1:(0:Int)≤(k:Int):=by omega
      have i2:(k:Int) < (l.length:Int):=by omega
      by_cases hxn:x=n
      · subst hxn
        have HR:Hid (decide (x ∈ l)=true):=Lib.hid (decide_eq_true (List.mem_of_getElem? HX.out))
        go_wp2_with fail
        go_ret
        exact ⟨by rw [HR.out];rfl,rfl⟩
      · have hb1:(x == n)=false:=beq_eq_false_iff_ne.2 hxn
        have HS2:Hid (n ∉ l.take (k+1)):=Lib.hid (by
          rw [take_one l k x HX.out,List.mem_append,List.mem_singleton]
          exact fun h=>h.elim HS.out (fun e=>hxn e.symm))
        clear hxn
        go_wp2_with fail
        go_roundg (gk - 1)
        case measure=>omega
        case rel=>exact ⟨rfl,k+1,by omega,by go_num,HS2⟩
    · have HR:Hid (decide (n ∈ l)=false):=Lib.hid (decide_eq_false (by have:=HS.out;rwa [List.take_of_length_le (by omega)] at this))
      go_wp2_with fail
      go_ret
      exact ⟨by rw [HR.out];rfl,rfl⟩
end
end Go.Proofs.YtphafjmdhmpkbaaGreatDoor
