/- ref07.Get. -/
import Derived.Test.YtmgfneijcfjlfaaGreatDoorK45
import Derived.Test.YtmgfneijcfjlfaaGreatDoorK28
namespace Go.Proofs.YtmgfneijcfjlfaaGreatDoor
open Go.RowKit
attribute [local go_sem ↓] Go.wp_at_zero Go.wp_at_succ
section
variable {F : Nat → Prop} {w w' wr w2 : World}
/-- what ref07.Get answers. -/
def Got07 (lf : Bool) (l : List UInt8) (w : World) (e : Ending) (w' : World) : Prop :=
  (match getN lf l with
  | some n => ∃ ve vk vi, e = .returned (.tuple #[.agg #[.bool n.leaf, ve, vk, vi], .bool true]) ∧ Sl NoF w' 4 encE ve n.entries ∧ Sl NoF w' 1 encS vk n.keys ∧ Sl NoF w' 1 encI vi n.kids
  | none => e = .returned (.tuple #[nodeZ, .bool false])) ∧ Ext w w'
theorem one07_t (l : List UInt8) (bv : Value) (hb : Sl F w 1 encB bv l) (hl : l.length ≤ 100000) (p : Int) (hp : -1 ≤ p ∧ p ≤ 1000000) (x : EntryA) (q : Int) (hx : rfOne l p = (x, q)) :
    Calls Tryz.prog 49 #[bv, .int .i64 p] w fun e w' => e = .returned (.tuple #[.agg #[.string x.key, .string x.value, .int .i64 x.chain, .int .i64 x.size], .int .i64 q]) ∧ Ext w w' := by
  have := one07_any l bv hb hl p hp
  unfold One07 at this
  rw [hx] at this
  exact this
set_option maxRecDepth 100000 in
set_option maxHeartbeats 4000000 in
theorem get07L_any (l : List UInt8) (bv : Value) (hb : Sl F w 1 encB bv l) (hl : l.length ≤ 900) :
    Calls Tryz.prog 23 #[.bool true, bv] w (Got07 true l w) := by
  obtain ⟨many, at0, hx0⟩ : ∃ n q, rfTake l 0 2 = (n, q) := ⟨_, _, rfl⟩
  have hq0 := rfTake_b l 0 2 (.inr (.inl rfl)) (by omega)
  have hs0 := takeF_small l 0 2 (.inr (.inl rfl))
  rw [hx0] at hq0
  obtain ⟨hq1, hq2, hq3, _⟩ := hq0
  simp only at hq1 hq2 hq3
  have m0 : Ext w ((w.alloc (.cells #[.bool false, .slice none 0 0, .slice none 0 0, .slice none 0 0] 57)).alloc (.cells #[.bool true, .slice none 0 0, .slice none 0 0, .slice none 0 0] 57)) := ((Mods.refl _ w).alloc _).alloc _
  have HT0 := Lib.hid (take07_t l bv (hb.ext m0) 0 (by omega) 2 (.inr (.inl rfl)) many at0 hx0 2 rfl)
  have HS0 : Hid (RfS w ((w.alloc (.cells #[.bool false, .slice none 0 0, .slice none 0 0, .slice none 0 0] 57)).alloc (.cells #[.bool true, .slice none 0 0, .slice none 0 0, .slice none 0 0] 57)) true [] [] [] (.slice none 0 0) (.slice none 0 0) (.slice none 0 0) (.slice none 0 0) (.slice none 0 0) (.slice none 0 0)) := Lib.hid
    ⟨m0, (Blk.new w _ _).alloc _, heap_at (by simp), Own.nil _ _ _ _ _ _, Own.nil _ _ _ _ _ _, Own.nil _ _ _ _ _ _⟩
  have HND0 : Hid (rfNode true l = (⟨true, (rfEntries l many at0 []).1, [], []⟩, (rfEntries l many at0 []).2)) := Lib.hid (by unfold rfNode; simp only [hx0, if_true])
  have HBS := Lib.hid hb
  obtain ⟨ba, bc, rfl, hb1, hb2, hb3, _⟩ := hb
  unfold maxLen at hb2
  clear m0 hx0 hs0
  go_enter Tryz.func23, Tryz.ntmps23
  go_wp2_with fail
  refine (HT0.out).mono ?_
  rintro e w1 ⟨rfl, rfl⟩
  go_wp2_with fail
  go_loopg [8, 9] many (fun m v8 v9 wr => ∃ (k : Nat) (at_ : Int) (es : List EntryA) (ve : Value), k + m = many ∧ v8 = .int .i64 at_ ∧ v9 = .int .i64 (k : Int) ∧ -1 ≤ at_ ∧ at_ ≤ (l.length : Int) ∧ es.length ≤ l.length + 1 ∧ (0 ≤ at_ → (es.length : Int) ≤ at_) ∧ Hid (RfS w wr true es [] [] ve (.slice none 0 0) (.slice none 0 0) ve (.slice none 0 0) (.slice none 0 0)) ∧ Hid (rfEntries l m at_ es = rfEntries l many at0 []))
  case atStart => exact ⟨0, at0, [], _, by omega, rfl, rfl, hq2, hq3, by simp, fun h => by simpa using h, HS0, Lib.hid rfl⟩
  case round =>
    obtain ⟨k, at_, es, ve, hkm, rfl, rfl, ha1, ha2, hel, hea, HS, HQ⟩ := hrel
    by_cases hgo : k < many ∧ 0 ≤ at_
    · obtain ⟨hg1, hg2⟩ := hgo
      obtain ⟨m, rfl⟩ : ∃ m, gk = m + 1 := ⟨gk - 1, by omega⟩
      obtain ⟨x, q, hx⟩ : ∃ x q, rfOne l at_ = (x, q) := ⟨_, _, rfl⟩
      have hob := rfOne_b l at_ ha1
      rw [hx] at hob
      obtain ⟨ho1, ho2, ho3⟩ := hob
      simp only at ho1 ho2 ho3
      have HO := Lib.hid (one07_t l (.slice ba l.length bc) (HBS.out.ext HS.out.ext) (by omega) at_ ⟨by omega, by omega⟩ x q hx)
      have HQ2 : Hid (rfEntries l m q (es ++ [x]) = rfEntries l many at0 []) := Lib.hid (by
        rw [← HQ.out]
        conv => rhs; rw [rfEntries]
        rw [if_neg (by omega), hx])
      have hel2 : (es.length : Int) ≤ at_ := hea hg2
      obtain ⟨ea, ec, rfl, hf1, hf2⟩ := HS.out.oe.form
      unfold maxLen at hf2
      clear hx hea
      go_wp2_with fail
      refine (HO.out).mono ?_
      rintro e w4 ⟨rfl, hm4⟩
      have m5 : Ext w4 (w4.alloc (.cells #[.string x.key, .string x.value, .int .i64 x.chain, .int .i64 x.size] 107)) := (Mods.refl _ w4).alloc _
      have HS5 := Lib.hid (HS.out.step (hm4.trans m5))
      have hbn := (HS.out.step hm4).nd.lt
      have hbn2 := HS5.out.nd.lt
      have n1 := HS5.out.nd.cell (o := 1) (v := .slice ea es.length ec) rfl
      have hX5 := Lib.hid (Blk.new w4 #[.string x.key, .string x.value, .int .i64 x.chain, .int .i64 x.size] 107)
      have hbs := HS5.out.base
      clear hm4 m5
      go_wp2_with (at_builtin; refine wpl_app2 Tryz.elE encE_ok rfl _ _ rfl (w.heap.size + 2) (.slice ea es.length ec) _ es [x] rfl rfl (HS5.out.oe.ext ((Mods.refl _ _).alloc _)) (Sl.one (F := NoF) (heap_at (by simp)) (fun f => f)) (by simp only [List.length_cons, List.length_nil]; omega) (by simp at hbs ⊢; omega) (fun f => f) ?_; simp only [List.length_cons, List.length_nil, Nat.zero_add]; intro a6 c6 w6 hO6 hm6 hat6; have hS6 := (HS5.out.step ((Mods.refl _ _).alloc _)).appE hm6 hO6; have hb6 := hS6.nd.lt; have z1 := hS6.nd.cell (o := 1) (v := .slice ea es.length ec) rfl; have zf := hS6.nd.frozen)
      have HS7 := Lib.hid (hS6.put 1 (.slice a6 (es.length + 1) c6) (.slice a6 (es.length + 1) c6) (.slice none 0 0) (.slice none 0 0) rfl)
      clear hO6 hm6 hat6 hS6 z1 zf hb6
      go_wp2_with fail
      go_roundg m
      case measure => omega
      case rel => exact ⟨k + 1, q, es ++ [x], _, by omega, rfl, by go_num, ho1, ho2, by simp only [List.length_append, List.length_cons, List.length_nil]; omega, fun h => by simp only [List.length_append, List.length_cons, List.length_nil]; have := ho3 h; omega, HS7, HQ2⟩
    · have HND : Hid (rfNode true l = (⟨true, es, [], []⟩, at_)) := Lib.hid (by
        have e1 : rfEntries l gk at_ es = (es, at_) := by
          cases gk with
          | zero => rfl
          | succ g => rw [rfEntries, if_pos (by omega)]
        rw [HND0.out, ← HQ.out, e1])
      have d1 : ¬ ((k : Int) < (many : Int) ∧ 0 ≤ at_) := by omega
      clear d1
      have HRN : Hid (getN true l = (if 0 ≤ at_ ∧ rightN (⟨true, es, ([] : List ByteArray), ([] : List Int)⟩ : NodeA) = true ∧ bytesN (⟨true, es, ([] : List ByteArray), ([] : List Int)⟩ : NodeA) = l then some (⟨true, es, ([] : List ByteArray), ([] : List Int)⟩ : NodeA) else none)) := Lib.hid (by
        rw [← getR_eq]
        unfold getR
        rw [HND.out])
      have hbr := HS.out.res.lt
      have hbn := HS.out.nd.lt
      obtain ⟨ea, ec, rfl, ha3, ha4⟩ := HS.out.oe.form
      have r0 := HS.out.res.cell (o := 0) (v := .bool false) rfl
      have r1 := HS.out.res.cell (o := 1) (v := .slice none 0 0) rfl
      have r2 := HS.out.res.cell (o := 2) (v := .slice none 0 0) rfl
      have r3 := HS.out.res.cell (o := 3) (v := .slice none 0 0) rfl
      have rf := HS.out.res.frozen
      have n0 := HS.out.nd.cell (o := 0) (v := .bool true) rfl
      have n1 := HS.out.nd.cell (o := 1) (v := .slice ea es.length ec) rfl
      have n2 := HS.out.nd.cell (o := 2) (v := .slice none 0 0) rfl
      have n3 := HS.out.nd.cell (o := 3) (v := .slice none 0 0) rfl
      have HFAIL : Hid (∀ (W : World), Ext wr W → ∀ (fr : Act), fr.tmps.getD 4 undef = .pointer (some ⟨w.heap.size, 0, none⟩) → fr.tmps.getD 5 undef = .bool false → fr.defers = [] → getN true l = none → bodyPost Tryz.prog Tryz.f23 (Got07 true l w) Exit.ret fr ((((W.setCell ⟨w.heap.size, 0, none⟩ (.bool false)).setCell ⟨w.heap.size, 1, none⟩ (.slice none 0 0)).setCell ⟨w.heap.size, 2, none⟩ (.slice none 0 0)).setCell ⟨w.heap.size, 3, none⟩ (.slice none 0 0))) := Lib.hid (by
        intro W mW fr hfr hfr5 hfd hno
        have hn := (HS.out.res.ext mW).set4 (.bool false) (.slice none 0 0) (.slice none 0 0) (.slice none 0 0)
        refine bodyPost_ret (results_row_tmp rfl _ _ w.heap.size 57 #[.bool false, .slice none 0 0, .slice none 0 0, .slice none 0 0] _ hfr hn Tryz.underlying57 rfl Tryz.nodeSize) hfd ?_
        rw [hfr5]
        refine ⟨by rw [hno], ?_⟩
        exact (HS.out.ext.trans mW).trans' (Mods.set4 (F := fun k => k = w.heap.size) (Mods.refl _ W) (.inr rfl) _ _ _ _) (fun i hi e => by omega))
      by_cases hneg : at_ < 0
      · have hno : Hid (getN true l = none) := Lib.hid (by rw [HRN.out, if_neg (fun h => by omega)])
        by_cases hkm2 : (k : Int) < (many : Int)
        all_goals
          go_wp2_with fail
          all_goals exact HFAIL.out _ (Mods.refl _ _) _ rfl rfl rfl hno.out
      · obtain ⟨s1, s2, s3⟩ := HS.out.sls (by first | omega | simp) (by first | omega | simp) (by first | omega | simp)
        have hkm2 : ¬ (k : Int) < (many : Int) := by omega
        have HSL := Lib.hid (And.intro s1 (And.intro s2 s3))
        cases hrt : rightN (⟨true, es, ([] : List ByteArray), ([] : List Int)⟩ : NodeA) with
        | false =>
          have HRC := Lib.hid (right07_t (w := wr) (⟨true, es, ([] : List ByteArray), ([] : List Int)⟩ : NodeA) _ _ _ HSL.out.1 HSL.out.2.1 HSL.out.2.2 false hrt)
          have hno : Hid (getN true l = none) := Lib.hid (by rw [HRN.out, if_neg (fun h => by rw [hrt] at h; exact absurd h.2.1 (by simp))])
          clear s1 s2 s3 hrt
          go_wp2_with fail
          refine (HRC.out).mono ?_
          rintro e w6 ⟨rfl, hm6⟩
          have hr6 := HS.out.res.ext hm6
          have hrl6 := hr6.lt
          have r0 := hr6.cell (o := 0) (v := .bool false) rfl
          have r1 := hr6.cell (o := 1) (v := .slice none 0 0) rfl
          have r2 := hr6.cell (o := 2) (v := .slice none 0 0) rfl
          have r3 := hr6.cell (o := 3) (v := .slice none 0 0) rfl
          have rf := hr6.frozen
          have HM6 := Lib.hid hm6
          clear hm6 hr6
          go_wp2_with fail
          all_goals exact HFAIL.out _ HM6.out _ rfl rfl rfl hno.out
        | true =>
          have HRC := Lib.hid (right07_t (w := wr) (⟨true, es, ([] : List ByteArray), ([] : List Int)⟩ : NodeA) _ _ _ HSL.out.1 HSL.out.2.1 HSL.out.2.2 true hrt)
          have HRT := Lib.hid hrt
          have hfew : (bytesN (⟨true, es, ([] : List ByteArray), ([] : List Int)⟩ : NodeA)).length ≤ 100000 := bytesN_few hrt (by first | (simp only []; omega) | simp) (by first | (simp only []; omega) | simp)
          have HFW := Lib.hid hfew
          clear s1 s2 s3 hrt hfew
          go_wp2_with fail
          refine (HRC.out).mono ?_
          rintro e w6 ⟨rfl, hm6⟩
          have HS6 := Lib.hid (HS.out.step hm6)
          have hbn6 := HS6.out.nd.lt
          have n0 := HS6.out.nd.cell (o := 0) (v := .bool true) rfl
          have n1 := HS6.out.nd.cell (o := 1) (v := .slice ea es.length ec) rfl
          have n2 := HS6.out.nd.cell (o := 2) (v := .slice none 0 0) rfl
          have n3 := HS6.out.nd.cell (o := 3) (v := .slice none 0 0) rfl
          have HBC := Lib.hid (bytes07_any (w := w6) (⟨true, es, ([] : List ByteArray), ([] : List Int)⟩ : NodeA) _ _ _ (HSL.out.1.ext hm6) (HSL.out.2.1.ext hm6) (HSL.out.2.2.ext hm6) (okB_right HRT.out) HFW.out)
          have HM6 := Lib.hid hm6
          clear hm6
          go_wp2_with fail
          refine (HBC.out).mono ?_
          rintro e w7 ⟨bb, rfl, hO7, hm7⟩
          have HSC := Lib.hid (SameBytes_any bb (.slice ba l.length bc) (bytesN (⟨true, es, ([] : List ByteArray), ([] : List Int)⟩ : NodeA)) l (hO7.sl encB_ok.len (by have := HFW.out; omega)) (HBS.out.ext (HS6.out.ext.trans hm7)))
          have HM7 := Lib.hid (HM6.out.trans hm7)
          obtain ⟨b7, c7, rfl, _, _⟩ := hO7.form
          clear hm7 hO7
          by_cases heq : bytesN (⟨true, es, ([] : List ByteArray), ([] : List Int)⟩ : NodeA) = l
          · have HEQ := Lib.hid heq
            rw [decide_eq_true heq] at HSC
            have HYES : Hid (getN true l = some (⟨true, es, ([] : List ByteArray), ([] : List Int)⟩ : NodeA)) := Lib.hid (by rw [HRN.out, if_pos ⟨by omega, HRT.out, HEQ.out⟩])
            clear heq
            go_wp2_with fail
            refine (HSC.out).mono ?_
            rintro e w8 ⟨rfl, hm8⟩
            have HS8 := Lib.hid (HS.out.step (HM7.out.trans hm8))
            have hbn8 := HS8.out.nd.lt
            have hbr8 := HS8.out.res.lt
            have n0 := HS8.out.nd.cell (o := 0) (v := .bool true) rfl
            have n1 := HS8.out.nd.cell (o := 1) (v := .slice ea es.length ec) rfl
            have n2 := HS8.out.nd.cell (o := 2) (v := .slice none 0 0) rfl
            have n3 := HS8.out.nd.cell (o := 3) (v := .slice none 0 0) rfl
            have rf := HS8.out.res.frozen
            have hX : ∀ v, w8.cell? ⟨w.heap.size, 0, none⟩ = some v → True := fun _ _ => trivial
            have r0 := HS8.out.res.cell (o := 0) (v := .bool false) rfl
            have r1 := HS8.out.res.cell (o := 1) (v := .slice none 0 0) rfl
            have r2 := HS8.out.res.cell (o := 2) (v := .slice none 0 0) rfl
            have r3 := HS8.out.res.cell (o := 3) (v := .slice none 0 0) rfl
            have HBR := Lib.hid (HS8.out.res.set4 (.bool true) (.slice ea es.length ec) (.slice none 0 0) (.slice none 0 0))
            have m9 := Mods.set4 (F := fun k => k = w.heap.size) (Mods.refl _ w8) (R := w.heap.size) (.inr rfl) (.bool true) (.slice ea es.length ec) (.slice none 0 0) (.slice none 0 0)
            have HX9 := Lib.hid (HS8.out.ext.trans' m9 (fun i hi e => by omega))
            have HL9 : Hid (Sl NoF _ 4 encE (.slice ea es.length ec) es ∧ Sl NoF _ 1 encS (.slice none 0 0) ([] : List ByteArray) ∧ Sl NoF _ 1 encI (.slice none 0 0) ([] : List Int)) := Lib.hid
              ⟨(HS8.out.oe.mods m9 (fun g hg e => by have := HS8.out.oe.lt g hg; omega)).sl encE_ok.len (by first | omega | simp), (HS8.out.ok.mods m9 (fun g hg e => by have := HS8.out.ok.lt g hg; omega)).sl encS_ok.len (by first | omega | simp), (HS8.out.oi.mods m9 (fun g hg e => by have := HS8.out.oi.lt g hg; omega)).sl encI_ok.len (by first | omega | simp)⟩
            clear hm8 m9
            go_wp2_with fail
            refine bodyPost_ret (results_row_tmp rfl _ _ w.heap.size 57 #[.bool true, .slice ea es.length ec, .slice none 0 0, .slice none 0 0] _ rfl HBR.out Tryz.underlying57 rfl Tryz.nodeSize) rfl ?_
            refine ⟨?_, HX9.out⟩
            rw [HYES.out]
            exact ⟨_, _, _, rfl, HL9.out.1, HL9.out.2.1, HL9.out.2.2⟩
          · rw [decide_eq_false heq] at HSC
            have hno : Hid (getN true l = none) := Lib.hid (by rw [HRN.out, if_neg (fun h => heq h.2.2)])
            clear heq
            go_wp2_with fail
            refine (HSC.out).mono ?_
            rintro e w8 ⟨rfl, hm8⟩
            have HM8 := Lib.hid (HM7.out.trans hm8)
            have hr6 := HS.out.res.ext HM8.out
            have hrl6 := hr6.lt
            have r0 := hr6.cell (o := 0) (v := .bool false) rfl
            have r1 := hr6.cell (o := 1) (v := .slice none 0 0) rfl
            have r2 := hr6.cell (o := 2) (v := .slice none 0 0) rfl
            have r3 := hr6.cell (o := 3) (v := .slice none 0 0) rfl
            have rf := hr6.frozen
            clear hm8 hr6
            go_wp2_with fail
            all_goals exact HFAIL.out _ HM8.out _ rfl rfl rfl hno.out
set_option maxRecDepth 100000 in
set_option maxHeartbeats 4000000 in
theorem get07I_any (l : List UInt8) (bv : Value) (hb : Sl F w 1 encB bv l) (hl : l.length ≤ 900) :
    Calls Tryz.prog 23 #[.bool false, bv] w (Got07 false l w) := by
  obtain ⟨many, at0, hx0⟩ : ∃ n q, rfTake l 0 2 = (n, q) := ⟨_, _, rfl⟩
  have hq0 := rfTake_b l 0 2 (.inr (.inl rfl)) (by omega)
  rw [hx0] at hq0
  obtain ⟨hq1, hq2, hq3, _⟩ := hq0
  simp only at hq1 hq2 hq3
  obtain ⟨k0, at1, hx1⟩ : ∃ n q, rfTake l at0 4 = (n, q) := ⟨_, _, rfl⟩
  have hp0 := rfTake_b l at0 4 (.inr (.inr rfl)) (by omega)
  rw [hx1] at hp0
  obtain ⟨hp1, hp2, hp3, _⟩ := hp0
  simp only at hp1 hp2 hp3
  have m0 : Ext w ((w.alloc (.cells #[.bool false, .slice none 0 0, .slice none 0 0, .slice none 0 0] 57)).alloc (.cells #[.bool false, .slice none 0 0, .slice none 0 0, .slice none 0 0] 57)) := ((Mods.refl _ w).alloc _).alloc _
  have HT0 := Lib.hid (take07_t l bv (hb.ext m0) 0 (by omega) 2 (.inr (.inl rfl)) many at0 hx0 2 rfl)
  have HT1 := Lib.hid (take07_t l bv (hb.ext m0) at0 ⟨hq2, by omega⟩ 4 (.inr (.inr rfl)) k0 at1 hx1 4 rfl)
  have HS0 : Hid (RfS w (((w.alloc (.cells #[.bool false, .slice none 0 0, .slice none 0 0, .slice none 0 0] 57)).alloc (.cells #[.bool false, .slice none 0 0, .slice none 0 0, .slice (some ⟨w.heap.size + 1 + 1, 0, none⟩) 1 1] 57)).alloc (.cells #[.int .i64 (k0 : Int)] 3)) false [] [] [(k0 : Int)] (.slice none 0 0) (.slice none 0 0) (.slice (some ⟨w.heap.size + 1 + 1, 0, none⟩) 1 1) (.slice none 0 0) (.slice none 0 0) (.slice (some ⟨w.heap.size + 1 + 1, 0, none⟩) 1 1)) := Lib.hid
    ⟨(((Mods.refl _ w).alloc _).alloc _).alloc _, ((Blk.new w _ _).alloc _).alloc _, Blk.alloc (b := w.heap.size + 1) (heap_at (by simp)) _, Own.nil _ _ _ _ _ _, Own.nil _ _ _ _ _ _, Own.made (l := [(k0 : Int)]) (cur := #[.int .i64 (k0 : Int)]) (cap := 1) (heap_at (by simp)) (by omega) (fun f => f) (Nat.le_refl _) (by simp [maxLen]) (by simp) (by simp [encI]) (fun _ => rfl)⟩
  have HND0 : Hid (rfNode false l = (⟨false, [], (rfKeys l (many - 1) at1 [] [(k0 : Int)]).1, (rfKeys l (many - 1) at1 [] [(k0 : Int)]).2.1⟩, (rfKeys l (many - 1) at1 [] [(k0 : Int)]).2.2)) := Lib.hid (by unfold rfNode; simp only [hx0, hx1, Bool.false_eq_true, if_false])
  have HBS := Lib.hid hb
  obtain ⟨ba, bc, rfl, hb1, hb2, hb3, _⟩ := hb
  unfold maxLen at hb2
  clear m0 hx0 hx1
  go_enter Tryz.func23, Tryz.ntmps23
  go_wp2_with fail
  refine (HT0.out).mono ?_
  rintro e w1 ⟨rfl, rfl⟩
  go_wp2_with fail
  refine (HT1.out).mono ?_
  rintro e w1 ⟨rfl, rfl⟩
  go_wp2_with fail
  go_loopg [8, 14] (many - 1) (fun m v8 v14 wr => ∃ (k : Nat) (at_ : Int) (ks : List ByteArray) (is : List Int) (vk vi : Value), (m ≤ many - k ∧ many - k ≤ m) ∧ 1 ≤ k ∧ v8 = .int .i64 at_ ∧ v14 = .int .i64 (k : Int) ∧ -1 ≤ at_ ∧ at_ ≤ (l.length : Int) ∧ ks.length ≤ l.length + 1 ∧ (is.length ≤ ks.length + 1 ∧ ks.length + 1 ≤ is.length) ∧ (0 ≤ at_ → (ks.length : Int) ≤ at_) ∧ (k ≤ many ∨ k = 1) ∧ Hid (RfS w wr false [] ks is (.slice none 0 0) vk vi (.slice none 0 0) vk vi) ∧ Hid (rfKeys l m at_ ks is = rfKeys l (many - 1) at1 [] [(k0 : Int)]))
  case atStart => exact ⟨1, at1, [], [(k0 : Int)], _, _, ⟨by omega, by omega⟩, by omega, rfl, rfl, hp2, hp3, by simp, by simp, fun h => by simpa using h, .inr rfl, HS0, Lib.hid rfl⟩
  case round =>
    obtain ⟨k, at_, ks, is, vk, vi, hkm, hk1, rfl, rfl, ha1, ha2, hel, hil, hea, hkk, HS, HQ⟩ := hrel
    by_cases hgo : k < many ∧ 0 ≤ at_
    · obtain ⟨hg1, hg2⟩ := hgo
      obtain ⟨m, rfl⟩ : ∃ m, gk = m + 1 := ⟨gk - 1, by omega⟩
      obtain ⟨s, mid, hxs⟩ : ∃ s q, rfWord l at_ = (s, q) := ⟨_, _, rfl⟩
      have hw1 := rfWord_b l at_ ha1
      have hw2 := rfWord_up l at_
      rw [hxs] at hw1 hw2
      obtain ⟨hw3, hw4, _⟩ := hw1
      simp only at hw2 hw3 hw4
      obtain ⟨kd, q, hxk⟩ : ∃ n q, rfTake l mid 4 = (n, q) := ⟨_, _, rfl⟩
      have ht1 := rfTake_b l mid 4 (.inr (.inr rfl)) hw3
      have ht2 := rfTake_up l mid 4
      rw [hxk] at ht1 ht2
      obtain ⟨ht3, ht4, ht5, _⟩ := ht1
      simp only at ht2 ht3 ht4 ht5
      have HO := Lib.hid (word07_t l (.slice ba l.length bc) (HBS.out.ext HS.out.ext) (by omega) at_ ⟨by omega, by omega⟩ s mid hxs)
      have HP := Lib.hid (take07_t l (.slice ba l.length bc) (HBS.out.ext HS.out.ext) mid ⟨hw3, by omega⟩ 4 (.inr (.inr rfl)) kd q hxk 4 rfl)
      have HQ2 : Hid (rfKeys l m q (ks ++ [s]) (is ++ [(kd : Int)]) = rfKeys l (many - 1) at1 [] [(k0 : Int)]) := Lib.hid (by
        rw [← HQ.out]
        conv => rhs; rw [rfKeys]
        rw [if_neg (by omega)]
        simp only [hxs, hxk])
      have hel2 : (ks.length : Int) ≤ at_ := hea hg2
      have HUP : Hid (0 ≤ q → at_ + 1 ≤ q) := Lib.hid (fun h => by
        obtain ⟨a1, a2⟩ := ht2 h
        have := (hw2 a1).2
        omega)
      obtain ⟨ka, kc, rfl, hf1, hf2⟩ := HS.out.ok.form
      obtain ⟨ia, ic, rfl, hf3, hf4⟩ := HS.out.oi.form
      unfold maxLen at hf2 hf4
      have hbn := HS.out.nd.lt
      have n2 := HS.out.nd.cell (o := 2) (v := .slice ka ks.length kc) rfl
      have n3 := HS.out.nd.cell (o := 3) (v := .slice ia is.length ic) rfl
      have hbs := HS.out.base
      clear hxs hxk hea hw2 ht2
      go_wp2_with fail
      refine (HO.out).mono ?_
      rintro e w4 ⟨rfl, rfl⟩
      go_wp2_with fail
      refine (HP.out).mono ?_
      rintro e w4 ⟨rfl, rfl⟩
      go_wp2_with (first | (at_builtin; refine wpl_app2 Tryz.elS encS_ok rfl _ _ rfl (w.heap.size + 2) (.slice ka ks.length kc) _ ks [s] rfl rfl (HS.out.ok.ext ((Mods.refl _ _).alloc _)) (Sl.one (F := NoF) (heap_at (by simp)) (fun f => f)) (by simp only [List.length_cons, List.length_nil]; omega) (by simp at hbs ⊢; omega) (fun f => f) ?_; simp only [List.length_cons, List.length_nil, Nat.zero_add]; intro a6 c6 w6 hO6 hm6 hat6; have hS6 := (HS.out.step ((Mods.refl _ _).alloc _)).appK hm6 hO6; have hb6 := hS6.nd.lt; have z2 := hS6.nd.cell (o := 2) (v := .slice ka ks.length kc) rfl; have z3 := hS6.nd.cell (o := 3) (v := .slice ia is.length ic) rfl; have zf := hS6.nd.frozen; have hS7 := hS6.put 2 (.slice a6 (ks.length + 1) c6) (.slice none 0 0) (.slice a6 (ks.length + 1) c6) (.slice ia is.length ic) rfl; have hbs7 := hS7.base) | (at_builtin; refine wpl_app2 Tryz.elI encI_ok rfl _ _ rfl (w.heap.size + 2) (.slice ia is.length ic) _ is [(kd : Int)] rfl rfl (hS7.oi.ext ((Mods.refl _ _).alloc _)) (Sl.one (F := NoF) (heap_at (by simp)) (fun f => f)) (by simp only [List.length_cons, List.length_nil]; omega) (by simp at hbs7 ⊢; omega) (fun f => f) ?_; simp only [List.length_cons, List.length_nil, Nat.zero_add]; intro a8 c8 w8 hO8 hm8 hat8; have hS8 := (hS7.step ((Mods.refl _ _).alloc _)).appI hm8 hO8; have hb8 := hS8.nd.lt; have y3 := hS8.nd.cell (o := 3) (v := .slice ia is.length ic) rfl; have yf := hS8.nd.frozen))
      have HS9 := Lib.hid (hS8.put 3 (.slice a8 (is.length + 1) c8) (.slice none 0 0) (.slice a6 (ks.length + 1) c6) (.slice a8 (is.length + 1) c8) rfl)
      clear hO8 hm8 hat8 hS8 hO6 hm6 hat6 hS6 hS7 z2 z3 zf hb6 hbs7 hb8 y3 yf
      go_wp2_with fail
      go_roundg m
      case measure => omega
      case rel => exact ⟨k + 1, q, ks ++ [s], is ++ [(kd : Int)], _, _, ⟨by omega, by omega⟩, by omega, rfl, by go_num, ht4, ht5, by simp only [List.length_append, List.length_cons, List.length_nil]; omega, by simp only [List.length_append, List.length_cons, List.length_nil]; omega, fun h => by simp only [List.length_append, List.length_cons, List.length_nil]; have := HUP.out h; omega, .inl (by omega), HS9, HQ2⟩
    · have HND : Hid (rfNode false l = (⟨false, [], ks, is⟩, at_)) := Lib.hid (by
        have e1 : rfKeys l gk at_ ks is = (ks, is, at_) := by
          cases gk with
          | zero => rfl
          | succ g => rw [rfKeys, if_pos (by omega)]
        rw [HND0.out, ← HQ.out, e1])
      have HRN : Hid (getN false l = (if 0 ≤ at_ ∧ rightN (⟨false, ([] : List EntryA), ks, is⟩ : NodeA) = true ∧ bytesN (⟨false, ([] : List EntryA), ks, is⟩ : NodeA) = l then some (⟨false, ([] : List EntryA), ks, is⟩ : NodeA) else none)) := Lib.hid (by
        rw [← getR_eq]
        unfold getR
        rw [HND.out])
      have hbr := HS.out.res.lt
      have hbn := HS.out.nd.lt
      obtain ⟨ka, kc, rfl, ha3, ha4⟩ := HS.out.ok.form
      obtain ⟨ia, ic, rfl, ha5, ha6⟩ := HS.out.oi.form
      have r0 := HS.out.res.cell (o := 0) (v := .bool false) rfl
      have r1 := HS.out.res.cell (o := 1) (v := .slice none 0 0) rfl
      have r2 := HS.out.res.cell (o := 2) (v := .slice none 0 0) rfl
      have r3 := HS.out.res.cell (o := 3) (v := .slice none 0 0) rfl
      have rf := HS.out.res.frozen
      have n0 := HS.out.nd.cell (o := 0) (v := .bool false) rfl
      have n1 := HS.out.nd.cell (o := 1) (v := .slice none 0 0) rfl
      have n2 := HS.out.nd.cell (o := 2) (v := .slice ka ks.length kc) rfl
      have n3 := HS.out.nd.cell (o := 3) (v := .slice ia is.length ic) rfl
      have HFAIL : Hid (∀ (W : World), Ext wr W → ∀ (fr : Act), fr.tmps.getD 4 undef = .pointer (some ⟨w.heap.size, 0, none⟩) → fr.tmps.getD 5 undef = .bool false → fr.defers = [] → getN false l = none → bodyPost Tryz.prog Tryz.f23 (Got07 false l w) Exit.ret fr ((((W.setCell ⟨w.heap.size, 0, none⟩ (.bool false)).setCell ⟨w.heap.size, 1, none⟩ (.slice none 0 0)).setCell ⟨w.heap.size, 2, none⟩ (.slice none 0 0)).setCell ⟨w.heap.size, 3, none⟩ (.slice none 0 0))) := Lib.hid (by
        intro W mW fr hfr hfr5 hfd hno
        have hn := (HS.out.res.ext mW).set4 (.bool false) (.slice none 0 0) (.slice none 0 0) (.slice none 0 0)
        refine bodyPost_ret (results_row_tmp rfl _ _ w.heap.size 57 #[.bool false, .slice none 0 0, .slice none 0 0, .slice none 0 0] _ hfr hn Tryz.underlying57 rfl Tryz.nodeSize) hfd ?_
        rw [hfr5]
        refine ⟨by rw [hno], ?_⟩
        exact (HS.out.ext.trans mW).trans' (Mods.set4 (F := fun k => k = w.heap.size) (Mods.refl _ W) (.inr rfl) _ _ _ _) (fun i hi e => by omega))
      by_cases hneg : at_ < 0
      · have hno : Hid (getN false l = none) := Lib.hid (by rw [HRN.out, if_neg (fun h => by omega)])
        by_cases hkm2 : (k : Int) < (many : Int)
        all_goals
          go_wp2_with fail
          all_goals exact HFAIL.out _ (Mods.refl _ _) _ rfl rfl rfl hno.out
      · obtain ⟨s1, s2, s3⟩ := HS.out.sls (by first | omega | simp) (by first | omega | simp) (by first | omega | simp)
        have hkm2 : ¬ (k : Int) < (many : Int) := by omega
        have HSL := Lib.hid (And.intro s1 (And.intro s2 s3))
        cases hrt : rightN (⟨false, ([] : List EntryA), ks, is⟩ : NodeA) with
        | false =>
          have HRC := Lib.hid (right07_t (w := wr) (⟨false, ([] : List EntryA), ks, is⟩ : NodeA) _ _ _ HSL.out.1 HSL.out.2.1 HSL.out.2.2 false hrt)
          have hno : Hid (getN false l = none) := Lib.hid (by rw [HRN.out, if_neg (fun h => by rw [hrt] at h; exact absurd h.2.1 (by simp))])
          clear s1 s2 s3 hrt
          go_wp2_with fail
          refine (HRC.out).mono ?_
          rintro e w6 ⟨rfl, hm6⟩
          have hr6 := HS.out.res.ext hm6
          have hrl6 := hr6.lt
          have r0 := hr6.cell (o := 0) (v := .bool false) rfl
          have r1 := hr6.cell (o := 1) (v := .slice none 0 0) rfl
          have r2 := hr6.cell (o := 2) (v := .slice none 0 0) rfl
          have r3 := hr6.cell (o := 3) (v := .slice none 0 0) rfl
          have rf := hr6.frozen
          have HM6 := Lib.hid hm6
          clear hm6 hr6
          go_wp2_with fail
          all_goals exact HFAIL.out _ HM6.out _ rfl rfl rfl hno.out
        | true =>
          have HRC := Lib.hid (right07_t (w := wr) (⟨false, ([] : List EntryA), ks, is⟩ : NodeA) _ _ _ HSL.out.1 HSL.out.2.1 HSL.out.2.2 true hrt)
          have HRT := Lib.hid hrt
          have hfew : (bytesN (⟨false, ([] : List EntryA), ks, is⟩ : NodeA)).length ≤ 100000 := bytesN_few hrt (by first | (simp only []; omega) | simp) (by first | (simp only []; omega) | simp)
          have HFW := Lib.hid hfew
          clear s1 s2 s3 hrt hfew
          go_wp2_with fail
          refine (HRC.out).mono ?_
          rintro e w6 ⟨rfl, hm6⟩
          have HS6 := Lib.hid (HS.out.step hm6)
          have hbn6 := HS6.out.nd.lt
          have n0 := HS6.out.nd.cell (o := 0) (v := .bool false) rfl
          have n1 := HS6.out.nd.cell (o := 1) (v := .slice none 0 0) rfl
          have n2 := HS6.out.nd.cell (o := 2) (v := .slice ka ks.length kc) rfl
          have n3 := HS6.out.nd.cell (o := 3) (v := .slice ia is.length ic) rfl
          have HBC := Lib.hid (bytes07_any (w := w6) (⟨false, ([] : List EntryA), ks, is⟩ : NodeA) _ _ _ (HSL.out.1.ext hm6) (HSL.out.2.1.ext hm6) (HSL.out.2.2.ext hm6) (okB_right HRT.out) HFW.out)
          have HM6 := Lib.hid hm6
          clear hm6
          go_wp2_with fail
          refine (HBC.out).mono ?_
          rintro e w7 ⟨bb, rfl, hO7, hm7⟩
          have HSC := Lib.hid (SameBytes_any bb (.slice ba l.length bc) (bytesN (⟨false, ([] : List EntryA), ks, is⟩ : NodeA)) l (hO7.sl encB_ok.len (by have := HFW.out; omega)) (HBS.out.ext (HS6.out.ext.trans hm7)))
          have HM7 := Lib.hid (HM6.out.trans hm7)
          obtain ⟨b7, c7, rfl, _, _⟩ := hO7.form
          clear hm7 hO7
          by_cases heq : bytesN (⟨false, ([] : List EntryA), ks, is⟩ : NodeA) = l
          · have HEQ := Lib.hid heq
            rw [decide_eq_true heq] at HSC
            have HYES : Hid (getN false l = some (⟨false, ([] : List EntryA), ks, is⟩ : NodeA)) := Lib.hid (by rw [HRN.out, if_pos ⟨by omega, HRT.out, HEQ.out⟩])
            clear heq
            go_wp2_with fail
            refine (HSC.out).mono ?_
            rintro e w8 ⟨rfl, hm8⟩
            have HS8 := Lib.hid (HS.out.step (HM7.out.trans hm8))
            have hbn8 := HS8.out.nd.lt
            have hbr8 := HS8.out.res.lt
            have n0 := HS8.out.nd.cell (o := 0) (v := .bool false) rfl
            have n1 := HS8.out.nd.cell (o := 1) (v := .slice none 0 0) rfl
            have n2 := HS8.out.nd.cell (o := 2) (v := .slice ka ks.length kc) rfl
            have n3 := HS8.out.nd.cell (o := 3) (v := .slice ia is.length ic) rfl
            have rf := HS8.out.res.frozen
            have hX : ∀ v, w8.cell? ⟨w.heap.size, 0, none⟩ = some v → True := fun _ _ => trivial
            have r0 := HS8.out.res.cell (o := 0) (v := .bool false) rfl
            have r1 := HS8.out.res.cell (o := 1) (v := .slice none 0 0) rfl
            have r2 := HS8.out.res.cell (o := 2) (v := .slice none 0 0) rfl
            have r3 := HS8.out.res.cell (o := 3) (v := .slice none 0 0) rfl
            have HBR := Lib.hid (HS8.out.res.set4 (.bool false) (.slice none 0 0) (.slice ka ks.length kc) (.slice ia is.length ic))
            have m9 := Mods.set4 (F := fun k => k = w.heap.size) (Mods.refl _ w8) (R := w.heap.size) (.inr rfl) (.bool false) (.slice none 0 0) (.slice ka ks.length kc) (.slice ia is.length ic)
            have HX9 := Lib.hid (HS8.out.ext.trans' m9 (fun i hi e => by omega))
            have HL9 : Hid (Sl NoF _ 4 encE (.slice none 0 0) ([] : List EntryA) ∧ Sl NoF _ 1 encS (.slice ka ks.length kc) ks ∧ Sl NoF _ 1 encI (.slice ia is.length ic) is) := Lib.hid
              ⟨(HS8.out.oe.mods m9 (fun g hg e => by have := HS8.out.oe.lt g hg; omega)).sl encE_ok.len (by first | omega | simp), (HS8.out.ok.mods m9 (fun g hg e => by have := HS8.out.ok.lt g hg; omega)).sl encS_ok.len (by first | omega | simp), (HS8.out.oi.mods m9 (fun g hg e => by have := HS8.out.oi.lt g hg; omega)).sl encI_ok.len (by first | omega | simp)⟩
            clear hm8 m9
            go_wp2_with fail
            refine bodyPost_ret (results_row_tmp rfl _ _ w.heap.size 57 #[.bool false, .slice none 0 0, .slice ka ks.length kc, .slice ia is.length ic] _ rfl HBR.out Tryz.underlying57 rfl Tryz.nodeSize) rfl ?_
            refine ⟨?_, HX9.out⟩
            rw [HYES.out]
            exact ⟨_, _, _, rfl, HL9.out.1, HL9.out.2.1, HL9.out.2.2⟩
          · rw [decide_eq_false heq] at HSC
            have hno : Hid (getN false l = none) := Lib.hid (by rw [HRN.out, if_neg (fun h => heq h.2.2)])
            clear heq
            go_wp2_with fail
            refine (HSC.out).mono ?_
            rintro e w8 ⟨rfl, hm8⟩
            have HM8 := Lib.hid (HM7.out.trans hm8)
            have hr6 := HS.out.res.ext HM8.out
            have hrl6 := hr6.lt
            have r0 := hr6.cell (o := 0) (v := .bool false) rfl
            have r1 := hr6.cell (o := 1) (v := .slice none 0 0) rfl
            have r2 := hr6.cell (o := 2) (v := .slice none 0 0) rfl
            have r3 := hr6.cell (o := 3) (v := .slice none 0 0) rfl
            have rf := hr6.frozen
            clear hm8 hr6
            go_wp2_with fail
            all_goals exact HFAIL.out _ HM8.out _ rfl rfl rfl hno.out
end
end Go.Proofs.YtmgfneijcfjlfaaGreatDoor
