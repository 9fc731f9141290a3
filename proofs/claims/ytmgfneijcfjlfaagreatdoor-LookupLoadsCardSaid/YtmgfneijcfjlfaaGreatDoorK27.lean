/- node.Get of a leaf. | A tree on a pager: what lookup.Get and lookup.Path tell of it. Plain. -/
import Derived.Test.YtmgfneijcfjlfaaGreatDoorK26
import Derived.Test.YtmgfneijcfjlfaaGreatDoorK07
import Derived.Test.YtmgfneijcfjlfaaGreatDoorK24
import Derived.Test.YtmgfneijcfjlfaaGreatDoorK23
namespace Go.Proofs.YtmgfneijcfjlfaaGreatDoor
open Go.RowKit
attribute [local go_sem ↓] Go.wp_at_zero Go.wp_at_succ
/-- node.Get's answer. -/
def NodeGot (F : Nat → Prop) (ad : Nat → Addr) (w : World) (lf : Bool) (b : List UInt8) (e : Ending) (w' : World) : Prop :=
  Ext w w' ∧ ((∃ n ve vk vi, getN lf b = some n ∧ e = .returned (.tuple #[.agg #[.bool lf, ve, vk, vi], .nilIface]) ∧ Sl F w' 4 encE ve n.entries ∧ Sl F w' 1 encS vk n.keys ∧ Sl F w' 1 encI vi n.kids) ∨
    (getN lf b = none ∧ ∃ f, e = .returned (.tuple #[.agg #[.bool false, .slice none 0 0, .slice none 0 0, .slice none 0 0], faultV f]) ∧ ErrC F ad w' (faultV f) [-1] 1))
theorem Tryz.nodeSize : (Tryz.prog.info? 57).map (·.size) = some 4 := by kernel_rfl
section
variable {F : Nat → Prop} {ad : Nat → Addr} {w wr w2 : World}
theorem rdEntry_at_ (b : List UInt8) (r : RdA) (hb : b.length ≤ 1000) {k : Nat} (h0 : 0 ≤ r.at_) (h : r.at_ ≤ 1020 + 10 * (k : Int)) : 0 ≤ (rdEntry b r).2.at_ ∧ (rdEntry b r).2.at_ ≤ 1020 + 10 * ((k + 1 : Nat) : Int) := by
  have := rdEntry_bd b r
  omega
set_option maxRecDepth 100000 in
set_option maxHeartbeats 4000000 in
theorem nodeGetL_any (hL : Env F ad w) (bv : Value) (b : List UInt8) (hb : Sl F w 1 encB bv b) (h1000 : b.length ≤ 1000) :
    Calls Tryz.prog 79 #[.bool true, bv] w (NodeGot F ad w true b) := by
  have HL := Lib.hid hL
  have HS0 : Hid (GetS F ad w (((w.alloc (.cells #[.bool false, .slice none 0 0, .slice none 0 0, .slice none 0 0] 57)).alloc (.cells #[bv, .int .i64 0, .bool false] 205)).alloc (.cells #[.bool true, .slice none 0 0, .slice none 0 0, .slice none 0 0] 57)) true bv b ⟨0, false⟩ [] [] [] (.slice none 0 0) (.slice none 0 0) (.slice none 0 0) (.slice none 0 0) (.slice none 0 0) (.slice none 0 0)) := Lib.hid
    ⟨(((Mods.refl _ w).alloc _).alloc _).alloc _, hL, hb, by
      have := (Blk.new (w.alloc (.cells #[.bool false, .slice none 0 0, .slice none 0 0, .slice none 0 0] 57)) #[bv, .int .i64 0, .bool false] 205).alloc (.cells #[.bool true, .slice none 0 0, .slice none 0 0, .slice none 0 0] 57)
      simpa using this, by
      have := Blk.new ((w.alloc (.cells #[.bool false, .slice none 0 0, .slice none 0 0, .slice none 0 0] 57)).alloc (.cells #[bv, .int .i64 0, .bool false] 205)) #[.bool true, .slice none 0 0, .slice none 0 0, .slice none 0 0] 57
      simpa using this, Own.nil _ _ _ _ _ _, Own.nil _ _ _ _ _ _, Own.nil _ _ _ _ _ _, ((Blk.new w _ _).alloc _).alloc _⟩
  have HB := Lib.hid hb
  obtain ⟨mny, r0, hx⟩ : ∃ n r1, rdNum b ⟨0, false⟩ 2 = (n, r1) := ⟨_, _, rfl⟩
  have hmn : mny ≤ 65535 := by have := rdNum_few b ⟨0, false⟩; rw [hx] at this; exact this
  have hr0 : r0.at_ = 2 := by have := rdNum_bd b ⟨0, false⟩ 2; rw [hx] at this; exact this
  have HR0 := Lib.hid hr0
  have HX := Lib.hid hx
  have HND : Hid (rdNode true b = (⟨true, (rdEntries b mny r0 []).1, [], []⟩, (rdEntries b mny r0 []).2)) := Lib.hid (by unfold rdNode; simp only [hx, if_true])
  have H10 := Lib.hid h1000
  obtain ⟨ab, cb, rfl, hb1, hb2, hb3, _⟩ := hb
  clear hL hx hr0
  unfold maxLen at hb2
  go_enter Tryz.func79, Tryz.ntmps79
  go_wp2_with fail
  refine (HS0.out.num 2 (.inr (.inl rfl)) (Int.le_refl 0) (show (0 : Int) ≤ 1000000000000 by omega) mny HX.out).mono ?_
  rintro e w1 ⟨rfl, hS1, _⟩
  have HS1 := Lib.hid hS1
  clear hS1
  go_wp2_with fail
  go_loopg [9] mny (fun m i wr => ∃ (k : Nat) (at_ : Int) (bd : Bool) (es : List EntryA) (ve : Value), k + m = mny ∧ i = .int .i64 k ∧ Hid (rdEntries b m ⟨at_, bd⟩ es = rdEntries b mny r0 []) ∧ Hid (GetS F ad w wr true (.slice ab b.length cb) b ⟨at_, bd⟩ es [] [] ve (.slice none 0 0) (.slice none 0 0) ve (.slice none 0 0) (.slice none 0 0)) ∧ es.length ≤ k ∧ 0 ≤ at_ ∧ at_ ≤ 1020 + 10 * (k : Int))
  case atStart => exact ⟨0, r0.at_, r0.bad, [], _, by omega, rfl, Lib.hid rfl, HS1, Nat.le_refl 0, by have := HR0.out; omega, by have := HR0.out; omega⟩
  case round =>
    obtain ⟨k, at_, bd, es, ve, hkm, rfl, HZ, HS, hes, ha0, ha1⟩ := hrel
    have b2 := HS.out.box.cell (o := 2) (v := .bool bd) rfl
    by_cases hgo : k < mny ∧ bd = false
    · obtain ⟨hlt, rfl⟩ := hgo
      obtain ⟨m, rfl⟩ : ∃ m, gk = m + 1 := ⟨gk - 1, by omega⟩
      have hat := rdEntry_at_ b ⟨at_, false⟩ H10.out (k := k) ha0 ha1
      have HZ2 : Hid (rdEntries b m (rdEntry b ⟨at_, false⟩).2 (es ++ [(rdEntry b ⟨at_, false⟩).1]) = rdEntries b mny r0 []) := Lib.hid (by
        have := HZ.out
        rw [rdEntries] at this
        simpa using this)
      clear HZ
      obtain ⟨key, r1, hk⟩ : ∃ s r1, rdText b ⟨at_, false⟩ = (s, r1) := ⟨_, _, rfl⟩
      have hk1 := rdText_bd b ⟨at_, false⟩
      rw [hk] at hk1
      obtain ⟨q, r2, hq⟩ : ∃ n r2, rdNum b r1 1 = (n, r2) := ⟨_, _, rfl⟩
      have hq1 := rdNum_fact b r1 1 (.inl rfl)
      rw [hq] at hq1
      simp only at hk1 hq1
      have HK := Lib.hid hk
      have HQ := Lib.hid hq
      have HR1 : Hid (0 ≤ r1.at_ ∧ r1.at_ ≤ 1000000 ∧ 0 ≤ r2.at_ ∧ r2.at_ ≤ 1000000) := Lib.hid (by have := H10.out; omega)
      have HQ1 := Lib.hid hq1.1
      clear hk hq hk1 hq1
      go_wp2_with fail
      refine (HS.out.text ha0 (show at_ ≤ 1000000000000 by omega) key HK.out).mono ?_
      rintro e w2 ⟨rfl, hS2, _⟩
      have HS2 := Lib.hid hS2
      clear hS2
      go_wp2_with fail
      have HS3 := Lib.hid (HS2.out.step ((Mods.refl _ w2).alloc (.cells #[.string key, .string ⟨#[]⟩, .int .i64 0, .int .i64 0] 107)))
      refine (HS3.out.num 1 (.inl rfl) HR1.out.1 (by have := HR1.out; omega) q HQ.out).mono ?_
      rintro e w3 ⟨rfl, hS4, hm3⟩
      have hB3 := (Blk.new w2 #[.string key, .string ⟨#[]⟩, .int .i64 0, .int .i64 0] 107).mods hm3 (by have := HS2.out.base; omega)
      have HVX : Hid (ve.ownBlock ≠ some w2.heap.size) := Lib.hid (fun e => by have := HS2.out.oe.lt _ e; omega)
      have HB3 := Lib.hid hB3
      have HS4 := Lib.hid hS4
      have hz2 := HS2.out.base
      clear hB3 hS4 hm3
      by_cases hq0 : q = 0
      · obtain ⟨v, r3, hv⟩ : ∃ s r3, rdText b r2 = (s, r3) := ⟨_, _, rfl⟩
        have HV := Lib.hid hv
        have HRE : Hid (rdEntry b ⟨at_, false⟩ = (⟨key, v, 0, 0⟩, r3)) := Lib.hid (by unfold rdEntry; simp only [HK.out, HQ.out, if_pos hq0, HV.out])
        clear hv
        subst hq0
        go_wp2_with fail
        refine (HS4.out.text HR1.out.2.2.1 (by have := HR1.out; omega) v HV.out).mono ?_
        rintro e w4 ⟨rfl, hS5, hm4⟩
        have hB4 := HB3.out.mods hm4 (by omega)
        have e1 := hB4.cell (o := 1) (v := .string ⟨#[]⟩) rfl
        have ef := hB4.frozen
        have HS5 : Hid (GetS F ad w (w4.setCell ⟨w2.heap.size, 1, none⟩ (.string v)) true (.slice ab b.length cb) b r3 es [] [] ve (.slice none 0 0) (.slice none 0 0) ve (.slice none 0 0) (.slice none 0 0)) := Lib.hid
          (hS5.far (X := w2.heap.size) hz2 (Mods.at _ w4 _ 1 _ rfl) HVX.out (by simp [Value.ownBlock]) (by simp [Value.ownBlock]))
        have hB5 : Blk (w4.setCell ⟨w2.heap.size, 1, none⟩ (.string v)) w2.heap.size #[.string key, .string v, .int .i64 0, .int .i64 0] 107 := by simpa using hB4.set 1 (.string v)
        have HB5 := Lib.hid hB5
        clear hS5 hm4 hB4 hB5
        have x0 := HB5.out.cell (o := 0) (v := .string key) rfl
        have x1 := HB5.out.cell (o := 1) (v := .string v) rfl
        have x2 := HB5.out.cell (o := 2) (v := .int .i64 0) rfl
        have x3 := HB5.out.cell (o := 3) (v := .int .i64 0) rfl
        have n1 := HS5.out.nd.cell (o := 1) (v := ve) rfl
        go_wp2_with (at_builtin; go_loud (refine wpl_app2 Tryz.elE encE_ok rfl _ _ rfl (w.heap.size + 3) ve _ es [⟨key, v, 0, 0⟩] rfl rfl (HS5.out.oe.ext ((Mods.refl _ _).alloc _)) (Sl.one (F := NoF) (heap_at (by simp)) (fun f => f)) (by simp only [List.length_cons, List.length_nil]; omega) (by have := HS5.out.base; simp at this ⊢; omega) (fun f => f) ?_; simp only [List.length_cons, List.length_nil, Nat.zero_add]; intro a2 c2 w5 hO5 hm5 hat5; have hS6 := (HS5.out.step ((Mods.refl _ _).alloc _)).appE hm5 hO5; have z1 := hS6.nd.cell (o := 1) (v := ve) rfl; have zf := hS6.nd.frozen 1))
        have HS7 : Hid (GetS F ad w (w5.setCell ⟨w.heap.size + 1 + 1, 1, none⟩ (.slice a2 (es.length + 1) c2)) true (.slice ab b.length cb) b r3 (es ++ [⟨key, v, 0, 0⟩]) [] [] (.slice a2 (es.length + 1) c2) (.slice none 0 0) (.slice none 0 0) (.slice a2 (es.length + 1) c2) (.slice none 0 0) (.slice none 0 0)) := Lib.hid
          (hS6.put 1 (.slice a2 (es.length + 1) c2) (.slice a2 (es.length + 1) c2) (.slice none 0 0) (.slice none 0 0) rfl)
        clear hS6 hO5 hm5 hat5
        rw [HRE.out] at hat
        simp only at hat
        have HAT := Lib.hid hat
        have HZ3 : Hid (rdEntries b m r3 (es ++ [⟨key, v, 0, 0⟩]) = rdEntries b mny r0 []) := Lib.hid (by have := HZ2.out; rw [HRE.out] at this; exact this)
        clear hat
        go_wp2_with fail
        go_roundg m
        case measure => omega
        case rel => exact ⟨k + 1, r3.at_, r3.bad, es ++ [⟨key, v, 0, 0⟩], _, by omega, by go_num, HZ3, HS7, by rw [List.length_append, List.length_cons, List.length_nil]; omega, HAT.out.1, HAT.out.2⟩
      · have hqb : ((q : Int) == 0) = false := by rw [beq_eq_false_iff_ne]; omega
        obtain ⟨c, r3, hc⟩ : ∃ n r3, rdNum b r2 4 = (n, r3) := ⟨_, _, rfl⟩
        obtain ⟨z, r4, hz⟩ : ∃ n r4, rdNum b r3 4 = (n, r4) := ⟨_, _, rfl⟩
        have hc1 := rdNum_fact b r2 4 (.inr (.inr rfl))
        rw [hc] at hc1
        have HC := Lib.hid hc
        have HZZ := Lib.hid hz
        have HR3 : Hid (0 ≤ r3.at_ ∧ r3.at_ ≤ 10000000) := Lib.hid (by have := HR1.out; simp only at hc1; omega)
        have HRE : Hid (rdEntry b ⟨at_, false⟩ = (⟨key, ⟨#[]⟩, (c : Int), (z : Int)⟩, r4)) := Lib.hid (by unfold rdEntry; simp only [HK.out, HQ.out, if_neg hq0, HC.out, HZZ.out])
        clear hc hz hc1 hq0
        go_wp2_with fail
        refine (HS4.out.num 4 (.inr (.inr rfl)) HR1.out.2.2.1 (by have := HR1.out; omega) c HC.out).mono ?_
        rintro e w4 ⟨rfl, hS5, hm4⟩
        have hB4 := HB3.out.mods hm4 (by omega)
        have HB4 := Lib.hid hB4
        have HS5 := Lib.hid hS5
        clear hB4 hS5 hm4
        go_wp2_with fail
        refine (HS5.out.num 4 (.inr (.inr rfl)) HR3.out.1 (by have := HR3.out; omega) z HZZ.out).mono ?_
        rintro e w4b ⟨rfl, hS5, hm4⟩
        have hB4 := HB4.out.mods hm4 (by omega)
        have e2 := hB4.cell (o := 2) (v := .int .i64 0) rfl
        have e3 := hB4.cell (o := 3) (v := .int .i64 0) rfl
        have ef := hB4.frozen
        have HS6 : Hid (GetS F ad w ((w4b.setCell ⟨w2.heap.size, 2, none⟩ (.int .i64 (c : Int))).setCell ⟨w2.heap.size, 3, none⟩ (.int .i64 (z : Int))) true (.slice ab b.length cb) b r4 es [] [] ve (.slice none 0 0) (.slice none 0 0) ve (.slice none 0 0) (.slice none 0 0)) := Lib.hid
          (hS5.far (X := w2.heap.size) hz2 ((Mods.at (fun k => k = w2.heap.size) w4b _ 2 _ rfl).trans (Mods.at (fun k => k = w2.heap.size) _ _ 3 _ rfl)) HVX.out (by simp [Value.ownBlock]) (by simp [Value.ownBlock]))
        have hB5 : Blk ((w4b.setCell ⟨w2.heap.size, 2, none⟩ (.int .i64 (c : Int))).setCell ⟨w2.heap.size, 3, none⟩ (.int .i64 (z : Int))) w2.heap.size #[.string key, .string ⟨#[]⟩, .int .i64 (c : Int), .int .i64 (z : Int)] 107 := by simpa using (hB4.set 2 (.int .i64 (c : Int))).set 3 (.int .i64 (z : Int))
        have HB5 := Lib.hid hB5
        clear hS5 hm4 hB4 hB5
        have x0 := HB5.out.cell (o := 0) (v := .string key) rfl
        have x1 := HB5.out.cell (o := 1) (v := .string ⟨#[]⟩) rfl
        have x2 := HB5.out.cell (o := 2) (v := .int .i64 (c : Int)) rfl
        have x3 := HB5.out.cell (o := 3) (v := .int .i64 (z : Int)) rfl
        have n1 := HS6.out.nd.cell (o := 1) (v := ve) rfl
        go_wp2_with (at_builtin; go_loud (refine wpl_app2 Tryz.elE encE_ok rfl _ _ rfl (w.heap.size + 3) ve _ es [⟨key, ⟨#[]⟩, (c : Int), (z : Int)⟩] rfl rfl (HS6.out.oe.ext ((Mods.refl _ _).alloc _)) (Sl.one (F := NoF) (heap_at (by simp)) (fun f => f)) (by simp only [List.length_cons, List.length_nil]; omega) (by have := HS6.out.base; simp at this ⊢; omega) (fun f => f) ?_; simp only [List.length_cons, List.length_nil, Nat.zero_add]; intro a2 c2 w5 hO5 hm5 hat5; have hS6 := (HS6.out.step ((Mods.refl _ _).alloc _)).appE hm5 hO5; have z1 := hS6.nd.cell (o := 1) (v := ve) rfl; have zf := hS6.nd.frozen 1))
        have HS7 : Hid (GetS F ad w (w5.setCell ⟨w.heap.size + 1 + 1, 1, none⟩ (.slice a2 (es.length + 1) c2)) true (.slice ab b.length cb) b r4 (es ++ [⟨key, ⟨#[]⟩, (c : Int), (z : Int)⟩]) [] [] (.slice a2 (es.length + 1) c2) (.slice none 0 0) (.slice none 0 0) (.slice a2 (es.length + 1) c2) (.slice none 0 0) (.slice none 0 0)) := Lib.hid
          (hS6.put 1 (.slice a2 (es.length + 1) c2) (.slice a2 (es.length + 1) c2) (.slice none 0 0) (.slice none 0 0) rfl)
        clear hS6 hO5 hm5 hat5
        rw [HRE.out] at hat
        simp only at hat
        have HAT := Lib.hid hat
        have HZ3 : Hid (rdEntries b m r4 (es ++ [⟨key, ⟨#[]⟩, (c : Int), (z : Int)⟩]) = rdEntries b mny r0 []) := Lib.hid (by have := HZ2.out; rw [HRE.out] at this; exact this)
        clear hat
        go_wp2_with fail
        go_roundg m
        case measure => omega
        case rel => exact ⟨k + 1, r4.at_, r4.bad, es ++ [⟨key, ⟨#[]⟩, (c : Int), (z : Int)⟩], _, by omega, by go_num, HZ3, HS7, by rw [List.length_append, List.length_cons, List.length_nil]; omega, HAT.out.1, HAT.out.2⟩
    · have HEND : Hid (rdEntries b mny r0 [] = (es, ⟨at_, bd⟩)) := Lib.hid (by
        rw [← HZ.out]
        cases gk with
        | zero => rfl
        | succ m =>
          rw [rdEntries]
          have : bd = true := by
            cases bd
            · exact absurd ⟨by omega, rfl⟩ hgo
            · rfl
          rw [this]; rfl)
      have HNN : Hid (rdNode true b = (⟨true, es, [], []⟩, ⟨at_, bd⟩)) := Lib.hid (by rw [HND.out, HEND.out])
      have HGN : Hid (getN true b = if bd = false ∧ rightN ⟨true, es, [], []⟩ = true ∧ bytesN ⟨true, es, [], []⟩ = b then some ⟨true, es, [], []⟩ else none) := Lib.hid (by unfold getN; simp only [HNN.out])
      obtain ⟨pa, pc, rfl, hpc1, hpc2⟩ := HS.out.oe.form
      unfold maxLen at hpc2
      have hlen : rightN ⟨true, es, [], []⟩ = true → (bytesN ⟨true, es, [], []⟩).length ≤ 100000 := fun hr => by
        have := rdNode_small true b H10.out
        rw [HNN.out] at this
        exact this hr
      have HPUT := Lib.hid (nodePut_any (F := GB F w) HS.out.env ⟨true, es, [], []⟩ (.slice pa es.length pc) (.slice none 0 0) (.slice none 0 0) (HS.out.slE HS.out.gb (by omega)) (Sl.nil _ _ _ _) (Sl.nil _ _ _ _) hlen)
      have n0 := HS.out.nd.cell (o := 0) (v := .bool true) rfl
      have n1 := HS.out.nd.cell (o := 1) (v := .slice pa es.length pc) rfl
      have n2 := HS.out.nd.cell (o := 2) (v := .slice none 0 0) rfl
      have n3 := HS.out.nd.cell (o := 3) (v := .slice none 0 0) rfl
      have hcase : (k < mny ∧ bd = true) ∨ (mny ≤ k ∧ bd = true) ∨ (mny ≤ k ∧ bd = false) := by
        by_cases h1 : k < mny
        · cases bd
          · exact absurd ⟨h1, rfl⟩ hgo
          · exact .inl ⟨h1, rfl⟩
        · cases bd
          · exact .inr (.inr ⟨by omega, rfl⟩)
          · exact .inr (.inl ⟨by omega, rfl⟩)
      have hlenN := hlen
      have HLEN := Lib.hid hlen
      clear HZ HEND hlen hgo hlenN
      rcases hcase with ⟨hlt, rfl⟩ | ⟨hlt, rfl⟩ | ⟨hlt, rfl⟩
      · go_wp2_with fail
        refine (HPUT.out).mono ?_
        rintro e w6 hP
        obtain ⟨hx6, hP⟩ := hP
        have HS6 := Lib.hid (HS.out.step hx6)
        clear hx6
        rcases hP with ⟨_, a6, c6, rfl, _⟩ | ⟨_, f6, rfl, _⟩
        all_goals
          have b2c := HS6.out.box.cell (o := 2) (v := .bool true) rfl
          have g1 := HS6.out.env.c1
          go_wp2_with fail
          refine (new_any HS6.out.env _ _ [] 1 (.sent 1 (by decide) (by decide))).mono ?_
          rintro e w7 ⟨f7, rfl, hE7, hm7⟩
          have hS7 := HS6.out.step hm7
          have r0 := hS7.res.cell (o := 0) (v := .bool false) rfl
          have r1 := hS7.res.cell (o := 1) (v := .slice none 0 0) rfl
          have r2 := hS7.res.cell (o := 2) (v := .slice none 0 0) rfl
          have r3 := hS7.res.cell (o := 3) (v := .slice none 0 0) rfl
          have rf := hS7.res.frozen
          have HS7 := Lib.hid hS7
          have HE7 := Lib.hid hE7
          have HRB := Lib.hid (hS7.res.set4 (.bool false) (.slice none 0 0) (.slice none 0 0) (.slice none 0 0))
          clear hS7 hE7 hm7
          go_wp2_with fail
          refine bodyPost_ret (results_row_tmp rfl _ _ w.heap.size 57 #[.bool false, .slice none 0 0, .slice none 0 0, .slice none 0 0] _ rfl HRB.out Tryz.underlying57 rfl Tryz.nodeSize) rfl ?_
          exact ⟨Mods.set4 HS7.out.ext (.inl (Nat.le_refl _)) _ _ _ _, .inr ⟨by rw [HGN.out]; exact if_neg (fun h => by have := h.1; cases this), f7, rfl, HE7.out.step (Mods.set4 (Mods.refl _ w7) (.inr (.inr ⟨Nat.le_refl _, by omega⟩)) _ _ _ _) (fun k _ hn hf => hn (.inl hf))⟩⟩
      · go_wp2_with fail
        refine (HPUT.out).mono ?_
        rintro e w6 hP
        obtain ⟨hx6, hP⟩ := hP
        have HS6 := Lib.hid (HS.out.step hx6)
        clear hx6
        rcases hP with ⟨_, a6, c6, rfl, _⟩ | ⟨_, f6, rfl, _⟩
        all_goals
          have b2c := HS6.out.box.cell (o := 2) (v := .bool true) rfl
          have g1 := HS6.out.env.c1
          go_wp2_with fail
          refine (new_any HS6.out.env _ _ [] 1 (.sent 1 (by decide) (by decide))).mono ?_
          rintro e w7 ⟨f7, rfl, hE7, hm7⟩
          have hS7 := HS6.out.step hm7
          have r0 := hS7.res.cell (o := 0) (v := .bool false) rfl
          have r1 := hS7.res.cell (o := 1) (v := .slice none 0 0) rfl
          have r2 := hS7.res.cell (o := 2) (v := .slice none 0 0) rfl
          have r3 := hS7.res.cell (o := 3) (v := .slice none 0 0) rfl
          have rf := hS7.res.frozen
          have HS7 := Lib.hid hS7
          have HE7 := Lib.hid hE7
          have HRB := Lib.hid (hS7.res.set4 (.bool false) (.slice none 0 0) (.slice none 0 0) (.slice none 0 0))
          clear hS7 hE7 hm7
          go_wp2_with fail
          refine bodyPost_ret (results_row_tmp rfl _ _ w.heap.size 57 #[.bool false, .slice none 0 0, .slice none 0 0, .slice none 0 0] _ rfl HRB.out Tryz.underlying57 rfl Tryz.nodeSize) rfl ?_
          exact ⟨Mods.set4 HS7.out.ext (.inl (Nat.le_refl _)) _ _ _ _, .inr ⟨by rw [HGN.out]; exact if_neg (fun h => by have := h.1; cases this), f7, rfl, HE7.out.step (Mods.set4 (Mods.refl _ w7) (.inr (.inr ⟨Nat.le_refl _, by omega⟩)) _ _ _ _) (fun k _ hn hf => hn (.inl hf))⟩⟩
      · have hlen := HLEN.out
        go_wp2_with fail
        refine (HPUT.out).mono ?_
        rintro e w6 hP
        obtain ⟨hx6, hP⟩ := hP
        have HS6 := Lib.hid (HS.out.step hx6)
        clear hx6
        rcases hP with ⟨hrt, a6, c6, rfl, hO6⟩ | ⟨hrt, f6, rfl, hE6⟩
        · have HRT := Lib.hid hrt
          have HSL6 := Lib.hid (Own.sl (F := NoF) hO6 encB_ok.len (by have := hlen hrt; omega))
          clear hrt hO6 hlen
          have b2b := HS6.out.box.cell (o := 2) (v := .bool false) rfl
          go_wp2_with fail
          refine (EqualB_any (F := NoF) (G := F) _ _ _ b HSL6.out (HB.out.ext HS6.out.ext)).mono ?_
          rintro e w8 ⟨rfl, hm8⟩
          have HS8 := Lib.hid (HS6.out.step hm8)
          clear hm8
          by_cases heq : bytesN ⟨true, es, [], []⟩ = b
          · rw [decide_eq_true heq]
            have HEQ := Lib.hid heq
            clear heq
            have n0 := HS8.out.nd.cell (o := 0) (v := .bool true) rfl
            have n1 := HS8.out.nd.cell (o := 1) (v := .slice pa es.length pc) rfl
            have n2 := HS8.out.nd.cell (o := 2) (v := .slice none 0 0) rfl
            have n3 := HS8.out.nd.cell (o := 3) (v := .slice none 0 0) rfl
            have r0 := HS8.out.res.cell (o := 0) (v := .bool false) rfl
            have r1 := HS8.out.res.cell (o := 1) (v := .slice none 0 0) rfl
            have r2 := HS8.out.res.cell (o := 2) (v := .slice none 0 0) rfl
            have r3 := HS8.out.res.cell (o := 3) (v := .slice none 0 0) rfl
            have rf := HS8.out.res.frozen
            have HRB := Lib.hid (HS8.out.res.set4 (.bool true) (.slice pa es.length pc) (.slice none 0 0) (.slice none 0 0))
            have HMR := Lib.hid (Mods.set4 (F := fun k => k = w.heap.size) (Mods.refl _ w8) (.inr rfl) (.bool true) (.slice pa es.length pc) (.slice none 0 0) (.slice none 0 0))
            go_wp2_with fail
            refine bodyPost_ret (results_row_tmp rfl _ _ w.heap.size 57 #[.bool true, .slice pa es.length pc, .slice none 0 0, .slice none 0 0] _ rfl HRB.out Tryz.underlying57 rfl Tryz.nodeSize) rfl ?_
            refine ⟨Mods.set4 HS8.out.ext (.inl (Nat.le_refl _)) _ _ _ _, .inl ⟨⟨true, es, [], []⟩, .slice pa es.length pc, .slice none 0 0, .slice none 0 0, by rw [HGN.out]; exact if_pos (by first | exact ⟨rfl, HRT.out, HEQ.out⟩ | exact ⟨trivial, HRT.out, HEQ.out⟩), rfl, ?_, ?_, ?_⟩⟩
            · exact (HS8.out.slE (G := GB F w) HS8.out.gb (by omega)).step (HMR.out.mono (fun k (hk : k = w.heap.size) => .inr ⟨by omega, by omega⟩)) (fun k _ hn hf => hn (.inl hf))
            · exact (HS8.out.slK (G := GB F w) HS8.out.gb (by simp)).step (HMR.out.mono (fun k (hk : k = w.heap.size) => .inr ⟨by omega, by omega⟩)) (fun k _ hn hf => hn (.inl hf))
            · exact (HS8.out.slI (G := GB F w) HS8.out.gb (by simp)).step (HMR.out.mono (fun k (hk : k = w.heap.size) => .inr ⟨by omega, by omega⟩)) (fun k _ hn hf => hn (.inl hf))
          · rw [decide_eq_false heq]
            have HEQ := Lib.hid heq
            clear heq
            have HS6 := HS8
            have b2c := HS6.out.box.cell (o := 2) (v := .bool false) rfl
            have g1 := HS6.out.env.c1
            go_wp2_with fail
            refine (new_any HS6.out.env _ _ [] 1 (.sent 1 (by decide) (by decide))).mono ?_
            rintro e w7 ⟨f7, rfl, hE7, hm7⟩
            have hS7 := HS6.out.step hm7
            have r0 := hS7.res.cell (o := 0) (v := .bool false) rfl
            have r1 := hS7.res.cell (o := 1) (v := .slice none 0 0) rfl
            have r2 := hS7.res.cell (o := 2) (v := .slice none 0 0) rfl
            have r3 := hS7.res.cell (o := 3) (v := .slice none 0 0) rfl
            have rf := hS7.res.frozen
            have HS7 := Lib.hid hS7
            have HE7 := Lib.hid hE7
            have HRB := Lib.hid (hS7.res.set4 (.bool false) (.slice none 0 0) (.slice none 0 0) (.slice none 0 0))
            clear hS7 hE7 hm7
            go_wp2_with fail
            refine bodyPost_ret (results_row_tmp rfl _ _ w.heap.size 57 #[.bool false, .slice none 0 0, .slice none 0 0, .slice none 0 0] _ rfl HRB.out Tryz.underlying57 rfl Tryz.nodeSize) rfl ?_
            exact ⟨Mods.set4 HS7.out.ext (.inl (Nat.le_refl _)) _ _ _ _, .inr ⟨by rw [HGN.out]; exact if_neg (fun h => HEQ.out h.2.2), f7, rfl, HE7.out.step (Mods.set4 (Mods.refl _ w7) (.inr (.inr ⟨Nat.le_refl _, by omega⟩)) _ _ _ _) (fun k _ hn hf => hn (.inl hf))⟩⟩
        · have HRT := Lib.hid hrt
          clear hrt hE6
          have b2c := HS6.out.box.cell (o := 2) (v := .bool false) rfl
          have g1 := HS6.out.env.c1
          go_wp2_with fail
          refine (new_any HS6.out.env _ _ [] 1 (.sent 1 (by decide) (by decide))).mono ?_
          rintro e w7 ⟨f7, rfl, hE7, hm7⟩
          have hS7 := HS6.out.step hm7
          have r0 := hS7.res.cell (o := 0) (v := .bool false) rfl
          have r1 := hS7.res.cell (o := 1) (v := .slice none 0 0) rfl
          have r2 := hS7.res.cell (o := 2) (v := .slice none 0 0) rfl
          have r3 := hS7.res.cell (o := 3) (v := .slice none 0 0) rfl
          have rf := hS7.res.frozen
          have HS7 := Lib.hid hS7
          have HE7 := Lib.hid hE7
          have HRB := Lib.hid (hS7.res.set4 (.bool false) (.slice none 0 0) (.slice none 0 0) (.slice none 0 0))
          clear hS7 hE7 hm7
          go_wp2_with fail
          refine bodyPost_ret (results_row_tmp rfl _ _ w.heap.size 57 #[.bool false, .slice none 0 0, .slice none 0 0, .slice none 0 0] _ rfl HRB.out Tryz.underlying57 rfl Tryz.nodeSize) rfl ?_
          exact ⟨Mods.set4 HS7.out.ext (.inl (Nat.le_refl _)) _ _ _ _, .inr ⟨by rw [HGN.out]; exact if_neg (fun h => by have := h.2.1; rw [HRT.out] at this; cases this), f7, rfl, HE7.out.step (Mods.set4 (Mods.refl _ w7) (.inr (.inr ⟨Nat.le_refl _, by omega⟩)) _ _ _ _) (fun k _ hn hf => hn (.inl hf))⟩⟩
end
end Go.Proofs.YtmgfneijcfjlfaaGreatDoor
namespace Go.Proofs.YtmgfneijcfjlfaaGreatDoor
open Go.RowKit
theorem Tr.mono {V V' : Nat → Option NodeA} {R R' : Int → Int → Option ByteArray} {lo : ByteArray} {hi : Option ByteArray} {id d : Nat} {l : List PairS} (h : Tr V R lo hi id d l) (hV : ∀ id n, V id = some n → V' id = some n) (hR : ∀ c s v, R c s = some v → R' c s = some v) : Tr V' R' lo hi id d l := by
  induction h with
  | leaf h1 h2 h3 h4 h5 h6 =>
    refine .leaf (hV _ _ h1) h2 h3 h4 (fun i e x he hx => ?_) h6
    obtain ⟨k1, k2⟩ := h5 i e x he hx
    refine ⟨k1, ?_⟩
    unfold tellsE at *
    split at k2
    · rename_i hc; rw [if_pos hc]; exact k2
    · rename_i hc; rw [if_neg hc]; exact hR _ _ _ k2
  | inner h1 h2 h3 h4 _ h6 ih => exact .inner (hV _ _ h1) h2 h3 h4 ih h6
/-- the leaf of a key, and its pairs. -/
structure LeafOf (R : Int → Int → Option ByteArray) (m : NodeA) (p : List PairS) : Prop where
  leaf : m.leaf = true
  right : rightN m = true
  len : m.entries.length = p.length
  tells : ∀ (i : Nat) (e : EntryA) (x : PairS), m.entries[i]? = some e → p[i]? = some x → e.key = x.1 ∧ tellsE R e = some x.2
theorem Tr.path {V : Nat → Option NodeA} {R : Int → Int → Option ByteArray} {lo : ByteArray} {hi : Option ByteArray} {id d : Nat} {l : List PairS} (h : Tr V R lo hi id d l) (key : ByteArray) : inB lo hi key →
    ∃ st m p, PathA V key id d st m ∧ LeafOf R m p ∧ st.length = d ∧ findP key l = findP key p := by
  induction h with
  | @leaf lo hi id n l h1 h2 h3 h4 h5 h6 => exact fun _ => ⟨_, n, l, .leaf h1 h2, ⟨h2, h3, h4, h5⟩, rfl, rfl⟩
  | @inner lo hi id n d parts h1 h2 h3 h4 h5 h6 ih =>
    intro hk
    obtain ⟨r1, r2, _⟩ := rightN_inner h3 h2
    obtain ⟨k, p, q1, q2, q3, q4⟩ := inner_find r1 r2 h4 h5 hk
    obtain ⟨st, m, p2, s1, s2, s4, s5⟩ := ih _ k p q1 q2 q3
    exact ⟨_, m, p2, .inner h1 h2 q1 s1, s2, by rw [List.length_cons, s4], q4.trans s5⟩
theorem PathA.last {V : Nat → Option NodeA} {key : ByteArray} {id d : Nat} {st : List (Nat × Nat)} {m : NodeA} (h : PathA V key id d st m) : ∃ st0 id', st = st0 ++ [(id', entAt key m.entries)] ∧ V id' = some m := by
  induction h with
  | leaf h1 h2 => exact ⟨[], _, rfl, h1⟩
  | inner h1 h2 h3 h4 ih =>
    obtain ⟨st0, id', e1, e2⟩ := ih
    exact ⟨_ :: st0, id', by rw [e1]; rfl, e2⟩
/-- what a chain reads as, if all of it is known. -/
noncomputable def GA.R2 (G : GA) (c s : Int) : Option ByteArray := open Classical in if walkOk G s.toNat c s then G.R c s else none
theorem GA.R2_some {G : GA} {c s : Int} {v : ByteArray} (h : G.R2 c s = some v) : walkOk G s.toNat c s ∧ G.R c s = some v := by
  unfold GA.R2 at h
  split at h
  · rename_i hw; exact ⟨hw, h⟩
  · cases h
theorem OnG.fits2 {G : GA} {ps : List PageA} (h : OnG G ps) (gen : Nat) : FitsR ps gen G.R2 := fun c s v hc => by
  obtain ⟨h1, h2⟩ := h.chain hc
  unfold GA.R2
  rw [if_pos h2, h1]
theorem value_tells {G : GA} {e : EntryA} {v : ByteArray} (h : tellsE G.R2 e = some v) : valueA G e = .inl v ∧ valueOk G e := by
  unfold tellsE at h
  unfold valueA valueOk
  by_cases hc : e.chain = 0
  · rw [if_pos hc] at h ⊢
    exact ⟨by rw [Option.some.inj h], fun hn => absurd hc hn⟩
  · rw [if_neg hc] at h ⊢
    obtain ⟨h1, h2⟩ := GA.R2_some h
    refine ⟨?_, fun _ _ _ => h1⟩
    unfold GA.R at h2
    split at h2
    · rename_i h3
      rw [h3]
      simp only
      rw [Option.some.inj h2]
    · cases h2
theorem inB_all (k : ByteArray) : inB e0 none k := by
  refine ⟨?_, fun h hh => by cases hh⟩
  unfold ltS
  have : e0.toList = [] := by simp [ByteArray.toList_eq]
  rw [this]
  cases k.toList <;> rfl
/-- a tree of pairs on a pager. -/
def TreeG (G : GA) (root d : Nat) (l : List PairS) : Prop :=
  (l = [] ∧ root = 0 ∧ d = 0) ∨ (2 ≤ root ∧ root < 256 ∧ d ≤ 16 ∧ Tr G.node G.R2 e0 none root d l)
theorem tree_built {G : GA} {gen e k : Nat} {l : List PairS} (hT : Tame 300 l) (he : 1 ≤ e) (he2 : e ≤ 3) (hk : 2 ≤ k) (hk2 : k ≤ 4) (h : OnG G (buildA gen e k l).1) : TreeG G (buildA gen e k l).2.1 (buildA gen e k l).2.2 l := by
  by_cases h0 : l = []
  · subst h0
    exact .inl ⟨rfl, rfl, rfl⟩
  · have hf := hT.few gen e k he hk
    have := hT.len
    obtain ⟨h1, h2, h3, h4⟩ := build_tr gen e k he (by omega) hk (by omega) hT.sorted hT.ok h0 (by omega) (by omega) (h.fits2 gen)
    exact .inr ⟨h2, h3, h4, (h1 e0 none (fun x _ => inB_all _)).mono (fun id n hn => h.node hn) (fun _ _ _ hr => hr)⟩
theorem lkCheck_ok {key : ByteArray} (h : keyB key = true) : lkCheck key = none := by unfold lkCheck; rw [if_pos h]
/-- the steps to a key, as a pager's walk. -/
def stI (st : List (Nat × Nat)) : List (Int × Nat) := st.map fun x => ((x.1 : Int), x.2)
theorem leaf_at {R : Int → Int → Option ByteArray} {m : NodeA} {p : List PairS} (h : LeafOf R m p) (key : ByteArray) : findP key p = leafTells R key m := leaf_find (rightN_leaf h.right h.leaf) h.len h.tells key
theorem LeafOf.ent {R : Int → Int → Option ByteArray} {m : NodeA} {p : List PairS} (h : LeafOf R m p) {i : Nat} {e : EntryA} (he : m.entries[i]? = some e) : ∃ v, tellsE R e = some v := by
  have hi := (List.getElem?_eq_some_iff.1 he).1
  have hp : i < p.length := by rw [← h.len]; exact hi
  exact ⟨_, (h.tells i e _ he (List.getElem?_eq_getElem hp)).2⟩
/-- what the leaf tells of a key. -/
theorem leaf_says {R : Int → Int → Option ByteArray} {m : NodeA} {p : List PairS} (h : LeafOf R m p) (key : ByteArray) :
    (entIs key m.entries = true ∧ ∃ e v, m.entries[entAt key m.entries]? = some e ∧ e.key = key ∧ tellsE R e = some v ∧ findP key p = some v) ∨ (entIs key m.entries = false ∧ findP key p = none) := by
  rw [leaf_at h]
  unfold leafTells entIs
  cases hm : m.entries[entAt key m.entries]? with
  | none => exact .inr ⟨rfl, rfl⟩
  | some e =>
    simp only
    by_cases hk : e.key = key
    · rw [if_pos hk, decide_eq_true hk]
      obtain ⟨v, hv⟩ := h.ent hm
      exact .inl ⟨rfl, e, v, rfl, hk, hv, hv⟩
    · rw [if_neg hk, decide_eq_false hk]
      exact .inr ⟨rfl, rfl⟩
theorem Tr.onG {G : GA} {root d : Nat} {l : List PairS} (h : Tr G.node G.R2 e0 none root d l) (hd : d ≤ 16) (key : ByteArray) :
    ∃ st m p, PathA G.node key root d st m ∧ LeafOf G.R2 m p ∧ st.length = d ∧ findP key l = findP key p ∧ Go.Proofs.YtmgfneijcfjlfaaGreatDoor.findA G key 16 [] (root : Int) = .inl (stI st, m) ∧ findOk G key 16 (root : Int) := by
  obtain ⟨st, m, p, h1, h2, h3, h4⟩ := h.path key (inB_all key)
  obtain ⟨k1, k2⟩ := h1.findA 16 [] hd (fun id n k hn hk => node_kids id n k hn hk)
  exact ⟨st, m, p, h1, h2, h3, h4, by rw [k1]; rfl, k2⟩
/-- GET. -/
theorem TreeG.look {G : GA} {root d : Nat} {l : List PairS} (h : TreeG G root d l) {key : ByteArray} (hk : keyB key = true) : lookA G (root : Int) key = .inl (findP key l) := by
  rcases h with ⟨rfl, rfl, rfl⟩ | ⟨h1, _, h2, h3⟩
  · unfold lookA
    rw [lkCheck_ok hk]
    rfl
  · obtain ⟨st, m, p, k1, k2, k3, k4, k5, k6⟩ := h3.onG h2 key
    unfold lookA
    rw [lkCheck_ok hk, k5]
    simp only
    rw [if_neg (by omega), findN_leaf k2.leaf, k4]
    rcases leaf_says k2 key with ⟨j1, e, v, j2, j3, j4, j5⟩ | ⟨j1, j2⟩
    · simp only [j1, j2, if_true, (value_tells j4).1, j5]
    · rw [j2]
      simp only [j1]
      split <;> rfl
/-- .. of a text that is no key. -/
theorem path_no (G : GA) (root : Int) {key : ByteArray} (hk : keyB key = false) : pathA G root key = .inr ([-1], 2) := by
  unfold pathA lkCheck
  rw [if_neg (by rw [hk]; simp)]
theorem look_no (G : GA) (root : Int) {key : ByteArray} (hk : keyB key = false) : lookA G root key = .inr ([-1], 2) := by
  unfold lookA lkCheck
  rw [if_neg (by rw [hk]; simp)]
/-- PATH. -/
theorem TreeG.path {G : GA} {root d : Nat} {l : List PairS} (h : TreeG G root d l) {key : ByteArray} (hk : keyB key = true) :
    (l = [] ∧ root = 0 ∧ d = 0 ∧ pathA G (root : Int) key = .inl ([], false)) ∨
    ∃ st m p, PathA G.node key root d st m ∧ LeafOf G.R2 m p ∧ st.length = d ∧ findP key l = findP key p ∧ pathA G (root : Int) key = .inl (stI st, (findP key l).isSome) := by
  rcases h with ⟨rfl, rfl, rfl⟩ | ⟨h1, _, h2, h3⟩
  · refine .inl ⟨rfl, rfl, rfl, ?_⟩
    unfold pathA
    rw [lkCheck_ok hk]
    rfl
  · obtain ⟨st, m, p, k1, k2, k3, k4, k5, k6⟩ := h3.onG h2 key
    refine .inr ⟨st, m, p, k1, k2, k3, k4, ?_⟩
    unfold pathA
    rw [lkCheck_ok hk, k5]
    simp only
    rw [if_neg (by omega), findN_leaf k2.leaf, k4]
    rcases leaf_says k2 key with ⟨j1, e, v, j2, j3, j4, j5⟩ | ⟨j1, j2⟩
    · rw [j1, j5]; rfl
    · rw [j1, j2]; rfl
end Go.Proofs.YtmgfneijcfjlfaaGreatDoor
