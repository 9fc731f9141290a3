/- node.Get of a leaf. | What a walk has seen: pages of the disk, each once. Plain. | How many keys a walk has seen. Plain. | lookup.Walk on a tree that was built: all its keys, each page once. Plain. -/
import Derived.Test.YtepafbokbfcbgaaGreatDoorK26
import Derived.Test.YtepafbokbfcbgaaGreatDoorK07
import Derived.Test.YtepafbokbfcbgaaGreatDoorK24
import Derived.Test.YtepafbokbfcbgaaGreatDoorK22
namespace Go.Proofs.YtepafbokbfcbgaaGreatDoor
open Go.RowKit
attribute [local go_sem ↓] Go.wp_at_zero Go.wp_at_succ
/-- node.Get's answer. -/
def NodeGot (F : Nat → Prop) (ad : Nat → Addr) (w : World) (lf : Bool) (b : List UInt8) (e : Ending) (w' : World) : Prop :=
  Ext w w' ∧ ((∃ n ve vk vi, getN lf b = some n ∧ e = .returned (.tuple #[.agg #[.bool lf, ve, vk, vi], .nilIface]) ∧ Sl F w' 4 encE ve n.entries ∧ Sl F w' 1 encS vk n.keys ∧ Sl F w' 1 encI vi n.kids) ∨
    (getN lf b = none ∧ ∃ f, e = .returned (.tuple #[.agg #[.bool false, .slice none 0 0, .slice none 0 0, .slice none 0 0], faultV f]) ∧ ErrC F ad w' (faultV f) [-1] 1))
theorem Tryz.nodeSize : (Tryz.prog.info? 134).map (·.size) = some 4 := by kernel_rfl
section
variable {F : Nat → Prop} {ad : Nat → Addr} {w wr w2 : World}
theorem rdEntry_at_ (b : List UInt8) (r : RdA) (hb : b.length ≤ 1000) {k : Nat} (h0 : 0 ≤ r.at_) (h : r.at_ ≤ 1020 + 10 * (k : Int)) : 0 ≤ (rdEntry b r).2.at_ ∧ (rdEntry b r).2.at_ ≤ 1020 + 10 * ((k + 1 : Nat) : Int) := by
  have := rdEntry_bd b r
  omega
set_option maxRecDepth 100000 in
set_option maxHeartbeats 4000000 in
theorem nodeGetL_any (hL : Env F ad w) (bv : Value) (b : List UInt8) (hb : Sl F w 1 encB bv b) (h1000 : b.length ≤ 1000) :
    Calls Tryz.prog 109 #[.bool true, bv] w (NodeGot F ad w true b) := by
  have HL := Lib.hid hL
  have HS0 : Hid (GetS F ad w (((w.alloc (.cells #[.bool false, .slice none 0 0, .slice none 0 0, .slice none 0 0] 134)).alloc (.cells #[bv, .int .i64 0, .bool false] 220)).alloc (.cells #[.bool true, .slice none 0 0, .slice none 0 0, .slice none 0 0] 134)) true bv b ⟨0, false⟩ [] [] [] (.slice none 0 0) (.slice none 0 0) (.slice none 0 0) (.slice none 0 0) (.slice none 0 0) (.slice none 0 0)) := Lib.hid
    ⟨(((Mods.refl _ w).alloc _).alloc _).alloc _, hL, hb, by
      have := (Blk.new (w.alloc (.cells #[.bool false, .slice none 0 0, .slice none 0 0, .slice none 0 0] 134)) #[bv, .int .i64 0, .bool false] 220).alloc (.cells #[.bool true, .slice none 0 0, .slice none 0 0, .slice none 0 0] 134)
      simpa using this, by
      have := Blk.new ((w.alloc (.cells #[.bool false, .slice none 0 0, .slice none 0 0, .slice none 0 0] 134)).alloc (.cells #[bv, .int .i64 0, .bool false] 220)) #[.bool true, .slice none 0 0, .slice none 0 0, .slice none 0 0] 134
      simpa using this, Own.nil _ _ _ _ _ _, Own.nil _ _ _ _ _ _, Own.nil _ _ _ _ _ _, ((Blk.new w _ _).alloc _).alloc _⟩
  have HB := Lib.hid hb
  obtain ⟨mny, r0, hx⟩ : ∃ n r1, rdNum b ⟨0, false⟩ 2 = (n, r1) := ⟨_, _, rfl⟩
  have hmn : mny ≤ 65535 := by have := rdNum_few b ⟨0, false⟩; rw [hx] at this; exact this
  have hr0 : r0.at_ = 2 := by have := rdNum_bd b ⟨0, false⟩ 2; rw [hx] at this; exact this
  have HR0 := Lib.hid hr0
  have HX := Lib.hid hx
  have HND : Hid (rdNode true b = (⟨true, (rdEntries b mny r0 []).1, [], []⟩, (rdEntries b mny r0 []).2)) := Lib.hid (by unfold rdNode; simp only [hx, if_true])
  have H10 := Lib.hid h1000
  obtain ⟨ab, cb, rfl, hb1, hb2, hb3, _⟩ := hb
  clear hL hx hr0
  unfold maxLen at hb2
  go_enter Tryz.func109, Tryz.ntmps109
  go_wp2_with fail
  refine (HS0.out.num 2 (.inr (.inl rfl)) (Int.le_refl 0) (show (0 : Int) ≤ 1000000000000 by omega) mny HX.out).mono ?_
  rintro e w1 ⟨rfl, hS1, _⟩
  have HS1 := Lib.hid hS1
  clear hS1
  go_wp2_with fail
  go_loopg [9] mny (fun m i wr => ∃ (k : Nat) (at_ : Int) (bd : Bool) (es : List EntryA) (ve : Value), k + m = mny ∧ i = .int .i64 k ∧ Hid (rdEntries b m ⟨at_, bd⟩ es = rdEntries b mny r0 []) ∧ Hid (GetS F ad w wr true (.slice ab b.length cb) b ⟨at_, bd⟩ es [] [] ve (.slice none 0 0) (.slice none 0 0) ve (.slice none 0 0) (.slice none 0 0)) ∧ es.length ≤ k ∧ 0 ≤ at_ ∧ at_ ≤ 1020 + 10 * (k : Int))
  case atStart => exact ⟨0, r0.at_, r0.bad, [], _, by omega, rfl, Lib.hid rfl, HS1, Nat.le_refl 0, by have := HR0.out; omega, by have := HR0.out; omega⟩
  case round =>
    obtain ⟨k, at_, bd, es, ve, hkm, rfl, HZ, HS, hes, ha0, ha1⟩ := hrel
    have b2 := HS.out.box.cell (o := 2) (v := .bool bd) rfl
    by_cases hgo : k < mny ∧ bd = false
    · obtain ⟨hlt, rfl⟩ := hgo
      obtain ⟨m, rfl⟩ : ∃ m, gk = m + 1 := ⟨gk - 1, by omega⟩
      have hat := rdEntry_at_ b ⟨at_, false⟩ H10.out (k := k) ha0 ha1
      have HZ2 : Hid (rdEntries b m (rdEntry b ⟨at_, false⟩).2 (es ++ [(rdEntry b ⟨at_, false⟩).1]) = rdEntries b mny r0 []) := Lib.hid (by
        have := HZ.out
        rw [rdEntries] at this
        simpa using this)
      clear HZ
      obtain ⟨key, r1, hk⟩ : ∃ s r1, rdText b ⟨at_, false⟩ = (s, r1) := ⟨_, _, rfl⟩
      have hk1 := rdText_bd b ⟨at_, false⟩
      rw [hk] at hk1
      obtain ⟨q, r2, hq⟩ : ∃ n r2, rdNum b r1 1 = (n, r2) := ⟨_, _, rfl⟩
      have hq1 := rdNum_fact b r1 1 (.inl rfl)
      rw [hq] at hq1
      simp only at hk1 hq1
      have HK := Lib.hid hk
      have HQ := Lib.hid hq
      have HR1 : Hid (0 ≤ r1.at_ ∧ r1.at_ ≤ 1000000 ∧ 0 ≤ r2.at_ ∧ r2.at_ ≤ 1000000) := Lib.hid (by have := H10.out; omega)
      have HQ1 := Lib.hid hq1.1
      clear hk hq hk1 hq1
      go_wp2_with fail
      refine (HS.out.text ha0 (show at_ ≤ 1000000000000 by omega) key HK.out).mono ?_
      rintro e w2 ⟨rfl, hS2, _⟩
      have HS2 := Lib.hid hS2
      clear hS2
      go_wp2_with fail
      have HS3 := Lib.hid (HS2.out.step ((Mods.refl _ w2).alloc (.cells #[.string key, .string ⟨#[]⟩, .int .i64 0, .int .i64 0] 131)))
      refine (HS3.out.num 1 (.inl rfl) HR1.out.1 (by have := HR1.out; omega) q HQ.out).mono ?_
      rintro e w3 ⟨rfl, hS4, hm3⟩
      have hB3 := (Blk.new w2 #[.string key, .string ⟨#[]⟩, .int .i64 0, .int .i64 0] 131).mods hm3 (by have := HS2.out.base; omega)
      have HVX : Hid (ve.ownBlock ≠ some w2.heap.size) := Lib.hid (fun e => by have := HS2.out.oe.lt _ e; omega)
      have HB3 := Lib.hid hB3
      have HS4 := Lib.hid hS4
      have hz2 := HS2.out.base
      clear hB3 hS4 hm3
      by_cases hq0 : q = 0
      · obtain ⟨v, r3, hv⟩ : ∃ s r3, rdText b r2 = (s, r3) := ⟨_, _, rfl⟩
        have HV := Lib.hid hv
        have HRE : Hid (rdEntry b ⟨at_, false⟩ = (⟨key, v, 0, 0⟩, r3)) := Lib.hid (by unfold rdEntry; simp only [HK.out, HQ.out, if_pos hq0, HV.out])
        clear hv
        subst hq0
        go_wp2_with fail
        refine (HS4.out.text HR1.out.2.2.1 (by have := HR1.out; omega) v HV.out).mono ?_
        rintro e w4 ⟨rfl, hS5, hm4⟩
        have hB4 := HB3.out.mods hm4 (by omega)
        have e1 := hB4.cell (o := 1) (v := .string ⟨#[]⟩) rfl
        have ef := hB4.frozen
        have HS5 : Hid (GetS F ad w (w4.setCell ⟨w2.heap.size, 1, none⟩ (.string v)) true (.slice ab b.length cb) b r3 es [] [] ve (.slice none 0 0) (.slice none 0 0) ve (.slice none 0 0) (.slice none 0 0)) := Lib.hid
          (hS5.far (X := w2.heap.size) hz2 (Mods.at _ w4 _ 1 _ rfl) HVX.out (by simp [Value.ownBlock]) (by simp [Value.ownBlock]))
        have hB5 : Blk (w4.setCell ⟨w2.heap.size, 1, none⟩ (.string v)) w2.heap.size #[.string key, .string v, .int .i64 0, .int .i64 0] 131 := by simpa using hB4.set 1 (.string v)
        have HB5 := Lib.hid hB5
        clear hS5 hm4 hB4 hB5
        have x0 := HB5.out.cell (o := 0) (v := .string key) rfl
        have x1 := HB5.out.cell (o := 1) (v := .string v) rfl
        have x2 := HB5.out.cell (o := 2) (v := .int .i64 0) rfl
        have x3 := HB5.out.cell (o := 3) (v := .int .i64 0) rfl
        have n1 := HS5.out.nd.cell (o := 1) (v := ve) rfl
        go_wp2_with (at_builtin; go_loud (refine wpl_app2 Tryz.elE encE_ok rfl _ _ rfl (w.heap.size + 3) ve _ es [⟨key, v, 0, 0⟩] rfl rfl (HS5.out.oe.ext ((Mods.refl _ _).alloc _)) (Sl.one (F := NoF) (heap_at (by simp)) (fun f => f)) (by simp only [List.length_cons, List.length_nil]; omega) (by have := HS5.out.base; simp at this ⊢; omega) (fun f => f) ?_; simp only [List.length_cons, List.length_nil, Nat.zero_add]; intro a2 c2 w5 hO5 hm5 hat5; have hS6 := (HS5.out.step ((Mods.refl _ _).alloc _)).appE hm5 hO5; have z1 := hS6.nd.cell (o := 1) (v := ve) rfl; have zf := hS6.nd.frozen 1))
        have HS7 : Hid (GetS F ad w (w5.setCell ⟨w.heap.size + 1 + 1, 1, none⟩ (.slice a2 (es.length + 1) c2)) true (.slice ab b.length cb) b r3 (es ++ [⟨key, v, 0, 0⟩]) [] [] (.slice a2 (es.length + 1) c2) (.slice none 0 0) (.slice none 0 0) (.slice a2 (es.length + 1) c2) (.slice none 0 0) (.slice none 0 0)) := Lib.hid
          (hS6.put 1 (.slice a2 (es.length + 1) c2) (.slice a2 (es.length + 1) c2) (.slice none 0 0) (.slice none 0 0) rfl)
        clear hS6 hO5 hm5 hat5
        rw [HRE.out] at hat
        simp only at hat
        have HAT := Lib.hid hat
        have HZ3 : Hid (rdEntries b m r3 (es ++ [⟨key, v, 0, 0⟩]) = rdEntries b mny r0 []) := Lib.hid (by have := HZ2.out; rw [HRE.out] at this; exact this)
        clear hat
        go_wp2_with fail
        go_roundg m
        case measure => omega
        case rel => exact ⟨k + 1, r3.at_, r3.bad, es ++ [⟨key, v, 0, 0⟩], _, by omega, by go_num, HZ3, HS7, by rw [List.length_append, List.length_cons, List.length_nil]; omega, HAT.out.1, HAT.out.2⟩
      · have hqb : ((q : Int) == 0) = false := by rw [beq_eq_false_iff_ne]; omega
        obtain ⟨c, r3, hc⟩ : ∃ n r3, rdNum b r2 4 = (n, r3) := ⟨_, _, rfl⟩
        obtain ⟨z, r4, hz⟩ : ∃ n r4, rdNum b r3 4 = (n, r4) := ⟨_, _, rfl⟩
        have hc1 := rdNum_fact b r2 4 (.inr (.inr rfl))
        rw [hc] at hc1
        have HC := Lib.hid hc
        have HZZ := Lib.hid hz
        have HR3 : Hid (0 ≤ r3.at_ ∧ r3.at_ ≤ 10000000) := Lib.hid (by have := HR1.out; simp only at hc1; omega)
        have HRE : Hid (rdEntry b ⟨at_, false⟩ = (⟨key, ⟨#[]⟩, (c : Int), (z : Int)⟩, r4)) := Lib.hid (by unfold rdEntry; simp only [HK.out, HQ.out, if_neg hq0, HC.out, HZZ.out])
        clear hc hz hc1 hq0
        go_wp2_with fail
        refine (HS4.out.num 4 (.inr (.inr rfl)) HR1.out.2.2.1 (by have := HR1.out; omega) c HC.out).mono ?_
        rintro e w4 ⟨rfl, hS5, hm4⟩
        have hB4 := HB3.out.mods hm4 (by omega)
        have HB4 := Lib.hid hB4
        have HS5 := Lib.hid hS5
        clear hB4 hS5 hm4
        go_wp2_with fail
        refine (HS5.out.num 4 (.inr (.inr rfl)) HR3.out.1 (by have := HR3.out; omega) z HZZ.out).mono ?_
        rintro e w4b ⟨rfl, hS5, hm4⟩
        have hB4 := HB4.out.mods hm4 (by omega)
        have e2 := hB4.cell (o := 2) (v := .int .i64 0) rfl
        have e3 := hB4.cell (o := 3) (v := .int .i64 0) rfl
        have ef := hB4.frozen
        have HS6 : Hid (GetS F ad w ((w4b.setCell ⟨w2.heap.size, 2, none⟩ (.int .i64 (c : Int))).setCell ⟨w2.heap.size, 3, none⟩ (.int .i64 (z : Int))) true (.slice ab b.length cb) b r4 es [] [] ve (.slice none 0 0) (.slice none 0 0) ve (.slice none 0 0) (.slice none 0 0)) := Lib.hid
          (hS5.far (X := w2.heap.size) hz2 ((Mods.at (fun k => k = w2.heap.size) w4b _ 2 _ rfl).trans (Mods.at (fun k => k = w2.heap.size) _ _ 3 _ rfl)) HVX.out (by simp [Value.ownBlock]) (by simp [Value.ownBlock]))
        have hB5 : Blk ((w4b.setCell ⟨w2.heap.size, 2, none⟩ (.int .i64 (c : Int))).setCell ⟨w2.heap.size, 3, none⟩ (.int .i64 (z : Int))) w2.heap.size #[.string key, .string ⟨#[]⟩, .int .i64 (c : Int), .int .i64 (z : Int)] 131 := by simpa using (hB4.set 2 (.int .i64 (c : Int))).set 3 (.int .i64 (z : Int))
        have HB5 := Lib.hid hB5
        clear hS5 hm4 hB4 hB5
        have x0 := HB5.out.cell (o := 0) (v := .string key) rfl
        have x1 := HB5.out.cell (o := 1) (v := .string ⟨#[]⟩) rfl
        have x2 := HB5.out.cell (o := 2) (v := .int .i64 (c : Int)) rfl
        have x3 := HB5.out.cell (o := 3) (v := .int .i64 (z : Int)) rfl
        have n1 := HS6.out.nd.cell (o := 1) (v := ve) rfl
        go_wp2_with (at_builtin; go_loud (refine wpl_app2 Tryz.elE encE_ok rfl _ _ rfl (w.heap.size + 3) ve _ es [⟨key, ⟨#[]⟩, (c : Int), (z : Int)⟩] rfl rfl (HS6.out.oe.ext ((Mods.refl _ _).alloc _)) (Sl.one (F := NoF) (heap_at (by simp)) (fun f => f)) (by simp only [List.length_cons, List.length_nil]; omega) (by have := HS6.out.base; simp at this ⊢; omega) (fun f => f) ?_; simp only [List.length_cons, List.length_nil, Nat.zero_add]; intro a2 c2 w5 hO5 hm5 hat5; have hS6 := (HS6.out.step ((Mods.refl _ _).alloc _)).appE hm5 hO5; have z1 := hS6.nd.cell (o := 1) (v := ve) rfl; have zf := hS6.nd.frozen 1))
        have HS7 : Hid (GetS F ad w (w5.setCell ⟨w.heap.size + 1 + 1, 1, none⟩ (.slice a2 (es.length + 1) c2)) true (.slice ab b.length cb) b r4 (es ++ [⟨key, ⟨#[]⟩, (c : Int), (z : Int)⟩]) [] [] (.slice a2 (es.length + 1) c2) (.slice none 0 0) (.slice none 0 0) (.slice a2 (es.length + 1) c2) (.slice none 0 0) (.slice none 0 0)) := Lib.hid
          (hS6.put 1 (.slice a2 (es.length + 1) c2) (.slice a2 (es.length + 1) c2) (.slice none 0 0) (.slice none 0 0) rfl)
        clear hS6 hO5 hm5 hat5
        rw [HRE.out] at hat
        simp only at hat
        have HAT := Lib.hid hat
        have HZ3 : Hid (rdEntries b m r4 (es ++ [⟨key, ⟨#[]⟩, (c : Int), (z : Int)⟩]) = rdEntries b mny r0 []) := Lib.hid (by have := HZ2.out; rw [HRE.out] at this; exact this)
        clear hat
        go_wp2_with fail
        go_roundg m
        case measure => omega
        case rel => exact ⟨k + 1, r4.at_, r4.bad, es ++ [⟨key, ⟨#[]⟩, (c : Int), (z : Int)⟩], _, by omega, by go_num, HZ3, HS7, by rw [List.length_append, List.length_cons, List.length_nil]; omega, HAT.out.1, HAT.out.2⟩
    · have HEND : Hid (rdEntries b mny r0 [] = (es, ⟨at_, bd⟩)) := Lib.hid (by
        rw [← HZ.out]
        cases gk with
        | zero => rfl
        | succ m =>
          rw [rdEntries]
          have : bd = true := by
            cases bd
            · exact absurd ⟨by omega, rfl⟩ hgo
            · rfl
          rw [this]; rfl)
      have HNN : Hid (rdNode true b = (⟨true, es, [], []⟩, ⟨at_, bd⟩)) := Lib.hid (by rw [HND.out, HEND.out])
      have HGN : Hid (getN true b = if bd = false ∧ rightN ⟨true, es, [], []⟩ = true ∧ bytesN ⟨true, es, [], []⟩ = b then some ⟨true, es, [], []⟩ else none) := Lib.hid (by unfold getN; simp only [HNN.out])
      obtain ⟨pa, pc, rfl, hpc1, hpc2⟩ := HS.out.oe.form
      unfold maxLen at hpc2
      have hlen : rightN ⟨true, es, [], []⟩ = true → (bytesN ⟨true, es, [], []⟩).length ≤ 100000 := fun hr => by
        have := rdNode_small true b H10.out
        rw [HNN.out] at this
        exact this hr
      have HPUT := Lib.hid (nodePut_any (F := GB F w) HS.out.env ⟨true, es, [], []⟩ (.slice pa es.length pc) (.slice none 0 0) (.slice none 0 0) (HS.out.slE HS.out.gb (by omega)) (Sl.nil _ _ _ _) (Sl.nil _ _ _ _) hlen)
      have n0 := HS.out.nd.cell (o := 0) (v := .bool true) rfl
      have n1 := HS.out.nd.cell (o := 1) (v := .slice pa es.length pc) rfl
      have n2 := HS.out.nd.cell (o := 2) (v := .slice none 0 0) rfl
      have n3 := HS.out.nd.cell (o := 3) (v := .slice none 0 0) rfl
      have hcase : (k < mny ∧ bd = true) ∨ (mny ≤ k ∧ bd = true) ∨ (mny ≤ k ∧ bd = false) := by
        by_cases h1 : k < mny
        · cases bd
          · exact absurd ⟨h1, rfl⟩ hgo
          · exact .inl ⟨h1, rfl⟩
        · cases bd
          · exact .inr (.inr ⟨by omega, rfl⟩)
          · exact .inr (.inl ⟨by omega, rfl⟩)
      have hlenN := hlen
      have HLEN := Lib.hid hlen
      clear HZ HEND hlen hgo hlenN
      rcases hcase with ⟨hlt, rfl⟩ | ⟨hlt, rfl⟩ | ⟨hlt, rfl⟩
      · go_wp2_with fail
        refine (HPUT.out).mono ?_
        rintro e w6 hP
        obtain ⟨hx6, hP⟩ := hP
        have HS6 := Lib.hid (HS.out.step hx6)
        clear hx6
        rcases hP with ⟨_, a6, c6, rfl, _⟩ | ⟨_, f6, rfl, _⟩
        all_goals
          have b2c := HS6.out.box.cell (o := 2) (v := .bool true) rfl
          have g1 := HS6.out.env.c1
          go_wp2_with fail
          refine (new_any HS6.out.env _ _ [] 1 (.sent 1 (by decide) (by decide))).mono ?_
          rintro e w7 ⟨f7, rfl, hE7, hm7⟩
          have hS7 := HS6.out.step hm7
          have r0 := hS7.res.cell (o := 0) (v := .bool false) rfl
          have r1 := hS7.res.cell (o := 1) (v := .slice none 0 0) rfl
          have r2 := hS7.res.cell (o := 2) (v := .slice none 0 0) rfl
          have r3 := hS7.res.cell (o := 3) (v := .slice none 0 0) rfl
          have rf := hS7.res.frozen
          have HS7 := Lib.hid hS7
          have HE7 := Lib.hid hE7
          have HRB := Lib.hid (hS7.res.set4 (.bool false) (.slice none 0 0) (.slice none 0 0) (.slice none 0 0))
          clear hS7 hE7 hm7
          go_wp2_with fail
          refine bodyPost_ret (results_row_tmp rfl _ _ w.heap.size 134 #[.bool false, .slice none 0 0, .slice none 0 0, .slice none 0 0] _ rfl HRB.out Tryz.underlying134 rfl Tryz.nodeSize) rfl ?_
          exact ⟨Mods.set4 HS7.out.ext (.inl (Nat.le_refl _)) _ _ _ _, .inr ⟨by rw [HGN.out]; exact if_neg (fun h => by have := h.1; cases this), f7, rfl, HE7.out.step (Mods.set4 (Mods.refl _ w7) (.inr (.inr ⟨Nat.le_refl _, by omega⟩)) _ _ _ _) (fun k _ hn hf => hn (.inl hf))⟩⟩
      · go_wp2_with fail
        refine (HPUT.out).mono ?_
        rintro e w6 hP
        obtain ⟨hx6, hP⟩ := hP
        have HS6 := Lib.hid (HS.out.step hx6)
        clear hx6
        rcases hP with ⟨_, a6, c6, rfl, _⟩ | ⟨_, f6, rfl, _⟩
        all_goals
          have b2c := HS6.out.box.cell (o := 2) (v := .bool true) rfl
          have g1 := HS6.out.env.c1
          go_wp2_with fail
          refine (new_any HS6.out.env _ _ [] 1 (.sent 1 (by decide) (by decide))).mono ?_
          rintro e w7 ⟨f7, rfl, hE7, hm7⟩
          have hS7 := HS6.out.step hm7
          have r0 := hS7.res.cell (o := 0) (v := .bool false) rfl
          have r1 := hS7.res.cell (o := 1) (v := .slice none 0 0) rfl
          have r2 := hS7.res.cell (o := 2) (v := .slice none 0 0) rfl
          have r3 := hS7.res.cell (o := 3) (v := .slice none 0 0) rfl
          have rf := hS7.res.frozen
          have HS7 := Lib.hid hS7
          have HE7 := Lib.hid hE7
          have HRB := Lib.hid (hS7.res.set4 (.bool false) (.slice none 0 0) (.slice none 0 0) (.slice none 0 0))
          clear hS7 hE7 hm7
          go_wp2_with fail
          refine bodyPost_ret (results_row_tmp rfl _ _ w.heap.size 134 #[.bool false, .slice none 0 0, .slice none 0 0, .slice none 0 0] _ rfl HRB.out Tryz.underlying134 rfl Tryz.nodeSize) rfl ?_
          exact ⟨Mods.set4 HS7.out.ext (.inl (Nat.le_refl _)) _ _ _ _, .inr ⟨by rw [HGN.out]; exact if_neg (fun h => by have := h.1; cases this), f7, rfl, HE7.out.step (Mods.set4 (Mods.refl _ w7) (.inr (.inr ⟨Nat.le_refl _, by omega⟩)) _ _ _ _) (fun k _ hn hf => hn (.inl hf))⟩⟩
      · have hlen := HLEN.out
        go_wp2_with fail
        refine (HPUT.out).mono ?_
        rintro e w6 hP
        obtain ⟨hx6, hP⟩ := hP
        have HS6 := Lib.hid (HS.out.step hx6)
        clear hx6
        rcases hP with ⟨hrt, a6, c6, rfl, hO6⟩ | ⟨hrt, f6, rfl, hE6⟩
        · have HRT := Lib.hid hrt
          have HSL6 := Lib.hid (Own.sl (F := NoF) hO6 encB_ok.len (by have := hlen hrt; omega))
          clear hrt hO6 hlen
          have b2b := HS6.out.box.cell (o := 2) (v := .bool false) rfl
          go_wp2_with fail
          refine (EqualB_any (F := NoF) (G := F) _ _ _ b HSL6.out (HB.out.ext HS6.out.ext)).mono ?_
          rintro e w8 ⟨rfl, hm8⟩
          have HS8 := Lib.hid (HS6.out.step hm8)
          clear hm8
          by_cases heq : bytesN ⟨true, es, [], []⟩ = b
          · rw [decide_eq_true heq]
            have HEQ := Lib.hid heq
            clear heq
            have n0 := HS8.out.nd.cell (o := 0) (v := .bool true) rfl
            have n1 := HS8.out.nd.cell (o := 1) (v := .slice pa es.length pc) rfl
            have n2 := HS8.out.nd.cell (o := 2) (v := .slice none 0 0) rfl
            have n3 := HS8.out.nd.cell (o := 3) (v := .slice none 0 0) rfl
            have r0 := HS8.out.res.cell (o := 0) (v := .bool false) rfl
            have r1 := HS8.out.res.cell (o := 1) (v := .slice none 0 0) rfl
            have r2 := HS8.out.res.cell (o := 2) (v := .slice none 0 0) rfl
            have r3 := HS8.out.res.cell (o := 3) (v := .slice none 0 0) rfl
            have rf := HS8.out.res.frozen
            have HRB := Lib.hid (HS8.out.res.set4 (.bool true) (.slice pa es.length pc) (.slice none 0 0) (.slice none 0 0))
            have HMR := Lib.hid (Mods.set4 (F := fun k => k = w.heap.size) (Mods.refl _ w8) (.inr rfl) (.bool true) (.slice pa es.length pc) (.slice none 0 0) (.slice none 0 0))
            go_wp2_with fail
            refine bodyPost_ret (results_row_tmp rfl _ _ w.heap.size 134 #[.bool true, .slice pa es.length pc, .slice none 0 0, .slice none 0 0] _ rfl HRB.out Tryz.underlying134 rfl Tryz.nodeSize) rfl ?_
            refine ⟨Mods.set4 HS8.out.ext (.inl (Nat.le_refl _)) _ _ _ _, .inl ⟨⟨true, es, [], []⟩, .slice pa es.length pc, .slice none 0 0, .slice none 0 0, by rw [HGN.out]; exact if_pos (by first | exact ⟨rfl, HRT.out, HEQ.out⟩ | exact ⟨trivial, HRT.out, HEQ.out⟩), rfl, ?_, ?_, ?_⟩⟩
            · exact (HS8.out.slE (G := GB F w) HS8.out.gb (by omega)).step (HMR.out.mono (fun k (hk : k = w.heap.size) => .inr ⟨by omega, by omega⟩)) (fun k _ hn hf => hn (.inl hf))
            · exact (HS8.out.slK (G := GB F w) HS8.out.gb (by simp)).step (HMR.out.mono (fun k (hk : k = w.heap.size) => .inr ⟨by omega, by omega⟩)) (fun k _ hn hf => hn (.inl hf))
            · exact (HS8.out.slI (G := GB F w) HS8.out.gb (by simp)).step (HMR.out.mono (fun k (hk : k = w.heap.size) => .inr ⟨by omega, by omega⟩)) (fun k _ hn hf => hn (.inl hf))
          · rw [decide_eq_false heq]
            have HEQ := Lib.hid heq
            clear heq
            have HS6 := HS8
            have b2c := HS6.out.box.cell (o := 2) (v := .bool false) rfl
            have g1 := HS6.out.env.c1
            go_wp2_with fail
            refine (new_any HS6.out.env _ _ [] 1 (.sent 1 (by decide) (by decide))).mono ?_
            rintro e w7 ⟨f7, rfl, hE7, hm7⟩
            have hS7 := HS6.out.step hm7
            have r0 := hS7.res.cell (o := 0) (v := .bool false) rfl
            have r1 := hS7.res.cell (o := 1) (v := .slice none 0 0) rfl
            have r2 := hS7.res.cell (o := 2) (v := .slice none 0 0) rfl
            have r3 := hS7.res.cell (o := 3) (v := .slice none 0 0) rfl
            have rf := hS7.res.frozen
            have HS7 := Lib.hid hS7
            have HE7 := Lib.hid hE7
            have HRB := Lib.hid (hS7.res.set4 (.bool false) (.slice none 0 0) (.slice none 0 0) (.slice none 0 0))
            clear hS7 hE7 hm7
            go_wp2_with fail
            refine bodyPost_ret (results_row_tmp rfl _ _ w.heap.size 134 #[.bool false, .slice none 0 0, .slice none 0 0, .slice none 0 0] _ rfl HRB.out Tryz.underlying134 rfl Tryz.nodeSize) rfl ?_
            exact ⟨Mods.set4 HS7.out.ext (.inl (Nat.le_refl _)) _ _ _ _, .inr ⟨by rw [HGN.out]; exact if_neg (fun h => HEQ.out h.2.2), f7, rfl, HE7.out.step (Mods.set4 (Mods.refl _ w7) (.inr (.inr ⟨Nat.le_refl _, by omega⟩)) _ _ _ _) (fun k _ hn hf => hn (.inl hf))⟩⟩
        · have HRT := Lib.hid hrt
          clear hrt hE6
          have b2c := HS6.out.box.cell (o := 2) (v := .bool false) rfl
          have g1 := HS6.out.env.c1
          go_wp2_with fail
          refine (new_any HS6.out.env _ _ [] 1 (.sent 1 (by decide) (by decide))).mono ?_
          rintro e w7 ⟨f7, rfl, hE7, hm7⟩
          have hS7 := HS6.out.step hm7
          have r0 := hS7.res.cell (o := 0) (v := .bool false) rfl
          have r1 := hS7.res.cell (o := 1) (v := .slice none 0 0) rfl
          have r2 := hS7.res.cell (o := 2) (v := .slice none 0 0) rfl
          have r3 := hS7.res.cell (o := 3) (v := .slice none 0 0) rfl
          have rf := hS7.res.frozen
          have HS7 := Lib.hid hS7
          have HE7 := Lib.hid hE7
          have HRB := Lib.hid (hS7.res.set4 (.bool false) (.slice none 0 0) (.slice none 0 0) (.slice none 0 0))
          clear hS7 hE7 hm7
          go_wp2_with fail
          refine bodyPost_ret (results_row_tmp rfl _ _ w.heap.size 134 #[.bool false, .slice none 0 0, .slice none 0 0, .slice none 0 0] _ rfl HRB.out Tryz.underlying134 rfl Tryz.nodeSize) rfl ?_
          exact ⟨Mods.set4 HS7.out.ext (.inl (Nat.le_refl _)) _ _ _ _, .inr ⟨by rw [HGN.out]; exact if_neg (fun h => by have := h.2.1; rw [HRT.out] at this; cases this), f7, rfl, HE7.out.step (Mods.set4 (Mods.refl _ w7) (.inr (.inr ⟨Nat.le_refl _, by omega⟩)) _ _ _ _) (fun k _ hn hf => hn (.inl hf))⟩⟩
end
end Go.Proofs.YtepafbokbfcbgaaGreatDoor
namespace Go.Proofs.YtepafbokbfcbgaaGreatDoor
open Go.RowKit
variable {G : GA} {gen : Nat} {st st1 : WkS} {id : Int} {p : PageA}
theorem nodup_fewW : ∀ (n : Nat) (l : List Int), l.Nodup → (∀ i ∈ l, 0 ≤ i ∧ i < (n : Int)) → l.length ≤ n
  | 0, [], _, _ => Nat.le_refl _
  | 0, i :: l, _, h => by have := h i List.mem_cons_self; omega
  | n + 1, l, hn, h => by
    by_cases hm : (n : Int) ∈ l
    · have h1 := nodup_fewW n (l.erase (n : Int)) (hn.erase _) (fun i hi => by
        rw [hn.mem_erase_iff] at hi
        have := h i hi.2
        have := hi.1
        omega)
      rw [List.length_erase_of_mem hm] at h1
      omega
    · have := nodup_fewW n l hn (fun i hi => by
        have h1 := h i hi
        have h2 : i ≠ (n : Int) := fun e => hm (e ▸ hi)
        omega)
      omega
def WkInv (G : GA) (st : WkS) : Prop := st.pages.Nodup ∧ ∀ i ∈ st.pages, 0 ≤ i ∧ i < (G.blocks : Int)
theorem WkInv.few (h : WkInv G st) : st.pages.length ≤ G.blocks := nodup_fewW _ _ h.1 h.2
theorem youngW_in (h : youngW G gen id = .inl p) : 0 ≤ id ∧ id < (G.blocks : Int) := by
  unfold youngW GA.get GA.check at h
  by_cases hc : id < 0 ∨ (G.blocks : Int) ≤ id
  · rw [if_pos hc] at h
    cases h
  · omega
theorem seeW_in (h : seeW st id = .inl st1) : id ∉ st.pages ∧ st1 = { st with pages := st.pages ++ [id] } := by
  unfold seeW at h
  split at h
  · cases h
  · rename_i hm
    injection h with h
    exact ⟨hm, h.symm⟩
theorem WkInv.see (h : WkInv G st) (h1 : seeW st id = .inl st1) (h2 : youngW G gen id = .inl p) : WkInv G st1 := by
  obtain ⟨hm, rfl⟩ := seeW_in h1
  have hy := youngW_in h2
  refine ⟨?_, fun i hi => ?_⟩
  · show (st.pages ++ [id]).Nodup
    rw [List.nodup_append]
    exact ⟨h.1, by simp, fun a ha b hb => by simp at hb; subst hb; exact fun e => hm (e ▸ ha)⟩
  · rcases List.mem_append.1 hi with h3 | h3
    · exact h.2 i h3
    · simp at h3; subst h3; exact hy
theorem idsW_inv : ∀ (ids : List Int) (st st1 : WkS), WkInv G st → idsW G gen ids st = .inl st1 → WkInv G st1
  | [], st, st1, h, h1 => by rw [idsW] at h1; injection h1 with h1; exact h1 ▸ h
  | id :: r, st, st1, h, h1 => by
    rw [idsW] at h1
    split at h1
    · cases h1
    · rename_i s1 hs
      split at h1
      · cases h1
      · rename_i p hy
        exact idsW_inv r s1 st1 (h.see hs hy) h1
/-- ids of a chain are small. -/
theorem walkA_ids (G : GA) : ∀ (f : Nat) (id n : Int), -9223372036854775808 ≤ id ∧ id ≤ 9223372036854775807 → ∀ x ∈ (walkA G f id n).1, -9223372036854775808 ≤ x.1 ∧ x.1 ≤ 9223372036854775807
  | 0, _, _, _, x, hx => by simp [walkA] at hx
  | f + 1, id, n, h, x, hx => by
    rw [walkA] at hx
    split at hx
    · simp at hx
    · split at hx
      · simp at hx
      · rename_i y hy
        split at hx
        · simp at hx
        · rcases List.mem_cons.1 hx with rfl | hx
          · exact h
          · have := takeF_small y.body 0 4 (by omega)
            exact walkA_ids G f _ _ (by omega) x hx
end Go.Proofs.YtepafbokbfcbgaaGreatDoor
namespace Go.Proofs.YtepafbokbfcbgaaGreatDoor
open Go.RowKit
variable {G : GA} {gen : Nat}
def WkInvK (G : GA) (st : WkS) : Prop := WkInv G st ∧ st.keys.length ≤ 1000 * st.pages.length
/-- bodies are short. -/
def Short (G : GA) : Prop := ∀ id p, G.get id = .inl p → p.body.length ≤ 1000
theorem bytesE_pos (e : EntryA) : 1 ≤ (bytesE e).length := by
  unfold bytesE bytesT
  simp only [List.length_append, leB_length]
  omega
theorem flat_ge {α : Type} {f : α → List UInt8} : ∀ (l : List α), (∀ x, 1 ≤ (f x).length) → l.length ≤ (l.flatMap f).length
  | [], _ => by simp
  | x :: l, h => by
    have := flat_ge l h
    have := h x
    rw [List.flatMap_cons, List.length_append, List.length_cons]; omega
theorem decode_few {p : PageA} {n : NodeA} (h : decodeA p = .inl n) (hp : p.body.length ≤ 1000) : n.entries.length ≤ 1000 := by
  have hr := decodeA_right h
  unfold decodeA at h
  split at h
  · split at h
    · rename_i m hm
      injection h with h; subst h
      obtain ⟨h1, h2, h3⟩ := (getN_iff _ _ _).1 hm
      cases hl : m.leaf with
      | true =>
        unfold bytesN at h3
        rw [if_pos hl] at h3
        have := flat_ge m.entries bytesE_pos
        have := congrArg List.length h3
        rw [List.length_append] at this
        omega
      | false =>
        have : m.entries = [] := by
          unfold rightN at h1
          rw [if_neg (by rw [hl]; simp)] at h1
          simp only [Bool.and_eq_true, List.isEmpty_iff] at h1
          exact h1.1.1.1.1.1.1.1
        rw [this]; simp
    · cases h
  · cases h
theorem idsW_len : ∀ (ids : List Int) (st st1 : WkS), idsW G gen ids st = .inl st1 → st1.keys = st.keys ∧ st.pages.length ≤ st1.pages.length
  | [], st, st1, h => by rw [idsW] at h; injection h with h; subst h; exact ⟨rfl, Nat.le_refl _⟩
  | id :: r, st, st1, h => by
    rw [idsW] at h
    split at h
    · cases h
    · rename_i s1 hs
      split at h
      · cases h
      · obtain ⟨k1, k2⟩ := idsW_len r s1 st1 h
        obtain ⟨_, rfl⟩ := seeW_in hs
        refine ⟨k1, ?_⟩
        simp only [List.length_append] at k2
        omega
theorem chainedW_inv {e : EntryA} {st st1 : WkS} (hi : WkInv G st) (h : chainedW G gen e st = .inl st1) : WkInv G st1 ∧ st1.keys = st.keys ∧ st.pages.length ≤ st1.pages.length := by
  unfold chainedW at h
  split at h
  · injection h with h; subst h; exact ⟨hi, rfl, Nat.le_refl _⟩
  · split at h
    · cases h
    · exact ⟨idsW_inv _ _ _ hi h, idsW_len _ _ _ h⟩
theorem entsW_inv {a : Place} : ∀ (es : List EntryA) (st st1 : WkS), WkInv G st → entsW G gen a es st = .inl st1 → WkInv G st1 ∧ st1.keys.length = st.keys.length + es.length ∧ st.pages.length ≤ st1.pages.length
  | [], st, st1, hi, h => by rw [entsW] at h; injection h with h; subst h; exact ⟨hi, rfl, Nat.le_refl _⟩
  | e :: r, st, st1, hi, h => by
    rw [entsW] at h
    split at h
    · cases h
    · split at h
      · cases h
      · rename_i s1 hs
        obtain ⟨k1, k2, k3⟩ := chainedW_inv (st := { st with keys := st.keys ++ [e.key] }) hi hs
        obtain ⟨j1, j2, j3⟩ := entsW_inv r s1 st1 k1 h
        refine ⟨j1, ?_, Nat.le_trans k3 j3⟩
        rw [j2, k2]
        simp only [List.length_append, List.length_cons, List.length_nil]
        omega
theorem seeK {st st1 : WkS} {id : Int} {p : PageA} (hi : WkInvK G st) (h1 : seeW st id = .inl st1) (h2 : youngW G gen id = .inl p) : WkInv G st1 ∧ st1.keys.length + 1000 ≤ 1000 * st1.pages.length := by
  refine ⟨hi.1.see h1 h2, ?_⟩
  obtain ⟨_, rfl⟩ := seeW_in h1
  have := hi.2
  simp only [List.length_append, List.length_cons, List.length_nil]
  omega
theorem WkInvK.ofSee {st : WkS} (h : WkInv G st ∧ st.keys.length + 1000 ≤ 1000 * st.pages.length) : WkInvK G st := ⟨h.1, by omega⟩
theorem leafW_inv {n : NodeA} {a : Place} {st st1 : WkS} (hi : WkInv G st ∧ st.keys.length + 1000 ≤ 1000 * st.pages.length) (hn : n.entries.length ≤ 1000) (h : leafW G gen n a st = .inl st1) : WkInvK G st1 := by
  have hd : WkInv G (atDepth a st) ∧ (atDepth a st).keys = st.keys ∧ (atDepth a st).pages = st.pages := by
    unfold atDepth
    split
    · exact ⟨hi.1, rfl, rfl⟩
    · exact ⟨hi.1, rfl, rfl⟩
  unfold leafW at h
  split at h
  · cases h
  · obtain ⟨k1, k2, k3⟩ := entsW_inv _ _ _ hd.1 h
    rw [hd.2.1] at k2
    rw [hd.2.2] at k3
    exact ⟨k1, by omega⟩
theorem kidsW_inv {rec_ : Place → WkS → WkS ⊕ Err} {n : NodeA} {a : Place} (hrec : ∀ b st st1, WkInvK G st → rec_ b st = .inl st1 → WkInvK G st1) : ∀ (kids : List Int) (i : Nat) (st st1 : WkS), WkInvK G st → kidsW rec_ n a kids i st = .inl st1 → WkInvK G st1
  | [], i, st, st1, hi, h => by rw [kidsW] at h; injection h with h; subst h; exact hi
  | k :: r, i, st, st1, hi, h => by
    rw [kidsW] at h
    split at h
    · cases h
    · split at h
      · cases h
      · rename_i s1 hs
        exact kidsW_inv hrec r (i + 1) s1 st1 (hrec _ _ _ hi hs) h
theorem nodeW_inv (hG : Short G) : ∀ (f : Nat) (a : Place) (st st1 : WkS), WkInvK G st → nodeW G gen f a st = .inl st1 → WkInvK G st1
  | 0, a, st, st1, hi, h => by rw [nodeW] at h; cases h
  | f + 1, a, st, st1, hi, h => by
    rw [nodeW] at h
    split at h
    · cases h
    · rename_i s1 hs
      split at h
      · cases h
      · rename_i p hp
        have hk := seeK hi hs hp
        have hb : p.body.length ≤ 1000 := by
          refine hG a.id p ?_
          unfold youngW at hp
          split at hp
          · cases hp
          · rename_i q hq
            split at hp
            · cases hp
            · injection hp with hp; subst hp; exact hq
        split at h
        · cases h
        · rename_i n hn
          split at h
          · exact leafW_inv hk (decode_few hn hb) h
          · exact kidsW_inv (nodeW_inv hG f) _ _ _ _ (WkInvK.ofSee hk) h
end Go.Proofs.YtepafbokbfcbgaaGreatDoor
namespace Go.Proofs.YtepafbokbfcbgaaGreatDoor
open Go.RowKit
def iL (l : List Nat) : List Int := l.map (fun (i : Nat) => (i : Int))
theorem iL_app (a b : List Nat) : iL (a ++ b) = iL a ++ iL b := List.map_append
theorem leS_not {a b : ByteArray} (h : ltS a b = true) : leS b a = false := by
  cases hb : leS b a with
  | false => rfl
  | true =>
    rcases (leS_iff b a).1 hb with k | k
    · rw [ltS_asymm h] at k; cases k
    · rw [k, ltS_irrefl] at h; cases h
theorem pageAt_mem {ps : List PageA} {id : Nat} {p : PageA} (h : pageAt ps id = some p) : p ∈ ps := by
  unfold pageAt at h
  split at h
  · cases h
  · exact List.mem_of_getElem? h
theorem node_page {ps : List PageA} {id : Nat} {n : NodeA} (h : nodeV ps id = some n) : ∃ p, pageAt ps id = some p ∧ decodeA p = .inl n := by
  unfold nodeV at h
  split at h
  · rename_i p hp
    refine ⟨p, hp, ?_⟩
    unfold decodeA
    split at h
    · rename_i h3
      rw [if_pos (.inl h3), decide_eq_true h3, h]
    · rename_i h3
      split at h
      · rename_i h2
        rw [if_pos (.inr h2), decide_eq_false h3, h]
      · cases h
  · cases h
section
variable {G : GA} {ps : List PageA} {gen g : Nat}
theorem OnG.get (hO : OnG G ps) {id : Nat} {p : PageA} (h : pageAt ps id = some p) : G.get (id : Int) = .inl p := by
  have := pageAt_lt h
  have := hO.fit
  exact get_view (by omega) (hO.at_ _ _ h)
theorem OnG.young (hO : OnG G ps) (hg : ∀ p ∈ ps, p.gen ≤ gen) {id : Nat} {p : PageA} (h : pageAt ps id = some p) : youngW G gen (id : Int) = .inl p := by
  unfold youngW
  rw [hO.get h]
  simp only
  rw [if_neg (by have := hg p (pageAt_mem h); omega)]
theorem OnG.chainI (hO : OnG G ps) {c s : Int} {v : ByteArray} (hc : chainV ps g c s v) :
    chErr G c s = none ∧ (walkA G s.toNat c s).1.map (·.1) = iL (List.range' c.toNat (ndK s.toNat)) ∧ ∀ i ∈ List.range' c.toNat (ndK s.toNat), ∃ p, pageAt ps i = some p := by
  obtain ⟨k, rfl, rfl, h25, h4096, hH, hb⟩ := hO.holds hc
  obtain ⟨_, _, _, k2, hk2, hpg⟩ := hc
  have hl : v.data.toList.length = v.size := size_toList v
  have hf : Fit v.data.toList.length 228 (ndK v.size) := by rw [hl]; exact ndK_fit _ (by omega)
  have hs : G.size = 228 + 28 := hO.size
  have hb2 := hO.b256
  obtain ⟨w1, w2⟩ := walk_all hf hs hb hb2 hH
  have hz := chErr_holds hf hs hb hb2 hH (by omega) (by omega)
  rw [hl] at w1 w2 hz
  rw [Int.toNat_natCast, Int.toNat_natCast]
  refine ⟨hz, ?_, fun i hi => ?_⟩
  · rw [w1]
    refine List.ext_getElem (by simp [iL]) (fun i h1 h2 => ?_)
    simp [iL]
    omega
  · rw [List.mem_range'_1] at hi
    have := hpg (i - (k + 2)) (by omega)
    rw [show i - (k + 2) + (k2 + 2) = i by omega] at this
    exact ⟨_, this⟩
theorem ids_go : ∀ (ids : List Nat), (∀ i ∈ ids, ∃ p, youngW G gen (i : Int) = .inl p) → ∀ (st : WkS), (st.pages ++ iL ids).Nodup → idsW G gen (iL ids) st = .inl { st with pages := st.pages ++ iL ids }
  | [], _, st, _ => by simp [iL, idsW]
  | i :: ids, hy, st, hn => by
    have hnot : (i : Int) ∉ st.pages := fun hm => by
      rw [List.nodup_append] at hn
      exact hn.2.2 _ hm (i : Int) (by simp [iL]) rfl
    obtain ⟨p, hp⟩ := hy i List.mem_cons_self
    have ih := ids_go ids (fun j hj => hy j (List.mem_cons_of_mem _ hj)) { st with pages := st.pages ++ [(i : Int)] } (by simpa [iL] using hn)
    show idsW G gen ((i : Int) :: iL ids) st = _
    rw [idsW]
    unfold seeW
    rw [if_neg hnot]
    simp only [hp]
    rw [ih]
    simp [iL]
theorem chained_go (hO : OnG G ps) (hg : ∀ p ∈ ps, p.gen ≤ gen) (e : EntryA) (he : e.chain ≠ 0 → ∃ v, chainV ps g e.chain e.size v) (st : WkS) (hn : (st.pages ++ iL (chI e)).Nodup) :
    chainedW G gen e st = .inl { st with pages := st.pages ++ iL (chI e) } := by
  unfold chainedW chI at *
  by_cases hc : e.chain = 0
  · rw [if_pos hc]; simp [hc, iL]
  · rw [if_neg hc] at hn ⊢
    obtain ⟨v, hv⟩ := he hc
    obtain ⟨h1, h2, h3⟩ := hO.chainI hv
    rw [h1, h2]
    simp only
    rw [ids_go _ (fun i hi => by obtain ⟨p, hp⟩ := h3 i hi; exact ⟨p, hO.young hg hp⟩) st hn, if_neg hc]
theorem last_snoc (st : WkS) (key : ByteArray) (ps : List Int) : ({ st with pages := ps, keys := st.keys ++ [key] } : WkS).last = key := by simp [WkS.last]
theorem ents_go (hO : OnG G ps) (hg : ∀ p ∈ ps, p.gen ≤ gen) {a : Place} : ∀ (es : List EntryA) (st : WkS), (∀ e ∈ es, e.chain ≠ 0 → ∃ v, chainV ps g e.chain e.size v) → ((es.map (·.key)).Pairwise fun a b => ltS a b = true) →
    (∀ e ∈ es, ltS st.last e.key = true ∧ ltS e.key a.lo = false ∧ (a.hi ≠ e0 → ltS e.key a.hi = true)) → (st.pages ++ iL (es.flatMap chI)).Nodup →
    entsW G gen a es st = .inl { st with pages := st.pages ++ iL (es.flatMap chI), keys := st.keys ++ es.map (·.key) }
  | [], st, _, _, _, _ => by simp [iL, entsW]
  | e :: es, st, hc, hr, hk, hn => by
    obtain ⟨k1, k2, k3⟩ := hk e List.mem_cons_self
    rw [List.map_cons, List.pairwise_cons] at hr
    rw [List.flatMap_cons, iL_app] at hn
    have hbad : entBad a st e = false := by
      unfold entBad
      rw [leS_not k1, k2]
      by_cases hh : a.hi = e0
      · simp [hh]
      · rw [leS_not (k3 hh)]; simp
    have hcg := chained_go hO hg e (hc e List.mem_cons_self) { st with keys := st.keys ++ [e.key] } (by
      refine hn.sublist ?_
      rw [← List.append_assoc]
      exact List.sublist_append_left _ _)
    rw [entsW, hbad, if_neg (by simp), hcg]
    simp only
    rw [ents_go hO hg es _ (fun x hx => hc x (List.mem_cons_of_mem _ hx)) hr.2 (fun x hx => ?_) (by simpa using hn)]
    · simp [iL_app]
    · obtain ⟨_, j2, j3⟩ := hk x (List.mem_cons_of_mem _ hx)
      rw [last_snoc]
      exact ⟨hr.1 _ (List.mem_map_of_mem hx), j2, j3⟩
/-- kids, one behind the other. -/
theorem kids_go {rec_ : Place → WkS → WkS ⊕ Err} {n : NodeA} {a : Place} {Inv : Nat → WkS → Prop} (h : ∀ (i : Nat) (k : Int) (st : WkS), n.kids[i]? = some k → Inv i st → kidBad a (kidPlace n a i k) = false ∧ ∃ s1, rec_ (kidPlace n a i k) st = .inl s1 ∧ Inv (i + 1) s1) :
    ∀ (ks : List Int) (i : Nat) (st : WkS), n.kids.drop i = ks → i + ks.length = n.kids.length → Inv i st → ∃ s', kidsW rec_ n a ks i st = .inl s' ∧ Inv n.kids.length s'
  | [], i, st, hd, hl, hI => ⟨st, rfl, by simp at hl; rw [← hl]; exact hI⟩
  | k :: ks, i, st, hd, hl, hI => by
    have hki : n.kids[i]? = some k := by
      have := List.getElem?_drop (xs := n.kids) (i := i) (j := 0)
      rw [hd] at this
      simpa using this.symm
    obtain ⟨h1, s1, h2, h3⟩ := h i k st hki hI
    have hd2 : n.kids.drop (i + 1) = ks := by
      rw [← List.drop_drop, hd]; rfl
    obtain ⟨s', h4, h5⟩ := kids_go h ks (i + 1) s1 hd2 (by simp at hl; omega) h3
    refine ⟨s', ?_, h5⟩
    rw [kidsW, h1, if_neg (by simp), h2]
    exact h4
/-- an upper bound, as the program has it. -/
def hiR (hi : Option ByteArray) (h : ByteArray) : Prop := (hi = none ∧ h = e0) ∨ (hi = some h ∧ h ≠ e0)
theorem keyB_ne {s : ByteArray} (h : keyB s = true) : s ≠ e0 := fun e => by
  have := (keyB_iff s).1 h
  rw [e] at this
  have : (e0 : ByteArray).size = 0 := rfl
  omega
theorem last_lt {ks : List ByteArray} {l1 : List PairS} {x : ByteArray} (h1 : ltS (ks.getLastD e0) x = true) (h2 : ∀ y ∈ l1, ltS y.1 x = true) : ltS ((ks ++ l1.map (·.1)).getLastD e0) x = true := by
  rcases List.eq_nil_or_concat l1 with rfl | ⟨l2, y, rfl⟩
  · simpa using h1
  · have := h2 y (by simp)
    simpa using this
theorem rightN_keys {n : NodeA} (h : rightN n = true) (hl : n.leaf = false) : ∀ s ∈ n.keys, keyB s = true := by
  unfold rightN at h
  rw [if_neg (by rw [hl]; simp)] at h
  simp only [Bool.and_eq_true, List.all_eq_true] at h
  exact h.1.2
theorem kid_bounds {n : NodeA} {a : Place} {hi : Option ByteArray} (hr : rightN n = true) (hl : n.leaf = false) (hh : hiR hi a.hi) (hs : ∀ s ∈ n.keys, inB a.lo hi s) {i : Nat} {k : Int} (hk : n.kids[i]? = some k) :
    kidBad a (kidPlace n a i k) = false ∧ (kidPlace n a i k).lo = loAt a.lo n.keys i ∧ hiR (hiAt hi n.keys i) (kidPlace n a i k).hi := by
  have hkl := (rightN_inner hr hl).2.1
  have hik := (List.getElem?_eq_some_iff.1 hk).1
  have hlo : (kidPlace n a i k).lo = loAt a.lo n.keys i := by
    unfold kidPlace loAt
    by_cases h0 : i = 0
    · rw [if_pos h0, if_pos h0]
    · rw [if_neg h0, if_neg h0]
      have : i - 1 < n.keys.length := by omega
      simp [List.getD, this]
  have hhi : hiR (hiAt hi n.keys i) (kidPlace n a i k).hi := by
    unfold kidPlace hiAt
    by_cases h0 : i < n.keys.length
    · simp only [if_pos h0, List.getElem?_eq_getElem h0]
      refine .inr ⟨by simp [List.getD, h0], ?_⟩
      simp only [List.getD, List.getElem?_eq_getElem h0, Option.getD_some]
      exact keyB_ne (rightN_keys hr hl _ (List.getElem_mem h0))
    · simp only [if_neg h0, List.getElem?_eq_none (by omega : n.keys.length ≤ i)]
      exact hh
  refine ⟨?_, hlo, hhi⟩
  unfold kidBad
  have h1 : ltS (kidPlace n a i k).lo a.lo = false := by
    rw [hlo]
    unfold loAt
    by_cases h0 : i = 0
    · rw [if_pos h0]; exact ltS_irrefl _
    · rw [if_neg h0]
      have hlt : i - 1 < n.keys.length := by omega
      have e : n.keys.getD (i - 1) a.lo = n.keys[i - 1] := by simp [List.getD, hlt]
      rw [e]
      exact (hs _ (List.getElem_mem hlt)).1
  rw [h1]
  by_cases hz : a.hi = e0
  · simp [hz]
  · have h2 : ltS a.hi (kidPlace n a i k).hi = false := by
      unfold kidPlace
      by_cases h0 : i < n.keys.length
      · simp only [if_pos h0]
        have e : n.keys.getD i e0 = n.keys[i] := by simp [List.getD, h0]
        rw [e]
        rcases hh with ⟨_, h3⟩ | ⟨h3, _⟩
        · exact absurd h3 hz
        · exact ltS_asymm ((hs _ (List.getElem_mem h0)).2 _ h3)
      · simp only [if_neg h0]; exact ltS_irrefl _
    rw [h2]; simp
theorem tells_keys {R : Int → Int → Option ByteArray} {n : NodeA} {l : List PairS} (hl : n.entries.length = l.length) (he : ∀ (i : Nat) (e : EntryA) (x : PairS), n.entries[i]? = some e → l[i]? = some x → e.key = x.1 ∧ tellsE R e = some x.2) : n.entries.map (·.key) = l.map (·.1) := by
  refine List.ext_getElem (by simp [hl]) (fun i h1 h2 => ?_)
  simp only [List.length_map] at h1 h2
  rw [List.getElem_map, List.getElem_map]
  exact (he i _ _ (List.getElem?_eq_getElem h1) (List.getElem?_eq_getElem h2)).1
/-- A TREE IS WALKED. -/
theorem walk_tr (hO : OnG G ps) (hg : ∀ p ∈ ps, p.gen ≤ gen) {R : Int → Int → Option ByteArray} {lo : ByteArray} {hi : Option ByteArray} {id d : Nat} {l : List PairS} (h : Tr (nodeV ps) R lo hi id d l) :
    ∀ {pgs : List Nat}, TrI ps g id d pgs → ∀ (f dep : Nat) (hb : ByteArray) (st : WkS), d ≤ f → 1 ≤ dep → hiR hi hb → (st.depth = 0 ∨ st.depth + 1 = dep + d) → (st.pages ++ iL pgs).Nodup → SortedP l → (∀ x ∈ l, ltS st.last x.1 = true) →
      nodeW G gen f ⟨(id : Int), dep, lo, hb⟩ st = .inl ⟨st.pages ++ iL pgs, st.keys ++ l.map (·.1), dep + d - 1⟩ := by
  induction h with
  | @leaf lo hi id n l h1 h2 h3 h4 h5 h6 =>
    intro pgs hI f dep hb st hf hdep hh hd hn hs hlast
    obtain ⟨f, rfl⟩ : ∃ f', f = f' + 1 := ⟨f - 1, by omega⟩
    obtain ⟨n2, q1, q2, q3, q4, rfl⟩ : ∃ n2, nodeV ps id = some n2 ∧ n2.leaf = true ∧ n2.entries ≠ [] ∧ (∀ e ∈ n2.entries, e.chain ≠ 0 → ∃ v, chainV ps g e.chain e.size v) ∧ pgs = id :: n2.entries.flatMap chI := by
      cases hI with
      | leaf a1 a2 a3 a4 => exact ⟨_, a1, a2, a3, a4, rfl⟩
      | inner a1 a2 => rw [h1] at a1; injection a1 with a1; subst a1; rw [h2] at a2; cases a2
    rw [h1] at q1
    injection q1 with q1
    subst q1
    obtain ⟨p, hp, hdec⟩ := node_page h1
    have hkeys := tells_keys h4 h5
    have hnot : (id : Int) ∉ st.pages := fun hm => by
      rw [List.nodup_append] at hn
      exact hn.2.2 _ hm (id : Int) (by simp [iL]) rfl
    rw [nodeW]
    unfold seeW
    rw [if_neg hnot]
    simp only [hO.young hg hp, hdec, h2, if_true]
    unfold leafW
    obtain ⟨s1, hs1⟩ : ∃ s1, s1 = atDepth ⟨(id : Int), dep, lo, hb⟩ { st with pages := st.pages ++ [(id : Int)] } := ⟨_, rfl⟩
    have hs2 : s1 = ⟨st.pages ++ [(id : Int)], st.keys, dep⟩ := by
      rw [hs1]
      unfold atDepth
      rcases hd with hd | hd
      · simp [hd]
      · have h : st.depth = dep := by omega
        have h0 : ¬ st.depth = 0 := by omega
        rw [if_neg h0]
        simp only [h]
    rw [← hs1, hs2]
    simp only
    rw [if_neg (by rintro (h | ⟨h, _⟩); exact h rfl; exact q3 h)]
    rw [ents_go hO hg n.entries _ q4 (rightN_leaf h3 h2) (fun e he => ?_) (by simpa [iL] using hn)]
    · simp only [hkeys]
      simp [iL]
    · obtain ⟨i, hi1, hie⟩ := List.getElem_of_mem he
      have hil : i < l.length := by rw [← h4]; exact hi1
      have hx : l[i] ∈ l := List.getElem_mem hil
      have hek := (h5 i e l[i] (by rw [← hie]; exact List.getElem?_eq_getElem hi1) (List.getElem?_eq_getElem hil)).1
      have hib := h6 _ hx
      rw [hek]
      refine ⟨hlast _ hx, hib.1, fun hne => ?_⟩
      rcases hh with ⟨_, h7⟩ | ⟨h7, _⟩
      · exact absurd h7 hne
      · exact hib.2 _ h7
  | @inner lo hi id n d parts h1 h2 h3 h4 h5 h6 ih =>
    intro pgs hI f dep hb st hf hdep hh hd hn hs hlast
    obtain ⟨f, rfl⟩ : ∃ f', f = f' + 1 := ⟨f - 1, by omega⟩
    obtain ⟨n2, tp, q1, q2, q3, q4, rfl⟩ : ∃ (n2 : NodeA) (tp : List (List Nat)), nodeV ps id = some n2 ∧ n2.leaf = false ∧ tp.length = n2.kids.length ∧ (∀ (i : Nat) (k : Int) (p : List Nat), n2.kids[i]? = some k → tp[i]? = some p → TrI ps g k.toNat d p) ∧ pgs = id :: tp.flatten := by
      cases hI with
      | leaf a1 a2 => rw [h1] at a1; injection a1 with a1; subst a1; rw [h2] at a2; cases a2
      | inner a1 a2 a3 a4 a5 a6 => exact ⟨_, _, a1, a2, a3, a4, rfl⟩
    rw [h1] at q1
    injection q1 with q1
    subst q1
    obtain ⟨p, hp, hdec⟩ := node_page h1
    obtain ⟨_, hkl, hk2⟩ := rightN_inner h3 h2
    have hnot : (id : Int) ∉ st.pages := fun hm => by
      rw [List.nodup_append] at hn
      exact hn.2.2 _ hm (id : Int) (by simp [iL]) rfl
    rw [nodeW]
    unfold seeW
    rw [if_neg hnot]
    simp only [hO.young hg hp, hdec, h2]
    rw [if_neg (by simp)]
    have hflat : ∀ i, tp.flatten = (tp.take i).flatten ++ (tp.drop i).flatten := fun i => by rw [← List.flatten_append, List.take_append_drop]
    have hflat2 : ∀ i, parts.flatten = (parts.take i).flatten ++ (parts.drop i).flatten := fun i => by rw [← List.flatten_append, List.take_append_drop]
    obtain ⟨s', hs1, hs2⟩ := kids_go (rec_ := nodeW G gen f) (n := n) (a := ⟨(id : Int), dep, lo, hb⟩)
      (Inv := fun i s => s = ⟨st.pages ++ [(id : Int)] ++ iL (tp.take i).flatten, st.keys ++ (parts.take i).flatten.map (·.1), if i = 0 then st.depth else dep + 1 + d - 1⟩) (fun i k s hk hI => by
        have hik := (List.getElem?_eq_some_iff.1 hk).1
        have hit : i < tp.length := by omega
        have hip : i < parts.length := by omega
        obtain ⟨b1, b2, b3⟩ := kid_bounds (a := ⟨(id : Int), dep, lo, hb⟩) h3 h2 hh h6 hk
        refine ⟨b1, _, ?_, rfl⟩
        have hkk : ((k.toNat : Nat) : Int) = k := by have := hk2 k (List.mem_of_getElem? hk); omega
        have hpl : kidPlace n ⟨(id : Int), dep, lo, hb⟩ i k = ⟨(k.toNat : Int), dep + 1, loAt lo n.keys i, (kidPlace n ⟨(id : Int), dep, lo, hb⟩ i k).hi⟩ := by
          rw [hkk, ← b2]; rfl
        have hf2 := hflat2 (i + 1)
        rw [take_one _ _ _ (List.getElem?_eq_getElem hip), List.flatten_append, List.flatten_cons, List.flatten_nil, List.append_nil] at hf2
        have hf3 := hflat (i + 1)
        rw [take_one _ _ _ (List.getElem?_eq_getElem hit), List.flatten_append, List.flatten_cons, List.flatten_nil, List.append_nil] at hf3
        rw [hf2] at hs
        have hs3 := (List.pairwise_append.1 (List.pairwise_append.1 hs).1)
        rw [hpl, ih i k parts[i] hk (List.getElem?_eq_getElem hip) (q4 i k tp[i] hk (List.getElem?_eq_getElem hit)) f (dep + 1) _ s (by omega) (by omega) b3 (by rw [hI]; by_cases h0 : i = 0 <;> simp [h0] <;> omega) ?_ hs3.2.1 (fun x hx => ?_)]
        · rw [hI, take_one _ _ _ (List.getElem?_eq_getElem hip), take_one _ _ _ (List.getElem?_eq_getElem hit)]
          simp only [List.flatten_append, List.flatten_cons, List.flatten_nil, List.append_nil, iL_app, List.map_append, List.append_assoc, Nat.add_one_ne_zero, if_false]
        · rw [hI]
          refine hn.sublist ?_
          show List.Sublist _ (st.pages ++ ((id : Int) :: iL tp.flatten))
          rw [hf3, iL_app, iL_app]
          simp only [List.append_assoc, List.cons_append, List.nil_append]
          refine List.Sublist.append (List.Sublist.refl _) (List.Sublist.cons_cons _ ?_)
          rw [← List.append_assoc]
          exact List.sublist_append_left _ _
        · rw [hI]
          refine last_lt ?_ (fun y hy => hs3.2.2 y hy x hx)
          exact hlast x (by rw [hf2]; simp [hx])) n.kids 0 ⟨st.pages ++ [(id : Int)], st.keys, st.depth⟩ rfl (by simp) (by simp [iL])
    have hs3 : s' = _ := hs2
    rw [hs1, hs3]
    have h0 : n.kids.length ≠ 0 := by omega
    rw [List.take_of_length_le (by omega), List.take_of_length_le (by omega), if_neg h0]
    simp [iL]
theorem TrI.form {id d : Nat} {pgs : List Nat} (h : TrI ps g id d pgs) : ∃ r, pgs = id :: r := by cases h <;> exact ⟨_, rfl⟩
/-- WALK. -/
theorem walk_built {l : List PairS} (hT : Tame 300 l) {e k : Nat} (he : 1 ≤ e) (he2 : e ≤ 3) (hk : 2 ≤ k) (hk2 : k ≤ 4) (h : OnG G (buildA 5 e k l).1) :
    ∃ pgs : List Nat, walkW G 5 ((buildA 5 e k l).2.1 : Int) = .inl ⟨iL pgs, l.map (·.1), (buildA 5 e k l).2.2⟩ ∧ pgs.Perm (List.range' 2 (buildA 5 e k l).1.length) ∧ (l ≠ [] → ∃ r, pgs = (buildA 5 e k l).2.1 :: r) := by
  by_cases h0 : l = []
  · subst h0
    exact ⟨[], rfl, List.Perm.refl _, fun h => absurd rfl h⟩
  · have hf := hT.few 5 e k he hk
    have := hT.len
    obtain ⟨h1, h2, h3, h4⟩ := build_tr 5 e k he (by omega) hk (by omega) hT.sorted hT.ok h0 (by omega) (by omega) (h.fits2 5)
    obtain ⟨pgs, j1, j2⟩ := build_I 5 e k he (by omega) hk (by omega) hT.sorted hT.ok h0 (by omega) (by omega) (h.fits2 5)
    have hfit := build_fit 5 e k he he2 hk hk2 hT.ok (by omega)
    have hgen : ∀ p ∈ (buildA 5 e k l).1, p.gen ≤ 5 := fun p hp => by
      obtain ⟨j, hj, ej⟩ := List.getElem_of_mem hp
      have := (hfit j p (by rw [← ej]; exact List.getElem?_eq_getElem hj)).2.1
      omega
    have hnd : pgs.Nodup := j2.nodup_iff.2 List.nodup_range'
    have hw := walk_tr h hgen (h1 e0 none (fun x _ => inB_all _)) j1 16 1 e0 wk0 h4 (by omega) (.inl ⟨rfl, rfl⟩) (.inl rfl) (by
      show ([] ++ iL pgs).Nodup
      rw [List.nil_append]
      exact List.pairwise_map.2 (hnd.imp (fun h e => h (by omega)))) hT.sorted (fun x hx => by
        show ltS e0 x.1 = true
        rcases not_ltS (inB_all x.1).1 with h5 | h5
        · exact h5
        · exact absurd h5 (keyB_ne (hT.ok x hx).1))
    refine ⟨pgs, ?_, j2, fun _ => j1.form⟩
    unfold walkW
    rw [if_neg (by omega), hw]
    simp [wk0]
end
end Go.Proofs.YtepafbokbfcbgaaGreatDoor
