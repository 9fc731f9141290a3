/- cache.New, Flush, Forget, Drop. -/
import Derived.Test.YtidjkcfjocppmaaDoorKCache6
import Derived.Laws.MakeOwn
namespace Go.Proofs.YtidjkcfjocppmaaDoor
open Go.RowKit
attribute [local go_sem ↓] Go.wp_at_zero Go.wp_at_succ
theorem run_make_rowN {P : Program} (t e : TypeId) (i : TypeInfo) (z : Value) (ht : P.underlying t = some (.slice e)) (hi : P.info? e = some i) (hz : i.zero = some z)
    (kl kc : IntKind) (n c : Nat) (hnc : n ≤ c) (hbytes : i.bytes * c ≤ 281474976710656) (h63 : c ≤ 9223372036854775807) (w : World) :
    (Instr.makeSlice t (.int kl (n : Int)) (.int kc (c : Int))).run P w = .ok (.slice (some ⟨w.heap.size, 0, none⟩) n c) (w.alloc (.cells (madeCells z.cells (c * i.size)) e)) := by
  have hb : (i.bytes : Int) * (c : Int) ≤ 281474976710656 := by
    have h : ((i.bytes * c : Nat) : Int) ≤ 281474976710656 := by omega
    rwa [Int.natCast_mul] at h
  have hr := run_make (P := P) w t e i z ht hi hz kl kc n c (by omega) (by omega) hb (by omega)
  simp only [Int.toNat_natCast] at hr
  exact hr
theorem Tryd.slotI : (Tryd.prog.info? 94).map (fun i => (i.zero, i.size, i.bytes)) = some (some (.agg #[.int .i64 0, .int .i64 0, .int .u64 0, .slice none 0 0, .bool false, .bool false, .bool false, .int .i64 0]), 8, 64) := by kernel_rfl
def zeroSlot : Array Value := #[.int .i64 0, .int .i64 0, .int .u64 0, .slice none 0 0, .bool false, .bool false, .bool false, .int .i64 0]
/-- make([]slot, n) -/
theorem Tryd.mkSlots (n : Nat) (hn : n ≤ 64) (w : World) : (Instr.makeSlice 86 (.int .i64 (n : Int)) (.int .i64 (n : Int))).run Tryd.prog w = .ok (.slice (some ⟨w.heap.size, 0, none⟩) n n) (w.alloc (.cells (madeCells zeroSlot (n * 8)) 94)) := by
  obtain ⟨i, hi, hz, hs, hb⟩ := info3 Tryd.slotI
  have := run_make_rowN (P := Tryd.prog) 86 94 i _ Tryd.underlying86 hi hz .i64 .i64 n n (Nat.le_refl _) (by rw [hb]; omega) (by omega) w
  rw [hs] at this
  exact this
theorem slotRow_new {w : World} {sb n : Nat} (h : Blk w sb (madeCells zeroSlot (n * 8)) 94) : SlotRow w sb (List.replicate n slot0) (List.replicate n (.slice none 0 0)) := by
  refine ⟨_, h, by simp [madeCells, zeroSlot], fun i s bv hs hb j v hv => ?_⟩
  have e1 := rep_at hs
  have hi : i < n := by have := (List.getElem?_eq_some_iff.1 hs).1; simpa using this
  have e2 : bv = .slice none 0 0 := by
    rw [List.getElem?_replicate, if_pos hi] at hb; injection hb with hb; exact hb.symm
  subst e1 e2
  have hj : j < 8 := by have := (List.getElem?_eq_some_iff.1 hv).1; rw [slotCells_len] at this; exact this
  have hlt : i * 8 + j < n * 8 := by omega
  have e3 : (i * 8 + j) % 8 = j := by omega
  have : (madeCells zeroSlot (n * 8))[i * 8 + j]? = (slotCells slot0 (.slice none 0 0))[j]? := by
    have hz : zeroSlot.size = 8 := rfl
    unfold madeCells
    rw [Array.getElem?_map, Array.getElem?_range, if_pos hlt, Option.map_some, hz, e3]
    clear h hb hs hv hlt e3 hi hz
    obtain rfl | rfl | rfl | rfl | rfl | rfl | rfl | rfl : j = 0 ∨ j = 1 ∨ j = 2 ∨ j = 3 ∨ j = 4 ∨ j = 5 ∨ j = 6 ∨ j = 7 := by omega
    all_goals rfl
  rw [this]; exact hv
section
variable {P P' F F' Pd Pd' : Nat → Prop} {ad : Nat → Addr} {w w' : World} {d c sb : Nat} {bvs : List Value} {C : CaA} {D : DiskA}

/-- what Drop leaves. -/
def DropP (C C' : CaA) (id : Nat) : Prop := CaInv C' ∧ C'.disk.blocks = C.disk.blocks ∧ C'.disk.size = C.disk.size ∧ ∀ G, CaRel C G → CaRel C' (G.drop id)
def DropDone (F : Nat → Prop) (ad : Nat → Addr) (w : World) (d c sb : Nat) (Pd : Nat → Prop) (C : CaA) (id : Nat) (e : Ending) (w' : World) : Prop :=
  ∃ (b : Bool) (bvs' : List Value) (C' : CaA), e = .returned (.bool b) ∧ CaR F w' d c sb bvs' Pd C' ∧ Nxt (caF c sb Pd) (caF c sb Pd) F F ad w w' ∧ DropP C C' id
set_option maxRecDepth 100000 in
set_option maxHeartbeats 1000000 in
theorem caDrop_any (hL : Env F ad w) (hP : ∀ k, caF c sb Pd k → F k) (h : CaR F w d c sb bvs Pd C) (hI : CaInv C) (id : Nat) :
    Calls Tryd.prog 64 #[.pointer (some ⟨c, 0, none⟩), .int .i64 (id : Int)] w (DropDone F ad w d c sb Pd C id) := by
  have HC := Lib.hid h
  have HL := Lib.hid hL
  have HP := Lib.hid hP
  have HI := Lib.hid hI
  clear h hL hP hI
  go_enter Tryd.func64, Tryd.ntmps64
  go_wp2_with fail
  refine (caAt_any HC.out id).mono ?_
  rintro e w1 ⟨hm, hat⟩
  have HM := Lib.hid hm
  have HC1 := Lib.hid (HC.out.at hm)
  clear hm
  rcases hat with ⟨i, s, hs, hh, rfl⟩ | ⟨hno, rfl⟩
  · obtain ⟨ba, bn, bc, hb⟩ := HC1.out.bvAt hs
    obtain ⟨e0, e1, e2, e3, e4, e5, e6, e7⟩ := HC1.out.cell8 hs hb
    obtain ⟨d0, d1, d2⟩ := HC1.out.c3
    obtain ⟨z0, z1⟩ := HC1.out.frz
    have hlt : i < C.slots.length := (List.getElem?_eq_some_iff.1 hs).1
    have hn := HC1.out.n64
    have HS := Lib.hid hs
    have HH := Lib.hid hh
    obtain ⟨n, hnn⟩ : ∃ n, n = C.slots.length := ⟨_, rfl⟩
    rw [← hnn] at hn hlt d1
    have HNN := Lib.hid hnn
    have h1 : (0 : Int) ≤ (i : Int) := by omega
    have h2 : (i : Int) < (n : Int) := by omega
    have h3 : decide ((0 : Int) ≤ (i : Int)) = true := by simp
    clear hs hh hb hnn
    go_wp2_with fail
    go_ret
    have q2 := HC1.out.slot' HP.out (i := i) (by rw [← HNN.out]; exact hlt) slot0 (.slice none 0 0) (Sl.nil _ _ _ _)
    have q3 : Mods (caF c sb Pd) w1 (w1.setCells sb (i * 8) (slotCells slot0 (.slice none 0 0))) := Mods.setMany (.inr (.inr (.inr rfl))) _ _ _ (Mods.refl _ _)
    have n1 := Nxt.ext (P := caF c sb Pd) HL.out HP.out HM.out
    have n2 := Nxt.same n1.env n1.sub q3
    exact ⟨_, _, _, rfl, q2, n1.trans n2, (inv_clear HI.out HS.out), rfl, rfl, fun G hG => (rel_drop HI.out hG HS.out HH.out).2⟩
  · have HNO := Lib.hid hno
    clear hno
    go_wp2_with fail
    go_ret
    exact ⟨_, _, _, rfl, HC1.out, Nxt.ext HL.out HP.out HM.out, HI.out, rfl, rfl, fun G hG => rel_drop_no hG HNO.out⟩

def ForgetDone (F : Nat → Prop) (ad : Nat → Addr) (w : World) (d c sb : Nat) (Pd : Nat → Prop) (C : CaA) (e : Ending) (w' : World) : Prop :=
  ∃ (sb' : Nat) (bvs' : List Value) (F' : Nat → Prop), e = .returned (.tuple #[]) ∧ CaR F' w' d c sb' bvs' Pd (forgetC C) ∧ Nxt (caF c sb Pd) (caF c sb' Pd) F F' ad w w'
set_option maxRecDepth 100000 in
theorem caForget_any (hL : Env F ad w) (hP : ∀ k, caF c sb Pd k → F k) (h : CaR F w d c sb bvs Pd C) :
    Calls Tryd.prog 21 #[.pointer (some ⟨c, 0, none⟩)] w (ForgetDone F ad w d c sb Pd C) := by
  obtain ⟨d0, d1, d2⟩ := h.c3
  have z0 := h.frz.1
  have hn := h.n64
  obtain ⟨n, hnn⟩ : ∃ n, n = C.slots.length := ⟨_, rfl⟩
  rw [← hnn] at hn d1
  have hmk := Tryd.mkSlots n hn
  have hcl := cell_lt d0
  have HNN := Lib.hid hnn
  have HC := Lib.hid h
  have HL := Lib.hid hL
  have HP := Lib.hid hP
  clear h hL hP hnn
  go_enter Tryd.func21, Tryd.ntmps21
  go_wp2_with fail
  go_end0
  have hC := HC.out
  have hP := HP.out
  have hsz : ((w.setCell ⟨c, 1, none⟩ (.slice (some ⟨w.heap.size, 0, none⟩) n n)).setCell ⟨c, 2, none⟩ (.int .i64 0)).heap.size = w.heap.size := by simp [World.setCell]
  have m0 : Mods (fun k => k = c) w ((w.setCell ⟨c, 1, none⟩ (.slice (some ⟨w.heap.size, 0, none⟩) n n)).setCell ⟨c, 2, none⟩ (.int .i64 0)) := ((Mods.refl (fun k => k = c) w).setCell (.inr rfl) _).setCell (.inr rfl) _
  have m1 := m0.alloc (.cells (madeCells zeroSlot (n * 8)) 94)
  have hbd := hC.bdP
  have hB : Blk (((w.setCell ⟨c, 1, none⟩ (.slice (some ⟨w.heap.size, 0, none⟩) n n)).setCell ⟨c, 2, none⟩ (.int .i64 0)).alloc (.cells (madeCells zeroSlot (n * 8)) 94)) w.heap.size (madeCells zeroSlot (n * 8)) 94 := heap_at hsz.symm
  have st : Stp (caF c sb Pd) (caF c w.heap.size Pd) w (((w.setCell ⟨c, 1, none⟩ (.slice (some ⟨w.heap.size, 0, none⟩) n n)).setCell ⟨c, 2, none⟩ (.int .i64 0)).alloc (.cells (madeCells zeroSlot (n * 8)) 94)) :=
    ⟨m1.mono (fun k hk => .inr (.inl hk)), fun k hk hf => by
      rcases hf with hf | rfl | rfl
      · exact .inl hf
      · exact .inr (.inl rfl)
      · omega, fun k hf => by
      rcases hf with hf | rfl | rfl
      · exact Nat.lt_of_lt_of_le (hC.disk.bd k hf) m1.size
      · exact Nat.lt_of_lt_of_le hcl m1.size
      · exact hB.lt⟩
  have nx := Nxt.of HL.out hP st
  refine ⟨w.heap.size, List.replicate C.slots.length (.slice none 0 0), _, rfl, ⟨?_, ?_, by simp [forgetC], by simpa [forgetC] using hC.n64, fun i s bv hs hb => ?_, hC.disk.far m1 (fun k hk e => hC.cd (e ▸ hk)), hC.cd, fun f => by have := hC.disk.bd _ f; omega, by omega⟩, nx⟩
  · have := ((hC.own.set 1 (.slice (some ⟨w.heap.size, 0, none⟩) n n)).set 2 (.int .i64 0)).alloc (.cells (madeCells zeroSlot (n * 8)) 94)
    simp only [forgetC, List.length_replicate, ← HNN.out]
    simpa using this
  · simp only [forgetC, ← HNN.out]
    exact slotRow_new hB
  · have hi : i < C.slots.length := by have := (List.getElem?_eq_some_iff.1 hs).1; simpa [forgetC] using this
    have e1 := rep_at hs
    have e2 : bv = .slice none 0 0 := by rw [List.getElem?_replicate, if_pos hi] at hb; injection hb with hb; exact hb.symm
    subst e1 e2
    exact Sl.nil _ _ _ _

def FlushDone (F : Nat → Prop) (ad : Nat → Addr) (w : World) (d c sb : Nat) (bvs : List Value) (Pd : Nat → Prop) (C : CaA) (e : Ending) (w' : World) : Prop :=
  ∃ (Pd' F' : Nat → Prop) (C' : CaA), e = .returned .nilIface ∧ CaR F' w' d c sb bvs Pd' C' ∧ Sim C C' ∧ Nxt (caF c sb Pd) (caF c sb Pd') F F' ad w w' ∧ ∀ (j : Nat) (t : SlotA), C'.slots[j]? = some t → t.wet = false
set_option maxRecDepth 100000 in
theorem caFlush_any (hL : Env F ad w) (hP : ∀ k, caF c sb Pd k → F k) (h : CaR F w d c sb bvs Pd C) (hI : CaInv C) (hc : C.cost ≤ 1000000) :
    Calls Tryd.prog 20 #[.pointer (some ⟨c, 0, none⟩)] w (FlushDone F ad w d c sb bvs Pd C) := by
  obtain ⟨_, d1, _⟩ := h.c3
  have hn := h.n64
  obtain ⟨n, hnn⟩ : ∃ n, n = C.slots.length := ⟨_, rfl⟩
  rw [← hnn] at hn d1
  have HNN := Lib.hid hnn
  have HC := Lib.hid h
  have HL := Lib.hid hL
  have HP := Lib.hid hP
  have HI := Lib.hid hI
  have HCO := Lib.hid hc
  clear h hL hP hnn hI hc
  go_enter Tryd.func20, Tryd.ntmps20
  go_wp2_with fail
  go_loopg [14] n (fun m v wr => ∃ (k : Nat) (Pd1 F1 : Nat → Prop) (C1 : CaA), k + m = n ∧ v = .int .i64 k ∧ Hid (CaR F1 wr d c sb bvs Pd1 C1 ∧ Sim C C1 ∧ Nxt (caF c sb Pd) (caF c sb Pd1) F F1 ad w wr ∧ C1.slots.length = n ∧ ∀ (j : Nat) (t : SlotA), j < k → C1.slots[j]? = some t → t.wet = false))
  case atStart => exact ⟨0, Pd, F, C, by omega, rfl, Lib.hid ⟨HC.out, Sim.refl HI.out, Nxt.refl HL.out HP.out, HNN.out.symm, fun j t hj => by omega⟩⟩
  case round =>
    obtain ⟨k, Pd1, F1, C1, hk, rfl, HW⟩ := hrel
    by_cases hlt : k < n
    · obtain ⟨s, hs⟩ : ∃ s, C1.slots[k]? = some s := ⟨_, List.getElem?_eq_getElem (by rw [HW.out.2.2.2.1]; exact hlt)⟩
      have HS := Lib.hid hs
      clear hs
      go_wp2_with fail
      refine (caWrite_any HW.out.2.2.1.env HW.out.2.2.1.sub HW.out.1 HW.out.2.1.inv (Nat.le_trans HW.out.2.1.cost HCO.out) HS.out).mono ?_
      rintro e w5 ⟨Pd', F', C2, s2, rfl, hC2, hS2, hX2, hs2, hw2, hl2, hh2, hu2, hsub, ho2⟩
      have HNX : Hid (CaR F' w5 d c sb bvs Pd' C2 ∧ Sim C C2 ∧ Nxt (caF c sb Pd) (caF c sb Pd') F F' ad w w5 ∧ C2.slots.length = n ∧ ∀ (j : Nat) (t : SlotA), j < k + 1 → C2.slots[j]? = some t → t.wet = false) :=
        Lib.hid ⟨hC2, HW.out.2.1.trans hS2, HW.out.2.2.1.trans hX2, hl2.trans HW.out.2.2.2.1, fun j t hj ht => by
          by_cases e : j = k
          · subst e; rw [hs2] at ht; injection ht with ht; rw [← ht]; exact hw2
          · rw [ho2 j e] at ht; exact HW.out.2.2.2.2 j t (by omega) ht⟩
      clear hC2 hS2 hX2 hs2 hw2 hl2 hh2 hu2 hsub ho2
      go_wp2_with fail
      go_roundg (gk - 1)
      case measure => omega
      case rel => exact ⟨k + 1, Pd', F', C2, by omega, by go_num, HNX⟩
    · go_wp2_with fail
      go_ret
      exact ⟨Pd1, F1, C1, rfl, HW.out.1, HW.out.2.1, HW.out.2.2.1, fun j t ht => HW.out.2.2.2.2 j t (by have := (List.getElem?_eq_some_iff.1 ht).1; have := HW.out.2.2.2.1; omega) ht⟩

def CaNewDone (F : Nat → Prop) (ad : Nat → Addr) (w : World) (d : Nat) (Pd : Nat → Prop) (D : DiskA) (n : Nat) (e : Ending) (w' : World) : Prop :=
  ∃ (c sb : Nat) (bvs : List Value) (F' : Nat → Prop), e = .returned (.tuple #[.pointer (some ⟨c, 0, none⟩), .nilIface]) ∧ CaR F' w' d c sb bvs Pd ⟨D, List.replicate n slot0, 0⟩ ∧ Nxt Pd (caF c sb Pd) F F' ad w w'
set_option maxRecDepth 100000 in
theorem caNew_ok (hL : Env F ad w) (hP : ∀ k, Pd k → F k) (hD : DkS w Pd d D) (n : Nat) (h3 : 3 ≤ n) (h64 : n ≤ 64) :
    Calls Tryd.prog 35 #[.pointer (some ⟨d, 0, none⟩), .int .i64 (n : Int)] w (CaNewDone F ad w d Pd D n) := by
  have hmk := Tryd.mkSlots n h64
  have a1 : decide ((n : Int) < 3) = false := by simp; omega
  have a2 : decide ((64 : Int) < (n : Int)) = false := by simp; omega
  have HL := Lib.hid hL
  have HP := Lib.hid hP
  have HD := Lib.hid hD
  clear hL hP hD
  go_enter Tryd.func35, Tryd.ntmps35
  go_wp2_with fail
  go_ret2
  have hD := HD.out
  have hB : Blk ((w.alloc (.cells (madeCells zeroSlot (n * 8)) 94)).alloc (.cells #[.pointer (some ⟨d, 0, none⟩), .slice (some ⟨w.heap.size, 0, none⟩) n n, .int .i64 0] 88)) w.heap.size (madeCells zeroSlot (n * 8)) 94 := (Blk.new w _ _).alloc _
  have hB2 : Blk ((w.alloc (.cells (madeCells zeroSlot (n * 8)) 94)).alloc (.cells #[.pointer (some ⟨d, 0, none⟩), .slice (some ⟨w.heap.size, 0, none⟩) n n, .int .i64 0] 88)) (w.heap.size + 1) #[.pointer (some ⟨d, 0, none⟩), .slice (some ⟨w.heap.size, 0, none⟩) n n, .int .i64 0] 88 := heap_at (by simp)
  have m1 : Ext w ((w.alloc (.cells (madeCells zeroSlot (n * 8)) 94)).alloc (.cells #[.pointer (some ⟨d, 0, none⟩), .slice (some ⟨w.heap.size, 0, none⟩) n n, .int .i64 0] 88)) := ((Mods.refl _ w).alloc _).alloc _
  have hbd := hD.bd
  have st : Stp Pd (caF (w.heap.size + 1) w.heap.size Pd) w ((w.alloc (.cells (madeCells zeroSlot (n * 8)) 94)).alloc (.cells #[.pointer (some ⟨d, 0, none⟩), .slice (some ⟨w.heap.size, 0, none⟩) n n, .int .i64 0] 88)) :=
    ⟨m1.ext, fun k hk hf => by
      rcases hf with hf | rfl | rfl
      · exact hf
      · omega
      · omega, fun k hf => by
      rcases hf with hf | rfl | rfl
      · exact Nat.lt_of_lt_of_le (hbd k hf) m1.size
      · exact hB2.lt
      · exact hB.lt⟩
  refine ⟨w.heap.size + 1, w.heap.size, List.replicate n (.slice none 0 0), _, rfl, ⟨by simpa using hB2, slotRow_new hB, by simp, by simpa using h64, fun i s bv hs hb => ?_, hD.at m1, fun f => by have := hbd _ f; omega, fun f => by have := hbd _ f; omega, by omega⟩, Nxt.of HL.out HP.out st⟩
  have hi : i < n := by have := (List.getElem?_eq_some_iff.1 hs).1; simpa using this
  have e1 := rep_at hs
  have e2 : bv = .slice none 0 0 := by rw [List.getElem?_replicate, if_pos hi] at hb; injection hb with hb; exact hb.symm
  subst e1 e2
  exact Sl.nil _ _ _ _
end
end Go.Proofs.YtidjkcfjocppmaaDoor
