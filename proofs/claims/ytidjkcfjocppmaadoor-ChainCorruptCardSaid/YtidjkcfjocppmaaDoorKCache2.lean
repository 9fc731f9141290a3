/- (*cache.Cache).write. -/
import Derived.Test.YtidjkcfjocppmaaDoorKCache1
namespace Go.Proofs.YtidjkcfjocppmaaDoor
open Go.RowKit
attribute [local go_sem ↓] Go.wp_at_zero Go.wp_at_succ

section
variable {P P' F F' Pd Pd' : Nat → Prop} {ad : Nat → Addr} {w w' : World} {d c sb : Nat} {bvs : List Value} {C : CaA} {D : DiskA}
theorem cellE {w w' : World} (m : Ext w w') {b o : Nat} {v : Value} (h : w.cell? ⟨b, o, none⟩ = some v) : w'.cell? ⟨b, o, none⟩ = some v := (m.cell (cell_lt h) (fun f => f)).trans h
theorem slotCells_len (s : SlotA) (bv : Value) : (slotCells s bv).length = 8 := rfl
/-- one cell of a slot is turned. -/
theorem SlotRow.setAt {l : List SlotA} (h : SlotRow w sb l bvs) {i : Nat} {s : SlotA} {bv : Value} (hi : l[i]? = some s) (hb : bvs[i]? = some bv) (j0 : Nat) (v : Value) (s' : SlotA)
    (hs : ∀ (j : Nat) (u : Value), (slotCells s' bv)[j]? = some u → (j = j0 ∧ u = v) ∨ (j ≠ j0 ∧ (slotCells s bv)[j]? = some u)) (hj0 : j0 < 8) : SlotRow (w.setCell ⟨sb, i * 8 + j0, none⟩ v) sb (l.set i s') bvs := by
  obtain ⟨cs, h1, h2, h3⟩ := h
  have hil := (List.getElem?_eq_some_iff.1 hi).1
  refine ⟨_, h1.set (i * 8 + j0) v, by simpa using h2, fun k t bt ht hbt j u hu => ?_⟩
  have hj : j < 8 := by have := (List.getElem?_eq_some_iff.1 hu).1; rw [slotCells_len] at this; exact this
  rcases set_cases ht with ⟨rfl, rfl⟩ | ⟨hne, ht⟩
  · rw [hb] at hbt; injection hbt with hbt; subst hbt
    rcases hs j u hu with ⟨rfl, rfl⟩ | ⟨hjne, hu⟩
    · rw [Array.getElem?_setIfInBounds_self_of_lt (by omega)]
    · rw [Array.getElem?_setIfInBounds_ne (by omega)]; exact h3 k s bv hi hb j u hu
  · rw [Array.getElem?_setIfInBounds_ne (by omega)]; exact h3 k t bt ht hbt j u hu
/-- a whole slot is turned. -/
theorem SlotRow.set8 {l : List SlotA} (h : SlotRow w sb l bvs) {i : Nat} (hil : i < l.length) (s' : SlotA) (bv' : Value) : SlotRow (w.setCells sb (i * 8) (slotCells s' bv')) sb (l.set i s') (bvs.set i bv') := by
  obtain ⟨cs, h1, h2, h3⟩ := h
  have hb := Blk.setMany (slotCells s' bv') (i * 8) w cs h1 (by rw [slotCells_len]; omega)
  refine ⟨_, hb, ?_, fun k t bt ht hbt j u hu => ?_⟩
  · simp only [List.size_toArray, List.length_append, List.length_take, List.length_drop, slotCells_len, Array.length_toList, List.length_set]; omega
  · have hj : j < 8 := by have := (List.getElem?_eq_some_iff.1 hu).1; rw [slotCells_len] at this; exact this
    have hl : (cs.toList.take (i * 8)).length = i * 8 := by rw [List.length_take, Array.length_toList]; omega
    rw [List.getElem?_toArray, List.append_assoc]
    rcases set_cases ht with ⟨rfl, rfl⟩ | ⟨hne, ht⟩
    · rcases set_cases hbt with ⟨_, rfl⟩ | ⟨hne, _⟩
      · rw [List.getElem?_append_right (by rw [hl]; omega), hl, show k * 8 + j - k * 8 = j by omega, List.getElem?_append_left (by rw [slotCells_len]; exact hj)]; exact hu
      · exact absurd rfl hne
    · have hbt2 : bvs[k]? = some bt := by
        rcases set_cases hbt with ⟨e, _⟩ | ⟨_, hbt⟩
        · exact absurd e hne
        · exact hbt
      have h4 := h3 k t bt ht hbt2 j u hu
      by_cases hk : k < i
      · rw [List.getElem?_append_left (by rw [hl]; omega), List.getElem?_take, if_pos (by omega), Array.getElem?_toList]; exact h4
      · rw [List.getElem?_append_right (by rw [hl]; omega), hl, List.getElem?_append_right (by rw [slotCells_len]; omega), slotCells_len, List.getElem?_drop, Array.getElem?_toList]
        rw [show i * 8 + 8 + (k * 8 + j - i * 8 - 8) = k * 8 + j by omega]; exact h4

theorem caWrite_dry (h : CaR F w d c sb bvs Pd C) {i : Nat} {s : SlotA} (hi : C.slots[i]? = some s) (hw : s.wet = false) :
    Calls Tryd.prog 47 #[.pointer (some ⟨c, 0, none⟩), .int .i64 (i : Int)] w fun e w' => e = .returned .nilIface ∧ w = w' := by
  obtain ⟨_, c1, _⟩ := h.c3
  obtain ⟨ba, bn, bc, hb⟩ := h.bvAt hi
  obtain ⟨_, _, _, _, e4, e5, _, _⟩ := h.cell8 hi hb
  have hlt : i < C.slots.length := (List.getElem?_eq_some_iff.1 hi).1
  have hn := h.n64
  obtain ⟨n, hnn⟩ : ∃ n, n = C.slots.length := ⟨_, rfl⟩
  rw [← hnn] at c1 hn hlt
  clear h hb hi hnn
  have h1 : (0 : Int) ≤ (i : Int) := by omega
  have h2 : (i : Int) < (n : Int) := by omega
  cases hf : s.full with
  | false =>
    rw [hf] at e4
    clear hf hw
    go_enter Tryd.func47, Tryd.ntmps47
    go_wp2
    go_ret
    exact ⟨rfl, rfl⟩
  | true =>
    have hd : s.dirty = false := by simpa [SlotA.wet, hf] using hw
    rw [hf] at e4
    rw [hd] at e5
    clear hf hw hd
    go_enter Tryd.func47, Tryd.ntmps47
    go_wp2
    go_ret
    exact ⟨rfl, rfl⟩

def caF (c sb : Nat) (Pd : Nat → Prop) : Nat → Prop := fun k => Pd k ∨ (k = c ∨ k = sb)
theorem DkS.write (hL : Env F ad w) (hP : ∀ k, P k → F k) (h : DkS w P d D) (i : Nat) (hi : i < D.blocks) (ho : D.off = false) (hl : D.lit = false) (bv : Value) (b : List UInt8) (hb : Sl F w 1 encB bv b) (hbl : b.length = D.size) (hfew : D.waiting.length < 1000000) :
    Calls Tryd.prog 68 #[.pointer (some ⟨d, 0, none⟩), .int .i64 (i : Int), bv] w fun e w' => ∃ P' F', e = .returned .nilIface ∧ DkS w' P' d (D.wrote i b) ∧ Nxt P P' F F' ad w w' := by
  obtain ⟨bl, gs, ws, wv, kv, h1, h2⟩ := h
  exact dkWrite_ok hL hP h1 h2 i hi ho hl bv b hb hbl hfew
theorem Nxt.cellK (n : Nxt P P' F F' ad w w') {b o : Nat} {v : Value} (h : w.cell? ⟨b, o, none⟩ = some v) (hb : ¬ P b) : w'.cell? ⟨b, o, none⟩ = some v := (n.stp.mods.cell (cell_lt h) hb).trans h
/-- the disk has taken a step. -/
theorem CaR.disk' (h : CaR F w d c sb bvs Pd C) (hP : ∀ k, caF c sb Pd k → F k) (n : Nxt Pd Pd' F F' ad w w') (hD : DkS w' Pd' d D) : CaR F' w' d c sb bvs Pd' { C with disk := D } := by
  have hc := h.own.lt
  obtain ⟨cs, h1, h2⟩ := h.row
  have hs := h1.lt
  exact ⟨n.blk h.own h.cd, ⟨cs, n.blk h1 h.sd, h2⟩, h.lenB, h.n64, fun i s bv h1 h2 => n.sl (fun k hk => hP k (.inl hk)) (h.body i s bv h1 h2), hD, n.not hc h.cd, n.not hs h.sd, h.ne⟩
set_option maxRecDepth 100000 in
theorem caWrite_wet (hL : Env F ad w) (hP : ∀ k, caF c sb Pd k → F k) (h : CaR F w d c sb bvs Pd C) (hI : CaInv C) {i : Nat} {s : SlotA} (hi : C.slots[i]? = some s) (hf : s.full = true) (hd : s.dirty = true) (hfew : C.disk.waiting.length < 1000000) :
    Calls Tryd.prog 47 #[.pointer (some ⟨c, 0, none⟩), .int .i64 (i : Int)] w fun e w' => ∃ Pd' F', e = .returned .nilIface ∧ CaR F' w' d c sb bvs Pd' (writeC C i s) ∧ Nxt (caF c sb Pd) (caF c sb Pd') F F' ad w w' := by
  obtain ⟨c0, c1, _⟩ := h.c3
  obtain ⟨ba, bn, bc, hb⟩ := h.bvAt hi
  obtain ⟨e0, e1, e2, e3, e4, e5, _, _⟩ := h.cell8 hi hb
  obtain ⟨hp0, hp1, hok⟩ := hI.page i s hi hf
  obtain ⟨id, hid⟩ : ∃ id : Nat, s.page.id = (id : Int) := ⟨s.page.id.toNat, by omega⟩
  have hlt : i < C.slots.length := (List.getElem?_eq_some_iff.1 hi).1
  have hn := h.n64
  obtain ⟨n, hnn⟩ : ∃ n, n = C.slots.length := ⟨_, rfl⟩
  rw [← hnn] at c1 hn hlt
  rw [hf] at e4
  rw [hd] at e5
  rw [hid] at e1
  have gf1 := Tryd.geoF1
  have HCd := Lib.hid (h.at (Mods.refl _ w).drew)
  have HLd := Lib.hid (hL.mods (Mods.refl _ w).drew)
  have HL0 := Lib.hid hL
  have HB := Lib.hid (h.body i s _ hi hb)
  have HOK := Lib.hid hok
  have HI := Lib.hid hi
  have HBV := Lib.hid hb
  have HF := Lib.hid hf
  have HD := Lib.hid hd
  have HID := Lib.hid hid
  have HINV := Lib.hid hI
  have HP := Lib.hid hP
  have h1 : (0 : Int) ≤ (i : Int) := by omega
  have h2 : (i : Int) < (n : Int) := by omega
  clear h hL hb hi hnn hp0 hp1 hok hf hd hid hI hP
  go_enter Tryd.func47, Tryd.ntmps47
  go_wp2_with fail
  go_region_held3 (fun w' => w'.cell? ⟨c, 0, none⟩ = some (.pointer (some ⟨d, 0, none⟩)) ∧ w'.cell? ⟨sb, i * 8, none⟩ = some (.int .i64 s.page.kind) ∧ w'.cell? ⟨sb, i * 8 + 1, none⟩ = some (.int .i64 id) ∧ w'.cell? ⟨sb, i * 8 + 2, none⟩ = some (.int .u64 (s.page.gen : Int)) ∧ w'.cell? ⟨sb, i * 8 + 3, none⟩ = some (.slice ba bn bc))
    (first | exact ⟨cellE hm1 c0, cellE hm1 e0, cellE hm1 e1, cellE hm1 e2, cellE hm1 e3⟩ | exact ⟨cellE hm2 (cellE hm1 c0), cellE hm2 (cellE hm1 e0), cellE hm2 (cellE hm1 e1), cellE hm2 (cellE hm1 e2), cellE hm2 (cellE hm1 e3)⟩ | go_keep)
    (first
      | (go_at_call 59; refine (HCd.out.disk.geo).mono ?_; rintro e w1 ⟨rfl, hm1⟩)
      | (go_at_call 67; rw [← HID.out]; refine (Seal_ok (HLd.out.mods hm1.ext) s.page (.slice ba bn bc) (HB.out.ext hm1.ofDrew) C.disk.size HOK.out.2 HOK.out.1).mono ?_; rintro e w2 ⟨qa, qc, rfl, hown, hm2⟩))
  have HM2 : Hid (Ext w w2) := Lib.hid (hm1.ofDrew.trans hm2)
  have HC2 := Lib.hid (HCd.out.at (hm1.trans hm2))
  have HS2 := Lib.hid (hown.sl encB_ok.len (by rw [sealP_length _ _ (by have := pgCheck_none HOK.out.1; omega)]; have := HINV.out.s1024; omega))
  have HL2 := Lib.hid ((HLd.out.mods hm1.ext).mods hm2.ext)
  have k0 := cellE hm2 (cellE hm1 c0)
  have k1 := cellE hm2 (cellE hm1 e1)
  have k5 := cellE hm2 (cellE hm1 e5)
  have HN : Hid (¬ Pd c ∧ ¬ Pd sb) := Lib.hid ⟨HC2.out.cd, HC2.out.sd⟩
  have hL0 := HL2.out
  have HL2d := Lib.hid (HL2.out.mods (Mods.refl _ w2).drew)
  have HC2d := Lib.hid (HC2.out.at (Mods.refl _ w2).drew)
  have HS2d := Lib.hid (HS2.out.mods (Mods.refl _ w2).drew)
  have HB1 : Hid (id < C.disk.blocks) := Lib.hid (by have := (HINV.out.page i s HI.out HF.out).2.1; rw [HID.out] at this; exact Int.ofNat_lt.1 this)
  clear hL0 hm1 hm2 hown c0 e0 e1 e2 e3 e4 e5 gf1
  go_wp2_with fail
  go_region_held3 (fun w' => w'.cell? ⟨c, 0, none⟩ = some (.pointer (some ⟨d, 0, none⟩)) ∧ w'.cell? ⟨sb, i * 8 + 1, none⟩ = some (.int .i64 id))
    (first | exact ⟨n3.cellK (w := w2.drew) k0 HN.out.1, n3.cellK (w := w2.drew) k1 HN.out.2⟩ | go_keep)
    (first
      | (go_at_call 68; refine (DkS.write HL2d.out (fun k hk => HP.out k (.inl hk)) HC2d.out.disk id HB1.out HINV.out.off HINV.out.lit _ (sealP s.page C.disk.size) HS2d.out (sealP_length _ _ (by have := pgCheck_none HOK.out.1; omega)) hfew).mono ?_; rintro e w3 ⟨Pd', F', rfl, hD3, n3⟩))
  have p5 := n3.cellK (w := w2.drew) k5 HN.out.2
  have HPF : Hid (∀ k, Pd k → F k) := Lib.hid (fun k hk => HP.out k (.inl hk))
  have HC3 := Lib.hid (HC2d.out.disk' HP.out n3 hD3)
  obtain ⟨cs, hrow, hsz, hpt⟩ := HC3.out.row
  have f5 := hrow.frozen (i * 8 + 5)
  have HN3 := Lib.hid n3
  clear hrow hsz hpt n3 hD3 k0 k1 k5
  go_wp2_with fail
  refine (wrap_nil _ _).mono ?_
  rintro e w5 ⟨rfl, rfl⟩
  go_wp2_with fail
  go_ret
  have hs' := HC3.out.row.setAt (w := w3) HI.out HBV.out 5 (.bool false) { s with dirty := false } (fun j u hu => by
    match j, hu with
    | 0, hu => exact .inr ⟨by decide, hu⟩
    | 1, hu => exact .inr ⟨by decide, hu⟩
    | 2, hu => exact .inr ⟨by decide, hu⟩
    | 3, hu => exact .inr ⟨by decide, hu⟩
    | 4, hu => exact .inr ⟨by decide, hu⟩
    | 5, hu => exact .inl ⟨rfl, by simpa [slotCells] using hu.symm⟩
    | 6, hu => exact .inr ⟨by decide, hu⟩
    | 7, hu => exact .inr ⟨by decide, hu⟩) (by decide)
  have mS : Mods (fun k => k = sb) w3 (w3.setCell ⟨sb, i * 8 + 5, none⟩ (.bool false)) := Mods.at _ _ sb _ _ rfl
  have hC3 := HC3.out
  have hbdP := hC3.disk.bd
  have n1 := Nxt.ext (P := caF c sb Pd) (HL2d.out.anti (fun _ h => h)) HP.out (Mods.refl _ w2.drew)
  have m0 : Ext w w2.drew := HM2.out.drew
  have nA := HN3.out.part (Q := fun k => k = c ∨ k = sb) (fun k hk => HP.out k (.inr hk)) HL2d.out
  have nB := Nxt.same nA.env nA.sub (mS.mono (fun k hk => .inr (.inr hk)))
  have n0 : Nxt (caF c sb Pd) (caF c sb Pd) F F ad w w2.drew := ⟨Stp.ext (fun k hk => HL0.out.lt k (HP.out k hk)) m0, HP.out, fun _ h => h, fun _ _ h => h, HL2d.out⟩
  refine ⟨Pd', F', rfl, ?_, (n0.trans nA).trans nB⟩
  have hcb : c ≠ sb := hC3.ne
  refine ⟨by simpa [writeC] using (hC3.own.mods mS hcb), hs', by simpa [writeC] using hC3.lenB, by simpa [writeC] using hC3.n64, fun j t bt ht hbt => ?_, ?_, hC3.cd, hC3.sd, hC3.ne⟩
  · have mF : Mods F' w3 _ := mS.mono (fun k hk => nA.sub k (.inr (.inr hk)))
    rcases set_cases ht with ⟨rfl, rfl⟩ | ⟨_, ht⟩
    · exact (hC3.body j s bt HI.out hbt).mods mF
    · exact (hC3.body j t bt ht hbt).mods mF
  · have := hC3.disk.far mS (fun k hk e => hC3.sd (e ▸ hk))
    simpa [writeC, HID.out] using this
end
end Go.Proofs.YtidjkcfjocppmaaDoor
