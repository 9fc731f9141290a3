/- (*cache.Cache).room. -/
import Derived.Test.YtidjkcfjocppmaaDoorKCache2
namespace Go.Proofs.YtidjkcfjocppmaaDoor
open Go.RowKit

section
variable {P P' F F' Pd Pd' : Nat → Prop} {ad : Nat → Addr} {w w' : World} {d c sb : Nat} {bvs : List Value} {C : CaA} {D : DiskA}
theorem CaR.bdP (h : CaR F w d c sb bvs Pd C) : Bd (caF c sb Pd) w := fun k hk => by
  obtain ⟨cs, h1, _⟩ := h.row
  rcases hk with hk | rfl | rfl
  · exact h.disk.bd k hk
  · exact h.own.lt
  · exact h1.lt
/-- no slot has come to hold another page. -/
def Sub (C C' : CaA) : Prop := ∀ (j : Nat) (t : SlotA), C'.slots[j]? = some t → t.full = true → ∃ t', C.slots[j]? = some t' ∧ t'.full = true ∧ t'.page = t.page
theorem Sub.refl (C : CaA) : Sub C C := fun _ t h1 h2 => ⟨t, h1, h2, rfl⟩
theorem Sub.trans {C C1 C2 : CaA} (a : Sub C C1) (b : Sub C1 C2) : Sub C C2 := fun j t h1 h2 => by
  obtain ⟨t1, k1, k2, k3⟩ := b j t h1 h2
  obtain ⟨t2, l1, l2, l3⟩ := a j t1 k1 k2
  exact ⟨t2, l1, l2, l3.trans k3⟩
theorem Sub.no {C C' : CaA} (a : Sub C C') {id : Nat} (h : ∀ (j : Nat) (t : SlotA), C.slots[j]? = some t → t.has id = false) (j : Nat) (t : SlotA) (ht : C'.slots[j]? = some t) : t.has id = false := by
  cases hb : t.has id with
  | false => rfl
  | true =>
    obtain ⟨h1, h2⟩ := has_iff.1 hb
    obtain ⟨t', k1, k2, k3⟩ := a j t ht h1
    have := h j t' k1
    rw [show t'.has id = true from has_iff.2 ⟨k2, by rw [k3]; exact h2⟩] at this; cases this
theorem Sub.set {C : CaA} {i : Nat} {s s' : SlotA} (hi : C.slots[i]? = some s) (hf : s'.full = true → s.full = true ∧ s.page = s'.page) (x : Nat) (D : DiskA) : Sub C { disk := D, slots := C.slots.set i s', hand := x } := fun j t ht hft => by
  rcases set_cases ht with ⟨rfl, rfl⟩ | ⟨_, ht⟩
  · exact ⟨s, hi, (hf hft).1, (hf hft).2⟩
  · exact ⟨t, ht, hft, rfl⟩
/-- a slot's page is written, if it must be. -/
theorem caWrite_any (hL : Env F ad w) (hP : ∀ k, caF c sb Pd k → F k) (h : CaR F w d c sb bvs Pd C) (hI : CaInv C) (hc : C.cost ≤ 1000000) {i : Nat} {s : SlotA} (hi : C.slots[i]? = some s) :
    Calls Tryd.prog 47 #[.pointer (some ⟨c, 0, none⟩), .int .i64 (i : Int)] w fun e w' => ∃ Pd' F' C' s', e = .returned .nilIface ∧ CaR F' w' d c sb bvs Pd' C' ∧ Sim C C' ∧ Nxt (caF c sb Pd) (caF c sb Pd') F F' ad w w' ∧
      C'.slots[i]? = some s' ∧ s'.wet = false ∧ C'.slots.length = C.slots.length ∧ C'.hand = C.hand ∧ s'.used = s.used ∧ Sub C C' ∧ ∀ j, j ≠ i → C'.slots[j]? = C.slots[j]? := by
  cases hw : s.wet with
  | false =>
    refine (caWrite_dry h hi hw).mono ?_
    rintro e w' ⟨h1, rfl⟩
    exact ⟨Pd, F, C, s, h1, h, Sim.refl hI, Nxt.refl hL hP, hi, hw, rfl, rfl, rfl, Sub.refl _, fun _ _ => rfl⟩
  | true =>
    have hf : s.full = true := by simp [SlotA.wet] at hw; exact hw.1
    have hd : s.dirty = true := by simp [SlotA.wet] at hw; exact hw.2
    have hfew : C.disk.waiting.length < 1000000 := by
      have : 0 < C.slots.countP (·.wet) := List.countP_pos_iff.2 ⟨s, List.mem_of_getElem? hi, hw⟩
      unfold CaA.cost at hc; omega
    exact (caWrite_wet hL hP h hI hi hf hd hfew).mono fun e w' ⟨Pd', F', h1, h2, h3⟩ =>
      ⟨Pd', F', writeC C i s, { s with dirty := false }, h1, h2, sim_write hI hi hf hd, h3, set_self hi, by simp [SlotA.wet], by simp [writeC], rfl, rfl, Sub.set (s' := { s with dirty := false }) hi (fun h => ⟨h, rfl⟩) _ _, fun j hj => by simp [writeC, List.getElem?_set_ne (fun e => hj e.symm)]⟩

/-- one flag of a slot is turned. -/
theorem CaR.used (h : CaR F w d c sb bvs Pd C) (hP : ∀ k, caF c sb Pd k → F k) {i : Nat} {s : SlotA} (hi : C.slots[i]? = some s) (u : Bool) :
    CaR F (w.setCell ⟨sb, i * 8 + 6, none⟩ (.bool u)) d c sb bvs Pd { C with slots := C.slots.set i { s with used := u } } := by
  obtain ⟨ba, bn, bc, hb⟩ := h.bvAt hi
  have mS : Mods (fun k => k = sb) w (w.setCell ⟨sb, i * 8 + 6, none⟩ (.bool u)) := Mods.at _ _ sb _ _ rfl
  have hs' := h.row.setAt hi hb 6 (.bool u) { s with used := u } (fun j v hv => by
    match j, hv with
    | 0, hu => exact .inr ⟨by decide, hu⟩
    | 1, hu => exact .inr ⟨by decide, hu⟩
    | 2, hu => exact .inr ⟨by decide, hu⟩
    | 3, hu => exact .inr ⟨by decide, hu⟩
    | 4, hu => exact .inr ⟨by decide, hu⟩
    | 5, hu => exact .inr ⟨by decide, hu⟩
    | 6, hu => exact .inl ⟨rfl, by simpa [slotCells] using hu.symm⟩
    | 7, hu => exact .inr ⟨by decide, hu⟩) (by decide)
  have mF : Mods F w _ := mS.mono (fun k hk => hP k (.inr (.inr hk)))
  exact ⟨by simpa using h.own.mods mS h.ne, hs', by simpa using h.lenB, by simpa using h.n64, fun j t bt ht hbt => by
      rcases set_cases ht with ⟨rfl, rfl⟩ | ⟨_, ht⟩
      · exact (h.body j s bt hi hbt).mods mF
      · exact (h.body j t bt ht hbt).mods mF, h.disk.far mS (fun k hk e => h.sd (e ▸ hk)), h.cd, h.sd, h.ne⟩
/-- the hand is turned. -/
theorem CaR.hand' (h : CaR F w d c sb bvs Pd C) (hP : ∀ k, caF c sb Pd k → F k) (x : Nat) : CaR F (w.setCell ⟨c, 2, none⟩ (.int .i64 (x : Int))) d c sb bvs Pd { C with hand := x } := by
  have mS : Mods (fun k => k = c) w (w.setCell ⟨c, 2, none⟩ (.int .i64 (x : Int))) := Mods.at _ _ c _ _ rfl
  have mF : Mods F w _ := mS.mono (fun k hk => hP k (.inr (.inl hk)))
  exact ⟨by simpa using h.own.set 2 (.int .i64 (x : Int)), h.row.at mS (fun e => h.ne e.symm), h.lenB, h.n64, fun j t bt ht hbt => (h.body j t bt ht hbt).mods mF, h.disk.far mS (fun k hk e => h.cd (e ▸ hk)), h.cd, h.sd, h.ne⟩
/-- a whole slot is turned. -/
theorem CaR.slot' (h : CaR F w d c sb bvs Pd C) (hP : ∀ k, caF c sb Pd k → F k) {i : Nat} (hi : i < C.slots.length) (s' : SlotA) (bv : Value) (hb : Sl F w 1 encB bv s'.page.body) :
    CaR F (w.setCells sb (i * 8) (slotCells s' bv)) d c sb (bvs.set i bv) Pd { C with slots := C.slots.set i s' } := by
  have mS : Mods (fun k => k = sb) w (w.setCells sb (i * 8) (slotCells s' bv)) := Mods.setMany (F := fun k => k = sb) (.inr rfl) _ _ _ (Mods.refl _ w)
  have mF : Mods F w _ := mS.mono (fun k hk => hP k (.inr (.inr hk)))
  exact ⟨by simpa using h.own.mods mS h.ne, h.row.set8 hi s' bv, by simpa using h.lenB, by simpa using h.n64, fun j t bt ht hbt => by
      rcases set_cases ht with ⟨rfl, rfl⟩ | ⟨hne, ht⟩
      · rcases set_cases hbt with ⟨_, rfl⟩ | ⟨hne, _⟩
        · exact hb.mods mF
        · exact absurd rfl hne
      · rcases set_cases hbt with ⟨e, _⟩ | ⟨_, hbt⟩
        · exact absurd e hne
        · exact (h.body j t bt ht hbt).mods mF, h.disk.far mS (fun k hk e => h.sd (e ▸ hk)), h.cd, h.sd, h.ne⟩
theorem CaR.frz (h : CaR F w d c sb bvs Pd C) : (∀ o, w.frozen? ⟨c, o, none⟩ = false) ∧ ∀ o, w.frozen? ⟨sb, o, none⟩ = false := by
  obtain ⟨cs, h1, _⟩ := h.row
  exact ⟨h.own.frozen, h1.frozen⟩

set_option maxRecDepth 100000 in
set_option maxHeartbeats 2000000 in
theorem caRoom_any (hL : Env F ad w) (hP : ∀ k, caF c sb Pd k → F k) (h : CaR F w d c sb bvs Pd C) (hI : CaInv C) (hc : C.cost ≤ 1000000) :
    Calls Tryd.prog 70 #[.pointer (some ⟨c, 0, none⟩)] w fun e w' => ∃ (i : Nat) (s : SlotA) (bvs' : List Value) (Pd' F' : Nat → Prop) (C' : CaA), e = .returned (.tuple #[.int .i64 (i : Int), .nilIface]) ∧ CaR F' w' d c sb bvs' Pd' C' ∧ Sim C C' ∧
      Nxt (caF c sb Pd) (caF c sb Pd') F F' ad w w' ∧ C'.slots[i]? = some s ∧ s.full = false ∧ Sub C C' := by
  obtain ⟨_, c1, _⟩ := h.c3
  have HC := Lib.hid h
  have HL := Lib.hid hL
  have HP := Lib.hid hP
  have HI := Lib.hid hI
  have HCO := Lib.hid hc
  have hn := h.n64
  have hn3 := hI.n3
  have hh := hI.hand
  obtain ⟨n, hnn⟩ : ∃ n, n = C.slots.length := ⟨_, rfl⟩
  rw [← hnn] at c1 hn hn3 hh
  have HN := Lib.hid hnn
  clear h hnn hL hP hI hc
  go_enter Tryd.func70, Tryd.ntmps70
  go_wp2
  go_loopg [21] n (fun m i wr => ∃ k : Nat, Hid (Ext w wr) ∧ k + m = n ∧ i = .int .i64 k)
  case atStart => exact ⟨0, Lib.hid (Mods.refl _ _), by omega, rfl⟩
  case round =>
    obtain ⟨k, HM, hk, rfl⟩ := hrel
    by_cases hlt : k < n
    · obtain ⟨s, hs⟩ : ∃ s, C.slots[k]? = some s := ⟨_, List.getElem?_eq_getElem (by rw [← HN.out]; exact hlt)⟩
      obtain ⟨ba, bn, bc, hb⟩ := HC.out.bvAt hs
      obtain ⟨e0, e1, e2, e3, e4, e5, e6, e7⟩ := (HC.out.at HM.out).cell8 hs hb
      have HS := Lib.hid hs
      clear hs hb
      cases hf : s.full with
      | false =>
        rw [hf] at e4
        have HF := Lib.hid hf
        clear hf
        go_wp2
        go_ret2
        exact ⟨k, s, bvs, Pd, F, C, rfl, HC.out.at (HM.out.alloc _), Sim.refl HI.out, Nxt.ext HL.out HP.out (HM.out.alloc _), HS.out, HF.out, Sub.refl _⟩
      | true =>
        rw [hf] at e4
        clear hf
        go_wp2
        go_roundg (gk - 1)
        case measure => omega
        case rel => exact ⟨k + 1, Lib.hid (HM.out.alloc _), by omega, by go_num⟩
    · obtain rfl : k = n := by omega
      obtain ⟨wA, rfl⟩ : ∃ x, x = wr := ⟨_, rfl⟩
      obtain ⟨gA, rfl⟩ : ∃ x, x = gk := ⟨_, rfl⟩
      obtain ⟨hand, hha⟩ : ∃ x, x = C.hand := ⟨_, rfl⟩
      rw [← hha] at hh
      have HH := Lib.hid hha
      clear hha hk hlt
      go_wp2
      go_loopg [33] (2 * k) (fun m i wr => ∃ (q : Nat) (C1 : CaA), q + m = 2 * k ∧ q ≤ k ∧ i = .int .i64 q ∧ Hid (CaR F wr d c sb bvs Pd C1) ∧ Hid (Sim C C1) ∧ Hid (Nxt (caF c sb Pd) (caF c sb Pd) F F ad w wr) ∧
        Hid (C1.slots.length = k ∧ C1.hand = hand) ∧ Hid (Sub C C1) ∧ Hid (∀ j s, j < q → C1.slots[(hand + j) % k]? = some s → s.used = false))
      case atStart => exact ⟨0, C, by omega, by omega, rfl, Lib.hid (HC.out.at HM.out), Lib.hid (Sim.refl HI.out), Lib.hid (Nxt.ext HL.out HP.out HM.out), Lib.hid ⟨HN.out.symm, HH.out.symm⟩, Lib.hid (Sub.refl _), Lib.hid (by omega)⟩
      case round =>
        obtain ⟨q, C1, hq, hqk, rfl, HC1, HS1, HX1, HL1, HSub, HQ⟩ := hrel
        obtain ⟨i, hi⟩ : ∃ i, i = (hand + q) % k := ⟨_, rfl⟩
        have hik : i < k := by rw [hi]; exact Nat.mod_lt _ (by omega)
        obtain ⟨s, hs⟩ : ∃ s, C1.slots[i]? = some s := ⟨_, List.getElem?_eq_getElem (by rw [HL1.out.1]; exact hik)⟩
        obtain ⟨ba, bn, bc, hb⟩ := HC1.out.bvAt hs
        obtain ⟨e0, e1, e2, e3, e4, e5, e6, e7⟩ := HC1.out.cell8 hs hb
        obtain ⟨d0, d1, d2⟩ := HC1.out.c3
        obtain ⟨z0, z1⟩ := HC1.out.frz
        rw [HS1.out.inv.pins i s hs] at e7
        rw [HL1.out.1] at d1
        rw [HL1.out.2] at d2
        have t1 : ((hand : Int) + (q : Int)) % (k : Int) = (i : Int) := by rw [hi]; simp
        have t2 : ((hand : Int) + (q : Int)).tmod (k : Int) = (i : Int) := by rw [Int.tmod_eq_emod_of_nonneg (by omega)]; exact t1
        have t3 : (q : Int) < 2 * (k : Int) := by omega
        have HI2 := Lib.hid hi
        have HS := Lib.hid hs
        have HBV := Lib.hid hb
        clear hi hs hb
        cases hu : s.used with
        | true =>
          rw [hu] at e6
          have HU := Lib.hid hu
          have hqk2 : q < k := by
            rcases Nat.lt_or_ge q k with h | h
            · exact h
            · exfalso
              have h0 := HQ.out 0 s (by omega) (by rw [← HS.out, HI2.out, show q = k by omega]; simp)
              rw [hu] at h0; cases h0
          clear hu
          go_wp2
          go_roundg (gk - 1)
          case measure => omega
          case rel => exact ⟨q + 1, { C1 with slots := C1.slots.set i { s with used := false } }, by omega, by omega, by go_num, Lib.hid (HC1.out.used HP.out HS.out false), Lib.hid (HS1.out.trans (sim_same HS1.out.inv HS.out false)),
              Lib.hid (HX1.out.trans (Nxt.same HX1.out.env HP.out (Mods.at _ _ sb _ _ (.inr (.inr rfl))))), Lib.hid ⟨by simpa using HL1.out.1, HL1.out.2⟩, Lib.hid (HSub.out.trans (Sub.set (s' := { s with used := false }) HS.out (fun h => ⟨h, rfl⟩) _ _)), Lib.hid (fun j t hj ht => by
                rcases set_cases ht with ⟨_, rfl⟩ | ⟨hne, ht⟩
                · rfl
                · by_cases e : j = q
                  · subst e; exact absurd HI2.out.symm hne
                  · exact HQ.out j t (by omega) ht)⟩
        | false =>
          rw [hu] at e6
          clear hu
          go_wp2_with fail
          refine (caWrite_any HX1.out.env HP.out HC1.out HS1.out.inv (Nat.le_trans HS1.out.cost HCO.out) HS.out).mono ?_
          rintro e w5 ⟨Pd', F', C2, s2, rfl, hC2, hS2, hX2, hs2, hw2, hl2, hh2, hu2, ho2, _⟩
          have HO2 := Lib.hid ho2
          obtain ⟨f0, f1, f2, f3, f4, f5, f6, f7⟩ := hC2.cell8 hs2 HBV.out
          obtain ⟨g0, g1, g2⟩ := hC2.c3
          obtain ⟨y0, y1⟩ := hC2.frz
          have hcs := hC2.ne
          have hsc := Ne.symm hcs
          have HC2 := Lib.hid hC2
          have HS2 := Lib.hid hS2
          have HX2 := Lib.hid hX2
          have HSS := Lib.hid hs2
          have HWW := Lib.hid hw2
          have HLL := Lib.hid hl2
          obtain ⟨i1, hi1⟩ : ∃ i1, i1 = (i + 1) % k := ⟨_, rfl⟩
          have t4 : ((i : Int) + 1) % (k : Int) = (i1 : Int) := by rw [hi1]; simp
          have t5 : ((i : Int) + 1).tmod (k : Int) = (i1 : Int) := by rw [Int.tmod_eq_emod_of_nonneg (by omega)]; exact t4
          have hi1k : i1 < k := by rw [hi1]; exact Nat.mod_lt _ (by omega)
          clear hC2 hS2 hX2 hs2 hw2 hl2 hh2 hu2 ho2 hi1 e0 e1 e2 e3 e4 e5 e6 e7 d0 d1 d2 z0 z1 t1 t2
          go_wp2_with fail
          go_ret2
          have hl5 : i < C2.slots.length := (List.getElem?_eq_some_iff.1 HSS.out).1
          have q1 := HC2.out.hand' HX2.out.sub i1
          have q2 := q1.slot' HX2.out.sub (i := i) hl5 slot0 (.slice none 0 0) (Sl.nil _ _ _ _)
          have q3 : Mods (caF c sb Pd') w5 ((w5.setCell ⟨c, 2, none⟩ (.int .i64 (i1 : Int))).setCells sb (i * 8) (slotCells slot0 (.slice none 0 0))) := Mods.setMany (.inr (.inr (.inr rfl))) _ _ _ (Mods.at _ _ c _ _ (.inr (.inl rfl)))
          have q4 : Sim C2 { C2 with hand := i1, slots := C2.slots.set i slot0 } := (sim_clear HS2.out.inv HSS.out HWW.out).trans (sim_hand (sim_clear HS2.out.inv HSS.out HWW.out).inv (by simp; have := HLL.out; have := HL1.out.1; omega))
          exact ⟨i, slot0, _, Pd', F', _, rfl, q2, (HS1.out.trans HS2.out).trans q4, (HX1.out.trans HX2.out).trans (Nxt.same HX2.out.env HX2.out.sub q3), set_self HSS.out, rfl, (HSub.out.trans HO2.out).trans (Sub.set (s' := slot0) HSS.out (fun h => by cases h) _ _)⟩
end
end Go.Proofs.YtidjkcfjocppmaaDoor
