/- The cache in memory: CaR; Disk, check, at. -/
import Derived.Test.YtidjkcfjocppmaaDoorKDisk7
import Derived.Test.YtidjkcfjocppmaaDoorKPageO
namespace Go.Proofs.YtidjkcfjocppmaaDoor
open Go.RowKit

def slotCells (s : SlotA) (bv : Value) : List Value := [.int .i64 s.page.kind, .int .i64 s.page.id, .int .u64 (s.page.gen : Int), bv, .bool s.full, .bool s.dirty, .bool s.used, .int .i64 (s.pins : Int)]
/-- the row of slots. -/
def SlotRow (w : World) (sb : Nat) (l : List SlotA) (bvs : List Value) : Prop :=
  ∃ cs : Array Value, Blk w sb cs 94 ∧ cs.size = l.length * 8 ∧ ∀ (i : Nat) (s : SlotA) (bv : Value), l[i]? = some s → bvs[i]? = some bv → ∀ (j : Nat) (v : Value), (slotCells s bv)[j]? = some v → cs[i * 8 + j]? = some v
structure CaR (F : Nat → Prop) (w : World) (d c sb : Nat) (bvs : List Value) (Pd : Nat → Prop) (C : CaA) : Prop where
  own : Blk w c #[.pointer (some ⟨d, 0, none⟩), .slice (some ⟨sb, 0, none⟩) C.slots.length C.slots.length, .int .i64 (C.hand : Int)] 88
  row : SlotRow w sb C.slots bvs
  lenB : bvs.length = C.slots.length
  n64 : C.slots.length ≤ 64
  body : ∀ (i : Nat) (s : SlotA) (bv : Value), C.slots[i]? = some s → bvs[i]? = some bv → Sl F w 1 encB bv s.page.body
  disk : DkS w Pd d C.disk
  cd : ¬ Pd c
  sd : ¬ Pd sb
  ne : c ≠ sb

section
variable {P P' F F' Pd Pd' : Nat → Prop} {ad : Nat → Addr} {w w' : World} {d c sb : Nat} {bvs : List Value} {C : CaA} {D : DiskA}
theorem DkS.at (h : DkS w P d D) (m : Ext w w') : DkS w' P d D := by
  obtain ⟨bl, gs, ws, wv, kv, h1, h2⟩ := h
  exact ⟨bl, gs, ws, wv, kv, h1.at m, h2⟩
theorem DkS.bd (h : DkS w P d D) : Bd P w := by
  obtain ⟨bl, gs, ws, wv, kv, h1, h2⟩ := h
  exact fun k hk => h1.bdF k ((h2 k).1 hk)
theorem SlotRow.at {l : List SlotA} (h : SlotRow w sb l bvs) (m : Mods P w w') (hn : ¬ P sb) : SlotRow w' sb l bvs := by
  obtain ⟨cs, h1, h2⟩ := h
  exact ⟨cs, h1.mods m hn, h2⟩
theorem CaR.at (h : CaR F w d c sb bvs Pd C) (m : Ext w w') : CaR F w' d c sb bvs Pd C :=
  ⟨h.own.ext m, h.row.at m (fun f => f), h.lenB, h.n64, fun i s bv h1 h2 => (h.body i s bv h1 h2).ext m, h.disk.at m, h.cd, h.sd, h.ne⟩
theorem CaR.bvAt (h : CaR F w d c sb bvs Pd C) {i : Nat} {s : SlotA} (hi : C.slots[i]? = some s) : ∃ a n cap, bvs[i]? = some (.slice a n cap) := by
  have hb : bvs[i]? = some (bvs[i]'(by rw [h.lenB]; exact (List.getElem?_eq_some_iff.1 hi).1)) := List.getElem?_eq_getElem _
  obtain ⟨a, cap, e, _⟩ := h.body i s _ hi hb
  exact ⟨a, _, cap, by rw [hb, e]⟩
theorem CaR.cell8 (h : CaR F w d c sb bvs Pd C) {i : Nat} {s : SlotA} {bv : Value} (hi : C.slots[i]? = some s) (hb : bvs[i]? = some bv) :
    w.cell? ⟨sb, i * 8, none⟩ = some (.int .i64 s.page.kind) ∧ w.cell? ⟨sb, i * 8 + 1, none⟩ = some (.int .i64 s.page.id) ∧ w.cell? ⟨sb, i * 8 + 2, none⟩ = some (.int .u64 (s.page.gen : Int)) ∧ w.cell? ⟨sb, i * 8 + 3, none⟩ = some bv ∧
    w.cell? ⟨sb, i * 8 + 4, none⟩ = some (.bool s.full) ∧ w.cell? ⟨sb, i * 8 + 5, none⟩ = some (.bool s.dirty) ∧ w.cell? ⟨sb, i * 8 + 6, none⟩ = some (.bool s.used) ∧ w.cell? ⟨sb, i * 8 + 7, none⟩ = some (.int .i64 (s.pins : Int)) := by
  obtain ⟨cs, h1, _, h3⟩ := h.row
  have g := fun (j : Nat) (v : Value) (hv : (slotCells s bv)[j]? = some v) => h1.cell (h3 i s bv hi hb j v hv)
  exact ⟨g 0 _ rfl, g 1 _ rfl, g 2 _ rfl, g 3 _ rfl, g 4 _ rfl, g 5 _ rfl, g 6 _ rfl, g 7 _ rfl⟩
theorem CaR.c3 (h : CaR F w d c sb bvs Pd C) : w.cell? ⟨c, 0, none⟩ = some (.pointer (some ⟨d, 0, none⟩)) ∧ w.cell? ⟨c, 1, none⟩ = some (.slice (some ⟨sb, 0, none⟩) C.slots.length C.slots.length) ∧ w.cell? ⟨c, 2, none⟩ = some (.int .i64 (C.hand : Int)) :=
  ⟨h.own.cell rfl, h.own.cell rfl, h.own.cell rfl⟩
theorem DkS.geo (h : DkS w P d D) : Calls Tryd.prog 59 #[.pointer (some ⟨d, 0, none⟩)] w fun e w' => e = .returned (.agg #[.int .i64 D.blocks, .int .i64 D.size]) ∧ Ext w w' := by
  obtain ⟨bl, gs, ws, wv, kv, h1, h2⟩ := h
  exact dkGeo_any h1
theorem DkS.lim (h : DkS w P d D) : 8 ≤ D.blocks ∧ D.blocks ≤ 256 ∧ 256 ≤ D.size ∧ D.size ≤ 1024 ∧ D.waiting.length ≤ 1000000 ∧ D.lasting.length = D.blocks := by
  obtain ⟨bl, gs, ws, wv, kv, h1, h2⟩ := h
  exact ⟨h1.b8, h1.b256, h1.s256, h1.s1024, h1.few, h1.lenL⟩

theorem Tryd.geoF0 (x y : Value) (w : World) : (Instr.field 71 (.agg #[x, y]) 0).run Tryd.prog w = .ok x w := by kernel_rfl
theorem Tryd.geoF1 (x y : Value) (w : World) : (Instr.field 71 (.agg #[x, y]) 1).run Tryd.prog w = .ok y w := by kernel_rfl
theorem caDisk_any (h : CaR F w d c sb bvs Pd C) : Calls Tryd.prog 28 #[.pointer (some ⟨c, 0, none⟩)] w fun e w' => e = .returned (.pointer (some ⟨d, 0, none⟩)) ∧ w = w' := by
  obtain ⟨c0, _, _⟩ := h.c3
  clear h
  go_enter Tryd.func28, Tryd.ntmps28
  go_wp2
  go_ret
  exact ⟨rfl, rfl⟩

/-- a page's number is out of the disk's. -/
def CaA.check (C : CaA) (id : Int) : Option Err := if id < 0 ∨ (C.disk.blocks : Int) ≤ id then some ([pgOf id], 2) else none
set_option maxRecDepth 100000 in
theorem caCheck_any (hL : Env F ad w) (h : CaR F w d c sb bvs Pd C) (op : ByteArray) (id : Int) :
    Calls Tryd.prog 49 #[.pointer (some ⟨c, 0, none⟩), .string op, .int .i64 id] w fun e w' => ∃ ev, e = .returned ev ∧ ErrR F ad w' ev (C.check id) ∧ Ext w w' := by
  obtain ⟨c0, _, _⟩ := h.c3
  have g2 := hL.c2
  have HL := Lib.hid hL
  have HC := Lib.hid h
  obtain ⟨b8, b256, _⟩ := h.disk.lim
  have gf0 := Tryd.geoF0
  clear h hL
  by_cases h2 : id < 0
  · have HR : Hid (C.check id = some ([pgOf id], 2)) := Lib.hid (by unfold CaA.check; rw [if_pos (.inl h2)])
    go_enter Tryd.func49, Tryd.ntmps49
    go_wp2_with fail
    refine (at_any HL.out _ _ _ _ 2 (.sent 2 (by decide) (by decide))).mono ?_
    rintro e w1 ⟨f, rfl, hE, hm⟩
    have HE := Lib.hid hE
    clear hE
    go_wp2
    go_ret
    exact ⟨_, rfl, by rw [HR.out]; exact ⟨f, rfl, HE.out⟩, hm⟩
  · have h2' : 0 ≤ id := by omega
    by_cases h3 : (C.disk.blocks : Int) ≤ id
    · have HR : Hid (C.check id = some ([pgOf id], 2)) := Lib.hid (by unfold CaA.check; rw [if_pos (.inr h3)])
      clear h2
      go_enter Tryd.func49, Tryd.ntmps49
      go_wp2_with fail
      refine (HC.out.disk.geo).mono ?_
      rintro e w1 ⟨rfl, hm1⟩
      have HM1 := Lib.hid hm1
      have g2' := (HL.out.mods hm1.ext).c2
      have HL1 := Lib.hid (HL.out.mods hm1.ext)
      clear hm1
      go_wp2_with fail
      refine (at_any HL1.out _ _ _ _ 2 (.sent 2 (by decide) (by decide))).mono ?_
      rintro e w2 ⟨f, rfl, hE, hm⟩
      have HE := Lib.hid hE
      clear hE
      go_wp2
      go_ret
      exact ⟨_, rfl, by rw [HR.out]; exact ⟨f, rfl, HE.out⟩, HM1.out.trans hm⟩
    · have HR : Hid (C.check id = none) := Lib.hid (by unfold CaA.check; rw [if_neg (by omega)])
      have h3' : id < (C.disk.blocks : Int) := by omega
      clear h2 h3
      go_enter Tryd.func49, Tryd.ntmps49
      go_wp2_with fail
      refine (HC.out.disk.geo).mono ?_
      rintro e w1 ⟨rfl, hm1⟩
      have HM1 := Lib.hid hm1
      clear hm1
      go_wp2
      go_ret
      exact ⟨_, rfl, by rw [HR.out]; rfl, HM1.out⟩

def AtP (C : CaA) (id : Nat) (e : Ending) : Prop :=
  (∃ (i : Nat) (s : SlotA), C.slots[i]? = some s ∧ s.has id = true ∧ e = .returned (.int .i64 (i : Int))) ∨ ((∀ (j : Nat) (t : SlotA), C.slots[j]? = some t → t.has id = false) ∧ e = .returned (.int .i64 (-1)))
theorem not_has {s : SlotA} {id : Nat} (h : s.full = false ∨ s.page.id ≠ (id : Int)) : s.has id = false := by
  cases hb : s.has id with
  | false => rfl
  | true => obtain ⟨h1, h2⟩ := has_iff.1 hb; rcases h with h | h; (rw [h] at h1; cases h1); exact absurd h2 h
set_option maxRecDepth 100000 in
theorem caAt_any (h : CaR F w d c sb bvs Pd C) (id : Nat) : Calls Tryd.prog 69 #[.pointer (some ⟨c, 0, none⟩), .int .i64 (id : Int)] w fun e w' => Ext w w' ∧ AtP C id e := by
  obtain ⟨_, c1, _⟩ := h.c3
  have HC := Lib.hid h
  have hn := h.n64
  obtain ⟨n, hnn⟩ : ∃ n, n = C.slots.length := ⟨_, rfl⟩
  rw [← hnn] at c1 hn
  have HN := Lib.hid hnn
  clear h hnn
  go_enter Tryd.func69, Tryd.ntmps69
  go_wp2
  go_loopg [12] n (fun m i wr => ∃ k : Nat, Hid (Ext w wr) ∧ k + m = n ∧ i = .int .i64 k ∧ Hid (∀ (j : Nat) (t : SlotA), j < k → C.slots[j]? = some t → t.has id = false))
  case atStart => exact ⟨0, Lib.hid (Mods.refl _ _), by omega, rfl, Lib.hid (by omega)⟩
  case round =>
    obtain ⟨k, HM, hk, rfl, HQ⟩ := hrel
    by_cases hlt : k < n
    · obtain ⟨s, hs⟩ : ∃ s, C.slots[k]? = some s := ⟨_, List.getElem?_eq_getElem (by rw [← HN.out]; exact hlt)⟩
      obtain ⟨ba, bn, bc, hb⟩ := HC.out.bvAt hs
      obtain ⟨e0, e1, e2, e3, e4, e5, e6, e7⟩ := (HC.out.at HM.out).cell8 hs hb
      have HS := Lib.hid hs
      clear hs hb
      have step : s.has id = false → Hid (∀ (j : Nat) (t : SlotA), j < k + 1 → C.slots[j]? = some t → t.has id = false) := fun hh => Lib.hid (fun j t hj ht => by
        by_cases e : j = k
        · subst e; rw [HS.out] at ht; injection ht with ht; rw [← ht]; exact hh
        · exact HQ.out j t (by omega) ht)
      cases hf : s.full with
      | false =>
        rw [hf] at e4
        have HX := Lib.hid (step (not_has (.inl hf)))
        clear step hf
        go_wp2
        go_roundg (gk - 1)
        case measure => omega
        case rel => exact ⟨k + 1, Lib.hid (HM.out.alloc _), by omega, by go_num, HX.out⟩
      | true =>
        rw [hf] at e4
        by_cases he : s.page.id = (id : Int)
        · have HX : Hid (s.has id = true) := Lib.hid (has_iff.2 ⟨hf, he⟩)
          rw [he] at e1
          clear step hf he
          go_wp2
          go_ret
          exact ⟨HM.out.alloc _, .inl ⟨k, s, HS.out, HX.out, rfl⟩⟩
        · have HX := Lib.hid (step (not_has (.inr he)))
          have he2 : (s.page.id == (id : Int)) = false := beq_eq_false_iff_ne.2 he
          clear step hf he
          go_wp2
          go_roundg (gk - 1)
          case measure => omega
          case rel => exact ⟨k + 1, Lib.hid (HM.out.alloc _), by omega, by go_num, HX.out⟩
    · go_wp2
      go_ret
      exact ⟨HM.out, .inr ⟨fun j t ht => HQ.out j t (by have := (List.getElem?_eq_some_iff.1 ht).1; have := HN.out; omega) ht, rfl⟩⟩
end
end Go.Proofs.YtidjkcfjocppmaaDoor
