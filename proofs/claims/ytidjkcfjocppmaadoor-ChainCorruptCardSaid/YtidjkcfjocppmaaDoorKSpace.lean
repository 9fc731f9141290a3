/- space.New, Take, check, Give, Free: the blocks in use as a list. -/
import Derived.Test.YtidjkcfjocppmaaDoorKBase1
import Derived.Test.YtidjkcfjocppmaaDoorKBase2
namespace Go.Proofs.YtidjkcfjocppmaaDoor
open Go.RowKit

def spCells (l : List Nat) : Array Value := (l.map fun n => .int .i64 (n : Int)).toArray
/-- a space: its block b, its row's block b2. -/
structure SpR (w : World) (b b2 : Nat) (l : List Nat) : Prop where
  own : Blk w b #[.slice (some ⟨b2, 0, none⟩) l.length l.length] 83
  row : Blk w b2 (spCells l) 3
  ne : b ≠ b2
  len : 8 ≤ l.length
  len2 : l.length ≤ 256
abbrev spF (b b2 : Nat) : Nat → Prop := fun k => k = b ∨ k = b2

theorem spCells_at (l : List Nat) (i : Nat) (x : Nat) (h : l[i]? = some x) : (spCells l)[i]? = some (.int .i64 (x : Int)) := by
  simp [spCells, h]
theorem spCells_set (l : List Nat) (i x : Nat) : (spCells l).setIfInBounds i (.int .i64 (x : Int)) = spCells (l.set i x) := by
  simp [spCells, List.map_set]

section
variable {F : Nat → Prop} {w w' : World} {b b2 : Nat} {l : List Nat}
theorem SpR.mods (h : SpR w b b2 l) (m : Mods F w w') (h1 : ¬ F b) (h2 : ¬ F b2) : SpR w' b b2 l := ⟨h.own.mods m h1, h.row.mods m h2, h.ne, h.len, h.len2⟩
theorem SpR.drew (h : SpR w b b2 l) : SpR w.drew b b2 l := ⟨h.own.drew, h.row.drew, h.ne, h.len, h.len2⟩
theorem SpR.set (h : SpR w b b2 l) (i x : Nat) : SpR (w.setCell ⟨b2, i, none⟩ (.int .i64 (x : Int))) b b2 (l.set i x) :=
  ⟨by rw [List.length_set]; exact h.own.set_other h.ne _, by rw [← spCells_set]; exact h.row.set i _, h.ne, by rw [List.length_set]; exact h.len, by rw [List.length_set]; exact h.len2⟩
end

/-- the first free block. -/
def spFree (l : List Nat) : Option Nat := l.findIdx? (· == 0)

theorem spFree_some {l : List Nat} {k : Nat} (h : ∀ j, j < k → l[j]? ≠ some 0) (hk : l[k]? = some 0) : spFree l = some k := by
  unfold spFree
  rw [List.findIdx?_eq_some_iff_getElem]
  obtain ⟨hlt, he⟩ := List.getElem?_eq_some_iff.1 hk
  refine ⟨hlt, by simp [he], fun j hj => ?_⟩
  have := h j hj
  rw [List.getElem?_eq_getElem (by omega)] at this
  simpa using this
theorem spFree_none {l : List Nat} (h : ∀ j, j < l.length → l[j]? ≠ some 0) : spFree l = none := by
  unfold spFree
  rw [List.findIdx?_eq_none_iff]
  intro x hx
  obtain ⟨j, hj, rfl⟩ := List.getElem_of_mem hx
  have := h j hj
  rw [List.getElem?_eq_getElem (by omega)] at this
  simpa using this

theorem spTake_any {F : Nat → Prop} {ad : Nat → Addr} {w : World} (hL : Env F ad w) (b b2 : Nat) (l : List Nat) (h : SpR w b b2 l) :
    Calls Tryd.prog 60 #[.pointer (some ⟨b, 0, none⟩)] w fun e w' =>
      (∃ i, spFree l = some i ∧ i < l.length ∧ e = .returned (.tuple #[.int .i64 (i : Int), .nilIface]) ∧ SpR w' b b2 (l.set i 2) ∧ Mods (spF b b2) w w') ∨
      (spFree l = none ∧ ∃ f, e = .returned (.tuple #[.int .i64 0, faultV f]) ∧ ErrC F ad w' (faultV f) [-1] 3 ∧ Ext w w') := by
  have c0 := h.own.cell (o := 0) (v := .slice (some ⟨b2, 0, none⟩) l.length l.length) rfl
  have hl := h.len
  have hl2 := h.len2
  have hfr := h.row.frozen
  have HS := Lib.hid h
  have g3 := hL.c3
  have HL := Lib.hid hL
  clear h hL
  go_enter Tryd.func60, Tryd.ntmps60
  go_wp2
  go_loopg [15] l.length (fun m i wr => ∃ k : Nat, wr = w ∧ k + m = l.length ∧ i = .int .i64 k ∧ Hid (∀ j, j < k → l[j]? ≠ some 0))
  case atStart => exact ⟨0, rfl, by omega, rfl, Lib.hid (by omega)⟩
  case round =>
    obtain ⟨k, rfl, hk, rfl, HQ⟩ := hrel
    by_cases hlt : k < l.length
    · obtain ⟨x, hx⟩ : ∃ x, x = l[k] := ⟨_, rfl⟩
      have hx2 : l[k]? = some x := by rw [hx]; simp [hlt]
      have hc := HS.out.row.cell (spCells_at l k x hx2)
      have hf := hfr k
      have HX := Lib.hid hx2
      clear hx hx2
      by_cases hx0 : x = 0
      · subst hx0
        go_wp2
        go_ret2
        exact .inl ⟨k, spFree_some HQ.out HX.out, hlt, rfl, HS.out.set k 2, Mods.at _ _ b2 k _ (.inr rfl)⟩
      · go_wp2
        go_roundg (gk - 1)
        case measure => omega
        case rel => exact ⟨k + 1, rfl, by omega, by go_num, Lib.hid (fun j hj => by
          by_cases e : j = k
          · subst e; rw [HX.out]; simpa using hx0
          · exact HQ.out j (by omega))⟩
    · go_wp2_with fail
      refine (new_any HL.out _ _ _ 3 (.sent 3 (by decide) (by decide))).mono ?_
      rintro e w1 ⟨f, rfl, hE, hm⟩
      have HE := Lib.hid hE
      clear hE
      go_wp2
      go_ret2
      exact .inr ⟨spFree_none (by have := HQ.out; rwa [show k = l.length by omega] at this), f, rfl, HE.out, hm⟩

def spCheck (l : List Nat) (id : Int) : Option Err := if id < 2 ∨ (l.length : Int) ≤ id then some ([pgOf id], 2) else none
theorem spCheck_any {F : Nat → Prop} {ad : Nat → Addr} {w : World} (hL : Env F ad w) (b b2 : Nat) (l : List Nat) (h : SpR w b b2 l) (op : ByteArray) (id : Int) :
    Calls Tryd.prog 82 #[.pointer (some ⟨b, 0, none⟩), .string op, .int .i64 id] w fun e w' => ∃ ev, e = .returned ev ∧ ErrR F ad w' ev (spCheck l id) ∧ Ext w w' := by
  have c0 := h.own.cell (o := 0) (v := .slice (some ⟨b2, 0, none⟩) l.length l.length) rfl
  have hl := h.len
  have hl2 := h.len2
  have g2 := hL.c2
  have HL := Lib.hid hL
  clear h hL
  by_cases h1 : id < 2 ∨ (l.length : Int) ≤ id
  · have HR : Hid (spCheck l id = some ([pgOf id], 2)) := Lib.hid (by unfold spCheck; rw [if_pos h1])
    by_cases h2 : id < 2
    · clear h1
      go_enter Tryd.func82, Tryd.ntmps82
      go_wp2_with fail
      refine (at_any HL.out _ _ _ _ 2 (.sent 2 (by decide) (by decide))).mono ?_
      rintro e w1 ⟨f, rfl, hE, hm⟩
      have HE := Lib.hid hE
      clear hE
      go_wp2
      go_ret
      exact ⟨_, rfl, by rw [HR.out]; exact ⟨f, rfl, HE.out⟩, hm⟩
    · have h3 : (l.length : Int) ≤ id := by omega
      clear h1
      go_enter Tryd.func82, Tryd.ntmps82
      go_wp2_with fail
      refine (at_any HL.out _ _ _ _ 2 (.sent 2 (by decide) (by decide))).mono ?_
      rintro e w1 ⟨f, rfl, hE, hm⟩
      have HE := Lib.hid hE
      clear hE
      go_wp2
      go_ret
      exact ⟨_, rfl, by rw [HR.out]; exact ⟨f, rfl, HE.out⟩, hm⟩
  · have HR : Hid (spCheck l id = none) := Lib.hid (by unfold spCheck; rw [if_neg h1])
    have h2 : 2 ≤ id := by omega
    have h3 : id < (l.length : Int) := by omega
    clear h1
    go_enter Tryd.func82, Tryd.ntmps82
    go_wp2
    go_ret
    exact ⟨_, rfl, by rw [HR.out]; rfl, Mods.refl _ _⟩

def spGive (l : List Nat) (id : Int) : List Nat × Option Err :=
  match spCheck l id with
  | some e => (l, some e)
  | none => if l[id.toNat]? = some 2 then (l.set id.toNat 0, none) else if l[id.toNat]? = some 1 then (l.set id.toNat 3, none) else (l, some ([pgOf id], 1))

theorem Give_any {F : Nat → Prop} {ad : Nat → Addr} {w : World} (hL : Env F ad w) (b b2 : Nat) (l : List Nat) (h : SpR w b b2 l) (id : Int) :
    Calls Tryd.prog 63 #[.pointer (some ⟨b, 0, none⟩), .int .i64 id] w fun e w' =>
      ∃ ev, e = .returned ev ∧ ErrR F ad w' ev (spGive l id).2 ∧ SpR w' b b2 (spGive l id).1 ∧ Mods (spF b b2) w w' := by
  have HS := Lib.hid h
  have HL := Lib.hid hL
  have hl := h.len
  have hl2 := h.len2
  clear h hL
  cases hc : spCheck l id with
  | some er =>
    have HR : Hid (spGive l id = (l, some er)) := Lib.hid (by unfold spGive; rw [hc])
    go_enter Tryd.func63, Tryd.ntmps63
    go_wp2_with fail
    refine (spCheck_any HL.out b b2 l HS.out _ id).mono ?_
    rintro e w1 ⟨ev, rfl, hE, hm⟩
    rw [hc] at hE
    obtain ⟨el, ek⟩ := er
    obtain ⟨f, rfl, hE⟩ := hE
    have HE := Lib.hid hE
    clear hE hc
    go_wp2
    go_ret
    exact ⟨_, rfl, by rw [HR.out]; exact ⟨f, rfl, HE.out⟩, by rw [HR.out]; exact HS.out.mods hm (fun f => f) (fun f => f), hm.ext⟩
  | none =>
    have hid : 2 ≤ id ∧ id < (l.length : Int) := by
      unfold spCheck at hc
      split at hc
      · cases hc
      · omega
    obtain ⟨i, rfl⟩ : ∃ i : Nat, id = i := ⟨id.toNat, by omega⟩
    have hlt : i < l.length := by omega
    obtain ⟨x, hx⟩ : ∃ x, l[i]? = some x := ⟨_, List.getElem?_eq_getElem hlt⟩
    have HG : Hid (spGive l i = if x = 2 then (l.set i 0, none) else if x = 1 then (l.set i 3, none) else (l, some ([pgOf i], 1))) := Lib.hid (by
      unfold spGive; rw [hc]; simp only [Int.toNat_natCast, hx, Option.some.injEq])
    go_enter Tryd.func63, Tryd.ntmps63
    go_wp2_with fail
    refine (spCheck_any HL.out b b2 l HS.out _ i).mono ?_
    rintro e w1 ⟨ev, rfl, hE, hm⟩
    rw [hc] at hE
    cases hE
    have HS1 := Lib.hid (HS.out.mods hm (fun f => f) (fun f => f))
    have HL1 := Lib.hid (HL.out.mods hm.ext)
    have c0 := HS1.out.own.cell (o := 0) (v := .slice (some ⟨b2, 0, none⟩) l.length l.length) rfl
    have c1 := HS1.out.row.cell (spCells_at l i x hx)
    have hfr := HS1.out.row.frozen i
    have g1 := HL1.out.c1
    clear hx hc
    by_cases hx2 : x = 2
    · subst hx2
      rw [if_pos rfl] at HG
      go_wp2
      go_ret
      exact ⟨_, rfl, by rw [HG.out]; rfl, by rw [HG.out]; exact HS1.out.set i 0, hm.ext.trans (Mods.at _ _ b2 i _ (.inr rfl))⟩
    · by_cases hx1 : x = 1
      · subst hx1
        rw [if_neg hx2, if_pos rfl] at HG
        clear hx2
        go_wp2
        go_ret
        exact ⟨_, rfl, by rw [HG.out]; rfl, by rw [HG.out]; exact HS1.out.set i 3, hm.ext.trans (Mods.at _ _ b2 i _ (.inr rfl))⟩
      · rw [if_neg hx2, if_neg hx1] at HG
        go_wp2_with fail
        refine (at_any HL1.out _ _ _ _ 1 (.sent 1 (by decide) (by decide))).mono ?_
        rintro e w2 ⟨f, rfl, hE, hm2⟩
        have HE := Lib.hid hE
        clear hE
        go_wp2
        go_ret
        exact ⟨_, rfl, by rw [HG.out]; exact ⟨f, rfl, HE.out⟩, by rw [HG.out]; exact HS1.out.mods hm2 (fun f => f) (fun f => f), (hm.trans hm2).ext⟩

/-- how many blocks are free. -/
def spCount (l : List Nat) : Nat := l.countP (· == 0)
theorem Free_any (w : World) (b b2 : Nat) (l : List Nat) (h : SpR w b b2 l) :
    Calls Tryd.prog 16 #[.pointer (some ⟨b, 0, none⟩)] w fun e w' => e = .returned (.int .i64 (spCount l : Nat)) ∧ w = w' := by
  have c0 := h.own.cell (o := 0) (v := .slice (some ⟨b2, 0, none⟩) l.length l.length) rfl
  have hl := h.len
  have hl2 := h.len2
  have HS := Lib.hid h
  clear h
  go_enter Tryd.func16, Tryd.ntmps16
  go_wp2
  go_loopg [3, 13] l.length (fun m n i wr => ∃ k q : Nat, wr = w ∧ k + m = l.length ∧ n = .int .i64 q ∧ i = .int .i64 k ∧ q ≤ k ∧ Hid (spCount (l.take k) = q))
  case atStart => exact ⟨0, 0, rfl, by omega, rfl, rfl, by omega, Lib.hid rfl⟩
  case round =>
    obtain ⟨k, q, rfl, hk, rfl, rfl, hq, HQ⟩ := hrel
    by_cases hlt : k < l.length
    · obtain ⟨x, hx⟩ : ∃ x, x = l[k] := ⟨_, rfl⟩
      have hx2 : l[k]? = some x := by rw [hx]; simp [hlt]
      have hc := HS.out.row.cell (spCells_at l k x hx2)
      have HX := Lib.hid hx2
      have HT : Hid (spCount (l.take (k + 1)) = q + if x = 0 then 1 else 0) := Lib.hid (by
        rw [take_one l k x hx2]
        have := HQ.out
        unfold spCount at *
        rw [List.countP_append, this, List.countP_singleton]
        simp)
      clear hx hx2
      by_cases hx0 : x = 0
      · subst hx0
        go_wp2
        go_roundg (gk - 1)
        case measure => omega
        case rel => exact ⟨k + 1, q + 1, rfl, by omega, by go_num, by go_num, by omega, HT⟩
      · rw [if_neg hx0] at HT
        go_wp2
        go_roundg (gk - 1)
        case measure => omega
        case rel => exact ⟨k + 1, q, rfl, by omega, rfl, by go_num, by omega, HT⟩
    · go_wp2
      go_ret
      exact ⟨ret_int (by have := HQ.out; rw [List.take_of_length_le (by omega)] at this; rw [this]), rfl⟩

theorem Tryd.mkI : (Tryd.prog.info? 3).map (fun i => (i.zero, i.size, i.bytes)) = some (some (.int .i64 0), 1, 8) := by kernel_rfl

def spNew (n : Nat) : List Nat := ((List.replicate n 0).set 0 1).set 1 1
theorem spNew_any {w : World} (n : Nat) (h1 : 8 ≤ n) (h2 : n ≤ 256) :
    Calls Tryd.prog 36 #[.int .i64 (n : Int)] w fun e w' => ∃ b b2, e = .returned (.tuple #[.pointer (some ⟨b, 0, none⟩), .nilIface]) ∧ SpR w' b b2 (spNew n) ∧ w.heap.size ≤ b ∧ w.heap.size ≤ b2 ∧ Ext w w' := by
  have hmk := run_mk (P := Tryd.prog) 42 3 (.int .i64 0) 8 Tryd.underlying42 Tryd.mkI rfl n (by omega) (by omega)
  have h3 : 7 < n := by omega
  have h4 : n < 257 := by omega
  clear h1 h2
  go_enter Tryd.func36, Tryd.ntmps36
  go_wp2
  have k1 : Blk ((w.alloc (.cells (Array.replicate n (.int .i64 0)) 3)).alloc (.cells #[.slice (some ⟨w.heap.size, 0, none⟩) n n] 83)) (w.heap.size + 1) #[.slice (some ⟨w.heap.size, 0, none⟩) n n] 83 := heap_at (by simp)
  have k2 : Blk ((w.alloc (.cells (Array.replicate n (.int .i64 0)) 3)).alloc (.cells #[.slice (some ⟨w.heap.size, 0, none⟩) n n] 83)) w.heap.size (Array.replicate n (.int .i64 0)) 3 := (Blk.new w _ _).alloc _
  have km : Ext w ((w.alloc (.cells (Array.replicate n (.int .i64 0)) 3)).alloc (.cells #[.slice (some ⟨w.heap.size, 0, none⟩) n n] 83)) := ((Mods.refl _ w).alloc _).alloc _
  generalize ((w.alloc (.cells (Array.replicate n (.int .i64 0)) 3)).alloc (.cells #[.slice (some ⟨w.heap.size, 0, none⟩) n n] 83)) = w2 at *
  have c1 := k1.cell (o := 0) (v := .slice (some ⟨w.heap.size, 0, none⟩) n n) rfl
  have c2 := k2.cell (o := 0) (v := .int .i64 0) (by rw [Array.getElem?_replicate, if_pos (by omega)])
  have c3 := k2.cell (o := 1) (v := .int .i64 0) (by rw [Array.getElem?_replicate, if_pos (by omega)])
  have f2 := k2.frozen
  have K1 := Lib.hid k1
  have K2 := Lib.hid k2
  have KM := Lib.hid km
  clear k1 k2 km hmk
  go_region
  go_wp2
  go_ret2
  have hS : SpR w2 (w.heap.size + 1) w.heap.size (List.replicate n 0) :=
    ⟨by rw [List.length_replicate]; exact K1.out, by rw [show spCells (List.replicate n 0) = Array.replicate n (.int .i64 0) by simp [spCells]]; exact K2.out, by omega, by simp; omega, by simp; omega⟩
  exact ⟨_, _, rfl, ((hS.set 0 1).set 1 1).drew, by omega, Nat.le_refl _, (((KM.out.setCell (.inl (Nat.le_refl _)) _).setCell (.inl (Nat.le_refl _)) _)).drew⟩
end Go.Proofs.YtidjkcfjocppmaaDoor
