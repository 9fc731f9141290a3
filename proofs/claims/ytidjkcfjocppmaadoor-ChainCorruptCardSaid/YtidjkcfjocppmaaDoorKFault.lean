/- Errors: what an error value is (ErrC), and what fault.New, Wrap, Code, errors.Is do. -/
import Derived.Test.YtidjkcfjocppmaaDoorRows
import Derived.Test.YtidjkcfjocppmaaDoorKBase1
import Derived.LaidEql
import Derived.Stop.Asserts
import Derived.RowKitTokens
import Derived.Lib.Hide
import Derived.Deep.LoopGhost
namespace Go.Proofs.YtidjkcfjocppmaaDoor
open Go.RowKit Go.Extern.Stop Go.Stop Go.Extern

/-- a fault's value. -/
abbrev faultV (b : Nat) : Value := .iface 107 (.pointer (some ⟨b, 0, none⟩))

/-- an error: a sentinel (by its code), or a fault round one; the layers' pages, from the outermost on. -/
inductive ErrC (F : Nat → Prop) (ad : Nat → Addr) (w : World) : Value → List Int → Nat → Prop
  | sent (k : Nat) : 1 ≤ k → k ≤ 9 → ErrC F ad w (.iface 169 (.pointer (some (ad k)))) [] k
  | wrap (b : Nat) (op : ByteArray) (pg : Int) (v : Value) (l : List Int) (k : Nat) : b < w.heap.size → ¬ F b →
      w.heap[b]? = some (.cells #[.string op, .int .i64 pg, v] 111 (0, 0)) → ErrC F ad w v l k →
      ErrC F ad w (.iface 107 (.pointer (some ⟨b, 0, none⟩))) (pg :: l) k

/-- are all nine sentinels known? (errors.Is and fault.Code ask for all; a row lays those that its code reaches.) -/
def Full (ad : Nat → Addr) : Prop := (ad 0).off = 0
/-- the package-level errors hold what their initialisers laid; F (what may be turned) is bounded, and does not hold them. -/
structure Env (F : Nat → Prop) (ad : Nat → Addr) (w : World) : Prop where
  c1 : w.cell? ⟨3, 0, none⟩ = some (.iface 169 (.pointer (some (ad 1))))
  c2 : w.cell? ⟨1, 0, none⟩ = some (.iface 169 (.pointer (some (ad 2))))
  c3 : w.cell? ⟨4, 0, none⟩ = some (.iface 169 (.pointer (some (ad 3))))
  c5 : w.cell? ⟨2, 0, none⟩ = some (.iface 169 (.pointer (some (ad 5))))
  c7 : w.cell? ⟨0, 0, none⟩ = some (.iface 169 (.pointer (some (ad 7))))
  c4 : Full ad → w.cell? ⟨5, 0, none⟩ = some (.iface 169 (.pointer (some (ad 4))))
  c6 : Full ad → w.cell? ⟨6, 0, none⟩ = some (.iface 169 (.pointer (some (ad 6))))
  c8 : Full ad → w.cell? ⟨7, 0, none⟩ = some (.iface 169 (.pointer (some (ad 8))))
  c9 : Full ad → w.cell? ⟨8, 0, none⟩ = some (.iface 169 (.pointer (some (ad 9))))
  ne : Full ad → ∀ i j, 1 ≤ i → i ≤ 9 → 1 ≤ j → j ≤ 9 → ad i = ad j → i = j
  row : Full ad → ∀ i, 1 ≤ i → i ≤ 9 → ∃ c t, w.heap[(ad i).block]? = some (.cells c t (0, 0))
  size : 5 ≤ w.heap.size
  nF : ∀ k, k < 5 → ¬ F k
  sizeF : Full ad → 9 ≤ w.heap.size
  nFF : Full ad → ∀ k, k < 9 → ¬ F k
  nA : Full ad → ∀ i, 1 ≤ i → i ≤ 9 → ¬ F (ad i).block
  lt : ∀ k, F k → k < w.heap.size

section
variable {F G : Nat → Prop} {ad : Nat → Addr} {w w' : World} {v : Value} {l : List Int} {k : Nat}
theorem ErrC.step (h : ErrC F ad w v l k) (m : Mods F w w') (hG : ∀ k, k < w.heap.size → ¬ F k → ¬ G k) : ErrC G ad w' v l k := by
  induction h with
  | sent k h1 h2 => exact .sent k h1 h2
  | wrap b op pg v l k hb hF hc _ ih => exact .wrap b op pg v l k (Nat.lt_of_lt_of_le hb m.size) (hG b hb hF) ((m.block b hb hF).trans hc) ih
theorem ErrC.mods (h : ErrC F ad w v l k) (m : Mods F w w') : ErrC F ad w' v l k := h.step m (fun _ _ h => h)
theorem ErrC.code (h : ErrC F ad w v l k) : 1 ≤ k ∧ k ≤ 9 := by
  induction h with
  | sent k h1 h2 => exact ⟨h1, h2⟩
  | wrap _ _ _ _ _ _ _ _ _ _ ih => exact ih
theorem ErrC.iface (h : ErrC F ad w v l k) : ∃ t x, v = .iface t x := by cases h <;> exact ⟨_, _, rfl⟩
theorem Env.step (h : Env F ad w) (m : Mods F w w') (hG : ∀ k, k < w.heap.size → ¬ F k → ¬ G k) (hz : ∀ k, G k → k < w'.heap.size) : Env G ad w' := by
  have hz0 := h.size
  have hr : Full ad → ∀ i, 1 ≤ i → i ≤ 9 → (ad i).block < w.heap.size := fun hf i h1 h2 => by
    obtain ⟨c, t, hc⟩ := h.row hf i h1 h2
    exact (Array.getElem?_eq_some_iff.1 hc).1
  have hc : ∀ g, g < 5 → w'.cell? ⟨g, 0, none⟩ = w.cell? ⟨g, 0, none⟩ := fun g hg => m.cell (by omega) (h.nF g hg)
  have hcF : Full ad → ∀ g, g < 9 → w'.cell? ⟨g, 0, none⟩ = w.cell? ⟨g, 0, none⟩ := fun hf g hg => m.cell (by have := h.sizeF hf; omega) (h.nFF hf g hg)
  exact ⟨(hc _ (by decide)).trans h.c1, (hc _ (by decide)).trans h.c2, (hc _ (by decide)).trans h.c3, (hc _ (by decide)).trans h.c5, (hc _ (by decide)).trans h.c7,
    fun hf => (hcF hf _ (by decide)).trans (h.c4 hf), fun hf => (hcF hf _ (by decide)).trans (h.c6 hf), fun hf => (hcF hf _ (by decide)).trans (h.c8 hf), fun hf => (hcF hf _ (by decide)).trans (h.c9 hf), h.ne,
    fun hf i h1 h2 => by rw [m.block _ (hr hf i h1 h2) (h.nA hf i h1 h2)]; exact h.row hf i h1 h2,
    Nat.le_trans h.size m.size, fun k hk => hG k (by omega) (h.nF k hk), fun hf => Nat.le_trans (h.sizeF hf) m.size, fun hf k hk => hG k (by have := h.sizeF hf; omega) (h.nFF hf k hk), fun hf i h1 h2 => hG _ (hr hf i h1 h2) (h.nA hf i h1 h2), hz⟩
theorem Env.mods (h : Env F ad w) (m : Mods F w w') : Env F ad w' := h.step m (fun _ _ h => h) (fun k hk => Nat.lt_of_lt_of_le (h.lt k hk) m.size)
theorem Env.new (h : Env F ad w) : ¬ F w.heap.size := fun f => Nat.lt_irrefl _ (h.lt _ f)
/-- a new fault. -/
theorem ErrC.fault (he : ErrC F ad w v l k) (hL : Env F ad w) (op : ByteArray) (pg : Int) :
    ErrC F ad (w.alloc (.cells #[.string op, .int .i64 pg, v] 111)) (faultV w.heap.size) (pg :: l) k :=
  .wrap _ op pg v l k (by simp) hL.new (heap_alloc_new w _) (he.mods ((Mods.refl F w).alloc _))
end

/-! ### errors.Is -/
theorem Tryd.isTypeOf (v : Value) (w : World) : (callFunc 83 #[.iface 169 v]).run Tryd.prog w = .ok (.value (.iface 152 (.agg #[.pointer (some ⟨10, 169, none⟩)]))) w := by kernel_rfl
theorem Tryd.isComparable (w : World) : (callFunc 124 #[.agg #[.pointer (some ⟨10, 169, none⟩)]]).run Tryd.prog w = .ok (.value (.bool true)) w := by kernel_rfl
theorem Tryd.isComp : (Tryd.prog.info? 169).map (·.comparable) = some true := by kernel_rfl
theorem Tryd.isSize : (Tryd.prog.info? 189).map (·.size) = some 1 := by kernel_rfl
theorem Tryd.noIsE (v : Value) (xT : TypeId) (w : World) : (Instr.typeAssert (.iface 169 v) xT 163 true).run Tryd.prog w = .ok (.tuple #[.nilIface, .bool false]) w := run_typeAssert_lacksB Tryd.underlying163 (by kernel_rfl) (by kernel_rfl) v xT w
theorem Tryd.noUnwrapE (v : Value) (xT : TypeId) (w : World) : (Instr.typeAssert (.iface 169 v) xT 159 true).run Tryd.prog w = .ok (.tuple #[.nilIface, .bool false]) w := run_typeAssert_lacksB Tryd.underlying159 (by kernel_rfl) (by kernel_rfl) v xT w
theorem Tryd.noUnwrapsE (v : Value) (xT : TypeId) (w : World) : (Instr.typeAssert (.iface 169 v) xT 160 true).run Tryd.prog w = .ok (.tuple #[.nilIface, .bool false]) w := run_typeAssert_lacksB Tryd.underlying160 (by kernel_rfl) (by kernel_rfl) v xT w
theorem Tryd.noIsW (v : Value) (xT : TypeId) (w : World) : (Instr.typeAssert (.iface 107 v) xT 163 true).run Tryd.prog w = .ok (.tuple #[.nilIface, .bool false]) w := run_typeAssert_lacksB Tryd.underlying163 (by kernel_rfl) (by kernel_rfl) v xT w
theorem Tryd.hasUnwrapW (v : Value) (xT : TypeId) (w : World) : (Instr.typeAssert (.iface 107 v) xT 159 true).run Tryd.prog w = .ok (.tuple #[.iface 107 v, .bool true]) w := run_typeAssert_hasB Tryd.underlying159 (by kernel_rfl) v xT w

set_option maxRecDepth 1000000 in
theorem is_loop {F : Nat → Prop} {ad : Nat → Addr} {W : World} (hL : Env F ad W) (hfu : Full ad) (j : Nat) (h1 : 1 ≤ j) (h9 : j ≤ 9) (v : Value) (l : List Int) (k : Nat) (he : ErrC F ad W v l k) :
    Calls Tryd.prog 84 #[v, .iface 169 (.pointer (some (ad j))), .bool true] W fun e w' => e = .returned (.bool (k == j)) ∧ W = w' := by
  obtain ⟨i, hi, hcmp⟩ := Option.map_eq_some_iff.1 Tryd.isComp
  obtain ⟨jz, hj, hjs⟩ := Option.map_eq_some_iff.1 Tryd.isSize
  obtain ⟨cb, tb, hb⟩ := hL.row hfu j h1 h9
  have nE := Tryd.noIsE
  have uE := Tryd.noUnwrapE
  have vE := Tryd.noUnwrapsE
  have nW := Tryd.noIsW
  have uW := Tryd.hasUnwrapW
  have HL := Lib.hid hL
  have HFU := Lib.hid hfu
  clear hL hfu
  go_enter Tryd.func84, Tryd.ntmps84
  go_wp2
  go_loopg [0] l.length (fun n E' wl => wl = W ∧ ∃ l', l'.length = n ∧ ErrC F ad W E' l' k)
  case atStart => exact ⟨rfl, l, rfl, he⟩
  case round =>
    obtain ⟨rfl, l', hn, hc'⟩ := hrel
    cases hc' with
    | sent _ k1 k9 =>
      by_cases hab : k = j
      · subst hab
        have heq := run_eql_iface_ptr_same (P := Tryd.prog) wr (ad k) Tryd.underlying34 Tryd.underlying169 hi hcmp hj
        go_wp2
        go_ret
        exact ⟨by simp, rfl⟩
      · obtain ⟨ca, ta, ha⟩ := HL.out.row HFU.out k k1 k9
        have heq := run_eql_iface_ptr_other (P := Tryd.prog) wr Tryd.underlying34 Tryd.underlying169 hi hcmp hj (by rw [hjs]; decide) (fun e => hab (HL.out.ne HFU.out k j k1 k9 h1 h9 e)) ha hb
        go_wp2
        go_ret
        exact ⟨by simp [hab], rfl⟩
    | wrap b op pg v1 l1 _ hbz hF hcell h2 =>
      have hty := run_eql_iface_types (P := Tryd.prog) 107 169 (.pointer (some ⟨b, 0, none⟩)) (.pointer (some (ad j))) Tryd.underlying34 (by decide) wr
      obtain ⟨t1, x1, rfl⟩ := h2.iface
      have HC := Lib.hid h2
      clear h2
      have hc2 : wr.cell? ⟨b, 2, none⟩ = some (.iface t1 x1) := by rw [cells_of_block hcell]; rfl
      have HN := Lib.hid hn
      clear hn hcell
      go_wp2
      go_roundg l1.length
      case measure => have := HN.out; simp at this; omega
      case rel => exact ⟨rfl, l1, rfl, HC.out⟩

theorem is_any {F : Nat → Prop} {ad : Nat → Addr} {W : World} (hL : Env F ad W) (hfu : Full ad) (j : Nat) (h1 : 1 ≤ j) (h9 : j ≤ 9) (v : Value) (l : List Int) (k : Nat) (he : ErrC F ad W v l k) :
    Calls Tryd.prog 66 #[v, .iface 169 (.pointer (some (ad j)))] W fun e w' => e = .returned (.bool (k == j)) ∧ W = w' := by
  have tT := Tryd.isTypeOf
  have cT := Tryd.isComparable
  obtain ⟨t, x, rfl⟩ := he.iface
  have HL := Lib.hid hL
  have HFU := Lib.hid hfu
  clear hL hfu
  go_enter Tryd.func66, Tryd.ntmps66
  go_wp2_with (go_at_call 84; refine (is_loop HL.out HFU.out j h1 h9 _ l k he).mono ?_; rintro e w' ⟨rfl, rfl⟩)
  go_ret
  exact ⟨rfl, rfl⟩

theorem code_any {F : Nat → Prop} {ad : Nat → Addr} {W : World} (hL : Env F ad W) (hfu : Full ad) (v : Value) (l : List Int) (k : Nat) (he : ErrC F ad W v l k) :
    Calls Tryd.prog 45 #[v] W fun e w' => e = .returned (.int .i64 k) ∧ W = w' := by
  have hk := he.code
  have c1 := hL.c1
  have c2 := hL.c2
  have c3 := hL.c3
  have c4 := hL.c4 hfu
  have c5 := hL.c5
  have c6 := hL.c6 hfu
  have c7 := hL.c7
  have c8 := hL.c8 hfu
  have c9 := hL.c9 hfu
  obtain ⟨t, x, rfl⟩ := he.iface
  have HL := Lib.hid hL
  have HFU := Lib.hid hfu
  clear hL hfu
  obtain rfl | rfl | rfl | rfl | rfl | rfl | rfl | rfl | rfl : k = 1 ∨ k = 2 ∨ k = 3 ∨ k = 4 ∨ k = 5 ∨ k = 6 ∨ k = 7 ∨ k = 8 ∨ k = 9 := by omega
  all_goals
    clear hk
    go_enter Tryd.func45, Tryd.ntmps45
    go_wp2_with (go_at_call 66; refine (is_any HL.out HFU.out _ (by decide) (by decide) _ l _ he).mono ?_; rintro e w' ⟨rfl, rfl⟩)
    go_ret
    exact ⟨rfl, rfl⟩

theorem code_nil (W : World) : Calls Tryd.prog 45 #[.nilIface] W fun e w' => e = .returned (.int .i64 0) ∧ W = w' := by
  go_enter Tryd.func45, Tryd.ntmps45
  go_wp2
  go_ret
  exact ⟨rfl, rfl⟩

/-! ### fault.New, fault.Wrap, fault.At -/
theorem new_any {F : Nat → Prop} {ad : Nat → Addr} {w : World} (hL : Env F ad w) (op : ByteArray) (v : Value) (l : List Int) (k : Nat) (he : ErrC F ad w v l k) :
    Calls Tryd.prog 46 #[.string op, v] w fun e w' => ∃ b, e = .returned (faultV b) ∧ ErrC F ad w' (faultV b) (-1 :: l) k ∧ Ext w w' := by
  obtain ⟨t, x, rfl⟩ := he.iface
  have HF := Lib.hid (he.fault hL op (-1))
  have HL := Lib.hid hL
  clear hL he
  go_enter Tryd.func46, Tryd.ntmps46
  go_wp2
  go_ret
  exact ⟨_, rfl, HF.out, (Mods.refl _ _).alloc _⟩

theorem wrap_any {F : Nat → Prop} {ad : Nat → Addr} {w : World} (hL : Env F ad w) (op : ByteArray) (v : Value) (l : List Int) (k : Nat) (he : ErrC F ad w v l k) :
    Calls Tryd.prog 40 #[.string op, v] w fun e w' => ∃ b, e = .returned (faultV b) ∧ ErrC F ad w' (faultV b) (-1 :: l) k ∧ Ext w w' := by
  obtain ⟨t, x, rfl⟩ := he.iface
  have HF := Lib.hid (he.fault hL op (-1))
  have HL := Lib.hid hL
  clear hL he
  go_enter Tryd.func40, Tryd.ntmps40
  go_wp2
  go_ret
  exact ⟨_, rfl, HF.out, (Mods.refl _ _).alloc _⟩
theorem wrap_nil (op : ByteArray) (w : World) : Calls Tryd.prog 40 #[.string op, .nilIface] w fun e w' => e = .returned .nilIface ∧ w = w' := by
  go_enter Tryd.func40, Tryd.ntmps40
  go_wp2
  go_ret
  exact ⟨rfl, rfl⟩

end Go.Proofs.YtidjkcfjocppmaaDoor
