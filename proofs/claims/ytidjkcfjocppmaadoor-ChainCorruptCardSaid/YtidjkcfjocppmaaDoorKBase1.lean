/- Plain lemmas on worlds: which blocks a call may have turned (Mods), and what a slice reads as (Sl). Over any program. | The data of the program as plain Lean: entries, nodes, pairs; keys; strings' order. No program in sight. | Rows of the call's own (Own): append, make, copy, as laws over what a slice reads as. Over any program. | Blocks that are written in place. Over any program. -/
import Derived.WalkKit
import Derived.WalkSpells
import Derived.WalkLawsBesides
import Derived.Handy
import Derived.Maps.AppendAt
import Derived.Lib.AppendStr
import Derived.Lib.ConvBytes
import Derived.Laws.BytesArg
import Derived.Lib.Hide
import Derived.Laws.Rows
import Derived.Laws.IdiomCopy
import Derived.Deep.OwnRows
import Derived.Laws.ResultCell
namespace Go.Proofs.YtidjkcfjocppmaaDoor
open Go.RowKit

theorem ret_int {k : IntKind} {a b : Int} (h : a = b) : Ending.returned (.int k a) = .returned (.int k b) := by rw [h]
theorem ret_bool {a b : Bool} (h : a = b) : Ending.returned (.bool a) = .returned (.bool b) := by rw [h]
theorem ret_str {a b : ByteArray} (h : a = b) : Ending.returned (.string a) = .returned (.string b) := by rw [h]
theorem val_int {k : IntKind} {a b : Int} (h : a = b) : Value.int k a = .int k b := by rw [h]
theorem val_bool {a b : Bool} (h : a = b) : Value.bool a = .bool b := by rw [h]
theorem val_str {a b : ByteArray} (h : a = b) : Value.string a = .string b := by rw [h]

theorem cell_lt {w : World} {b o : Nat} {v : Value} (h : w.cell? ⟨b, o, none⟩ = some v) : b < w.heap.size := World.block_lt_of_cell? w ⟨b, o, none⟩ h
theorem cell_alloc {w : World} {b o : Nat} {v : Value} (h : w.cell? ⟨b, o, none⟩ = some v) (x : Obj) : (w.alloc x).cell? ⟨b, o, none⟩ = some v :=
  (World.cell?_of_block (w := w) (Below.heap_alloc w x b (cell_lt h))).trans h
theorem cells_of_block {w : World} {b : Nat} {c : Array Value} {t : TypeId} {fz : Nat × Nat} (h : w.heap[b]? = some (.cells c t fz)) (o : Nat) : w.cell? ⟨b, o, none⟩ = c[o]? := by
  simp [World.cell?, h]

theorem heap_at {w : World} {o : Obj} {b : Nat} (h : b = w.heap.size) : (w.alloc o).heap[b]? = some o := by subst h; exact heap_alloc_new w o

/-- w' is w with new blocks, and with changes in blocks of F alone. -/
structure Mods (F : Nat → Prop) (w w' : World) : Prop where
  os : w'.os = w.os
  tape : w'.tape = w.tape
  output : w'.output = w.output
  size : w.heap.size ≤ w'.heap.size
  block : ∀ k, k < w.heap.size → ¬ F k → w'.heap[k]? = w.heap[k]?

/-- nothing old has changed. -/
abbrev Ext (w w' : World) : Prop := Mods (fun _ => False) w w'

section
variable {F G : Nat → Prop} {w w1 w2 w' : World}
theorem Mods.refl (F : Nat → Prop) (w : World) : Mods F w w := ⟨rfl, rfl, rfl, Nat.le_refl _, fun _ _ _ => rfl⟩
theorem Mods.trans (h : Mods F w w1) (k : Mods F w1 w2) : Mods F w w2 :=
  ⟨k.os.trans h.os, k.tape.trans h.tape, k.output.trans h.output, Nat.le_trans h.size k.size, fun i hi hn => (k.block i (Nat.lt_of_lt_of_le hi h.size) hn).trans (h.block i hi hn)⟩
/-- a second change may touch what is new besides. -/
theorem Mods.trans' (h : Mods F w w1) (k : Mods G w1 w2) (hG : ∀ i, i < w.heap.size → G i → F i) : Mods F w w2 :=
  ⟨k.os.trans h.os, k.tape.trans h.tape, k.output.trans h.output, Nat.le_trans h.size k.size, fun i hi hn => (k.block i (Nat.lt_of_lt_of_le hi h.size) (fun g => hn (hG i hi g))).trans (h.block i hi hn)⟩
theorem Mods.mono (h : Mods F w w') (hG : ∀ i, F i → G i) : Mods G w w' := ⟨h.os, h.tape, h.output, h.size, fun i hi hn => h.block i hi (fun f => hn (hG i f))⟩
theorem Mods.drew (h : Mods F w w1) : Mods F w w1.drew := ⟨h.os, h.tape, h.output, h.size, h.block⟩
theorem Mods.drewN (h : Mods F w w1) (n : Nat) : Mods F w (w1.drewN n) := ⟨h.os, h.tape, h.output, h.size, h.block⟩
theorem Mods.alloc (h : Mods F w w1) (o : Obj) : Mods F w (w1.alloc o) :=
  ⟨h.os, h.tape, h.output, Nat.le_trans h.size (by simp), fun i hi hn => (Below.heap_alloc _ _ _ (Nat.lt_of_lt_of_le hi h.size)).trans (h.block i hi hn)⟩
theorem Mods.setCell (h : Mods F w w1) {p : Addr} (hp : w.heap.size ≤ p.block ∨ F p.block) (u : Value) : Mods F w (w1.setCell p u) :=
  ⟨h.os, h.tape, h.output, Nat.le_trans h.size (by simp [World.setCell]), fun i hi hn => (Below.heap_setCell _ _ _ _ (by rintro rfl; rcases hp with hp | hp; omega; exact hn hp)).trans (h.block i hi hn)⟩
theorem Mods.grown {row : Option Nat} (h : Mods F w w1) (hg : w1.grownBy w2 row) (hr : ∀ k, row = some k → w.heap.size ≤ k ∨ F k) : Mods F w w2 :=
  ⟨hg.os.trans h.os, hg.tape.trans h.tape, hg.output.trans h.output, Nat.le_trans h.size hg.size,
    fun i hi hn => (hg.block i (Nat.lt_of_lt_of_le hi h.size) (fun e => by rcases hr i e.symm with h | h; omega; exact hn h)).trans (h.block i hi hn)⟩
theorem Mods.of_below (h : Below w.heap.size w w') : Mods F w w' := ⟨h.os, h.tape, h.output, h.size, fun i hi _ => h.block i hi⟩
theorem Mods.below (h : Ext w w') : Below w.heap.size w w' := ⟨h.os, h.tape, h.output, h.size, fun i hi => h.block i hi (fun f => f)⟩
theorem Mods.belowB {B : Nat} (h : Mods F w w') (hB : B ≤ w.heap.size) (hF : ∀ k, F k → B ≤ k) : Below B w w' := ⟨h.os, h.tape, h.output, h.size, fun i hi => h.block i (by omega) (fun f => by have := hF i f; omega)⟩
theorem Mods.ext (h : Ext w w') : Mods F w w' := h.mono (fun _ f => f.elim)
theorem Mods.cell (h : Mods F w w') {b o : Nat} (hb : b < w.heap.size) (hF : ¬ F b) : w'.cell? ⟨b, o, none⟩ = w.cell? ⟨b, o, none⟩ := World.cell?_of_block (w := w) (h.block b hb hF)
theorem Mods.frozen (h : Mods F w w') {b o : Nat} (hb : b < w.heap.size) (hF : ¬ F b) : w'.frozen? ⟨b, o, none⟩ = w.frozen? ⟨b, o, none⟩ := World.frozen?_of_block (w := w) (h.block b hb hF)
end

/-- what a slice reads as: its elements l, each laid by enc in sz cells, in a block that is not of F. -/
def Sl {α : Type} (F : Nat → Prop) (w : World) (sz : Nat) (enc : α → List Value) (v : Value) (l : List α) : Prop :=
  ∃ a cap, v = .slice a l.length cap ∧ l.length ≤ cap ∧ cap ≤ maxLen ∧ l.length ≤ 140737488355328 ∧
    (l = [] ∨ ∃ b off, a = some ⟨b, off, none⟩ ∧ b < w.heap.size ∧ ¬ F b ∧ ∀ i x, l[i]? = some x → ∀ j u, (enc x)[j]? = some u → w.cell? ⟨b, off + i * sz + j, none⟩ = some u)

section
variable {α : Type} {F G : Nat → Prop} {w w' : World} {sz : Nat} {enc : α → List Value} {v : Value} {l : List α}
theorem Sl.mods (h : Sl F w sz enc v l) (m : Mods F w w') : Sl F w' sz enc v l := by
  obtain ⟨a, cap, rfl, h1, h2, h3, h4⟩ := h
  refine ⟨a, cap, rfl, h1, h2, h3, ?_⟩
  rcases h4 with h4 | ⟨b, off, rfl, hb, hF, hc⟩
  · exact .inl h4
  · exact .inr ⟨b, off, rfl, Nat.lt_of_lt_of_le hb m.size, hF, fun i x hi j u hu => (m.cell hb hF).trans (hc i x hi j u hu)⟩
/-- .. and of another set of blocks behind. -/
theorem Sl.step (h : Sl F w sz enc v l) (m : Mods F w w') (hG : ∀ k, k < w.heap.size → ¬ F k → ¬ G k) : Sl G w' sz enc v l := by
  obtain ⟨a, cap, rfl, h1, h2, h3, h4⟩ := h
  refine ⟨a, cap, rfl, h1, h2, h3, ?_⟩
  rcases h4 with h4 | ⟨b, off, rfl, hb, hF, hc⟩
  · exact .inl h4
  · exact .inr ⟨b, off, rfl, Nat.lt_of_lt_of_le hb m.size, hG b hb hF, fun i x hi j u hu => (m.cell hb hF).trans (hc i x hi j u hu)⟩
theorem Sl.anti (h : Sl F w sz enc v l) (hG : ∀ k, k < w.heap.size → G k → F k) : Sl G w sz enc v l :=
  h.step (Mods.refl _ _) (fun k hk hF hg => hF (hG k hk hg))
/-- an element's cells, in a later world. -/
theorem Sl.at {a : Option Addr} (h : l = [] ∨ ∃ b off, a = some ⟨b, off, none⟩ ∧ b < w.heap.size ∧ ¬ F b ∧ ∀ i x, l[i]? = some x → ∀ j u, (enc x)[j]? = some u → w.cell? ⟨b, off + i * sz + j, none⟩ = some u)
    (m : Mods G w w') (hG : ∀ k, k < w.heap.size → G k → F k) (k : Nat) (hk : k < l.length) :
    ∃ b off, a = some ⟨b, off, none⟩ ∧ b < w.heap.size ∧ ¬ F b ∧ ∀ j u, (enc l[k])[j]? = some u → w'.cell? ⟨b, off + k * sz + j, none⟩ = some u := by
  rcases h with h | ⟨b, off, ha, hb, hF, hc⟩
  · rw [h] at hk; simp at hk
  · exact ⟨b, off, ha, hb, hF, fun j u hu => (m.cell hb (fun g => hF (hG b hb g))).trans (hc k l[k] (by simp [hk]) j u hu)⟩
theorem Sl.atE {a : Option Addr} (h : l = [] ∨ ∃ b off, a = some ⟨b, off, none⟩ ∧ b < w.heap.size ∧ ¬ F b ∧ ∀ i x, l[i]? = some x → ∀ j u, (enc x)[j]? = some u → w.cell? ⟨b, off + i * sz + j, none⟩ = some u)
    (m : Ext w w') (k : Nat) (hk : k < l.length) :
    ∃ b off, a = some ⟨b, off, none⟩ ∧ b < w.heap.size ∧ ¬ F b ∧ ∀ j u, (enc l[k])[j]? = some u → w'.cell? ⟨b, off + k * sz + j, none⟩ = some u :=
  Sl.at h m (fun _ _ f => f.elim) k hk
/-- a slice literal of one element. -/
theorem Sl.one {x : α} {b : Nat} {t : TypeId} {fz : Nat × Nat} (h : w.heap[b]? = some (.cells (enc x).toArray t fz)) (hF : ¬ F b) : Sl F w sz enc (.slice (some ⟨b, 0, none⟩) 1 1) [x] := by
  refine ⟨_, 1, rfl, Nat.le_refl _, by simp [maxLen], by simp, .inr ⟨b, 0, rfl, (Array.getElem?_eq_some_iff.1 h).1, hF, fun i y hi j u hu => ?_⟩⟩
  match i, hi with
  | 0, hi =>
    simp at hi; subst hi
    rw [cells_of_block h]
    simpa using hu
theorem Sl.nil (F : Nat → Prop) (w : World) (sz : Nat) (enc : α → List Value) : Sl F w sz enc (.slice none 0 0) [] := ⟨none, 0, rfl, Nat.le_refl _, by simp [maxLen], by simp, .inl rfl⟩
end
end Go.Proofs.YtidjkcfjocppmaaDoor
namespace Go.Proofs.YtidjkcfjocppmaaDoor
open Go.RowKit

structure EntryA where
  key : ByteArray
  value : ByteArray
  chain : Int
  size : Int

structure NodeA where
  leaf : Bool
  entries : List EntryA
  keys : List ByteArray
  kids : List Int

def encE (e : EntryA) : List Value := [.string e.key, .string e.value, .int .i64 e.chain, .int .i64 e.size]
def encP (p : ByteArray × ByteArray) : List Value := [.string p.1, .string p.2]
def encS (s : ByteArray) : List Value := [.string s]
def encI (n : Int) : List Value := [.int .i64 n]
def encB (b : UInt8) : List Value := [.int .u8 (b.toNat : Int)]
def encV (v : Value) : List Value := [v]

/-- is a text a key? -/
def keyB (s : ByteArray) : Bool := decide (1 ≤ (s.size : Int)) && decide ((s.size : Int) ≤ 32)
theorem keyB_iff (s : ByteArray) : keyB s = true ↔ 1 ≤ s.size ∧ s.size ≤ 32 := by simp [keyB]; omega
def leS (a b : ByteArray) : Bool := Op.bytesLess a.toList b.toList || a.toList == b.toList
def ltS (a b : ByteArray) : Bool := Op.bytesLess a.toList b.toList

/-- how many bytes a node has. -/
def weightE (e : EntryA) : Int := 2 + e.key.size + (if e.chain = 0 then 1 + (e.value.size : Int) else 8)
def sumE : List EntryA → Int
  | [] => 0
  | e :: r => weightE e + sumE r
def sumK : List ByteArray → Int
  | [] => 0
  | k :: r => (5 + (k.size : Int)) + sumK r
def weightN (n : NodeA) : Int := 2 + (if n.leaf then 0 else 4) + sumE n.entries + sumK n.keys
theorem weightE_nonneg (e : EntryA) : 2 ≤ weightE e := by unfold weightE; split <;> omega
theorem sumE_nonneg (l : List EntryA) : 0 ≤ sumE l := by
  induction l with
  | nil => simp [sumE]
  | cons e r ih => have := weightE_nonneg e; simp only [sumE]; omega
theorem sumK_nonneg (l : List ByteArray) : 0 ≤ sumK l := by
  induction l with
  | nil => simp [sumK]
  | cons e r ih => simp only [sumK]; omega
theorem sumE_append (l r : List EntryA) : sumE (l ++ r) = sumE l + sumE r := by
  induction l with
  | nil => simp [sumE]
  | cons e l ih => simp only [List.cons_append, sumE, ih]; omega
theorem sumK_append (l r : List ByteArray) : sumK (l ++ r) = sumK l + sumK r := by
  induction l with
  | nil => simp [sumK]
  | cons e l ih => simp only [List.cons_append, sumK, ih]; omega
/-- a sum over a list, up to a place, and one on. -/
theorem take_one {α : Type} (l : List α) (k : Nat) (x : α) (h : l[k]? = some x) : l.take (k + 1) = l.take k ++ [x] := by
  rw [List.take_add_one, h]; rfl
theorem sumE_take_le (l : List EntryA) (k : Nat) : sumE (l.take k) ≤ sumE l := by
  have := sumE_append (l.take k) (l.drop k); rw [List.take_append_drop] at this
  have := sumE_nonneg (l.drop k); omega
theorem sumK_take_le (l : List ByteArray) (k : Nat) : sumK (l.take k) ≤ sumK l := by
  have := sumK_append (l.take k) (l.drop k); rw [List.take_append_drop] at this
  have := sumK_nonneg (l.drop k); omega
end Go.Proofs.YtidjkcfjocppmaaDoor
namespace Go.Proofs.YtidjkcfjocppmaaDoor
open Go.RowKit

/-- v owns the elements l: nil, or the head of a row from block base on, not of F, whose first cells are l's. -/
def Own {α : Type} (F : Nat → Prop) (w : World) (base : Nat) (e : TypeId) (sz : Nat) (enc : α → List Value) (v : Value) (l : List α) : Prop :=
  w.ownsRow base e sz v l.length (l.flatMap enc) ∧ ∀ g, v.ownBlock = some g → ¬ F g

theorem flatMap_at {α : Type} {sz : Nat} {enc : α → List Value} (henc : ∀ x, (enc x).length = sz) : ∀ (l : List α) (i : Nat) (x : α) (j : Nat) (u : Value), l[i]? = some x → (enc x)[j]? = some u → (l.flatMap enc)[i * sz + j]? = some u
  | [], i, x, j, u, h, _ => by simp at h
  | y :: l, 0, x, j, u, h, hu => by
    simp at h; subst h
    rw [List.flatMap_cons, Nat.zero_mul, Nat.zero_add, List.getElem?_append_left (List.getElem?_eq_some_iff.1 hu).1]
    exact hu
  | y :: l, i + 1, x, j, u, h, hu => by
    rw [List.flatMap_cons, List.getElem?_append_right (by rw [henc, Nat.add_mul]; omega), henc]
    rw [show (i + 1) * sz + j - sz = i * sz + j by rw [Nat.add_mul]; omega]
    exact flatMap_at henc l i x j u (by simpa using h) hu
theorem flatMap_len {α : Type} {sz : Nat} {enc : α → List Value} (henc : ∀ x, (enc x).length = sz) (l : List α) : (l.flatMap enc).length = l.length * sz := by
  induction l with
  | nil => simp
  | cons x l ih => rw [List.flatMap_cons, List.length_append, henc, ih, List.length_cons, Nat.add_mul]; omega

section
variable {α : Type} {F G : Nat → Prop} {w w' : World} {base : Nat} {e : TypeId} {sz : Nat} {enc : α → List Value} {v : Value} {l m : List α}
theorem Own.nil (F : Nat → Prop) (w : World) (base : Nat) (e : TypeId) (sz : Nat) (enc : α → List Value) : Own F w base e sz enc (.slice none 0 0) ([] : List α) :=
  ⟨World.ownsRow_nil _ _ _ _, fun g h => by simp [Value.ownBlock] at h⟩
theorem Own.form (h : Own F w base e sz enc v l) : ∃ a c, v = .slice a l.length c ∧ l.length ≤ c ∧ c ≤ maxLen := by
  rcases h.1.2 with ⟨rfl, h0⟩ | ⟨g, cap, cur, rfl, _, _, h1, h2, _⟩
  · exact ⟨none, 0, by rw [h0], by omega, by simp [maxLen]⟩
  · exact ⟨_, cap, rfl, h1, h2⟩
theorem Own.sl (h : Own F w base e sz enc v l) (henc : ∀ x, (enc x).length = sz) (hl : l.length ≤ 140737488355328) : Sl F w sz enc v l := by
  rcases h.1.2 with ⟨rfl, h0⟩ | ⟨g, cap, cur, rfl, hb, hg, hcap, hm, hs, htake⟩
  · have : l = [] := List.eq_nil_of_length_eq_zero h0
    subst this
    exact Sl.nil _ _ _ _
  · refine ⟨_, cap, rfl, hcap, hm, hl, .inr ⟨g, 0, rfl, (Array.getElem?_eq_some_iff.1 hg).1, h.2 g rfl, fun i x hi j u hu => ?_⟩⟩
    have := h.1.cells (g := g) rfl (i * sz + j) u (flatMap_at henc l i x j u hi hu)
    rw [Nat.zero_add]
    unfold Addr.add at this
    split at this
    · rename_i hz; rw [hz]; exact this
    · simpa using this
theorem Own.mods (h : Own F w base e sz enc v l) (m : Mods G w w') (hG : ∀ g, v.ownBlock = some g → ¬ G g) : Own F w' base e sz enc v l := by
  refine ⟨⟨h.1.1, ?_⟩, h.2⟩
  rcases h.1.2 with h0 | ⟨g, cap, cur, rfl, hb, hg, r⟩
  · exact .inl h0
  · exact .inr ⟨g, cap, cur, rfl, hb, (m.block g (Array.getElem?_eq_some_iff.1 hg).1 (hG g rfl)).trans hg, r⟩
theorem Own.ext (h : Own F w base e sz enc v l) (m : Ext w w') : Own F w' base e sz enc v l := h.mods m (fun _ _ f => f)
theorem Own.lt (h : Own F w base e sz enc v l) : ∀ g, v.ownBlock = some g → base ≤ g ∧ g < w.heap.size := h.1.lt
theorem Own.blocks (h : Own F w base e sz enc v l) (hG : ∀ g, v.ownBlock = some g → ¬ G g) : Own G w base e sz enc v l := ⟨h.1, hG⟩
theorem Mods.of_grown {row : Option Nat} (h : w.grownBy w' row) : Mods (fun k => row = some k) w w' := ⟨h.os, h.tape, h.output, h.size, fun k hk hn => h.block k hk (fun e => hn e.symm)⟩
/-- a row that is made: a slice literal, or make. -/
theorem Own.made {cur : Array Value} {b cap : Nat} (hg : w.heap[b]? = some (.cells cur e (0, 0))) (hb : base ≤ b) (hF : ¬ F b) (hl : l.length ≤ cap) (hm : cap ≤ maxLen) (hs : cur.size = cap * sz) (ht : cur.toList.take (l.length * sz) = l.flatMap enc)
    (henc : ∀ x, (enc x).length = sz) : Own F w base e sz enc (.slice (some ⟨b, 0, none⟩) l.length cap) l :=
  ⟨⟨flatMap_len henc l, .inr ⟨b, cap, cur, rfl, hb, hg, hl, hm, hs, ht⟩⟩, fun g h => by simp [Value.ownBlock] at h; subst h; exact hF⟩
end

section
variable {P : Program} {α : Type} {F G : Nat → Prop} {w : World}
theorem run_append_of_nil (base : Nat) (t ty e : TypeId) (i : TypeInfo) (size : Nat) (ht : P.underlying t = some (.slice e)) (hi : P.info? e = some i)
    (v : Value) (n : Nat) (xs : List Value) (hown : w.ownsRow base e size v n xs) (c : Nat) : (Builtin.append_ #[t, t] ty #[v, .slice none 0 c]).run P w = .ok v w := by
  rcases hown.2 with ⟨rfl, rfl⟩ | ⟨g, cap, cur, rfl, _, _, hnc, _⟩
  · simp [Builtin.append_, run_underlying ht, sizeOf, typeInfo, hi, Builtin.lenOf, Builtin.firstCells]
  · simp [Builtin.append_, run_underlying ht, sizeOf, typeInfo, hi, Builtin.lenOf, Builtin.firstCells, hnc, storeCells]

/-- append(v, s...), whatever the source's address is. -/
theorem run_append_sl (base : Nat) (t ty e : TypeId) (i : TypeInfo) (z : Value) (size bytes : Nat) (ht : P.underlying t = some (.slice e)) (hi : P.info? e = some i) (hz : i.zero = some z)
    (hsize : i.size = size) (hby : i.bytes = bytes) (hzs : z.cells.size = size) (hsz : 0 < size) (enc : α → List Value) (henc : ∀ x, (enc x).length = size) (h1 : ∀ x, ∀ u ∈ enc x, u.oneCell' = true)
    (v s : Value) (l m : List α) (hown : Own F w base e size enc v l) (hs : Sl G w size enc s m) (hb : (l.length + m.length) * bytes ≤ 140737488355328) (hbp : 0 < bytes) (hbase : base ≤ w.heap.size) (hn : ¬ F w.heap.size) :
    ∃ a' c' w', (Builtin.append_ #[t, t] ty #[v, s]).run P w = .ok (.slice a' (l.length + m.length) c') w' ∧ Own F w' base e size enc (.slice a' (l.length + m.length) c') (l ++ m) ∧ w.grownBy w' v.ownBlock ∧
      ((Value.slice a' (l.length + m.length) c').ownBlock = v.ownBlock ∨ (Value.slice a' (l.length + m.length) c').ownBlock = some w.heap.size) := by
  have h63 : l.length + m.length ≤ maxLen := by
    have := Nat.le_mul_of_pos_right (l.length + m.length) hbp
    simp only [maxLen]; omega
  obtain ⟨a, cap, rfl, s1, s2, s3, s4⟩ := hs
  have fin : ∀ (v' : Value) (w' : World), (Builtin.append_ #[t, t] ty #[v, .slice a m.length cap]).run P w = .ok v' w' → w'.ownsRow base e size v' (l.length + m.length) (l.flatMap enc ++ m.flatMap enc) → w.grownBy w' v.ownBlock →
      (v'.ownBlock = v.ownBlock ∨ v'.ownBlock = some w.heap.size) →
      ∃ a' c' w', (Builtin.append_ #[t, t] ty #[v, .slice a m.length cap]).run P w = .ok (.slice a' (l.length + m.length) c') w' ∧ Own F w' base e size enc (.slice a' (l.length + m.length) c') (l ++ m) ∧ w.grownBy w' v.ownBlock ∧
        ((Value.slice a' (l.length + m.length) c').ownBlock = v.ownBlock ∨ (Value.slice a' (l.length + m.length) c').ownBlock = some w.heap.size) := by
    intro v' w' hr ho hg hat
    have hO : Own F w' base e size enc v' (l ++ m) := by
      refine ⟨by simpa using ho, fun g hg' => ?_⟩
      rcases hat with h | h
      · exact hown.2 g (h.symm.trans hg')
      · rw [h] at hg'; injection hg' with hg'; rw [← hg']; exact hn
    obtain ⟨a', c', hv, _⟩ := hO.form
    rw [List.length_append] at hv
    subst hv
    exact ⟨a', c', w', hr, hO, hg, hat⟩
  cases a with
  | none =>
    have hm : m = [] := by
      rcases s4 with h | ⟨b, off, h, _⟩
      · exact h
      · cases h
    subst hm
    exact fin v w (run_append_of_nil base t ty e i size ht hi v l.length _ hown.1 cap) (by simpa using hown.1) (World.grownBy.refl w _) (.inl rfl)
  | some ad =>
    have hcells : ∀ j u, (m.flatMap enc)[j]? = some u → w.cell? (ad.add j) = some u := by
      intro j u hu
      rcases s4 with h | ⟨b, off, h, hbl, hF, hc⟩
      · subst h; simp at hu
      · injection h with h
        subst h
        have hj : j < m.length * size := by rw [← flatMap_len henc m]; exact (List.getElem?_eq_some_iff.1 hu).1
        have hq : j / size < m.length := by rw [Nat.div_lt_iff_lt_mul hsz]; exact hj
        have hr : j % size < (enc m[j / size]).length := by rw [henc]; exact Nat.mod_lt _ hsz
        have hji : j / size * size + j % size = j := by rw [Nat.mul_comm]; exact Nat.div_add_mod j size
        have h1 := flatMap_at henc m (j / size) m[j / size] (j % size) (enc m[j / size])[j % size] (by simp [hq]) (by simp [hr])
        rw [hji, hu] at h1
        injection h1 with h1
        have h2 := hc (j / size) m[j / size] (by simp [hq]) (j % size) (enc m[j / size])[j % size] (by simp [hr])
        rw [← h1, Nat.add_assoc, hji] at h2
        have hplain : (⟨b, off, none⟩ : Addr).add j = ⟨b, off + j, none⟩ := by unfold Addr.add; split <;> simp_all
        rw [hplain]; exact h2
    obtain ⟨v', w', hr, h2, h3, _, h5⟩ := run_append_own_at (P := P) w base t ty e i z size bytes ht hi hz hsize hby hzs hsz v l.length _ hown.1 ad m.length cap (m.flatMap enc) (flatMap_len henc m) hcells
      (fun u hu => by obtain ⟨x, _, hx⟩ := List.mem_flatMap.1 hu; exact h1 x u hx) h63 hb hbase
    exact fin v' w' hr h2 h3 h5

theorem wpl_append_sl {ops : Array Oper} {rest : List Oper} {o : Oper} {a : Act} {Q : Exit → Act → World → Prop} (hgd : o.guard = none) (sx x : Operand) (t : TypeId)
    (ho : o.op = .call { callee := .builtin .append, args := #[sx, x], argTypes := #[t, t] })
    (base : Nat) (e : TypeId) (i : TypeInfo) (z : Value) (size bytes : Nat) (ht : P.underlying t = some (.slice e)) (hi : P.info? e = some i) (hz : i.zero = some z)
    (hsize : i.size = size) (hby : i.bytes = bytes) (hzs : z.cells.size = size) (hsz : 0 < size) (enc : α → List Value) (henc : ∀ x, (enc x).length = size) (h1 : ∀ x, ∀ u ∈ enc x, u.oneCell' = true)
    (v s : Value) (l m : List α) (hv : a.eval sx = v) (hx : a.eval x = s) (hown : Own F w base e size enc v l) (hs : Sl G w size enc s m) (hb : (l.length + m.length) * bytes ≤ 140737488355328) (hbp : 0 < bytes) (hbase : base ≤ w.heap.size) (hn : ¬ F w.heap.size)
    (h : ∀ a' c' w', Own F w' base e size enc (.slice a' (l.length + m.length) c') (l ++ m) → w.grownBy w' v.ownBlock →
      ((Value.slice a' (l.length + m.length) c').ownBlock = v.ownBlock ∨ (Value.slice a' (l.length + m.length) c').ownBlock = some w.heap.size) → wpList P ops Q rest (a.put o.dst (.slice a' (l.length + m.length) c')) w') :
    wpList P ops Q (o :: rest) a w := by
  refine wpList_plain hgd fun K hK => ?_
  obtain ⟨a', c', w', hr, h2, h3, h4⟩ := run_append_sl (P := P) base t o.type e i z size bytes ht hi hz hsize hby hzs hsz enc henc h1 v s l m hown hs hb hbp hbase hn
  unfold Oper.wp execOp
  simp only [ho, resolve, invoke, builtin, Sem.run_bind, Sem.run_pure, Result.andThen_ok, List.map_toArray, List.map_cons, List.map_nil, hv, hx, hr]
  exact hK _ _ (h a' c' w' h2 h3 h4)
end
end Go.Proofs.YtidjkcfjocppmaaDoor
namespace Go.Proofs.YtidjkcfjocppmaaDoor
open Go.RowKit

/-- block b holds these cells, none frozen. -/
def Blk (w : World) (b : Nat) (c : Array Value) (t : TypeId) : Prop := w.heap[b]? = some (.cells c t (0, 0))

section
variable {w w' : World} {b : Nat} {c : Array Value} {t : TypeId} {F : Nat → Prop}
theorem Blk.lt (h : Blk w b c t) : b < w.heap.size := (Array.getElem?_eq_some_iff.1 h).1
theorem Blk.cell (h : Blk w b c t) {o : Nat} {v : Value} (hv : c[o]? = some v) : w.cell? ⟨b, o, none⟩ = some v := by rw [cells_of_block h]; exact hv
theorem Blk.frozen (h : Blk w b c t) (o : Nat) : w.frozen? ⟨b, o, none⟩ = false := by
  unfold World.frozen?
  have : w.heap[b]? = some (.cells c t (0, 0)) := h
  simp only [this]
  simp
theorem Blk.mods (h : Blk w b c t) (m : Mods F w w') (hb : ¬ F b) : Blk w' b c t := (m.block b h.lt hb).trans h
theorem Blk.ext (h : Blk w b c t) (m : Ext w w') : Blk w' b c t := h.mods m (fun f => f)
theorem Blk.set (h : Blk w b c t) (i : Nat) (v : Value) : Blk (w.setCell ⟨b, i, none⟩ v) b (c.setIfInBounds i v) t := heap_setCell_same w b i c t v h
theorem Blk.set_other (h : Blk w b c t) {p : Addr} (hp : b ≠ p.block) (v : Value) : Blk (w.setCell p v) b c t := (heap_setCell_other w p b v hp).trans h
theorem Blk.new (w : World) (c : Array Value) (t : TypeId) : Blk (w.alloc (.cells c t)) w.heap.size c t := heap_alloc_new w _
theorem Blk.alloc (h : Blk w b c t) (o : Obj) : Blk (w.alloc o) b c t := h.ext ((Mods.refl _ w).alloc o)
theorem Blk.drew (h : Blk w b c t) : Blk w.drew b c t := h
theorem Mods.at (F : Nat → Prop) (w : World) (b i : Nat) (v : Value) (hb : F b) : Mods F w (w.setCell ⟨b, i, none⟩ v) := (Mods.refl F w).setCell (.inr hb) v
end

theorem madeCells_one (z : Value) (n : Nat) : madeCells #[z] n = (List.replicate n z).toArray := by
  apply Array.ext
  · simp [madeCells]
  · intro i h1 h2
    simp [madeCells, Nat.mod_one]
/-- 'make([]T, n)', T of one cell. -/
theorem run_mk {P : Program} (t e : TypeId) (z : Value) (bytes : Nat) (ht : P.underlying t = some (.slice e)) (hinfo : (P.info? e).map (fun i => (i.zero, i.size, i.bytes)) = some (some z, 1, bytes)) (hz1 : z.cells = #[z])
    (n : Nat) (hbytes : bytes * n ≤ 281474976710656) (h63 : n ≤ 9223372036854775807) (w : World) :
    (Instr.makeSlice t (.int .i64 (n : Int)) (.int .i64 (n : Int))).run P w = .ok (.slice (some ⟨w.heap.size, 0, none⟩) n n) (w.alloc (.cells (Array.replicate n z) e)) := by
  rw [run_make_row' t e z bytes ht hinfo hz1 .i64 .i64 n hbytes h63 w, madeCells_one, List.toArray_replicate]

/-- the footprint is of this world's blocks. -/
def Bd (F : Nat → Prop) (w : World) : Prop := ∀ k, F k → k < w.heap.size
theorem Bd.new {F : Nat → Prop} {w : World} (h : Bd F w) : ¬ F w.heap.size := fun f => Nat.lt_irrefl _ (h _ f)
theorem Bd.mods {F G : Nat → Prop} {w w' : World} (h : Bd F w) (m : Mods G w w') : Bd F w' := fun k hk => Nat.lt_of_lt_of_le (h k hk) m.size
theorem Bd.alloc {F : Nat → Prop} {w : World} {o : Obj} (h : Bd F w) : ¬ F (w.alloc o).heap.size := (h.mods ((Mods.refl F w).alloc o)).new
/-- the literal of no elements. -/
theorem Own.empty {α : Type} {F : Nat → Prop} {w : World} (h : Bd F w) (e : TypeId) (sz : Nat) (enc : α → List Value) (henc : ∀ x, (enc x).length = sz) :
    Own F (w.alloc (.cells #[] e)) w.heap.size e sz enc (.slice (some ⟨w.heap.size, 0, none⟩) 0 0) ([] : List α) :=
  Own.made (l := ([] : List α)) (cur := #[]) (heap_alloc_new w _) (Nat.le_refl _) h.new (Nat.le_refl _) (by simp [maxLen]) (by simp) (by simp) henc

theorem Mods.past {w0 w w' : World} (h : Ext w0 w) (m : Mods (fun k => w0.heap.size ≤ k) w w') : Ext w0 w' := h.trans' m (fun i hi hg => by omega)
theorem Sl.ext {α : Type} {F : Nat → Prop} {w w' : World} {sz : Nat} {enc : α → List Value} {v : Value} {l : List α} (h : Sl F w sz enc v l) (m : Ext w w') : Sl F w' sz enc v l := h.mods m.ext

/-- what is known of a slice's type and its elements' type. -/
structure ElT (P : Program) (t e : TypeId) (z : Value) (sz bytes : Nat) : Prop where
  under : P.underlying t = some (.slice e)
  info : (P.info? e).map (fun i => (i.zero, i.size, i.bytes)) = some (some z, sz, bytes)
  zs : z.cells.size = sz
  sz0 : 0 < sz
  by0 : 0 < bytes
/-- an encoding in sz cells. -/
structure EncOk {α : Type} (enc : α → List Value) (sz : Nat) : Prop where
  len : ∀ x, (enc x).length = sz
  one : ∀ x, ∀ u ∈ enc x, u.oneCell' = true
theorem encB_ok : EncOk encB 1 := ⟨fun _ => rfl, by intro x u hu; simp [encB] at hu; subst hu; rfl⟩
theorem encI_ok : EncOk encI 1 := ⟨fun _ => rfl, by intro x u hu; simp [encI] at hu; subst hu; rfl⟩
theorem info3 {P : Program} {e : TypeId} {z : Option Value} {s b : Nat} (h : (P.info? e).map (fun i => (i.zero, i.size, i.bytes)) = some (z, s, b)) : ∃ i, P.info? e = some i ∧ i.zero = z ∧ i.size = s ∧ i.bytes = b := by
  obtain ⟨i, hi, hzz⟩ := Option.map_eq_some_iff.1 h
  simp only [Prod.mk.injEq] at hzz
  exact ⟨i, hi, hzz.1, hzz.2.1, hzz.2.2⟩

/-- v = append(v, s...), v the call's own row. -/
theorem wpl_app {P : Program} {α : Type} {F G : Nat → Prop} {w : World} {t e : TypeId} {z : Value} {sz bytes : Nat} {enc : α → List Value} (T : ElT P t e z sz bytes) (E : EncOk enc sz)
    {ops : Array Oper} {rest : List Oper} {o : Oper} {a : Act} {Q : Exit → Act → World → Prop} (hgd : o.guard = none) (sx x : Operand)
    (ho : o.op = .call { callee := .builtin .append, args := #[sx, x], argTypes := #[t, t] })
    (base : Nat) (v s : Value) (l m : List α) (hv : a.eval sx = v) (hx : a.eval x = s) (hown : Own F w base e sz enc v l) (hs : Sl G w sz enc s m) (hb : (l.length + m.length) * bytes ≤ 140737488355328) (hbase : base ≤ w.heap.size) (hn : Bd F w)
    (h : ∀ a' c' w', Own F w' base e sz enc (.slice a' (l.length + m.length) c') (l ++ m) → Mods (fun k => base ≤ k) w w' → wpList P ops Q rest (a.put o.dst (.slice a' (l.length + m.length) c')) w') :
    wpList P ops Q (o :: rest) a w := by
  obtain ⟨i, hi, hz, hs1, hb1⟩ := info3 T.info
  refine wpl_append_sl hgd sx x t ho base e i z sz bytes T.under hi hz hs1 hb1 T.zs T.sz0 enc E.len E.one v s l m hv hx hown hs hb T.by0 hbase hn.new ?_
  intro a' c' w' h1 h2 _
  exact h a' c' w' h1 ((Mods.of_grown h2).mono (fun k hk => (hown.lt k hk).1))

/-- []byte{byte(q)} -/
theorem byte_lit {F : Nat → Prop} {w : World} (h : Bd F w) (q : Nat) (t : TypeId) : Sl F (w.alloc (.cells #[.int .u8 ((q : Int) % 256)] t)) 1 encB (.slice (some ⟨w.heap.size, 0, none⟩) 1 1) [UInt8.ofNat q] := by
  refine Sl.one (t := t) (fz := (0, 0)) ?_ h.new
  have : (encB (UInt8.ofNat q)).toArray = #[.int .u8 ((q : Int) % 256)] := by simp [encB]
  rw [this]
  exact heap_at rfl

theorem Own.rebase {α : Type} {F : Nat → Prop} {w : World} {base base' : Nat} {e : TypeId} {sz : Nat} {enc : α → List Value} {v : Value} {l : List α} (h : Own F w base e sz enc v l) (hb : base' ≤ base) : Own F w base' e sz enc v l := by
  refine ⟨⟨h.1.1, ?_⟩, h.2⟩
  rcases h.1.2 with h0 | ⟨g, cap, cur, rfl, hbg, hg, r⟩
  · exact .inl h0
  · exact .inr ⟨g, cap, cur, rfl, Nat.le_trans hb hbg, hg, r⟩

theorem Blk.set4 {w : World} {R : Nat} {t : TypeId} {a0 a1 a2 a3 : Value} (h : Blk w R #[a0, a1, a2, a3] t) (v0 v1 v2 v3 : Value) :
    Blk ((((w.setCell ⟨R, 0, none⟩ v0).setCell ⟨R, 1, none⟩ v1).setCell ⟨R, 2, none⟩ v2).setCell ⟨R, 3, none⟩ v3) R #[v0, v1, v2, v3] t := by
  simpa using (((h.set 0 v0).set 1 v1).set 2 v2).set 3 v3
theorem Mods.set4 {F : Nat → Prop} {w w' : World} (m : Mods F w w') {R : Nat} (hR : w.heap.size ≤ R ∨ F R) (v0 v1 v2 v3 : Value) :
    Mods F w ((((w'.setCell ⟨R, 0, none⟩ v0).setCell ⟨R, 1, none⟩ v1).setCell ⟨R, 2, none⟩ v2).setCell ⟨R, 3, none⟩ v3) :=
  (((m.setCell (p := ⟨R, 0, none⟩) hR _).setCell (p := ⟨R, 1, none⟩) hR _).setCell (p := ⟨R, 2, none⟩) hR _).setCell (p := ⟨R, 3, none⟩) hR _
/-- the results: a struct in a variable, and another value. -/
theorem results_row_tmp {P : Program} {fn : Func} {p u : Tmp} {ty : TypeId} (h : fn.results = #[.cell p ty, .tmp u]) (tmps : Array Value) (w : World) (g : Nat) (t : TypeId) (cs : Array Value) (d : TypeDesc)
    (hp : tmps.getD p undef = .pointer (some ⟨g, 0, none⟩)) (hg : Blk w g cs t)
    (hu : P.underlying ty = some d) (hd : (match d with | .struct _ | .array _ _ => true | _ => false) = true) (hi : (P.info? ty).map (·.size) = some cs.size) :
    (results fn tmps).run P w = .ok (.tuple #[.agg cs, tmps.getD u undef]) w := by
  rw [results_cell_tmp h, hp]
  have hg' : w.heap[g]? = some (.cells cs t (0, 0)) := hg
  simp [asAddr, run_loadVar_row w g t ty cs (0, 0) d hg' hu hd hi]
end Go.Proofs.YtidjkcfjocppmaaDoor
