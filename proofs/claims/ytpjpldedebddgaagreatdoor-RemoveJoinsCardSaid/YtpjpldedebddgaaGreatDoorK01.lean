/- Plain lemmas on worlds: which blocks a call may have turned (Mods), and what a slice reads as (Sl). Over any program. | The data of the program as plain Lean: entries, nodes, pairs; keys; strings' order. No program in sight. | Numbers as bytes, as plain Lean. | The check sum as plain Lean. | Pages as plain Lean. | The disk as plain Lean. | Pages: a sealed page opens as itself; a block that a burst has changed does not open. Plain Lean. -/
import Derived.WalkKit
import Derived.WalkSpells
import Derived.WalkLawsBesides
import Derived.Handy
import Derived.RowKit
namespace Go.Proofs.YtpjpldedebddgaaGreatDoor
open Go.RowKit

theorem ret_int {k : IntKind} {a b : Int} (h : a = b) : Ending.returned (.int k a) = .returned (.int k b) := by rw [h]
theorem ret_bool {a b : Bool} (h : a = b) : Ending.returned (.bool a) = .returned (.bool b) := by rw [h]
theorem ret_str {a b : ByteArray} (h : a = b) : Ending.returned (.string a) = .returned (.string b) := by rw [h]
theorem val_int {k : IntKind} {a b : Int} (h : a = b) : Value.int k a = .int k b := by rw [h]
theorem val_bool {a b : Bool} (h : a = b) : Value.bool a = .bool b := by rw [h]
theorem val_str {a b : ByteArray} (h : a = b) : Value.string a = .string b := by rw [h]

theorem cell_lt {w : World} {b o : Nat} {v : Value} (h : w.cell? ⟨b, o, none⟩ = some v) : b < w.heap.size := World.block_lt_of_cell? w ⟨b, o, none⟩ h
theorem cell_alloc {w : World} {b o : Nat} {v : Value} (h : w.cell? ⟨b, o, none⟩ = some v) (x : Obj) : (w.alloc x).cell? ⟨b, o, none⟩ = some v :=
  (World.cell?_of_block (w := w) (Below.heap_alloc w x b (cell_lt h))).trans h
theorem cells_of_block {w : World} {b : Nat} {c : Array Value} {t : TypeId} {fz : Nat × Nat} (h : w.heap[b]? = some (.cells c t fz)) (o : Nat) : w.cell? ⟨b, o, none⟩ = c[o]? := by
  simp [World.cell?, h]

theorem heap_at {w : World} {o : Obj} {b : Nat} (h : b = w.heap.size) : (w.alloc o).heap[b]? = some o := by subst h; exact heap_alloc_new w o

/-- w' is w with new blocks, and with changes in blocks of F alone. -/
structure Mods (F : Nat → Prop) (w w' : World) : Prop where
  os : w'.os = w.os
  tape : w'.tape = w.tape
  output : w'.output = w.output
  size : w.heap.size ≤ w'.heap.size
  block : ∀ k, k < w.heap.size → ¬ F k → w'.heap[k]? = w.heap[k]?

/-- nothing old has changed. -/
abbrev Ext (w w' : World) : Prop := Mods (fun _ => False) w w'

section
variable {F G : Nat → Prop} {w w1 w2 w' : World}
theorem Mods.refl (F : Nat → Prop) (w : World) : Mods F w w := ⟨rfl, rfl, rfl, Nat.le_refl _, fun _ _ _ => rfl⟩
theorem Mods.trans (h : Mods F w w1) (k : Mods F w1 w2) : Mods F w w2 :=
  ⟨k.os.trans h.os, k.tape.trans h.tape, k.output.trans h.output, Nat.le_trans h.size k.size, fun i hi hn => (k.block i (Nat.lt_of_lt_of_le hi h.size) hn).trans (h.block i hi hn)⟩
/-- a second change may touch what is new besides. -/
theorem Mods.trans' (h : Mods F w w1) (k : Mods G w1 w2) (hG : ∀ i, i < w.heap.size → G i → F i) : Mods F w w2 :=
  ⟨k.os.trans h.os, k.tape.trans h.tape, k.output.trans h.output, Nat.le_trans h.size k.size, fun i hi hn => (k.block i (Nat.lt_of_lt_of_le hi h.size) (fun g => hn (hG i hi g))).trans (h.block i hi hn)⟩
theorem Mods.mono (h : Mods F w w') (hG : ∀ i, F i → G i) : Mods G w w' := ⟨h.os, h.tape, h.output, h.size, fun i hi hn => h.block i hi (fun f => hn (hG i f))⟩
theorem Mods.drew (h : Mods F w w1) : Mods F w w1.drew := ⟨h.os, h.tape, h.output, h.size, h.block⟩
theorem Mods.drewN (h : Mods F w w1) (n : Nat) : Mods F w (w1.drewN n) := ⟨h.os, h.tape, h.output, h.size, h.block⟩
theorem Mods.alloc (h : Mods F w w1) (o : Obj) : Mods F w (w1.alloc o) :=
  ⟨h.os, h.tape, h.output, Nat.le_trans h.size (by simp), fun i hi hn => (Below.heap_alloc _ _ _ (Nat.lt_of_lt_of_le hi h.size)).trans (h.block i hi hn)⟩
theorem Mods.setCell (h : Mods F w w1) {p : Addr} (hp : w.heap.size ≤ p.block ∨ F p.block) (u : Value) : Mods F w (w1.setCell p u) :=
  ⟨h.os, h.tape, h.output, Nat.le_trans h.size (by simp [World.setCell]), fun i hi hn => (Below.heap_setCell _ _ _ _ (by rintro rfl; rcases hp with hp | hp; omega; exact hn hp)).trans (h.block i hi hn)⟩
theorem Mods.grown {row : Option Nat} (h : Mods F w w1) (hg : w1.grownBy w2 row) (hr : ∀ k, row = some k → w.heap.size ≤ k ∨ F k) : Mods F w w2 :=
  ⟨hg.os.trans h.os, hg.tape.trans h.tape, hg.output.trans h.output, Nat.le_trans h.size hg.size,
    fun i hi hn => (hg.block i (Nat.lt_of_lt_of_le hi h.size) (fun e => by rcases hr i e.symm with h | h; omega; exact hn h)).trans (h.block i hi hn)⟩
theorem Mods.of_below (h : Below w.heap.size w w') : Mods F w w' := ⟨h.os, h.tape, h.output, h.size, fun i hi _ => h.block i hi⟩
theorem Mods.below (h : Ext w w') : Below w.heap.size w w' := ⟨h.os, h.tape, h.output, h.size, fun i hi => h.block i hi (fun f => f)⟩
theorem Mods.belowB {B : Nat} (h : Mods F w w') (hB : B ≤ w.heap.size) (hF : ∀ k, F k → B ≤ k) : Below B w w' := ⟨h.os, h.tape, h.output, h.size, fun i hi => h.block i (by omega) (fun f => by have := hF i f; omega)⟩
theorem Mods.ext (h : Ext w w') : Mods F w w' := h.mono (fun _ f => f.elim)
theorem Mods.cell (h : Mods F w w') {b o : Nat} (hb : b < w.heap.size) (hF : ¬ F b) : w'.cell? ⟨b, o, none⟩ = w.cell? ⟨b, o, none⟩ := World.cell?_of_block (w := w) (h.block b hb hF)
theorem Mods.frozen (h : Mods F w w') {b o : Nat} (hb : b < w.heap.size) (hF : ¬ F b) : w'.frozen? ⟨b, o, none⟩ = w.frozen? ⟨b, o, none⟩ := World.frozen?_of_block (w := w) (h.block b hb hF)
end

/-- what a slice reads as: its elements l, each laid by enc in sz cells, in a block that is not of F. -/
def Sl {α : Type} (F : Nat → Prop) (w : World) (sz : Nat) (enc : α → List Value) (v : Value) (l : List α) : Prop :=
  ∃ a cap, v = .slice a l.length cap ∧ l.length ≤ cap ∧ cap ≤ maxLen ∧ l.length ≤ 140737488355328 ∧
    (l = [] ∨ ∃ b off, a = some ⟨b, off, none⟩ ∧ b < w.heap.size ∧ ¬ F b ∧ ∀ i x, l[i]? = some x → ∀ j u, (enc x)[j]? = some u → w.cell? ⟨b, off + i * sz + j, none⟩ = some u)

section
variable {α : Type} {F G : Nat → Prop} {w w' : World} {sz : Nat} {enc : α → List Value} {v : Value} {l : List α}
theorem Sl.mods (h : Sl F w sz enc v l) (m : Mods F w w') : Sl F w' sz enc v l := by
  obtain ⟨a, cap, rfl, h1, h2, h3, h4⟩ := h
  refine ⟨a, cap, rfl, h1, h2, h3, ?_⟩
  rcases h4 with h4 | ⟨b, off, rfl, hb, hF, hc⟩
  · exact .inl h4
  · exact .inr ⟨b, off, rfl, Nat.lt_of_lt_of_le hb m.size, hF, fun i x hi j u hu => (m.cell hb hF).trans (hc i x hi j u hu)⟩
/-- .. and of another set of blocks behind. -/
theorem Sl.step (h : Sl F w sz enc v l) (m : Mods F w w') (hG : ∀ k, k < w.heap.size → ¬ F k → ¬ G k) : Sl G w' sz enc v l := by
  obtain ⟨a, cap, rfl, h1, h2, h3, h4⟩ := h
  refine ⟨a, cap, rfl, h1, h2, h3, ?_⟩
  rcases h4 with h4 | ⟨b, off, rfl, hb, hF, hc⟩
  · exact .inl h4
  · exact .inr ⟨b, off, rfl, Nat.lt_of_lt_of_le hb m.size, hG b hb hF, fun i x hi j u hu => (m.cell hb hF).trans (hc i x hi j u hu)⟩
theorem Sl.anti (h : Sl F w sz enc v l) (hG : ∀ k, k < w.heap.size → G k → F k) : Sl G w sz enc v l :=
  h.step (Mods.refl _ _) (fun k hk hF hg => hF (hG k hk hg))
/-- an element's cells, in a later world. -/
theorem Sl.at {a : Option Addr} (h : l = [] ∨ ∃ b off, a = some ⟨b, off, none⟩ ∧ b < w.heap.size ∧ ¬ F b ∧ ∀ i x, l[i]? = some x → ∀ j u, (enc x)[j]? = some u → w.cell? ⟨b, off + i * sz + j, none⟩ = some u)
    (m : Mods G w w') (hG : ∀ k, k < w.heap.size → G k → F k) (k : Nat) (hk : k < l.length) :
    ∃ b off, a = some ⟨b, off, none⟩ ∧ b < w.heap.size ∧ ¬ F b ∧ ∀ j u, (enc l[k])[j]? = some u → w'.cell? ⟨b, off + k * sz + j, none⟩ = some u := by
  rcases h with h | ⟨b, off, ha, hb, hF, hc⟩
  · rw [h] at hk; simp at hk
  · exact ⟨b, off, ha, hb, hF, fun j u hu => (m.cell hb (fun g => hF (hG b hb g))).trans (hc k l[k] (by simp [hk]) j u hu)⟩
theorem Sl.atE {a : Option Addr} (h : l = [] ∨ ∃ b off, a = some ⟨b, off, none⟩ ∧ b < w.heap.size ∧ ¬ F b ∧ ∀ i x, l[i]? = some x → ∀ j u, (enc x)[j]? = some u → w.cell? ⟨b, off + i * sz + j, none⟩ = some u)
    (m : Ext w w') (k : Nat) (hk : k < l.length) :
    ∃ b off, a = some ⟨b, off, none⟩ ∧ b < w.heap.size ∧ ¬ F b ∧ ∀ j u, (enc l[k])[j]? = some u → w'.cell? ⟨b, off + k * sz + j, none⟩ = some u :=
  Sl.at h m (fun _ _ f => f.elim) k hk
/-- a slice literal of one element. -/
theorem Sl.one {x : α} {b : Nat} {t : TypeId} {fz : Nat × Nat} (h : w.heap[b]? = some (.cells (enc x).toArray t fz)) (hF : ¬ F b) : Sl F w sz enc (.slice (some ⟨b, 0, none⟩) 1 1) [x] := by
  refine ⟨_, 1, rfl, Nat.le_refl _, by simp [maxLen], by simp, .inr ⟨b, 0, rfl, (Array.getElem?_eq_some_iff.1 h).1, hF, fun i y hi j u hu => ?_⟩⟩
  match i, hi with
  | 0, hi =>
    simp at hi; subst hi
    rw [cells_of_block h]
    simpa using hu
theorem Sl.nil (F : Nat → Prop) (w : World) (sz : Nat) (enc : α → List Value) : Sl F w sz enc (.slice none 0 0) [] := ⟨none, 0, rfl, Nat.le_refl _, by simp [maxLen], by simp, .inl rfl⟩
end
end Go.Proofs.YtpjpldedebddgaaGreatDoor
namespace Go.Proofs.YtpjpldedebddgaaGreatDoor
open Go.RowKit

structure EntryA where
  key : ByteArray
  value : ByteArray
  chain : Int
  size : Int

structure NodeA where
  leaf : Bool
  entries : List EntryA
  keys : List ByteArray
  kids : List Int

def encE (e : EntryA) : List Value := [.string e.key, .string e.value, .int .i64 e.chain, .int .i64 e.size]
def encP (p : ByteArray × ByteArray) : List Value := [.string p.1, .string p.2]
def encS (s : ByteArray) : List Value := [.string s]
def encI (n : Int) : List Value := [.int .i64 n]
def encB (b : UInt8) : List Value := [.int .u8 (b.toNat : Int)]
def encV (v : Value) : List Value := [v]

/-- is a text a key? -/
def keyB (s : ByteArray) : Bool := decide (1 ≤ (s.size : Int)) && decide ((s.size : Int) ≤ 32)
theorem keyB_iff (s : ByteArray) : keyB s = true ↔ 1 ≤ s.size ∧ s.size ≤ 32 := by simp [keyB]; omega
def leS (a b : ByteArray) : Bool := Op.bytesLess a.toList b.toList || a.toList == b.toList
def ltS (a b : ByteArray) : Bool := Op.bytesLess a.toList b.toList

/-- how many bytes a node has. -/
def weightE (e : EntryA) : Int := 2 + e.key.size + (if e.chain = 0 then 1 + (e.value.size : Int) else 8)
def sumE : List EntryA → Int
  | [] => 0
  | e :: r => weightE e + sumE r
def sumK : List ByteArray → Int
  | [] => 0
  | k :: r => (5 + (k.size : Int)) + sumK r
def weightN (n : NodeA) : Int := 2 + (if n.leaf then 0 else 4) + sumE n.entries + sumK n.keys
theorem weightE_nonneg (e : EntryA) : 2 ≤ weightE e := by unfold weightE; split <;> omega
theorem sumE_nonneg (l : List EntryA) : 0 ≤ sumE l := by
  induction l with
  | nil => simp [sumE]
  | cons e r ih => have := weightE_nonneg e; simp only [sumE]; omega
theorem sumK_nonneg (l : List ByteArray) : 0 ≤ sumK l := by
  induction l with
  | nil => simp [sumK]
  | cons e r ih => simp only [sumK]; omega
theorem sumE_append (l r : List EntryA) : sumE (l ++ r) = sumE l + sumE r := by
  induction l with
  | nil => simp [sumE]
  | cons e l ih => simp only [List.cons_append, sumE, ih]; omega
theorem sumK_append (l r : List ByteArray) : sumK (l ++ r) = sumK l + sumK r := by
  induction l with
  | nil => simp [sumK]
  | cons e l ih => simp only [List.cons_append, sumK, ih]; omega
/-- a sum over a list, up to a place, and one on. -/
theorem take_one {α : Type} (l : List α) (k : Nat) (x : α) (h : l[k]? = some x) : l.take (k + 1) = l.take k ++ [x] := by
  rw [List.take_add_one, h]; rfl
theorem sumE_take_le (l : List EntryA) (k : Nat) : sumE (l.take k) ≤ sumE l := by
  have := sumE_append (l.take k) (l.drop k); rw [List.take_append_drop] at this
  have := sumE_nonneg (l.drop k); omega
theorem sumK_take_le (l : List ByteArray) (k : Nat) : sumK (l.take k) ≤ sumK l := by
  have := sumK_append (l.take k) (l.drop k); rw [List.take_append_drop] at this
  have := sumK_nonneg (l.drop k); omega
end Go.Proofs.YtpjpldedebddgaaGreatDoor
namespace Go.Proofs.YtpjpldedebddgaaGreatDoor

/-- the low W bytes of n, the lowest one first. -/
def leB : Nat → Nat → List UInt8
  | 0, _ => []
  | W + 1, n => UInt8.ofNat n :: leB W (n / 256)
/-- the number of bytes, the lowest one first. -/
def ofLe : List UInt8 → Nat
  | [] => 0
  | x :: l => x.toNat + 256 * ofLe l
theorem leB_length : ∀ W n, (leB W n).length = W
  | 0, _ => rfl
  | W + 1, n => by simp [leB, leB_length W]
theorem ofLe_leB : ∀ W n, ofLe (leB W n) = n % 256 ^ W
  | 0, n => by simp [leB, ofLe, Nat.mod_one]
  | W + 1, n => by
    rw [leB, ofLe, ofLe_leB W]
    rw [Nat.pow_succ, Nat.mul_comm (256 ^ W) 256, Nat.mod_mul]
    simp
theorem ofLe_lt : ∀ l, ofLe l < 256 ^ l.length
  | [] => by simp [ofLe]
  | x :: l => by
    have := ofLe_lt l
    have hx := x.toNat_lt
    rw [ofLe, List.length_cons, Nat.pow_succ]
    omega
theorem leB_ofLe : ∀ l, leB l.length (ofLe l) = l
  | [] => rfl
  | x :: l => by
    have hx := x.toNat_lt
    rw [List.length_cons, leB, ofLe]
    have h1 : (x.toNat + 256 * ofLe l) / 256 = ofLe l := by omega
    rw [h1, leB_ofLe l]
    congr 1
    apply UInt8.toNat_inj.1
    simp

theorem ofLe_take_step (l : List UInt8) (q m W : Nat) (x : UInt8) (hm : m < W) (hx : l[q + m]? = some x) :
    ofLe ((l.drop (q + m)).take (W - m)) = ofLe ((l.drop (q + (m + 1))).take (W - (m + 1))) * 256 + x.toNat := by
  obtain ⟨hlt, he⟩ := List.getElem?_eq_some_iff.1 hx
  rw [List.drop_eq_getElem_cons hlt, he, show W - m = (W - (m + 1)) + 1 by omega, List.take_succ_cons, ofLe]
  rw [show q + m + 1 = q + (m + 1) by omega]
  omega
theorem ofLe_take_lt (l : List UInt8) (q m W : Nat) : ofLe ((l.drop (q + m)).take (W - m)) < 256 ^ (W - m) :=
  Nat.lt_of_lt_of_le (ofLe_lt _) (Nat.pow_le_pow_right (by decide) (by simp [List.length_take]; omega))
end Go.Proofs.YtpjpldedebddgaaGreatDoor
namespace Go.Proofs.YtpjpldedebddgaaGreatDoor

def crcStep (r : Nat) : Nat := if r % 2 = 1 then (r / 2) ^^^ 3988292384 else r / 2
def crcIter : Nat → Nat → Nat
  | 0, r => r
  | k + 1, r => crcIter k (crcStep r)
def crcEntry (n : Nat) : Nat := crcIter 8 n
def crcByte (r x : Nat) : Nat := (r / 256) ^^^ crcEntry ((r % 256) ^^^ x)
def crcMore (r : Nat) : List UInt8 → Nat
  | [] => r
  | x :: l => crcMore (crcByte r x.toNat) l
def crcSum (l : List UInt8) : Nat := 4294967295 ^^^ crcMore 4294967295 l

theorem crcStep_lt (r : Nat) (h : r < 4294967296) : crcStep r < 4294967296 := by
  unfold crcStep
  split
  · exact Nat.xor_lt_two_pow (n := 32) (by omega) (by decide)
  · omega
theorem crcIter_lt : ∀ k r, r < 4294967296 → crcIter k r < 4294967296
  | 0, _, h => h
  | k + 1, r, h => crcIter_lt k _ (crcStep_lt r h)
theorem crcEntry_lt (n : Nat) (h : n < 256) : crcEntry n < 4294967296 := crcIter_lt 8 n (by omega)
theorem crcByte_lt (r x : Nat) (h : r < 4294967296) (hx : x < 256) : crcByte r x < 4294967296 :=
  Nat.xor_lt_two_pow (n := 32) (by omega) (crcEntry_lt _ (Nat.xor_lt_two_pow (n := 8) (by omega) hx))
theorem crcMore_lt : ∀ (l : List UInt8) (r : Nat), r < 4294967296 → crcMore r l < 4294967296
  | [], _, h => h
  | x :: l, r, h => crcMore_lt l _ (crcByte_lt r x.toNat h x.toNat_lt)
theorem crcSum_lt (l : List UInt8) : crcSum l < 4294967296 := Nat.xor_lt_two_pow (n := 32) (by decide) (crcMore_lt l _ (by decide))
theorem crcMore_append (l m : List UInt8) : ∀ r, crcMore r (l ++ m) = crcMore (crcMore r l) m := by
  induction l with
  | nil => intro r; rfl
  | cons x l ih => intro r; exact ih _
end Go.Proofs.YtpjpldedebddgaaGreatDoor
namespace Go.Proofs.YtpjpldedebddgaaGreatDoor

structure PageA where
  kind : Int
  id : Int
  gen : Nat
  body : List UInt8

def kindB (k : Int) : Bool := decide (k = 1) || decide (k = 2) || decide (k = 3) || decide (k = 4) || decide (k = 5)
def sizedB (s : Int) : Bool := decide (256 ≤ s) && decide (s ≤ 1024)
/-- why a page is not right. -/
def pgCheck (p : PageA) (size : Int) : Option (List Int × Nat) :=
  if sizedB size = false then some ([-1], 2)
  else if kindB p.kind = false ∨ p.id < 0 ∨ 256 ≤ p.id ∨ size - 24 < (p.body.length : Int) then some ([-1], 1) else none
/-- a block's bytes but its check sum. -/
def rawP (p : PageA) (size : Nat) : List UInt8 :=
  leB 1 p.kind.toNat ++ leB 1 0 ++ leB 2 p.body.length ++ leB 4 p.id.toNat ++ leB 8 p.gen ++ leB 4 0 ++ p.body ++ List.replicate (size - 4 - (20 + p.body.length)) 0
def sealP (p : PageA) (size : Nat) : List UInt8 := rawP p size ++ leB 4 (crcSum (rawP p size))

theorem rawP_length (p : PageA) (size : Nat) (h : p.body.length + 24 ≤ size) : (rawP p size).length = size - 4 := by
  simp only [rawP, List.length_append, leB_length, List.length_replicate]; omega
theorem sealP_length (p : PageA) (size : Nat) (h : p.body.length + 24 ≤ size) : (sealP p size).length = size := by
  rw [sealP, List.length_append, rawP_length p size h, leB_length]; omega
theorem pgCheck_none {p : PageA} {size : Int} (h : pgCheck p size = none) : 256 ≤ size ∧ size ≤ 1024 ∧ kindB p.kind = true ∧ 0 ≤ p.id ∧ p.id < 256 ∧ (p.body.length : Int) + 24 ≤ size := by
  unfold pgCheck at h
  split at h
  · cases h
  · rename_i h1
    split at h
    · cases h
    · rename_i h2
      simp only [not_or, Bool.not_eq_false, Int.not_lt, Int.not_le] at h1 h2
      simp only [sizedB, Bool.and_eq_true, decide_eq_true_eq] at h1
      exact ⟨h1.1, h1.2, h2.1, h2.2.1, h2.2.2.1, by omega⟩
theorem kindB_range {k : Int} (h : kindB k = true) : 1 ≤ k ∧ k ≤ 5 := by
  simp only [kindB, Bool.or_eq_true, decide_eq_true_eq] at h; omega
theorem kindB_not {k : Int} (h : kindB k = false) : k ≠ 1 ∧ k ≠ 2 ∧ k ≠ 3 ∧ k ≠ 4 ∧ k ≠ 5 := by
  simp only [kindB, Bool.or_eq_false_iff, decide_eq_false_iff_not] at h; exact ⟨h.1.1.1.1, h.1.1.1.2, h.1.1.2, h.1.2, h.2⟩

/-- what a block's head says. -/
def numAt (l : List UInt8) (i W : Nat) : Nat := ofLe ((l.drop i).take W)
def readP (l : List UInt8) : PageA :=
  { kind := (numAt l 0 1 : Nat), id := (numAt l 4 4 : Nat), gen := numAt l 8 8,
    body := if numAt l 2 2 ≤ l.length - 24 then (l.drop 20).take (numAt l 2 2) else [] }
theorem numAt_lt (l : List UInt8) (i W : Nat) : numAt l i W < 256 ^ W :=
  Nat.lt_of_lt_of_le (ofLe_lt _) (Nat.pow_le_pow_right (by decide) (by simp [List.length_take]; omega))

/-- is a block a page's? -/
def openB (l : List UInt8) : Bool := decide (pgCheck (readP l) (l.length : Int) = none) && decide (sealP (readP l) l.length = l)
/-- the page that a block's fault names. -/
def openId (l : List UInt8) : Int := if 256 ≤ (readP l).id then -1 else (readP l).id
/-- page.OpenAt: the page, or why there is none. -/
def openAtP (l : List UInt8) (id : Int) : PageA ⊕ (List Int × Nat) :=
  if openB l = false then .inr ([-1, openId l], 5) else if (readP l).id ≠ id then .inr ([if id < -1 then -1 else id], 5) else .inl (readP l)
theorem readP_gen (l : List UInt8) : (readP l).gen < 18446744073709551616 := numAt_lt l 8 8
theorem readP_id (l : List UInt8) : 0 ≤ (readP l).id ∧ (readP l).id < 4294967296 := by
  have := numAt_lt l 4 4
  have h : (readP l).id = (numAt l 4 4 : Nat) := rfl
  constructor
  · omega
  · rw [h]; have : numAt l 4 4 < 4294967296 := this; omega
theorem readP_kind (l : List UInt8) : 0 ≤ (readP l).kind ∧ (readP l).kind < 256 := by
  have := numAt_lt l 0 1
  have h : (readP l).kind = (numAt l 0 1 : Nat) := rfl
  constructor
  · omega
  · rw [h]; have : numAt l 0 1 < 256 := this; omega
end Go.Proofs.YtpjpldedebddgaaGreatDoor
namespace Go.Proofs.YtpjpldedebddgaaGreatDoor

structure DiskA where
  blocks : Nat
  size : Nat
  lasting : List (List UInt8)
  waiting : List (Nat × List UInt8)
  lit : Bool
  after : Int
  torn : Int
  cut : Int
  keep : List Bool
  off : Bool
  count : Int

/-- what a block reads as: the last write that waits, or the lasting bytes. -/
def lookW (i : Nat) : List (Nat × List UInt8) → Option (List UInt8)
  | [] => none
  | (j, b) :: l => match lookW i l with
    | some c => some c
    | none => if j = i then some b else none
def DiskA.look (D : DiskA) (i : Nat) : List UInt8 := (lookW i D.waiting).getD (D.lasting.getD i [])
/-- why there is no such block. -/
def DiskA.check (D : DiskA) (i : Int) : Option (List Int × Nat) := if i < 0 ∨ (D.blocks : Int) ≤ i then some ([if i < -1 then -1 else i], 2) else none
def DiskA.on (D : DiskA) (i : Int) : Option (List Int × Nat) :=
  match D.check i with
  | some e => some e
  | none => if D.off then some ([if i < -1 then -1 else i], 7) else none
/-- what waits lasts. -/
def settle : List (List UInt8) → List (Nat × List UInt8) → List (List UInt8)
  | l, [] => l
  | l, (i, b) :: r => settle (l.set i b) r
/-- the power fails: what waits lasts, as far as it is kept. -/
def crashes (keep : List Bool) (torn cut : Int) : Nat → List (List UInt8) → List (Nat × List UInt8) → List (List UInt8)
  | _, l, [] => l
  | k, l, (i, b) :: r =>
    let old := l.getD i []
    let c := (max 0 (min cut (b.length : Int))).toNat
    crashes keep torn cut (k + 1) (if (k : Int) = torn then l.set i (b.take c ++ old.drop c) else if keep.getD k false then l.set i (b ++ old.drop b.length) else l) r
def DiskA.crash (D : DiskA) (keep : List Bool) (torn cut : Int) : DiskA := { D with lasting := crashes keep torn cut 0 D.lasting D.waiting, waiting := [] }
/-- a call is done, or the power fails. -/
def DiskA.burns (D : DiskA) : Bool × DiskA :=
  if D.lit && decide (D.after = 0) then
    (true, { D with lit := false, after := 0, torn := 0, cut := 0, keep := [], off := true }.crash D.keep D.torn D.cut)
  else (false, { D with after := RowKit.wrap64 (D.after - 1), count := RowKit.wrap64 (D.count + 1) })
def DiskA.write (D : DiskA) (i : Int) (b : List UInt8) : Option (List Int × Nat) × DiskA :=
  match D.on i with
  | some e => (some e, D)
  | none =>
    if b.length ≠ D.size then (some ([if i < -1 then -1 else i], 1), D) else
      let r := { D with waiting := D.waiting ++ [(i.toNat, b)] }.burns
      (if r.1 then some ([if i < -1 then -1 else i], 7) else none, r.2)
def DiskA.flush (D : DiskA) : Option (List Int × Nat) × DiskA :=
  if D.off then (some ([-1], 7), D) else
    let r := D.burns
    if r.1 then (some ([-1], 7), r.2) else (none, { r.2 with lasting := settle r.2.lasting r.2.waiting, waiting := [] })
def newDisk (blocks size : Nat) : DiskA :=
  { blocks := blocks, size := size, lasting := List.replicate blocks (List.replicate size 0), waiting := [], lit := false, after := 0, torn := 0, cut := 0, keep := [], off := false, count := 0 }

theorem lookW_append (i : Nat) (l r : List (Nat × List UInt8)) : lookW i (l ++ r) = (lookW i r).or (lookW i l) := by
  induction l with
  | nil => simp [lookW]
  | cons x l ih =>
    obtain ⟨j, b⟩ := x
    rw [List.cons_append, lookW, ih, lookW]
    cases lookW i r <;> cases lookW i l <;> rfl
theorem lookW_none (i : Nat) : ∀ (l : List (Nat × List UInt8)), (∀ p ∈ l, p.1 ≠ i) → lookW i l = none
  | [], _ => rfl
  | (j, b) :: l, h => by
    rw [lookW, lookW_none i l (fun p hp => h p (List.mem_cons_of_mem _ hp)), if_neg (h (j, b) List.mem_cons_self)]
theorem lookW_at (i : Nat) (l : List (Nat × List UInt8)) (k : Nat) (b : List UInt8) (hk : l[k]? = some (i, b)) (h : ∀ j p, k < j → l[j]? = some p → p.1 ≠ i) : lookW i l = some b := by
  obtain ⟨hlt, he⟩ := List.getElem?_eq_some_iff.1 hk
  have h1 : l = l.take k ++ (i, b) :: l.drop (k + 1) := by
    rw [← he, ← List.drop_eq_getElem_cons hlt, List.take_append_drop]
  have h2 : lookW i (l.drop (k + 1)) = none := lookW_none i _ (fun p hp => by
    obtain ⟨j, hj, he2⟩ := List.getElem_of_mem hp
    rw [List.getElem_drop] at he2
    have hj2 : k + 1 + j < l.length := by simp at hj; omega
    exact h (k + 1 + j) p (by omega) (by rw [List.getElem?_eq_getElem hj2, he2]))
  rw [h1, lookW_append, lookW, h2, if_pos rfl]
  rfl
end Go.Proofs.YtpjpldedebddgaaGreatDoor
namespace Go.Proofs.YtpjpldedebddgaaGreatDoor
theorem numAt_mid (A B : List UInt8) (W n : Nat) (i : Nat) (hi : A.length = i) (hn : n < 256 ^ W) : numAt (A ++ (leB W n ++ B)) i W = n := by
  unfold numAt
  rw [List.drop_append_of_le_length (by omega), List.drop_of_length_le (by omega), List.nil_append, List.take_append_of_le_length (by rw [leB_length]; omega), List.take_of_length_le (by rw [leB_length]; omega), ofLe_leB]
  exact Nat.mod_eq_of_lt hn
def layB (k n i g : Nat) (b R : List UInt8) : List UInt8 := leB 1 k ++ (leB 1 0 ++ (leB 2 n ++ (leB 4 i ++ (leB 8 g ++ (leB 4 0 ++ (b ++ R))))))
theorem layB_0 (k n i g : Nat) (b R : List UInt8) (h : k < 256) : numAt (layB k n i g b R) 0 1 = k := numAt_mid [] _ 1 k 0 rfl (by simpa using h)
theorem layB_2 (k n i g : Nat) (b R : List UInt8) (h : n < 65536) : numAt (layB k n i g b R) 2 2 = n := by
  unfold layB
  have : leB 1 k ++ (leB 1 0 ++ (leB 2 n ++ (leB 4 i ++ (leB 8 g ++ (leB 4 0 ++ (b ++ R)))))) = (leB 1 k ++ leB 1 0) ++ (leB 2 n ++ (leB 4 i ++ (leB 8 g ++ (leB 4 0 ++ (b ++ R))))) := by simp only [List.append_assoc]
  rw [this]
  exact numAt_mid _ _ 2 n 2 (by simp [leB_length]) (by simpa using h)
theorem layB_4 (k n i g : Nat) (b R : List UInt8) (h : i < 4294967296) : numAt (layB k n i g b R) 4 4 = i := by
  unfold layB
  have : leB 1 k ++ (leB 1 0 ++ (leB 2 n ++ (leB 4 i ++ (leB 8 g ++ (leB 4 0 ++ (b ++ R)))))) = (leB 1 k ++ leB 1 0 ++ leB 2 n) ++ (leB 4 i ++ (leB 8 g ++ (leB 4 0 ++ (b ++ R)))) := by simp only [List.append_assoc]
  rw [this]
  exact numAt_mid _ _ 4 i 4 (by simp [leB_length]) (by simpa using h)
theorem layB_8 (k n i g : Nat) (b R : List UInt8) (h : g < 256 ^ 8) : numAt (layB k n i g b R) 8 8 = g := by
  unfold layB
  have : leB 1 k ++ (leB 1 0 ++ (leB 2 n ++ (leB 4 i ++ (leB 8 g ++ (leB 4 0 ++ (b ++ R)))))) = (leB 1 k ++ leB 1 0 ++ leB 2 n ++ leB 4 i) ++ (leB 8 g ++ (leB 4 0 ++ (b ++ R))) := by simp only [List.append_assoc]
  rw [this]
  exact numAt_mid _ _ 8 g 8 (by simp [leB_length]) h
theorem layB_b (k n i g : Nat) (b R : List UInt8) : ((layB k n i g b R).drop 20).take b.length = b := by
  unfold layB
  have : leB 1 k ++ (leB 1 0 ++ (leB 2 n ++ (leB 4 i ++ (leB 8 g ++ (leB 4 0 ++ (b ++ R)))))) = (leB 1 k ++ leB 1 0 ++ leB 2 n ++ leB 4 i ++ leB 8 g ++ leB 4 0) ++ (b ++ R) := by simp only [List.append_assoc]
  rw [this, List.drop_append_of_le_length (by simp [leB_length]), List.drop_of_length_le (by simp [leB_length]), List.nil_append, List.take_append_of_le_length (Nat.le_refl _), List.take_of_length_le (Nat.le_refl _)]
theorem sealP_lay (p : PageA) (size : Nat) : ∃ R, sealP p size = layB p.kind.toNat p.body.length p.id.toNat p.gen p.body R := by
  refine ⟨List.replicate (size - 4 - (20 + p.body.length)) 0 ++ leB 4 (crcSum (rawP p size)), ?_⟩
  unfold sealP
  generalize leB 4 (crcSum (rawP p size)) = C
  unfold rawP layB
  simp only [List.append_assoc]
theorem sealP_read {p : PageA} {size : Nat} (hc : pgCheck p size = none) (hg : p.gen < 18446744073709551616) : readP (sealP p size) = p := by
  obtain ⟨h1, h2, h3, h4, h5, h6⟩ := pgCheck_none hc
  have hk := kindB_range h3
  have hlen := sealP_length p size (by omega)
  obtain ⟨R, hR⟩ := sealP_lay p size
  unfold readP
  rw [hlen, hR, layB_0 _ _ _ _ _ _ (by omega), layB_2 _ _ _ _ _ _ (by omega), layB_4 _ _ _ _ _ _ (by omega), layB_8 _ _ _ _ _ _ (by exact hg), layB_b, if_pos (by omega)]
  obtain ⟨pk, pi, pg, pb⟩ := p
  simp only [PageA.mk.injEq, and_true] at *
  exact ⟨by omega, by omega⟩
theorem seal_open {p : PageA} {size : Nat} (hc : pgCheck p size = none) (hg : p.gen < 18446744073709551616) : openB (sealP p size) = true := by
  have hlen := sealP_length p size (by have := pgCheck_none hc; omega)
  unfold openB
  rw [sealP_read hc hg, hlen, hc]; simp
theorem seal_openAt {p : PageA} {size : Nat} (hc : pgCheck p size = none) (hg : p.gen < 18446744073709551616) : openAtP (sealP p size) p.id = .inl p := by
  unfold openAtP
  rw [seal_open hc hg, sealP_read hc hg]; simp
theorem xor_div2 (a b : Nat) : (a ^^^ b) / 2 = (a / 2) ^^^ (b / 2) := by
  apply Nat.eq_of_testBit_eq; intro i
  simp [Nat.testBit_xor, Nat.testBit_div_two]
theorem xor_mod2 (a b : Nat) : (a ^^^ b) % 2 = (a + b) % 2 := by
  have h := Nat.testBit_xor a b 0
  simp only [Nat.testBit_zero] at h
  have h1 := Nat.mod_two_eq_zero_or_one a
  have h2 := Nat.mod_two_eq_zero_or_one b
  have h3 := Nat.mod_two_eq_zero_or_one (a ^^^ b)
  rcases h1 with h1 | h1 <;> rcases h2 with h2 | h2 <;> rcases h3 with h3 | h3 <;> rw [h1, h2, h3] at h <;> first | omega | (simp at h; done) | (exfalso; revert h; decide)
theorem crcStep_xor (a b : Nat) : crcStep (a ^^^ b) = crcStep a ^^^ crcStep b := by
  unfold crcStep
  rw [xor_mod2, xor_div2]
  have ha := Nat.mod_two_eq_zero_or_one a
  have hb := Nat.mod_two_eq_zero_or_one b
  rcases ha with ha | ha <;> rcases hb with hb | hb
  · rw [if_neg (by omega), if_neg (by omega), if_neg (by omega)]
  · rw [if_pos (by omega), if_neg (by omega), if_pos (by omega), Nat.xor_assoc]
  · rw [if_pos (by omega), if_pos (by omega), if_neg (by omega), Nat.xor_assoc, Nat.xor_assoc, Nat.xor_comm (b / 2)]
  · rw [if_neg (by omega), if_pos (by omega), if_pos (by omega)]
    rw [Nat.xor_assoc, ← Nat.xor_assoc 3988292384, Nat.xor_comm 3988292384, Nat.xor_assoc, Nat.xor_self, Nat.xor_zero]
theorem crcIter_xor : ∀ k a b, crcIter k (a ^^^ b) = crcIter k a ^^^ crcIter k b
  | 0, _, _ => rfl
  | k + 1, a, b => by rw [crcIter, crcStep_xor, crcIter_xor k]; rfl
theorem crcStep_two (v : Nat) : crcStep (2 * v) = v := by unfold crcStep; rw [if_neg (by omega)]; omega
theorem crcIter_pow : ∀ k v, crcIter k (2 ^ k * v) = v
  | 0, v => by simp [crcIter]
  | k + 1, v => by rw [crcIter, Nat.pow_succ, Nat.mul_comm (2 ^ k) 2, Nat.mul_assoc, crcStep_two, crcIter_pow k]
theorem crcStep_inj (a b : Nat) (ha : a < 4294967296) (hb : b < 4294967296) (h : crcStep a = crcStep b) : a = b := by
  unfold crcStep at h
  have ha2 : a / 2 < 2147483648 := by omega
  have hb2 : b / 2 < 2147483648 := by omega
  have big : ∀ x y, x < 2147483648 → y < 2147483648 → x ^^^ 3988292384 = y → False := by
    intro x y hx hy e
    have e2 : x ^^^ y = 3988292384 := by rw [← e, ← Nat.xor_assoc, Nat.xor_self, Nat.zero_xor]
    have := Nat.xor_lt_two_pow (n := 31) hx hy
    omega
  split at h <;> split at h
  · have : a / 2 = b / 2 := by
      have e := congrArg (· ^^^ 3988292384) h
      simpa [Nat.xor_assoc, Nat.xor_self] using e
    omega
  · exact (big _ _ ha2 hb2 h).elim
  · exact (big _ _ hb2 ha2 h.symm).elim
  · omega

/-! bits -/
def stepBit (r : Nat) (b : Bool) : Nat := crcStep (r ^^^ b.toNat)
def val : List Bool → Nat
  | [] => 0
  | b :: l => b.toNat + 2 * val l
theorem xor_bit (b : Bool) (v : Nat) : b.toNat + 2 * v = b.toNat ^^^ (2 * v) := by
  apply Nat.eq_of_testBit_eq; intro i
  cases i with
  | zero => cases b <;> simp [Nat.testBit_zero] <;> omega
  | succ i =>
    rw [Nat.testBit_xor]
    simp only [Nat.testBit_succ]
    cases b <;> simp <;> congr 1 <;> omega
theorem fold_val : ∀ (l : List Bool) (s : Nat), l.foldl stepBit s = crcIter l.length (s ^^^ val l)
  | [], s => by simp [crcIter, val]
  | b :: l, s => by
    rw [List.foldl_cons, fold_val l, List.length_cons, crcIter, val, xor_bit, ← Nat.xor_assoc, crcStep_xor, crcStep_two]; rfl
theorem val_lt : ∀ l : List Bool, val l < 2 ^ l.length
  | [] => by simp [val]
  | b :: l => by have := val_lt l; rw [val, List.length_cons, Nat.pow_succ]; cases b <;> simp <;> omega
theorem val_inj : ∀ (l m : List Bool), l.length = m.length → val l = val m → l = m
  | [], [], _, _ => rfl
  | [], _ :: _, h, _ => by simp at h
  | _ :: _, [], h, _ => by simp at h
  | b :: l, c :: m, h, hv => by
    simp only [val] at hv
    have hb : b = c := by cases b <;> cases c <;> simp at hv <;> first | rfl | omega
    subst hb
    rw [val_inj l m (by simpa using h) (by omega)]
theorem crcIter_inj : ∀ k a b, a < 4294967296 → b < 4294967296 → crcIter k a = crcIter k b → a = b
  | 0, _, _, _, _, h => h
  | k + 1, a, b, ha, hb, h => crcStep_inj a b ha hb (crcIter_inj k _ _ (crcStep_lt a ha) (crcStep_lt b hb) h)
theorem bit_lt (b : Bool) : b.toNat < 4294967296 := by cases b <;> decide
theorem stepBit_lt (s : Nat) (b : Bool) (h : s < 4294967296) : stepBit s b < 4294967296 := crcStep_lt _ (Nat.xor_lt_two_pow (n := 32) h (bit_lt b))
theorem fold_lt : ∀ (l : List Bool) (s : Nat), s < 4294967296 → l.foldl stepBit s < 4294967296
  | [], _, h => h
  | b :: l, s, h => fold_lt l _ (stepBit_lt s b h)
theorem xor_cancel (a b c : Nat) (h : a ^^^ b = a ^^^ c) : b = c := by
  have e := congrArg (a ^^^ ·) h
  simpa [← Nat.xor_assoc, Nat.xor_self] using e
theorem stepBit_inj (a b : Nat) (x : Bool) (ha : a < 4294967296) (hb : b < 4294967296) (h : stepBit a x = stepBit b x) : a = b := by
  have := crcStep_inj _ _ (Nat.xor_lt_two_pow (n := 32) ha (bit_lt x)) (Nat.xor_lt_two_pow (n := 32) hb (bit_lt x)) h
  rw [Nat.xor_comm a, Nat.xor_comm b] at this
  exact xor_cancel _ _ _ this
theorem fold_inj : ∀ (l : List Bool) (a b : Nat), a < 4294967296 → b < 4294967296 → l.foldl stepBit a = l.foldl stepBit b → a = b
  | [], _, _, _, _, h => h
  | x :: l, a, b, ha, hb, h => stepBit_inj a b x ha hb (fold_inj l _ _ (stepBit_lt a x ha) (stepBit_lt b x hb) h)
/-- two rows of bits that differ in a window of at most 32 alone, and give one sum, are one. -/
theorem burst (p x y q : List Bool) (s : Nat) (hs : s < 4294967296) (hl : x.length = y.length) (h32 : x.length ≤ 32) (h : (p ++ x ++ q).foldl stepBit s = (p ++ y ++ q).foldl stepBit s) : x = y := by
  simp only [List.foldl_append] at h
  have h0 := fold_lt p s hs
  have h1 := fold_inj q _ _ (fold_lt x _ h0) (fold_lt y _ h0) h
  generalize p.foldl stepBit s = s0 at h0 h1
  rw [fold_val, fold_val, hl] at h1
  have hp : (2 : Nat) ^ y.length ≤ 2 ^ 32 := Nat.pow_le_pow_right (by omega) (by omega)
  have hvx := val_lt x
  have hvy := val_lt y
  rw [hl] at hvx
  have h2 := crcIter_inj _ _ _ (Nat.xor_lt_two_pow (n := 32) h0 (by omega)) (Nat.xor_lt_two_pow (n := 32) h0 (by omega)) h1
  exact val_inj _ _ hl (xor_cancel _ _ _ h2)

def bits8 (n : Nat) : List Bool := [n.testBit 0, n.testBit 1, n.testBit 2, n.testBit 3, n.testBit 4, n.testBit 5, n.testBit 6, n.testBit 7]
def bitsOf (l : List UInt8) : List Bool := l.flatMap fun x => bits8 x.toNat
theorem val_bits8 : ∀ n, n < 256 → val (bits8 n) = n := by decide +kernel
theorem split256 (r x : Nat) : r ^^^ x = (256 * (r / 256)) ^^^ ((r % 256) ^^^ x) := by
  rw [← Nat.xor_assoc]; congr 1
  apply Nat.eq_of_testBit_eq; intro i
  rw [Nat.testBit_xor]
  have e1 : (256 * (r / 256)).testBit i = (decide (8 ≤ i) && (r / 256).testBit (i - 8)) := Nat.testBit_two_pow_mul (i := 8) (a := r / 256) (j := i)
  have e2 : (r % 256).testBit i = (decide (i < 8) && r.testBit i) := Nat.testBit_mod_two_pow r 8 i
  have e3 : (r / 256).testBit (i - 8) = r.testBit (8 + (i - 8)) := by
    have := Nat.testBit_shiftRight r (i := 8) (j := i - 8)
    rwa [Nat.shiftRight_eq_div_pow] at this
  rw [e1, e2, e3]
  by_cases hi : i < 8
  · have : ¬ 8 ≤ i := by omega
    simp [hi, this]
  · have h8 : 8 ≤ i := by omega
    simp [hi, h8]
theorem crcByte_fold (r : Nat) (x : UInt8) : crcByte r x.toNat = (bits8 x.toNat).foldl stepBit r := by
  have hx := val_bits8 _ x.toNat_lt
  have h1 : (bits8 x.toNat).foldl stepBit r = crcIter 8 (r ^^^ val (bits8 x.toNat)) := fold_val _ _
  rw [h1, hx, split256, crcIter_xor]
  have h2 : crcIter 8 (256 * (r / 256)) = r / 256 := crcIter_pow 8 (r / 256)
  rw [h2, crcByte, crcEntry]
theorem bitsOf_cons (x : UInt8) (l : List UInt8) : bitsOf (x :: l) = bits8 x.toNat ++ bitsOf l := rfl
theorem bitsOf_append (l m : List UInt8) : bitsOf (l ++ m) = bitsOf l ++ bitsOf m := by simp [bitsOf]
theorem crcMore_fold : ∀ (l : List UInt8) (r : Nat), crcMore r l = (bitsOf l).foldl stepBit r
  | [], _ => rfl
  | x :: l, r => by rw [crcMore, crcMore_fold l, crcByte_fold, bitsOf_cons, List.foldl_append]
theorem bitsOf_length (l : List UInt8) : (bitsOf l).length = 8 * l.length := by
  induction l with
  | nil => rfl
  | cons x l ih => rw [bitsOf, List.flatMap_cons, List.length_append, List.length_cons]; show 8 + (bitsOf l).length = _; rw [ih]; omega
theorem bits8_inj (x y : UInt8) (h : bits8 x.toNat = bits8 y.toNat) : x = y := by
  have := congrArg val h
  rw [val_bits8 _ x.toNat_lt, val_bits8 _ y.toNat_lt] at this
  exact UInt8.toNat_inj.1 this
theorem bitsOf_inj : ∀ (l m : List UInt8), bitsOf l = bitsOf m → l = m
  | [], [], _ => rfl
  | [], y :: m, h => by have := congrArg List.length h; rw [bitsOf_length, bitsOf_length] at this; simp at this
  | x :: l, [], h => by have := congrArg List.length h; rw [bitsOf_length, bitsOf_length] at this; simp at this
  | x :: l, y :: m, h => by
    rw [bitsOf, bitsOf, List.flatMap_cons, List.flatMap_cons] at h
    obtain ⟨h1, h2⟩ := List.append_inj h rfl
    rw [bits8_inj x y h1, bitsOf_inj l m h2]

/-- a block with its sum behind it. -/
theorem bits4 (n : Nat) (h : n < 4294967296) : val (bitsOf (leB 4 n)) = n := by
  have e : ∀ x : UInt8, val (bits8 x.toNat) = x.toNat := fun x => val_bits8 _ x.toNat_lt
  have ap : ∀ (a b : List Bool), val (a ++ b) = val a + 2 ^ a.length * val b := by
    intro a b
    induction a with
    | nil => simp [val]
    | cons x a ih => rw [List.cons_append, val, ih, val, List.length_cons, Nat.pow_succ]; rw [Nat.mul_add, ← Nat.mul_assoc, Nat.mul_comm 2 (2 ^ a.length)]; omega
  simp only [leB, bitsOf, List.flatMap_cons, List.flatMap_nil, ap, e]
  simp only [bits8, List.length_cons, List.length_nil, val, UInt8.toNat_ofNat']
  omega
theorem residue (raw : List UInt8) (h : crcMore 4294967295 raw < 4294967296) : (bitsOf (raw ++ leB 4 (crcSum raw))).foldl stepBit 4294967295 = crcIter 32 4294967295 := by
  rw [bitsOf_append, List.foldl_append, ← crcMore_fold raw]
  unfold crcSum
  generalize crcMore 4294967295 raw = r at *
  rw [fold_val, bits4 _ (Nat.xor_lt_two_pow (n := 32) (by decide) h)]
  rw [Nat.xor_comm 4294967295, ← Nat.xor_assoc, Nat.xor_self, Nat.zero_xor]
  rfl

/-! ### bytes by their bits -/
def bitAt (l : List UInt8) (p : Nat) : Bool := (l.getD (p / 8) 0).toNat.testBit (p % 8)
theorem bits8_get (n i : Nat) (h : i < 8) : (bits8 n)[i]? = some (n.testBit i) := by
  obtain rfl | rfl | rfl | rfl | rfl | rfl | rfl | rfl : i = 0 ∨ i = 1 ∨ i = 2 ∨ i = 3 ∨ i = 4 ∨ i = 5 ∨ i = 6 ∨ i = 7 := by omega
  all_goals rfl
theorem bitsOf_get : ∀ (l : List UInt8) (p : Nat), p < 8 * l.length → (bitsOf l)[p]? = some (bitAt l p)
  | [], p, h => by simp at h
  | x :: l, p, h => by
    rw [bitsOf_cons]
    by_cases hp : p < 8
    · rw [List.getElem?_append_left (by exact hp), bits8_get _ _ hp]
      unfold bitAt
      rw [show p / 8 = 0 by omega, show p % 8 = p by omega]; rfl
    · rw [List.getElem?_append_right (by show 8 ≤ p; omega)]
      show (bitsOf l)[p - 8]? = _
      rw [bitsOf_get l (p - 8) (by rw [List.length_cons] at h; omega)]
      unfold bitAt
      rw [show p / 8 = (p - 8) / 8 + 1 by omega, show p % 8 = (p - 8) % 8 by omega]; rfl
def turnB (l : List UInt8) (q b : Nat) : List UInt8 := l.set (q / 8) (UInt8.ofNat ((l.getD (q / 8) 0).toNat ^^^ (b * 2 ^ (q % 8))))
theorem pow_lt8 (b i : Nat) (hb : b < 2) (hi : i < 8) : b * 2 ^ i < 256 := by
  have h : (2 : Nat) ^ i ≤ 2 ^ 7 := Nat.pow_le_pow_right (by omega) (by omega)
  obtain rfl | rfl : b = 0 ∨ b = 1 := by omega
  · omega
  · omega
theorem turn_bit (l : List UInt8) (q b p : Nat) (hb : b < 2) (hq : q < 8 * l.length) : bitAt (turnB l q b) p = (bitAt l p ^^ (decide (p = q) && decide (b = 1))) := by
  unfold bitAt turnB
  by_cases hj : p / 8 = q / 8
  · have hl : q / 8 < l.length := by omega
    rw [hj]
    have e1 : (l.set (q / 8) (UInt8.ofNat ((l.getD (q / 8) 0).toNat ^^^ (b * 2 ^ (q % 8))))).getD (q / 8) 0 = UInt8.ofNat ((l.getD (q / 8) 0).toNat ^^^ (b * 2 ^ (q % 8))) := by
      simp [List.getD, hl]
    rw [e1, UInt8.toNat_ofNat', Nat.mod_eq_of_lt (Nat.xor_lt_two_pow (n := 8) (l.getD (q / 8) 0).toNat_lt (pow_lt8 b _ hb (by omega))), Nat.testBit_xor]
    congr 1
    obtain rfl | rfl : b = 0 ∨ b = 1 := by omega
    · simp
    · rw [Nat.one_mul, Nat.testBit_two_pow]
      simp
      omega
  · have e1 : (l.set (q / 8) (UInt8.ofNat ((l.getD (q / 8) 0).toNat ^^^ (b * 2 ^ (q % 8))))).getD (p / 8) 0 = l.getD (p / 8) 0 := by
      simp only [List.getD]
      rw [List.getElem?_set_ne (fun e => hj e.symm)]
    rw [e1]
    have : p ≠ q := fun e => hj (by rw [e])
    simp [this]
/-- a burst: k bits of the mask from its i-th on, from bit q on, as far as the bytes go. -/
def corruptFrom (mask bit : Nat) : Nat → Nat → List UInt8 → List UInt8
  | 0, _, l => l
  | n + 1, k, l => corruptFrom mask bit n (k + 1) (if bit + k < 8 * l.length then turnB l (bit + k) (mask / 2 ^ k % 2) else l)
def corruptB (l : List UInt8) (bit mask : Nat) : List UInt8 := corruptFrom mask bit 32 0 l
theorem turnB_length (l : List UInt8) (q b : Nat) : (turnB l q b).length = l.length := by simp [turnB]
theorem corruptFrom_length (mask bit : Nat) : ∀ n k l, (corruptFrom mask bit n k l).length = l.length
  | 0, _, _ => rfl
  | n + 1, k, l => by rw [corruptFrom, corruptFrom_length mask bit n]; split <;> simp [turnB_length]
theorem corruptFrom_bit (mask bit : Nat) : ∀ n k l p, p < 8 * l.length → bitAt (corruptFrom mask bit n k l) p = (bitAt l p ^^ (decide (bit + k ≤ p) && decide (p < bit + k + n) && decide (mask / 2 ^ (p - bit) % 2 = 1)))
  | 0, k, l, p, _ => by
    rw [corruptFrom]
    have : ¬ (bit + k ≤ p ∧ p < bit + k) := by omega
    by_cases h1 : bit + k ≤ p <;> by_cases h2 : p < bit + k <;> simp [h1, h2] <;> omega
  | n + 1, k, l, p, hp => by
    rw [corruptFrom]
    have h2 : mask / 2 ^ k % 2 < 2 := Nat.mod_lt _ (by omega)
    by_cases hq : bit + k < 8 * l.length
    · rw [if_pos hq, corruptFrom_bit mask bit n (k + 1) _ p (by rw [turnB_length]; exact hp), turn_bit l _ _ p h2 hq]
      by_cases e : p = bit + k
      · subst e
        rw [show bit + k - bit = k by omega]
        have h5 : ¬ k + 1 ≤ k := by omega
        simp [h5]
      · by_cases h3 : bit + k ≤ p
        · have h4 : bit + (k + 1) ≤ p := by omega
          have h5 : (p < bit + (k + 1) + n) = (p < bit + k + (n + 1)) := by rw [show bit + (k + 1) + n = bit + k + (n + 1) by omega]
          simp [e, h3, h4, h5]
        · have h4 : ¬ bit + (k + 1) ≤ p := by omega
          simp [e, h3, h4]
    · rw [if_neg hq, corruptFrom_bit mask bit n (k + 1) l p hp]
      have h3 : ¬ bit + k ≤ p := by omega
      have h4 : ¬ bit + (k + 1) ≤ p := by omega
      simp [h3, h4]
theorem corruptB_length (l : List UInt8) (bit mask : Nat) : (corruptB l bit mask).length = l.length := corruptFrom_length _ _ _ _ _
theorem corruptB_bit (l : List UInt8) (bit mask p : Nat) (hp : p < 8 * l.length) : bitAt (corruptB l bit mask) p = (bitAt l p ^^ (decide (bit ≤ p) && decide (p < bit + 32) && decide (mask / 2 ^ (p - bit) % 2 = 1))) := by
  unfold corruptB; rw [corruptFrom_bit _ _ _ _ _ _ hp]; rfl
theorem three_parts {α : Type} (l : List α) (a n : Nat) : l = l.take a ++ (l.drop a).take n ++ l.drop (a + n) := by
  rw [List.append_assoc, ← List.drop_drop, List.take_append_drop, List.take_append_drop]
/-- blocks with their sums that differ by a burst are one. -/
theorem corrupt_ne (l : List UInt8) (bit mask : Nat) (hb : bit < 8 * l.length) (hm : mask % 2 = 1) : corruptB l bit mask ≠ l := by
  intro e
  have h := corruptB_bit l bit mask bit hb
  rw [e] at h
  simp [hm] at h
theorem corrupt_sum (l l' raw raw' : List UInt8) (bit mask : Nat) (hl : l = raw ++ leB 4 (crcSum raw)) (hl' : l' = raw' ++ leB 4 (crcSum raw')) (he : l' = corruptB l bit mask) : l' = l := by
  have hlen : l'.length = l.length := by rw [he, corruptB_length]
  have r1 := residue raw (crcMore_lt raw _ (by decide))
  have r2 := residue raw' (crcMore_lt raw' _ (by decide))
  rw [← hl] at r1
  rw [← hl'] at r2
  have b1 := bitsOf_length l
  have b2 := bitsOf_length l'
  have hget : ∀ p, p < 8 * l.length → ¬ (bit ≤ p ∧ p < bit + 32) → (bitsOf l')[p]? = (bitsOf l)[p]? := fun p hp hn => by
    rw [bitsOf_get l p hp, bitsOf_get l' p (by omega), he, corruptB_bit l bit mask p hp]
    congr 1
    by_cases h1 : bit ≤ p <;> by_cases h2 : p < bit + 32 <;> simp [h1, h2] <;> omega
  have ht : (bitsOf l').take bit = (bitsOf l).take bit := by
    apply List.ext_getElem?; intro i
    rw [List.getElem?_take, List.getElem?_take]
    by_cases hi : i < bit
    · rw [if_pos hi, if_pos hi]
      by_cases h8 : i < 8 * l.length
      · exact hget i h8 (by omega)
      · rw [List.getElem?_eq_none (by omega), List.getElem?_eq_none (by omega)]
    · rw [if_neg hi, if_neg hi]
  have hd : (bitsOf l').drop (bit + 32) = (bitsOf l).drop (bit + 32) := by
    apply List.ext_getElem?; intro i
    rw [List.getElem?_drop, List.getElem?_drop]
    by_cases h8 : bit + 32 + i < 8 * l.length
    · exact hget _ h8 (by omega)
    · rw [List.getElem?_eq_none (by omega), List.getElem?_eq_none (by omega)]
  have p1 := three_parts (bitsOf l) bit 32
  have p2 := three_parts (bitsOf l') bit 32
  rw [ht, hd] at p2
  have := burst ((bitsOf l).take bit) (((bitsOf l').drop bit).take 32) (((bitsOf l).drop bit).take 32) ((bitsOf l).drop (bit + 32)) 4294967295 (by decide)
    (by simp [b1, b2, hlen]) (by simp; omega) (by rw [← p1, ← p2, r1, r2])
  rw [this, ← p1] at p2
  exact bitsOf_inj _ _ p2
/-- a sealed block that was changed by a burst does not open. -/
theorem corrupt_shut {p : PageA} {size : Nat} (bit mask : Nat) (hc : pgCheck p size = none) (hb : bit < 8 * size) (hm : mask % 2 = 1) : openB (corruptB (sealP p size) bit mask) = false := by
  have hlen := sealP_length p size (by have := pgCheck_none hc; omega)
  cases ho : openB (corruptB (sealP p size) bit mask) with
  | false => rfl
  | true =>
    unfold openB at ho
    simp only [Bool.and_eq_true, decide_eq_true_eq] at ho
    exact absurd (corrupt_sum (sealP p size) _ _ _ bit mask rfl ho.2.symm rfl) (corrupt_ne _ _ _ (by rw [hlen]; exact hb) hm)
end Go.Proofs.YtpjpldedebddgaaGreatDoor
