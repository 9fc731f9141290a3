/- Plain lemmas on worlds: which blocks a call may have turned (Mods), and what a slice reads as (Sl). Over any program. -/
import Derived.WalkKit
import Derived.WalkSpells
import Derived.WalkLawsBesides
import Derived.Handy
namespace Go.Proofs.YtcjlbpmhkoidhaaDoor
open Go.RowKit

theorem ret_int {k : IntKind} {a b : Int} (h : a = b) : Ending.returned (.int k a) = .returned (.int k b) := by rw [h]
theorem ret_bool {a b : Bool} (h : a = b) : Ending.returned (.bool a) = .returned (.bool b) := by rw [h]
theorem ret_str {a b : ByteArray} (h : a = b) : Ending.returned (.string a) = .returned (.string b) := by rw [h]
theorem val_int {k : IntKind} {a b : Int} (h : a = b) : Value.int k a = .int k b := by rw [h]
theorem val_bool {a b : Bool} (h : a = b) : Value.bool a = .bool b := by rw [h]
theorem val_str {a b : ByteArray} (h : a = b) : Value.string a = .string b := by rw [h]

theorem cell_lt {w : World} {b o : Nat} {v : Value} (h : w.cell? ⟨b, o, none⟩ = some v) : b < w.heap.size := World.block_lt_of_cell? w ⟨b, o, none⟩ h
theorem cell_alloc {w : World} {b o : Nat} {v : Value} (h : w.cell? ⟨b, o, none⟩ = some v) (x : Obj) : (w.alloc x).cell? ⟨b, o, none⟩ = some v :=
  (World.cell?_of_block (w := w) (Below.heap_alloc w x b (cell_lt h))).trans h
theorem cells_of_block {w : World} {b : Nat} {c : Array Value} {t : TypeId} {fz : Nat × Nat} (h : w.heap[b]? = some (.cells c t fz)) (o : Nat) : w.cell? ⟨b, o, none⟩ = c[o]? := by
  simp [World.cell?, h]

theorem heap_at {w : World} {o : Obj} {b : Nat} (h : b = w.heap.size) : (w.alloc o).heap[b]? = some o := by subst h; exact heap_alloc_new w o

/-- w' is w with new blocks, and with changes in blocks of F alone. -/
structure Mods (F : Nat → Prop) (w w' : World) : Prop where
  os : w'.os = w.os
  tape : w'.tape = w.tape
  output : w'.output = w.output
  size : w.heap.size ≤ w'.heap.size
  block : ∀ k, k < w.heap.size → ¬ F k → w'.heap[k]? = w.heap[k]?

/-- nothing old has changed. -/
abbrev Ext (w w' : World) : Prop := Mods (fun _ => False) w w'

section
variable {F G : Nat → Prop} {w w1 w2 w' : World}
theorem Mods.refl (F : Nat → Prop) (w : World) : Mods F w w := ⟨rfl, rfl, rfl, Nat.le_refl _, fun _ _ _ => rfl⟩
theorem Mods.trans (h : Mods F w w1) (k : Mods F w1 w2) : Mods F w w2 :=
  ⟨k.os.trans h.os, k.tape.trans h.tape, k.output.trans h.output, Nat.le_trans h.size k.size, fun i hi hn => (k.block i (Nat.lt_of_lt_of_le hi h.size) hn).trans (h.block i hi hn)⟩
/-- a second change may touch what is new besides. -/
theorem Mods.trans' (h : Mods F w w1) (k : Mods G w1 w2) (hG : ∀ i, i < w.heap.size → G i → F i) : Mods F w w2 :=
  ⟨k.os.trans h.os, k.tape.trans h.tape, k.output.trans h.output, Nat.le_trans h.size k.size, fun i hi hn => (k.block i (Nat.lt_of_lt_of_le hi h.size) (fun g => hn (hG i hi g))).trans (h.block i hi hn)⟩
theorem Mods.mono (h : Mods F w w') (hG : ∀ i, F i → G i) : Mods G w w' := ⟨h.os, h.tape, h.output, h.size, fun i hi hn => h.block i hi (fun f => hn (hG i f))⟩
theorem Mods.drew (h : Mods F w w1) : Mods F w w1.drew := ⟨h.os, h.tape, h.output, h.size, h.block⟩
theorem Mods.drewN (h : Mods F w w1) (n : Nat) : Mods F w (w1.drewN n) := ⟨h.os, h.tape, h.output, h.size, h.block⟩
theorem Mods.alloc (h : Mods F w w1) (o : Obj) : Mods F w (w1.alloc o) :=
  ⟨h.os, h.tape, h.output, Nat.le_trans h.size (by simp), fun i hi hn => (Below.heap_alloc _ _ _ (Nat.lt_of_lt_of_le hi h.size)).trans (h.block i hi hn)⟩
theorem Mods.setCell (h : Mods F w w1) {p : Addr} (hp : w.heap.size ≤ p.block ∨ F p.block) (u : Value) : Mods F w (w1.setCell p u) :=
  ⟨h.os, h.tape, h.output, Nat.le_trans h.size (by simp [World.setCell]), fun i hi hn => (Below.heap_setCell _ _ _ _ (by rintro rfl; rcases hp with hp | hp; omega; exact hn hp)).trans (h.block i hi hn)⟩
theorem Mods.grown {row : Option Nat} (h : Mods F w w1) (hg : w1.grownBy w2 row) (hr : ∀ k, row = some k → w.heap.size ≤ k ∨ F k) : Mods F w w2 :=
  ⟨hg.os.trans h.os, hg.tape.trans h.tape, hg.output.trans h.output, Nat.le_trans h.size hg.size,
    fun i hi hn => (hg.block i (Nat.lt_of_lt_of_le hi h.size) (fun e => by rcases hr i e.symm with h | h; omega; exact hn h)).trans (h.block i hi hn)⟩
theorem Mods.of_below (h : Below w.heap.size w w') : Mods F w w' := ⟨h.os, h.tape, h.output, h.size, fun i hi _ => h.block i hi⟩
theorem Mods.below (h : Ext w w') : Below w.heap.size w w' := ⟨h.os, h.tape, h.output, h.size, fun i hi => h.block i hi (fun f => f)⟩
theorem Mods.belowB {B : Nat} (h : Mods F w w') (hB : B ≤ w.heap.size) (hF : ∀ k, F k → B ≤ k) : Below B w w' := ⟨h.os, h.tape, h.output, h.size, fun i hi => h.block i (by omega) (fun f => by have := hF i f; omega)⟩
theorem Mods.ext (h : Ext w w') : Mods F w w' := h.mono (fun _ f => f.elim)
theorem Mods.cell (h : Mods F w w') {b o : Nat} (hb : b < w.heap.size) (hF : ¬ F b) : w'.cell? ⟨b, o, none⟩ = w.cell? ⟨b, o, none⟩ := World.cell?_of_block (w := w) (h.block b hb hF)
theorem Mods.frozen (h : Mods F w w') {b o : Nat} (hb : b < w.heap.size) (hF : ¬ F b) : w'.frozen? ⟨b, o, none⟩ = w.frozen? ⟨b, o, none⟩ := World.frozen?_of_block (w := w) (h.block b hb hF)
end

/-- what a slice reads as: its elements l, each laid by enc in sz cells, in a block that is not of F. -/
def Sl {α : Type} (F : Nat → Prop) (w : World) (sz : Nat) (enc : α → List Value) (v : Value) (l : List α) : Prop :=
  ∃ a cap, v = .slice a l.length cap ∧ l.length ≤ cap ∧ cap ≤ maxLen ∧ l.length ≤ 140737488355328 ∧
    (l = [] ∨ ∃ b off, a = some ⟨b, off, none⟩ ∧ b < w.heap.size ∧ ¬ F b ∧ ∀ i x, l[i]? = some x → ∀ j u, (enc x)[j]? = some u → w.cell? ⟨b, off + i * sz + j, none⟩ = some u)

section
variable {α : Type} {F G : Nat → Prop} {w w' : World} {sz : Nat} {enc : α → List Value} {v : Value} {l : List α}
theorem Sl.mods (h : Sl F w sz enc v l) (m : Mods F w w') : Sl F w' sz enc v l := by
  obtain ⟨a, cap, rfl, h1, h2, h3, h4⟩ := h
  refine ⟨a, cap, rfl, h1, h2, h3, ?_⟩
  rcases h4 with h4 | ⟨b, off, rfl, hb, hF, hc⟩
  · exact .inl h4
  · exact .inr ⟨b, off, rfl, Nat.lt_of_lt_of_le hb m.size, hF, fun i x hi j u hu => (m.cell hb hF).trans (hc i x hi j u hu)⟩
/-- .. and of another set of blocks behind. -/
theorem Sl.step (h : Sl F w sz enc v l) (m : Mods F w w') (hG : ∀ k, k < w.heap.size → ¬ F k → ¬ G k) : Sl G w' sz enc v l := by
  obtain ⟨a, cap, rfl, h1, h2, h3, h4⟩ := h
  refine ⟨a, cap, rfl, h1, h2, h3, ?_⟩
  rcases h4 with h4 | ⟨b, off, rfl, hb, hF, hc⟩
  · exact .inl h4
  · exact .inr ⟨b, off, rfl, Nat.lt_of_lt_of_le hb m.size, hG b hb hF, fun i x hi j u hu => (m.cell hb hF).trans (hc i x hi j u hu)⟩
theorem Sl.anti (h : Sl F w sz enc v l) (hG : ∀ k, k < w.heap.size → G k → F k) : Sl G w sz enc v l :=
  h.step (Mods.refl _ _) (fun k hk hF hg => hF (hG k hk hg))
/-- an element's cells, in a later world. -/
theorem Sl.at {a : Option Addr} (h : l = [] ∨ ∃ b off, a = some ⟨b, off, none⟩ ∧ b < w.heap.size ∧ ¬ F b ∧ ∀ i x, l[i]? = some x → ∀ j u, (enc x)[j]? = some u → w.cell? ⟨b, off + i * sz + j, none⟩ = some u)
    (m : Mods G w w') (hG : ∀ k, k < w.heap.size → G k → F k) (k : Nat) (hk : k < l.length) :
    ∃ b off, a = some ⟨b, off, none⟩ ∧ b < w.heap.size ∧ ¬ F b ∧ ∀ j u, (enc l[k])[j]? = some u → w'.cell? ⟨b, off + k * sz + j, none⟩ = some u := by
  rcases h with h | ⟨b, off, ha, hb, hF, hc⟩
  · rw [h] at hk; simp at hk
  · exact ⟨b, off, ha, hb, hF, fun j u hu => (m.cell hb (fun g => hF (hG b hb g))).trans (hc k l[k] (by simp [hk]) j u hu)⟩
theorem Sl.atE {a : Option Addr} (h : l = [] ∨ ∃ b off, a = some ⟨b, off, none⟩ ∧ b < w.heap.size ∧ ¬ F b ∧ ∀ i x, l[i]? = some x → ∀ j u, (enc x)[j]? = some u → w.cell? ⟨b, off + i * sz + j, none⟩ = some u)
    (m : Ext w w') (k : Nat) (hk : k < l.length) :
    ∃ b off, a = some ⟨b, off, none⟩ ∧ b < w.heap.size ∧ ¬ F b ∧ ∀ j u, (enc l[k])[j]? = some u → w'.cell? ⟨b, off + k * sz + j, none⟩ = some u :=
  Sl.at h m (fun _ _ f => f.elim) k hk
/-- a slice literal of one element. -/
theorem Sl.one {x : α} {b : Nat} {t : TypeId} {fz : Nat × Nat} (h : w.heap[b]? = some (.cells (enc x).toArray t fz)) (hF : ¬ F b) : Sl F w sz enc (.slice (some ⟨b, 0, none⟩) 1 1) [x] := by
  refine ⟨_, 1, rfl, Nat.le_refl _, by simp [maxLen], by simp, .inr ⟨b, 0, rfl, (Array.getElem?_eq_some_iff.1 h).1, hF, fun i y hi j u hu => ?_⟩⟩
  match i, hi with
  | 0, hi =>
    simp at hi; subst hi
    rw [cells_of_block h]
    simpa using hu
theorem Sl.nil (F : Nat → Prop) (w : World) (sz : Nat) (enc : α → List Value) : Sl F w sz enc (.slice none 0 0) [] := ⟨none, 0, rfl, Nat.le_refl _, by simp [maxLen], by simp, .inl rfl⟩
end
end Go.Proofs.YtcjlbpmhkoidhaaDoor
