/- The data of the program as plain Lean: entries, nodes, pairs; keys; strings' order. No program in sight. -/
import Derived.Test.YtcjlbpmhkoidhaaDoorBase
namespace Go.Proofs.YtcjlbpmhkoidhaaDoor
open Go.RowKit

structure EntryA where
  key : ByteArray
  value : ByteArray
  chain : Int
  size : Int

structure NodeA where
  leaf : Bool
  entries : List EntryA
  keys : List ByteArray
  kids : List Int

def encE (e : EntryA) : List Value := [.string e.key, .string e.value, .int .i64 e.chain, .int .i64 e.size]
def encP (p : ByteArray × ByteArray) : List Value := [.string p.1, .string p.2]
def encS (s : ByteArray) : List Value := [.string s]
def encI (n : Int) : List Value := [.int .i64 n]
def encB (b : UInt8) : List Value := [.int .u8 (b.toNat : Int)]
def encV (v : Value) : List Value := [v]

/-- is a text a key? -/
def keyB (s : ByteArray) : Bool := decide (1 ≤ (s.size : Int)) && decide ((s.size : Int) ≤ 32)
theorem keyB_iff (s : ByteArray) : keyB s = true ↔ 1 ≤ s.size ∧ s.size ≤ 32 := by simp [keyB]; omega
def leS (a b : ByteArray) : Bool := Op.bytesLess a.toList b.toList || a.toList == b.toList
def ltS (a b : ByteArray) : Bool := Op.bytesLess a.toList b.toList

/-- how many bytes a node has. -/
def weightE (e : EntryA) : Int := 2 + e.key.size + (if e.chain = 0 then 1 + (e.value.size : Int) else 8)
def sumE : List EntryA → Int
  | [] => 0
  | e :: r => weightE e + sumE r
def sumK : List ByteArray → Int
  | [] => 0
  | k :: r => (5 + (k.size : Int)) + sumK r
def weightN (n : NodeA) : Int := 2 + (if n.leaf then 0 else 4) + sumE n.entries + sumK n.keys
theorem weightE_nonneg (e : EntryA) : 2 ≤ weightE e := by unfold weightE; split <;> omega
theorem sumE_nonneg (l : List EntryA) : 0 ≤ sumE l := by
  induction l with
  | nil => simp [sumE]
  | cons e r ih => have := weightE_nonneg e; simp only [sumE]; omega
theorem sumK_nonneg (l : List ByteArray) : 0 ≤ sumK l := by
  induction l with
  | nil => simp [sumK]
  | cons e r ih => simp only [sumK]; omega
theorem sumE_append (l r : List EntryA) : sumE (l ++ r) = sumE l + sumE r := by
  induction l with
  | nil => simp [sumE]
  | cons e l ih => simp only [List.cons_append, sumE, ih]; omega
theorem sumK_append (l r : List ByteArray) : sumK (l ++ r) = sumK l + sumK r := by
  induction l with
  | nil => simp [sumK]
  | cons e l ih => simp only [List.cons_append, sumK, ih]; omega
/-- a sum over a list, up to a place, and one on. -/
theorem take_one {α : Type} (l : List α) (k : Nat) (x : α) (h : l[k]? = some x) : l.take (k + 1) = l.take k ++ [x] := by
  rw [List.take_add_one, h]; rfl
theorem sumE_take_le (l : List EntryA) (k : Nat) : sumE (l.take k) ≤ sumE l := by
  have := sumE_append (l.take k) (l.drop k); rw [List.take_append_drop] at this
  have := sumE_nonneg (l.drop k); omega
theorem sumK_take_le (l : List ByteArray) (k : Nat) : sumK (l.take k) ≤ sumK l := by
  have := sumK_append (l.take k) (l.drop k); rw [List.take_append_drop] at this
  have := sumK_nonneg (l.drop k); omega
end Go.Proofs.YtcjlbpmhkoidhaaDoor
