/- insert.Cut, as plain Lean: a node's two halves, and where it is cut. | space.Mark. -/
import Derived.Test.YtpjpldedebddgaaGreatDoorK08
import Derived.Test.YtpjpldedebddgaaGreatDoorK07
namespace Go.Proofs.YtpjpldedebddgaaGreatDoor
open Go.RowKit
/-- a node, cut ahead of a place. -/
def apartA (n : NodeA) (a : Nat) : NodeA × ByteArray × NodeA :=
  if n.leaf = true then (⟨true, n.entries.take a, [], []⟩, (match n.entries[a]? with | some e => e.key | none => ⟨#[]⟩), ⟨true, n.entries.drop a, [], []⟩)
  else (⟨false, [], n.keys.take (a - 1), n.kids.take a⟩, n.keys.getD (a - 1) ⟨#[]⟩, ⟨false, [], n.keys.drop a, n.kids.drop a⟩)
def weightA (n : NodeA) : Nat := (bytesN n).length
/-- how unlike the halves weigh. -/
def unlikeA (n : NodeA) (a : Nat) : Nat := ((weightA (apartA n a).1 : Int) - (weightA (apartA n a).2.2 : Int)).natAbs
/-- the first place of the least. -/
def firstMin (d : Nat → Nat) : Nat → Nat → Nat → Nat
  | b, _, 0 => b
  | b, a, m + 1 => firstMin d (if d a < d b then a else b) (a + 1) m
def cutFrom (n : NodeA) : Nat := if n.leaf = true then 1 else 2
def cutMany (n : NodeA) : Nat := if n.leaf = true then n.entries.length - 1 else n.kids.length - 3
/-- a node, cut where both halves weigh most alike. -/
def cutA (n : NodeA) : Option (NodeA × ByteArray × NodeA) :=
  if rightN n = true ∧ 0 < cutMany n then some (apartA n (firstMin (unlikeA n) (cutFrom n) (cutFrom n) (cutMany n))) else none
theorem firstMin_same (d : Nat → Nat) (b m : Nat) : firstMin d b b (m + 1) = firstMin d b (b + 1) m := by
  rw [firstMin, if_neg (Nat.lt_irrefl _)]
theorem firstMin_in (d : Nat → Nat) : ∀ (m b a lo hi : Nat), lo ≤ b → b < hi → lo ≤ a → a + m ≤ hi → lo ≤ firstMin d b a m ∧ firstMin d b a m < hi
  | 0, _, _, _, _, h1, h2, _, _ => ⟨h1, h2⟩
  | m + 1, b, a, lo, hi, h1, h2, h3, h4 => by
    rw [firstMin]
    split
    · exact firstMin_in d m a (a + 1) lo hi h3 (by omega) (by omega) (by omega)
    · exact firstMin_in d m b (a + 1) lo hi h1 h2 (by omega) (by omega)
/-- the place of a cut lies within the node. -/
theorem cut_place (n : NodeA) (h : 0 < cutMany n) : cutFrom n ≤ firstMin (unlikeA n) (cutFrom n) (cutFrom n) (cutMany n) ∧ firstMin (unlikeA n) (cutFrom n) (cutFrom n) (cutMany n) < cutFrom n + cutMany n :=
  firstMin_in _ _ _ _ _ _ (Nat.le_refl _) (by omega) (Nat.le_refl _) (Nat.le_refl _)
end Go.Proofs.YtpjpldedebddgaaGreatDoor
namespace Go.Proofs.YtpjpldedebddgaaGreatDoor
open Go.RowKit
def spMark (l : List Nat) (id : Int) : List Nat × Option Err :=
  match spCheck l id with
  | some e => (l, some e)
  | none => if l[id.toNat]? = some 0 then (l.set id.toNat 1, none) else (l, some ([pgOf id], 1))

end Go.Proofs.YtpjpldedebddgaaGreatDoor
