/- What layer 19 reckons, as plain Lean. -/
import Derived.Test.YtcjlbpmhkoidhaaDoorDefs
namespace Go.Proofs.YtcjlbpmhkoidhaaDoor
open Go.RowKit

abbrev PairB := ByteArray × ByteArray

def sumBy {α : Type} (g : α → Int) : List α → Int
  | [] => 0
  | x :: r => g x + sumBy g r
theorem sumBy_append {α : Type} (g : α → Int) (l r : List α) : sumBy g (l ++ r) = sumBy g l + sumBy g r := by
  induction l with
  | nil => simp [sumBy]
  | cons x l ih => simp only [List.cons_append, sumBy, ih]; omega
theorem sumBy_take {α : Type} (g : α → Int) (l : List α) (k : Nat) (x : α) (h : l[k]? = some x) : sumBy g (l.take (k + 1)) = sumBy g (l.take k) + g x := by
  rw [take_one l k x h, sumBy_append]; simp [sumBy]
theorem sumBy_le {α : Type} (g : α → Int) (M : Int) (l : List α) (hg : ∀ x ∈ l, 0 ≤ g x ∧ g x ≤ M) : 0 ≤ sumBy g l ∧ sumBy g l ≤ M * l.length := by
  induction l with
  | nil => simp [sumBy]
  | cons x l ih =>
    have h1 := hg x (by simp)
    have h2 := ih (fun y hy => hg y (by simp [hy]))
    simp only [sumBy, List.length_cons]
    have : M * ((l.length + 1 : Nat) : Int) = M * l.length + M := by rw [Int.natCast_add, Int.mul_add]; simp
    omega
theorem sumBy_congr {α : Type} (f g : α → Int) (l : List α) (h : ∀ x ∈ l, f x = g x) : sumBy f l = sumBy g l := by
  induction l with
  | nil => rfl
  | cons x l ih => simp only [sumBy, h x (by simp), ih (fun y hy => h y (by simp [hy]))]
theorem mem_take {α : Type} {l : List α} {k : Nat} {x : α} (h : x ∈ l.take k) : x ∈ l := List.mem_of_mem_take h

/-- how many pages bytes take. -/
def needN (n size : Int) : Int := if n < 1 ∨ size < 256 ∨ 1024 < size then 0 else (n - 1) / (size - 28) + 1
theorem needN_le (n size : Int) (h : n ≤ 4096) : 0 ≤ needN n size ∧ needN n size ≤ 4096 := by
  unfold needN
  split
  · omega
  · rename_i hc
    have h1 : 0 ≤ (n - 1) / (size - 28) := Int.ediv_nonneg (by omega) (by omega)
    have h2 : (n - 1) / (size - 28) ≤ n - 1 := Int.ediv_le_self _ (by omega)
    omega
def chainP (size : Int) (p : PairB) : Int := if (p.2.size : Int) ≤ 24 then 0 else needN p.2.size size
def weighP (p : PairB) : Int := 2 + p.1.size + (if (p.2.size : Int) ≤ 24 then 1 + (p.2.size : Int) else 8)
/-- do keys rise, and may all be? behind a last key. -/
def rightFrom (last : ByteArray) : List PairB → Bool
  | [] => true
  | p :: r => keyB p.1 && !leS p.1 last && decide (p.2.size ≤ 4096) && rightFrom p.1 r
def rightP (l : List PairB) : Bool := rightFrom ⟨#[]⟩ l
theorem rightFrom_mem (l : List PairB) : ∀ last, rightFrom last l = true → ∀ p ∈ l, p.1.size ≤ 32 ∧ p.2.size ≤ 4096 := by
  induction l with
  | nil => intro _ _ p hp; simp at hp
  | cons q r ih =>
    intro last h p hp
    simp only [rightFrom, Bool.and_eq_true, decide_eq_true_eq] at h
    rcases List.mem_cons.1 hp with rfl | hp
    · exact ⟨((keyB_iff _).1 h.1.1.1).2, h.1.2⟩
    · exact ih _ h.2 p hp
def mostN (l : List PairB) (size : Int) : Int := if l = [] then 0 else 2 * l.length - 1 + sumBy (chainP size) l
def leastN (l : List PairB) (size : Int) : Int := (sumBy weighP l + (size - 26) - 1) / (size - 26) + sumBy (chainP size) l
/-- why pairs can't be reckoned with. -/
def codeN (size : Int) (ls : List (List PairB)) : Nat := if size < 256 ∨ 1024 < size then 2 else if ls.all rightP then 0 else 1
theorem rightFrom_drop (last : ByteArray) (l : List PairB) (i : Nat) (h : i < l.length) :
    rightFrom last (l.drop i) = (keyB l[i].1 && !leS l[i].1 last && decide (l[i].2.size ≤ 4096) && rightFrom l[i].1 (l.drop (i + 1))) := by
  rw [List.drop_eq_getElem_cons h]; rfl
end Go.Proofs.YtcjlbpmhkoidhaaDoor
