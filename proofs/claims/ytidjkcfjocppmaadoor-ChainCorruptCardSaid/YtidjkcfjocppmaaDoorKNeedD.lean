/- What layer 19 reckons, as plain Lean. | chain.piece, chain.Need, and the reference's Need. -/
import Derived.Test.YtidjkcfjocppmaaDoorKBase1
import Derived.Test.YtidjkcfjocppmaaDoorKFault
import Derived.Deep.LoopGhost
import Derived.Lib.Hide
namespace Go.Proofs.YtidjkcfjocppmaaDoor
open Go.RowKit

abbrev PairB := ByteArray × ByteArray

def sumBy {α : Type} (g : α → Int) : List α → Int
  | [] => 0
  | x :: r => g x + sumBy g r
theorem sumBy_append {α : Type} (g : α → Int) (l r : List α) : sumBy g (l ++ r) = sumBy g l + sumBy g r := by
  induction l with
  | nil => simp [sumBy]
  | cons x l ih => simp only [List.cons_append, sumBy, ih]; omega
theorem sumBy_take {α : Type} (g : α → Int) (l : List α) (k : Nat) (x : α) (h : l[k]? = some x) : sumBy g (l.take (k + 1)) = sumBy g (l.take k) + g x := by
  rw [take_one l k x h, sumBy_append]; simp [sumBy]
theorem sumBy_le {α : Type} (g : α → Int) (M : Int) (l : List α) (hg : ∀ x ∈ l, 0 ≤ g x ∧ g x ≤ M) : 0 ≤ sumBy g l ∧ sumBy g l ≤ M * l.length := by
  induction l with
  | nil => simp [sumBy]
  | cons x l ih =>
    have h1 := hg x (by simp)
    have h2 := ih (fun y hy => hg y (by simp [hy]))
    simp only [sumBy, List.length_cons]
    have : M * ((l.length + 1 : Nat) : Int) = M * l.length + M := by rw [Int.natCast_add, Int.mul_add]; simp
    omega
theorem sumBy_congr {α : Type} (f g : α → Int) (l : List α) (h : ∀ x ∈ l, f x = g x) : sumBy f l = sumBy g l := by
  induction l with
  | nil => rfl
  | cons x l ih => simp only [sumBy, h x (by simp), ih (fun y hy => h y (by simp [hy]))]
theorem mem_take {α : Type} {l : List α} {k : Nat} {x : α} (h : x ∈ l.take k) : x ∈ l := List.mem_of_mem_take h

/-- how many pages bytes take. -/
def needN (n size : Int) : Int := if n < 1 ∨ size < 256 ∨ 1024 < size then 0 else (n - 1) / (size - 28) + 1
theorem needN_le (n size : Int) (h : n ≤ 4096) : 0 ≤ needN n size ∧ needN n size ≤ 4096 := by
  unfold needN
  split
  · omega
  · rename_i hc
    have h1 : 0 ≤ (n - 1) / (size - 28) := Int.ediv_nonneg (by omega) (by omega)
    have h2 : (n - 1) / (size - 28) ≤ n - 1 := Int.ediv_le_self _ (by omega)
    omega
def chainP (size : Int) (p : PairB) : Int := if (p.2.size : Int) ≤ 24 then 0 else needN p.2.size size
def weighP (p : PairB) : Int := 2 + p.1.size + (if (p.2.size : Int) ≤ 24 then 1 + (p.2.size : Int) else 8)
/-- do keys rise, and may all be? behind a last key. -/
def rightFrom (last : ByteArray) : List PairB → Bool
  | [] => true
  | p :: r => keyB p.1 && !leS p.1 last && decide (p.2.size ≤ 4096) && rightFrom p.1 r
def rightP (l : List PairB) : Bool := rightFrom ⟨#[]⟩ l
theorem rightFrom_mem (l : List PairB) : ∀ last, rightFrom last l = true → ∀ p ∈ l, p.1.size ≤ 32 ∧ p.2.size ≤ 4096 := by
  induction l with
  | nil => intro _ _ p hp; simp at hp
  | cons q r ih =>
    intro last h p hp
    simp only [rightFrom, Bool.and_eq_true, decide_eq_true_eq] at h
    rcases List.mem_cons.1 hp with rfl | hp
    · exact ⟨((keyB_iff _).1 h.1.1.1).2, h.1.2⟩
    · exact ih _ h.2 p hp
def mostN (l : List PairB) (size : Int) : Int := if l = [] then 0 else 2 * l.length - 1 + sumBy (chainP size) l
def leastN (l : List PairB) (size : Int) : Int := (sumBy weighP l + (size - 26) - 1) / (size - 26) + sumBy (chainP size) l
/-- why pairs can't be reckoned with. -/
def codeN (size : Int) (ls : List (List PairB)) : Nat := if size < 256 ∨ 1024 < size then 2 else if ls.all rightP then 0 else 1
theorem rightFrom_drop (last : ByteArray) (l : List PairB) (i : Nat) (h : i < l.length) :
    rightFrom last (l.drop i) = (keyB l[i].1 && !leS l[i].1 last && decide (l[i].2.size ≤ 4096) && rightFrom l[i].1 (l.drop (i + 1))) := by
  rw [List.drop_eq_getElem_cons h]; rfl
end Go.Proofs.YtidjkcfjocppmaaDoor
namespace Go.Proofs.YtidjkcfjocppmaaDoor
open Go.RowKit

theorem piece_any (n : Int) (w : World) (h0 : 0 ≤ n) (h1 : n ≤ 9223372036854775807) : Calls Tryd.prog 33 #[.int .i64 n] w fun e w' => e = .returned (.int .i64 (n - 28)) ∧ w = w' := by
  have e : n - 24 - 4 = n - 28 := by omega
  have E := Lib.hid e
  clear e
  go_enter Tryd.func33, Tryd.ntmps33
  go_wp2
  go_ret
  exact ⟨by rw [← E.out]; rfl, rfl⟩

theorem need_any (n size : Int) (w : World) (h0 : -9223372036854775808 ≤ n) (h1 : n ≤ 9223372036854775807) : Calls Tryd.prog 10 #[.int .i64 n, .int .i64 size] w fun e w' => e = .returned (.int .i64 (needN n size)) ∧ w = w' := by
  by_cases hc : n < 1 ∨ size < 256 ∨ 1024 < size
  · have hr : needN n size = 0 := by unfold needN; rw [if_pos hc]
    have HR := Lib.hid hr
    clear hr
    rcases hc with hc | hc | hc
    · go_enter Tryd.func10, Tryd.ntmps10
      go_wp2
      go_ret
      exact ⟨by rw [HR.out]; rfl, rfl⟩
    · by_cases hn : n < 1
      all_goals
        go_enter Tryd.func10, Tryd.ntmps10
        go_wp2
        go_ret
        exact ⟨by rw [HR.out]; rfl, rfl⟩
    · by_cases hn : n < 1
      all_goals
        by_cases hs : size < 256
        all_goals
          go_enter Tryd.func10, Tryd.ntmps10
          go_wp2
          go_ret
          exact ⟨by rw [HR.out]; rfl, rfl⟩
  · have hr : needN n size = (n - 1) / (size - 28) + 1 := by unfold needN; rw [if_neg hc]
    have HR := Lib.hid hr
    clear hr
    have h2 : 0 ≤ (n - 1) / (size - 28) := Int.ediv_nonneg (by omega) (by omega)
    have h3 : (n - 1) / (size - 28) ≤ n - 1 := Int.ediv_le_self _ (by omega)
    have h4 : 1 ≤ n ∧ 256 ≤ size ∧ size ≤ 1024 := by omega
    obtain ⟨h4, h5, h6⟩ := h4
    clear hc
    go_enter Tryd.func10, Tryd.ntmps10
    go_wp2_with (go_at_call 33; refine (piece_any _ _ (by omega) (by omega)).mono ?_; rintro e w' ⟨rfl, rfl⟩)
    go_ret
    exact ⟨by rw [HR.out]; rfl, rfl⟩

theorem need_step (n s : Int) (h : 1 ≤ n) (hs : 228 ≤ s) : (if n - min n s < 1 then 0 else (n - min n s - 1) / s + 1) + 1 = (n - 1) / s + 1 := by
  by_cases hn : n ≤ s
  · rw [show min n s = n by omega, if_pos (by omega), Int.ediv_eq_zero_of_lt (by omega) (by omega)]
  · rw [show min n s = s by omega, if_neg (by omega), show n - 1 = (n - s - 1) + 1 * s by omega, Int.add_mul_ediv_right _ _ (by omega)]

/-- the reference's loop, from what is left. -/
def leftN (n s : Int) : Int := if n < 1 then 0 else (n - 1) / s + 1
theorem leftN_nonneg (n s : Int) (h : 1 ≤ n) (hs : 228 ≤ s) : 1 ≤ leftN n s := by
  unfold leftN; rw [if_neg (by omega)]
  have : 0 ≤ (n - 1) / s := Int.ediv_nonneg (by omega) (by omega)
  omega

set_option maxHeartbeats 400000 in
set_option maxRecDepth 100000 in
theorem need10_any (n size : Int) (w : World) (h0 : -9223372036854775808 ≤ n) (h1 : n ≤ 1000000) :
    Calls Tryd.prog 11 #[.int .i64 n, .int .i64 size] w fun e w' => e = .returned (.int .i64 (needN n size)) ∧ w = w' := by
  by_cases hs : size < 256
  · have HR : Hid (needN n size = 0) := Lib.hid (by unfold needN; rw [if_pos (by omega)])
    go_enter Tryd.func11, Tryd.ntmps11
    go_wp2
    go_ret
    exact ⟨ret_int HR.out.symm, rfl⟩
  · by_cases hs2 : 1024 < size
    · have HR : Hid (needN n size = 0) := Lib.hid (by unfold needN; rw [if_pos (by omega)])
      go_enter Tryd.func11, Tryd.ntmps11
      go_wp2
      go_ret
      exact ⟨ret_int HR.out.symm, rfl⟩
    · have HR : Hid (needN n size = leftN n (size - 28)) := Lib.hid (by unfold needN leftN; by_cases hn : n < 1 <;> simp [hn] <;> omega)
      have hmax : leftN n (size - 28) ≤ 4386 := by
        unfold leftN
        split
        · omega
        · have h1 : (n - 1) / (size - 28) * (size - 28) ≤ n - 1 := Int.ediv_mul_le _ (by omega)
          have h2 : 0 ≤ (n - 1) / (size - 28) := Int.ediv_nonneg (by omega) (by omega)
          have h3 : (n - 1) / (size - 28) * 228 ≤ (n - 1) / (size - 28) * (size - 28) := Int.mul_le_mul_of_nonneg_left (by omega) h2
          omega
      have hnn : 0 ≤ leftN n (size - 28) := by
        by_cases hn : 1 ≤ n
        · have := leftN_nonneg n (size - 28) hn (by omega); omega
        · unfold leftN; rw [if_pos (by omega)]; omega
      go_enter Tryd.func11, Tryd.ntmps11
      go_wp2
      go_loopg [5, 6] (leftN n (size - 28)).toNat (fun m p i wr => ∃ k : Nat, ∃ z : Int, wr = w ∧ p = .int .i64 k ∧ i = .int .i64 z ∧ z ≤ n ∧ -9223372036854775808 ≤ z ∧ (k : Int) + leftN z (size - 28) = leftN n (size - 28) ∧ m = (leftN z (size - 28)).toNat)
      case atStart => exact ⟨0, n, rfl, rfl, rfl, by omega, by omega, by simp, rfl⟩
      case round =>
        obtain ⟨k, z, rfl, rfl, rfl, hz, hz0, hkz, hm⟩ := hrel
        by_cases hz1 : 0 < z
        · have hl1 := leftN_nonneg z (size - 28) (by omega) (by omega)
          have hstep : leftN (z - min z (size - 28)) (size - 28) + 1 = leftN z (size - 28) := by
            have := need_step z (size - 28) (by omega) (by omega)
            unfold leftN; rw [if_neg (show ¬ z < 1 by omega)]; exact this
          have hk5 : (k : Int) < 5000 := by omega
          by_cases hmz : z ≤ size - 28
          · rw [show min z (size - 28) = z by omega] at hstep
            have HKZ := Lib.hid hkz
            have HST := Lib.hid hstep
            have HM := Lib.hid hm
            clear hkz hstep hm hl1 hnn hmax
            go_wp2
            have hl1 := leftN_nonneg z (size - 28) (by omega) (by omega)
            have H2 := HST.out
            have H3 := HM.out
            have H4 := HKZ.out
            first
              | (go_roundg (leftN (z - z) (size - 28)).toNat
                 case measure => omega
                 case rel => exact ⟨k + 1, z - z, rfl, by go_num, by first | rfl | exact val_int (by omega), by omega, by omega, by omega, rfl⟩)
          · rw [show min z (size - 28) = size - 28 by omega] at hstep
            have HKZ := Lib.hid hkz
            have HST := Lib.hid hstep
            have HM := Lib.hid hm
            have hmz2 : size - 28 < z := by omega
            clear hkz hstep hm hl1 hnn hmax hmz
            go_wp2
            have hl1 := leftN_nonneg z (size - 28) (by omega) (by omega)
            have H2 := HST.out
            have H3 := HM.out
            have H4 := HKZ.out
            go_roundg (leftN (z - (size - 28)) (size - 28)).toNat
            case measure => omega
            case rel => exact ⟨k + 1, z - (size - 28), rfl, by go_num, rfl, by omega, by omega, by omega, rfl⟩
        · have hl0 : leftN z (size - 28) = 0 := by unfold leftN; rw [if_pos (by omega)]
          have HKN : Hid ((k : Int) = needN n size) := Lib.hid (by rw [HR.out]; omega)
          clear hkz hl0 hm hnn hmax
          go_wp2
          go_ret
          exact ⟨ret_int HKN.out, rfl⟩

theorem need10_small (n size : Int) (w : World) (h0 : 0 ≤ n) (h1 : n ≤ 4096) :
    Calls Tryd.prog 11 #[.int .i64 n, .int .i64 size] w fun e w' => e = .returned (.int .i64 (needN n size)) ∧ w = w' := need10_any n size w (by omega) (by omega)

end Go.Proofs.YtidjkcfjocppmaaDoor
