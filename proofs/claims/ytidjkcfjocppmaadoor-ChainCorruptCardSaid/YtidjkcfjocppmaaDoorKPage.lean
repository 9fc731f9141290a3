/- page.sized, kind, Check, Seal. -/
import Derived.Test.YtidjkcfjocppmaaDoorKField
import Derived.Test.YtidjkcfjocppmaaDoorKCrc
import Derived.Test.YtidjkcfjocppmaaDoorKRows1
import Derived.Test.YtidjkcfjocppmaaDoorKPlain1
namespace Go.Proofs.YtidjkcfjocppmaaDoor
open Go.RowKit

def pageV (p : PageA) (bv : Value) : Value := .agg #[.int .i64 p.kind, .int .i64 p.id, .int .u64 (p.gen : Int), bv]

theorem sized_any (s : Int) (w : World) : Calls Tryd.prog 91 #[.int .i64 s] w fun e w' => e = .returned (.bool (sizedB s)) ∧ w = w' := by
  by_cases h1 : 256 ≤ s
  · by_cases h2 : s ≤ 1024
    · have H : Hid (sizedB s = true) := Lib.hid (by simp [sizedB, h1, h2])
      go_enter Tryd.func91, Tryd.ntmps91
      go_wp2
      go_ret
      exact ⟨ret_bool (by first | (rw [H.out]; done) | (rw [H.out]; simp; try omega)), rfl⟩
    · have H : Hid (sizedB s = false) := Lib.hid (by simp [sizedB, h2])
      have h3 : 1024 < s := by omega
      clear h2
      go_enter Tryd.func91, Tryd.ntmps91
      go_wp2
      go_ret
      exact ⟨ret_bool (by first | (rw [H.out]; done) | (rw [H.out]; simp; try omega)), rfl⟩
  · have H : Hid (sizedB s = false) := Lib.hid (by simp [sizedB, h1])
    have h3 : s < 256 := by omega
    clear h1
    go_enter Tryd.func91, Tryd.ntmps91
    go_wp2
    go_ret
    exact ⟨ret_bool (by first | (rw [H.out]; done) | (rw [H.out]; simp; try omega)), rfl⟩

theorem kind_any (k : Int) (w : World) : Calls Tryd.prog 92 #[.int .i64 k] w fun e w' => e = .returned (.bool (kindB k)) ∧ w = w' := by
  by_cases h1 : k = 1
  · subst h1; go_enter Tryd.func92, Tryd.ntmps92; go_wp2; go_ret; exact ⟨rfl, rfl⟩
  by_cases h2 : k = 2
  · subst h2; go_enter Tryd.func92, Tryd.ntmps92; go_wp2; go_ret; exact ⟨rfl, rfl⟩
  by_cases h3 : k = 3
  · subst h3; go_enter Tryd.func92, Tryd.ntmps92; go_wp2; go_ret; exact ⟨rfl, rfl⟩
  by_cases h4 : k = 4
  · subst h4; go_enter Tryd.func92, Tryd.ntmps92; go_wp2; go_ret; exact ⟨rfl, rfl⟩
  by_cases h5 : k = 5
  · subst h5; go_enter Tryd.func92, Tryd.ntmps92; go_wp2; go_ret; exact ⟨rfl, rfl⟩
  have H : Hid (kindB k = false) := Lib.hid (by simp [kindB, h1, h2, h3, h4, h5])
  go_enter Tryd.func92, Tryd.ntmps92
  go_wp2
  go_ret
  exact ⟨ret_bool H.out.symm, rfl⟩

theorem Check_any {F : Nat → Prop} {ad : Nat → Addr} {w : World} (hL : Env F ad w) (p : PageA) (bv : Value) (hb : Sl F w 1 encB bv p.body) (size : Int) :
    Calls Tryd.prog 81 #[pageV p bv, .int .i64 size] w fun e w' => ∃ ev, e = .returned ev ∧ ErrR F ad w' ev (pgCheck p size) ∧ Ext w w' := by
  obtain ⟨a, cap, rfl, h1, h2, h3, h4⟩ := hb
  unfold maxLen at h2
  have g1 := hL.c1
  have g2 := hL.c2
  have z1 : 1 < w.heap.size := Nat.lt_of_lt_of_le (by decide) hL.size
  have z2 : 3 < w.heap.size := Nat.lt_of_lt_of_le (by decide) hL.size
  have HL1 : Hid (∀ o, Env F ad (w.alloc o)) := Lib.hid (fun o => hL.mods ((Mods.refl F w).alloc o))
  clear h4 hL
  unfold pageV
  cases hs : sizedB size with
  | false =>
    have HC : Hid (pgCheck p size = some ([-1], 2)) := Lib.hid (by unfold pgCheck; rw [if_pos hs])
    go_enter Tryd.func81, Tryd.ntmps81
    go_wp2_with fail
    refine (sized_any _ _).mono ?_
    rintro e w1 ⟨rfl, rfl⟩
    go_wp2_with fail
    refine (new_any (HL1.out _) _ _ _ 2 (.sent 2 (by decide) (by decide))).mono ?_
    rintro e w1 ⟨f, rfl, hE, hm⟩
    have HE := Lib.hid hE
    clear hE
    go_wp2
    go_ret
    exact ⟨_, rfl, by rw [HC.out]; exact ⟨f, rfl, HE.out⟩, ((Mods.refl _ w).alloc _).trans hm⟩
  | true =>
    have hs1 : 256 ≤ size := by simp only [sizedB, Bool.and_eq_true, decide_eq_true_eq] at hs; exact hs.1
    have hs2 : size ≤ 1024 := by simp only [sizedB, Bool.and_eq_true, decide_eq_true_eq] at hs; exact hs.2
    by_cases hc : kindB p.kind = false ∨ p.id < 0 ∨ 256 ≤ p.id ∨ size - 24 < (p.body.length : Int)
    · have HC : Hid (pgCheck p size = some ([-1], 1)) := Lib.hid (by unfold pgCheck; rw [if_neg (by simp [hs]), if_pos hc])
      cases hk : kindB p.kind with
      | false =>
        clear hc
        go_enter Tryd.func81, Tryd.ntmps81
        go_wp2_with fail
        refine (sized_any _ _).mono ?_
        rintro e w1 ⟨rfl, rfl⟩
        go_wp2_with fail
        refine (kind_any _ _).mono ?_
        rintro e w1 ⟨rfl, rfl⟩
        go_wp2_with fail
        refine (new_any (HL1.out _) _ _ _ 1 (.sent 1 (by decide) (by decide))).mono ?_
        rintro e w1 ⟨f, rfl, hE, hm⟩
        have HE := Lib.hid hE
        clear hE
        go_wp2
        go_ret
        exact ⟨_, rfl, by rw [HC.out]; exact ⟨f, rfl, HE.out⟩, ((Mods.refl _ w).alloc _).trans hm⟩
      | true =>
        by_cases k2 : p.id < 0
        · clear hc
          go_enter Tryd.func81, Tryd.ntmps81
          go_wp2_with fail
          refine (sized_any _ _).mono ?_
          rintro e w1 ⟨rfl, rfl⟩
          go_wp2_with fail
          refine (kind_any _ _).mono ?_
          rintro e w1 ⟨rfl, rfl⟩
          go_wp2_with fail
          refine (new_any (HL1.out _) _ _ _ 1 (.sent 1 (by decide) (by decide))).mono ?_
          rintro e w1 ⟨f, rfl, hE, hm⟩
          have HE := Lib.hid hE
          clear hE
          go_wp2
          go_ret
          exact ⟨_, rfl, by rw [HC.out]; exact ⟨f, rfl, HE.out⟩, ((Mods.refl _ w).alloc _).trans hm⟩
        · by_cases k3 : 256 ≤ p.id
          · clear hc k2
            have k2 : 0 ≤ p.id := by omega
            go_enter Tryd.func81, Tryd.ntmps81
            go_wp2_with fail
            refine (sized_any _ _).mono ?_
            rintro e w1 ⟨rfl, rfl⟩
            go_wp2_with fail
            refine (kind_any _ _).mono ?_
            rintro e w1 ⟨rfl, rfl⟩
            go_wp2_with fail
            refine (new_any (HL1.out _) _ _ _ 1 (.sent 1 (by decide) (by decide))).mono ?_
            rintro e w1 ⟨f, rfl, hE, hm⟩
            have HE := Lib.hid hE
            clear hE
            go_wp2
            go_ret
            exact ⟨_, rfl, by rw [HC.out]; exact ⟨f, rfl, HE.out⟩, ((Mods.refl _ w).alloc _).trans hm⟩
          · have k4 : size - 24 < (p.body.length : Int) := by rcases hc with h | h | h | h
                                                              · rw [hk] at h; cases h
                                                              · omega
                                                              · omega
                                                              · exact h
            have k5 : 0 ≤ p.id := by omega
            have k6 : p.id < 256 := by omega
            clear hc k2 k3
            go_enter Tryd.func81, Tryd.ntmps81
            go_wp2_with fail
            refine (sized_any _ _).mono ?_
            rintro e w1 ⟨rfl, rfl⟩
            go_wp2_with fail
            refine (kind_any _ _).mono ?_
            rintro e w1 ⟨rfl, rfl⟩
            go_wp2_with fail
            refine (new_any (HL1.out _) _ _ _ 1 (.sent 1 (by decide) (by decide))).mono ?_
            rintro e w1 ⟨f, rfl, hE, hm⟩
            have HE := Lib.hid hE
            clear hE
            go_wp2
            go_ret
            exact ⟨_, rfl, by rw [HC.out]; exact ⟨f, rfl, HE.out⟩, ((Mods.refl _ w).alloc _).trans hm⟩
    · have HC : Hid (pgCheck p size = none) := Lib.hid (by unfold pgCheck; rw [if_neg (by simp [hs]), if_neg hc])
      simp only [not_or, Bool.not_eq_false, Int.not_lt, Int.not_le] at hc
      obtain ⟨k1, k2, k3, k4⟩ := hc
      go_enter Tryd.func81, Tryd.ntmps81
      go_wp2_with fail
      refine (sized_any _ _).mono ?_
      rintro e w1 ⟨rfl, rfl⟩
      go_wp2_with fail
      refine (kind_any _ _).mono ?_
      rintro e w1 ⟨rfl, rfl⟩
      go_wp2_with fail
      go_ret
      exact ⟨_, rfl, by rw [HC.out]; rfl, ((Mods.refl _ w).alloc _)⟩
end Go.Proofs.YtidjkcfjocppmaaDoor
