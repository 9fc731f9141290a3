/- law12.tells. -/
import Derived.Test.YtepafbokbfcbgaaGreatDoorK19
namespace Go.Proofs.YtepafbokbfcbgaaGreatDoor
open Go.RowKit
attribute [local go_sem ↓] Go.wp_at_zero Go.wp_at_succ
section
variable {F : Nat → Prop} {ad : Nat → Addr} {w w' : World}
set_option maxRecDepth 100000 in
theorem tells12_any (hL : Env F ad w) (hfu : Full ad) (ev : Value) (o : Option Err) (he : ErrR F ad w ev o) (k : Nat) (hk : k < 100) : Calls Tryz.prog 21 #[ev, .int .i64 (k : Int)] w fun e w' => e = .returned (.bool (decide (codeO o = k))) ∧ w = w' := by
  have HL := Lib.hid hL
  have HFU := Lib.hid hfu
  clear hL hfu
  cases o with
  | none =>
    obtain rfl : ev = .nilIface := he
    by_cases h0 : k = 0
    · subst h0
      go_enter Tryz.func21, Tryz.ntmps21
      go_wp2_with fail
      refine (code_nil _).mono ?_
      rintro e w1 ⟨rfl, rfl⟩
      go_wp2_with fail
      go_ret
      exact ⟨rfl, rfl⟩
    · have hd : ((k : Int) == 0) = false := by rw [beq_eq_false_iff_ne]; omega
      go_enter Tryz.func21, Tryz.ntmps21
      go_wp2_with fail
      go_ret
      refine ⟨?_, rfl⟩
      have : decide (codeO none = k) = false := by rw [decide_eq_false_iff_not]; exact fun e => h0 e.symm
      rw [this]
      rfl
  | some er =>
    obtain ⟨el, ek⟩ := er
    obtain ⟨b, rfl, he⟩ := he
    have hek := he.code
    have HE := Lib.hid he
    clear he
    by_cases h0 : k = 0
    · subst h0
      go_enter Tryz.func21, Tryz.ntmps21
      go_wp2_with fail
      go_ret
      refine ⟨?_, rfl⟩
      have : decide (codeO (some (el, ek)) = 0) = false := by rw [decide_eq_false_iff_not]; show ¬ ek = 0; omega
      rw [this]
      rfl
    · have hd : ((k : Int) == 0) = false := by rw [beq_eq_false_iff_ne]; omega
      go_enter Tryz.func21, Tryz.ntmps21
      go_wp2_with fail
      refine (code_any HL.out HFU.out _ el ek HE.out).mono ?_
      rintro e w1 ⟨rfl, rfl⟩
      go_wp2_with fail
      go_ret
      refine ⟨?_, rfl⟩
      have : decide (codeO (some (el, ek)) = k) = ((ek : Int) == (k : Int)) := by
        show decide (ek = k) = _
        rw [Bool.eq_iff_iff, decide_eq_true_iff, beq_iff_eq]; omega
      rw [this]
      rfl
end
theorem tells12T {F : Nat → Prop} {ad : Nat → Addr} {w : World} {el : List Int} {k : Nat} (hL : Env F ad w) (hfu : Full ad) {f : Nat} (he : ErrC F ad w (faultV f) el k) (q : Nat) (hq : q < 100) (hk : k = q) : Calls Tryz.prog 21 #[faultV f, .int .i64 (q : Int)] w fun e w' => e = .returned (.bool true) ∧ w = w' := by
  refine (tells12_any hL hfu (faultV f) (some (el, k)) ⟨f, rfl, he⟩ q hq).mono ?_
  rintro e w' ⟨rfl, h⟩
  refine ⟨?_, h⟩
  have : decide (codeO (some (el, k)) = q) = true := decide_eq_true hk
  rw [this]
end Go.Proofs.YtepafbokbfcbgaaGreatDoor
