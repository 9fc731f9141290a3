/- What chain.Write and Read refuse. -/
import Derived.Test.YtidjkcfjocppmaaDoorKLawC
namespace Go.Proofs.YtidjkcfjocppmaaDoor
open Go.RowKit
section
variable {P P' F F' : Nat → Prop} {ad : Nat → Addr} {w w' : World} {c s : Nat} {G G' : GA} {l l' : List Nat}
theorem chCheck_nil (hL : Env F ad w) (op : ByteArray) (cp : Option Addr) (hc : cp = none ∨ ∃ b, cp = some ⟨b, 0, none⟩) (gen : Nat) (n : Int) : Calls Tryd.prog 37 #[.string op, .agg #[.pointer cp, .pointer none, .int .u64 (gen : Int)], .int .i64 n] w fun e w' => ∃ f, e = .returned (faultV f) ∧ ErrC F ad w' (faultV f) [-1] 7 ∧ Ext w w' := by
  rcases hc with rfl | ⟨c, rfl⟩
  · have m0 : Ext w (w.alloc (.cells #[.pointer none, .pointer none, .int .u64 (gen : Int)] 29)) := (Mods.refl _ w).alloc _
    have hL0 := hL.mods m0.ext
    have g2 := hL.c7
    have hsz := hL.size
    have g2' : 0 < w.heap.size := by omega
    have HL := Lib.hid hL0
    have M0 := Lib.hid m0
    clear hL hL0 m0
    go_enter Tryd.func37, Tryd.ntmps37
    go_wp2_with fail
    refine (new_any HL.out _ _ [] 7 (.sent 7 (by decide) (by decide))).mono ?_
    rintro e w1 ⟨f, rfl, hE, hm⟩
    have HE := Lib.hid hE
    have HM := Lib.hid hm
    clear hE hm
    go_wp2_with fail
    go_ret
    exact ⟨f, rfl, HE.out, M0.out.trans HM.out⟩
  · have m0 : Ext w (w.alloc (.cells #[.pointer (some ⟨c, 0, none⟩), .pointer none, .int .u64 (gen : Int)] 29)) := (Mods.refl _ w).alloc _
    have hL0 := hL.mods m0.ext
    have g2 := hL.c7
    have hsz := hL.size
    have g2' : 0 < w.heap.size := by omega
    have HL := Lib.hid hL0
    have M0 := Lib.hid m0
    clear hL hL0 m0
    go_enter Tryd.func37, Tryd.ntmps37
    go_wp2_with fail
    refine (new_any HL.out _ _ [] 7 (.sent 7 (by decide) (by decide))).mono ?_
    rintro e w1 ⟨f, rfl, hE, hm⟩
    have HE := Lib.hid hE
    have HM := Lib.hid hm
    clear hE hm
    go_wp2_with fail
    go_ret
    exact ⟨f, rfl, HE.out, M0.out.trans HM.out⟩
/-- a call of check that ends in a fault. -/
def ChkBad (F : Nat → Prop) (ad : Nat → Addr) (w : World) (a0 a1 a2 : Value) (n : Int) (k : Nat) : Prop :=
  ∀ (op : ByteArray) (w1 : World), Ext w w1 → Calls Tryd.prog 37 #[.string op, .agg #[a0, a1, a2], .int .i64 n] w1 fun e w' => ∃ f, e = .returned (faultV f) ∧ ErrC F ad w' (faultV f) [-1] k ∧ Ext w1 w'
theorem ChkBad.nil (hL : Env F ad w) (cp : Option Addr) (hc : cp = none ∨ ∃ b, cp = some ⟨b, 0, none⟩) (gen : Nat) (n : Int) : ChkBad F ad w (.pointer cp) (.pointer none) (.int .u64 (gen : Int)) n 7 :=
  fun op _ m => chCheck_nil (hL.mods m.ext) op cp hc gen n
theorem ChkBad.range (hL : Env F ad w) (gen : Nat) (n : Int) (hn : n < 25 ∨ 4096 < n) : ChkBad F ad w (.pointer (some ⟨c, 0, none⟩)) (.pointer (some ⟨s, 0, none⟩)) (.int .u64 (gen : Int)) n 2 := fun op w1 m => by
  refine (chCheck_any (c := c) (s := s) (hL.mods m.ext) op gen n).mono ?_
  rintro e w' ⟨ev, rfl, he, hm⟩
  have h : chCheck n = some ([-1], 2) := by unfold chCheck; rw [if_pos (by omega)]
  rw [h] at he
  obtain ⟨f, rfl, he⟩ := he
  exact ⟨f, rfl, he, hm⟩
theorem chWrite_bad (a0 a1 : Option Addr) (gen : Nat) (k : Nat) (v : ByteArray) (h : ChkBad F ad w (.pointer a0) (.pointer a1) (.int .u64 (gen : Int)) (v.size : Int) k) :
    Calls Tryd.prog 14 #[.agg #[.pointer a0, .pointer a1, .int .u64 (gen : Int)], .string v] w fun e w' => ∃ f, e = .returned (.tuple #[.int .i64 0, faultV f]) ∧ ErrC F ad w' (faultV f) [-1] k ∧ Ext w w' := by
  have m0 : Ext w (w.alloc (.cells #[.pointer a0, .pointer a1, .int .u64 (gen : Int)] 29)) := (Mods.refl _ w).alloc _
  have M0 := Lib.hid m0
  have H := Lib.hid h
  clear m0 h
  go_enter Tryd.func14, Tryd.ntmps14
  go_wp2_with fail
  refine (H.out _ _ M0.out).mono ?_
  rintro e w1 ⟨f, rfl, hE, hm⟩
  have HE := Lib.hid hE
  have HM := Lib.hid hm
  clear hE hm
  go_wp2_with fail
  go_ret2
  exact ⟨f, rfl, HE.out, M0.out.trans HM.out⟩
theorem chRead_bad (a0 a1 : Option Addr) (gen : Nat) (k : Nat) (id n : Int) (h : ChkBad F ad w (.pointer a0) (.pointer a1) (.int .u64 (gen : Int)) n k) :
    Calls Tryd.prog 18 #[.agg #[.pointer a0, .pointer a1, .int .u64 (gen : Int)], .int .i64 id, .int .i64 n] w fun e w' => ∃ f, e = .returned (.tuple #[.string ⟨#[]⟩, faultV f]) ∧ ErrC F ad w' (faultV f) [-1] k ∧ Ext w w' := by
  have m0 : Ext w (w.alloc (.cells #[.pointer a0, .pointer a1, .int .u64 (gen : Int)] 29)) := (Mods.refl _ w).alloc _
  have M0 := Lib.hid m0
  have H := Lib.hid h
  clear m0 h
  go_enter Tryd.func18, Tryd.ntmps18
  go_wp2_with fail
  refine (H.out _ _ M0.out).mono ?_
  rintro e w1 ⟨f, rfl, hE, hm⟩
  have HE := Lib.hid hE
  have HM := Lib.hid hm
  clear hE hm
  go_wp2_with fail
  go_ret2
  exact ⟨f, rfl, HE.out, M0.out.trans HM.out⟩
/-- a new pager has no chains. -/
theorem new_err (b : Nat) (id n : Int) : ∃ er, chErr (G0 b) id n = some er ∧ (n < 25 ∨ 4096 < n → er.2 = 2) := by
  unfold chErr
  by_cases h : n ≤ 24 ∨ 4096 < n
  · have : chCheck n = some ([-1], 2) := by unfold chCheck; rw [if_pos h]
    rw [this]
    exact ⟨_, rfl, fun _ => rfl⟩
  · have : chCheck n = none := by unfold chCheck; rw [if_neg h]
    rw [this]
    obtain ⟨f, hf⟩ : ∃ f, n.toNat = f + 1 := ⟨n.toNat - 1, by omega⟩
    have hg : ∃ er, (G0 b).get id = .inr er := by
      unfold GA.get
      cases hc : (G0 b).check id with
      | some e => exact ⟨e, rfl⟩
      | none =>
        have hid : 0 ≤ id ∧ id < b := by
          unfold GA.check at hc
          split at hc
          · cases hc
          · rename_i h; simp only [not_or, Int.not_lt, Int.not_le] at h; exact h
        obtain ⟨q, hq⟩ := open_zero ((id.toNat : Nat) : Int)
        have hv : (G0 b).view id.toNat = some (.inr (q, 5)) := by
          show (if id.toNat < b then some (openAtP (z256) id.toNat) else none) = _
          rw [if_pos (by omega), hq]
        simp only [hv]
        exact ⟨_, rfl⟩
    obtain ⟨er, hg⟩ := hg
    rw [hf, walkA, if_neg (by omega), hg]
    exact ⟨(-1 :: er.1, er.2), rfl, fun h2 => by omega⟩
theorem new_ok (b : Nat) (id n : Int) (f : Nat) : walkOk (G0 b) f id n := by
  cases f with
  | zero => trivial
  | succ f =>
    rw [walkOk]
    intro _
    have hk : ∀ hc : (G0 b).check id = none, ∃ q, (G0 b).view id.toNat = some (.inr (q, 5)) := fun hc => by
      have hid : 0 ≤ id ∧ id < b := by
        unfold GA.check at hc
        split at hc
        · cases hc
        · rename_i h; simp only [not_or, Int.not_lt, Int.not_le] at h; exact h
      obtain ⟨q, hq⟩ := open_zero ((id.toNat : Nat) : Int)
      refine ⟨q, ?_⟩
      show (if id.toNat < b then some (openAtP (z256) id.toNat) else none) = _
      rw [if_pos (by omega), hq]
    refine ⟨fun hc => ?_, fun x hx => ?_⟩
    · obtain ⟨q, hq⟩ := hk hc
      exact ⟨_, hq⟩
    · unfold GA.get at hx
      cases hc : (G0 b).check id with
      | some e => rw [hc] at hx; cases hx
      | none =>
        obtain ⟨q, hq⟩ := hk hc
        rw [hc] at hx
        simp only [hq] at hx
        cases hx
end
end Go.Proofs.YtidjkcfjocppmaaDoor
