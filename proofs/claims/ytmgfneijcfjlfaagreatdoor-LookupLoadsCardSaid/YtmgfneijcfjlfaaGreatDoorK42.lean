/- ref03.Take; ref07.take, word, one. | ref01.SameTexts; ref07.Same of nodes that are alike. -/
import Derived.Test.YtmgfneijcfjlfaaGreatDoorK22
import Derived.Test.YtmgfneijcfjlfaaGreatDoorK08
import Derived.Test.YtmgfneijcfjlfaaGreatDoorK26
import Derived.IntWalk
import Derived.Test.YtmgfneijcfjlfaaGreatDoorK19
import Derived.Test.YtmgfneijcfjlfaaGreatDoorK03
import Derived.BigQuiet
namespace Go.Proofs.YtmgfneijcfjlfaaGreatDoor
open Go.RowKit
attribute [local go_sem ↓] Go.wp_at_zero Go.wp_at_succ
section
variable {F : Nat → Prop} {w w' wr w2 : World}
theorem ofLe_snoc : ∀ (l : List UInt8) (x : UInt8), ofLe (l ++ [x]) = ofLe l + x.toNat * 256 ^ l.length
  | [], x => by simp [ofLe]
  | y :: l, x => by
    rw [List.cons_append, ofLe, ofLe, ofLe_snoc l x, List.length_cons, Nat.pow_succ, Nat.mul_add, Nat.add_assoc]
    congr 2
    rw [Nat.mul_comm 256 (x.toNat * 256 ^ l.length), Nat.mul_assoc]
/-- ref03.Take: the number, and the code. -/
def Take03 (l : List UInt8) (p : Int) (W : Nat) (w : World) (e : Ending) (w' : World) : Prop :=
  ∃ (v c : Nat), e = .returned (.tuple #[.int .u64 (v : Int), .int .i64 (c : Int)]) ∧ ((c = 0 ∧ (takeF l p W).2 = none ∧ v = (takeF l p W).1) ∨ (c ≠ 0 ∧ c < 10 ∧ ∃ er, (takeF l p W).2 = some er)) ∧ w = w'
set_option maxRecDepth 100000 in
set_option maxHeartbeats 1000000 in
theorem take03_any (l : List UInt8) (bv : Value) (hb : Sl F w 1 encB bv l) (p : Int) (hp : -1 ≤ p ∧ p ≤ 1000000000) (W : Nat) (hW : W = 1 ∨ W = 2 ∨ W = 4) :
    Calls Tryz.prog 85 #[bv, .int .i64 p, .int .i64 (W : Int)] w (Take03 l p W w) := by
  obtain ⟨a, cap, rfl, h1, h2, h3, h4⟩ := hb
  unfold maxLen at h2
  have HR := Lib.hid (Right03_any W (by omega) w)
  have hW4 : W ≤ 4 := by omega
  have hW1 : 1 ≤ W := by omega
  clear hW
  by_cases hc : p < 0 ∨ (l.length : Int) < p
  · have HT : Hid (takeF l p W = (0, some ([-1], 2))) := Lib.hid (by unfold takeF; rw [if_pos hc])
    by_cases h0 : p < 0
    · clear hc
      go_enter Tryz.func85, Tryz.ntmps85
      go_wp2_with fail
      refine (HR.out).mono ?_
      rintro e w1 ⟨rfl, rfl⟩
      go_wp2_with fail
      go_ret2
      exact ⟨0, 2, rfl, .inr ⟨by omega, by omega, _, by rw [HT.out]⟩, rfl⟩
    · have h5 : (l.length : Int) < p := by omega
      clear hc
      go_enter Tryz.func85, Tryz.ntmps85
      go_wp2_with fail
      refine (HR.out).mono ?_
      rintro e w1 ⟨rfl, rfl⟩
      go_wp2_with fail
      go_ret2
      exact ⟨0, 2, rfl, .inr ⟨by omega, by omega, _, by rw [HT.out]⟩, rfl⟩
  · have hp0 : 0 ≤ p := by omega
    obtain ⟨q, rfl⟩ : ∃ q : Nat, p = q := ⟨p.toNat, by omega⟩
    have hq : q ≤ l.length := by omega
    by_cases hc2 : (l.length : Int) - q < W
    · have HT : Hid (takeF l q W = (0, some ([-1], 1))) := Lib.hid (by unfold takeF; rw [if_neg hc, if_pos hc2])
      clear hc
      go_enter Tryz.func85, Tryz.ntmps85
      go_wp2_with fail
      refine (HR.out).mono ?_
      rintro e w1 ⟨rfl, rfl⟩
      go_wp2_with fail
      go_ret2
      exact ⟨0, 1, rfl, .inr ⟨by omega, by omega, _, by rw [HT.out]⟩, rfl⟩
    · have HT : Hid (takeF l q W = (ofLe ((l.drop q).take W), none)) := Lib.hid (by unfold takeF; rw [if_neg hc, if_neg hc2, Int.toNat_natCast])
      have hqW : q + W ≤ l.length := by omega
      clear hc hc2
      go_enter Tryz.func85, Tryz.ntmps85
      go_wp2_with fail
      refine (HR.out).mono ?_
      rintro e w1 ⟨rfl, rfl⟩
      go_wp2_with fail
      go_loopg [8, 9, 10] W (fun m v8 v9 v10 wr => ∃ (k x z : Nat), wr = w ∧ k + m = W ∧ v8 = .int .u64 (x : Int) ∧ v9 = .int .u64 (z : Int) ∧ v10 = .int .i64 (k : Int) ∧ Hid (x = ofLe ((l.drop q).take k) ∧ z = 256 ^ k))
      case atStart => exact ⟨0, 0, 1, rfl, by omega, rfl, rfl, rfl, Lib.hid ⟨by simp [ofLe], rfl⟩⟩
      case round =>
        obtain ⟨k, x, z, rfl, hkm, rfl, rfl, rfl, HX⟩ := hrel
        by_cases hlt : k < W
        · have hlt2 : q + k < l.length := by omega
          obtain ⟨b, off, rfl, hb, hF, hc⟩ := Sl.atE h4 (Mods.refl _ _) (q + k) hlt2
          obtain ⟨y, hy⟩ : ∃ y, y = l[q + k] := ⟨_, rfl⟩
          have hc0 := hc 0 (.int .u8 (y.toNat : Int)) (by rw [hy]; rfl)
          simp only [Nat.mul_one, Nat.add_zero] at hc0
          have hy8 : y.toNat < 256 := y.toNat_lt
          have hz : z ≤ 16777216 := by
            rw [HX.out.2]
            exact Nat.pow_le_pow_right (n := 256) (by decide) (show k ≤ 3 by omega)
          have hx : x < 256 ^ k := by
            rw [HX.out.1]
            refine Nat.lt_of_lt_of_le (ofLe_lt _) (Nat.pow_le_pow_right (by decide) (by simp; omega))
          rw [← HX.out.2] at hx
          obtain ⟨u, hu⟩ : ∃ u : Nat, u = y.toNat * z := ⟨_, rfl⟩
          have hub : u ≤ 255 * 16777216 := by rw [hu]; exact Nat.mul_le_mul (by omega) hz
          have huI : (y.toNat : Int) * (z : Int) = (u : Int) := by rw [hu, Int.natCast_mul]
          have HN : Hid (x + u = ofLe ((l.drop q).take (k + 1)) ∧ z * 256 = 256 ^ (k + 1)) := Lib.hid (by
            have h9 : (l.drop q)[k]? = some y := by rw [List.getElem?_drop, hy]; exact List.getElem?_eq_getElem hlt2
            have h10 : ((l.drop q).take k).length = k := by simp; omega
            rw [take_one _ k y h9, ofLe_snoc, ← HX.out.1, hu, HX.out.2, h10]
            exact ⟨rfl, by rw [Nat.pow_succ]⟩)
          have i1 : (0 : Int) ≤ (q : Int) + (k : Int) := by omega
          have i2 : (q : Int) + (k : Int) < (l.length : Int) := by omega
          have i3 : ((q : Int) + (k : Int)).toNat = q + k := by omega
          clear hc hy h4 hu
          go_wp2_with fail
          go_roundg (gk - 1)
          case measure => omega
          case rel => exact ⟨k + 1, x + u, z * 256, rfl, by omega, by go_num, by go_num, by go_num, HN⟩
        · have hk : k = W := by omega
          have HK := Lib.hid hk
          clear hk h4
          go_wp2_with fail
          go_ret2
          exact ⟨x, 0, rfl, .inl ⟨rfl, by rw [HT.out], by rw [HT.out, HX.out.1, HK.out]⟩, rfl⟩
set_option maxRecDepth 100000 in
theorem take07_any (l : List UInt8) (bv : Value) (hb : Sl F w 1 encB bv l) (p : Int) (hp : -1 ≤ p ∧ p ≤ 1000000000) (W : Nat) (hW : W = 1 ∨ W = 2 ∨ W = 4) :
    Calls Tryz.prog 48 #[bv, .int .i64 p, .int .i64 (W : Int)] w fun e w' => e = .returned (.tuple #[.int .i64 ((rfTake l p W).1 : Int), .int .i64 (rfTake l p W).2]) ∧ w = w' := by
  have HC := Lib.hid (take03_any l bv hb p hp W hW)
  have hsm := takeF_small l p W hW
  have HSM := Lib.hid hsm
  have hW4 : (W : Int) ≤ 4 := by omega
  have hW1 : (1 : Int) ≤ W := by omega
  obtain ⟨h1, h2⟩ := hp
  obtain ⟨a, cap, rfl, _, _, _, _⟩ := hb
  clear hW hsm
  by_cases h0 : p < 0
  · have HT : Hid (rfTake l p W = (0, -1)) := Lib.hid (by unfold rfTake; rw [if_pos h0])
    go_enter Tryz.func48, Tryz.ntmps48
    go_wp2_with fail
    go_ret2
    exact ⟨by rw [HT.out]; rfl, rfl⟩
  · go_enter Tryz.func48, Tryz.ntmps48
    go_wp2_with fail
    refine (HC.out).mono ?_
    rintro e w1 ⟨v, c, rfl, hr, rfl⟩
    rcases hr with ⟨hc0, h3, h4⟩ | ⟨hc0, hc1, er, h3⟩
    · subst hc0
      have HT : Hid (rfTake l p W = (v, p + W)) := Lib.hid (by unfold rfTake; rw [if_neg (by omega), h3]; simp [h4])
      have hv : v < 4294967296 := by rw [h4]; exact HSM.out
      clear h3 h4
      go_wp2_with fail
      go_ret2
      exact ⟨by rw [HT.out]; rfl, rfl⟩
    · have HT : Hid (rfTake l p W = (0, -1)) := Lib.hid (by unfold rfTake; rw [if_neg (by omega), h3]; simp)
      have hcb : ((c : Int) == 0) = false := by rw [beq_eq_false_iff_ne]; omega
      have hcc : ¬ ((c : Int) = 0) := by omega
      clear h3
      go_wp2_with fail
      go_ret2
      exact ⟨by rw [HT.out]; rfl, rfl⟩
theorem rfTake_b (l : List UInt8) (p : Int) (W : Nat) (hW : W = 1 ∨ W = 2 ∨ W = 4) (_hp : -1 ≤ p) : (rfTake l p W).1 < 4294967296 ∧ -1 ≤ (rfTake l p W).2 ∧ ((rfTake l p W).2 ≤ (l.length : Int)) ∧ (0 ≤ (rfTake l p W).2 → (W : Int) ≤ (rfTake l p W).2) := by
  unfold rfTake
  by_cases h0 : p < 0
  · rw [if_pos h0]
    exact ⟨by simp, by simp, by show (-1 : Int) ≤ _; omega, fun h => by exact absurd h (by decide)⟩
  · rw [if_neg h0]
    have := takeF_small l p W hW
    cases h : (takeF l p W).2 with
    | some er => 
      simp only [Option.isSome_some, if_true]
      exact ⟨by simp, by simp, by show (-1 : Int) ≤ _; omega, fun h => by exact absurd h (by decide)⟩
    | none =>
      simp only [Option.isSome_none, Bool.false_eq_true, if_false]
      refine ⟨this, by omega, ?_, fun _ => by omega⟩
      unfold takeF at h
      split at h
      · cases h
      · split at h
        · cases h
        · omega
theorem take07_t (l : List UInt8) (bv : Value) (hb : Sl F w 1 encB bv l) (p : Int) (hp : -1 ≤ p ∧ p ≤ 1000000000) (W : Nat) (hW : W = 1 ∨ W = 2 ∨ W = 4) (n : Nat) (q : Int) (hx : rfTake l p W = (n, q)) (z : Int) (hz : z = (W : Int)) :
    Calls Tryz.prog 48 #[bv, .int .i64 p, .int .i64 z] w fun e w' => e = .returned (.tuple #[.int .i64 (n : Int), .int .i64 q]) ∧ w = w' := by
  subst hz
  have := take07_any l bv hb p hp W hW
  rw [hx] at this
  exact this
set_option maxRecDepth 100000 in
set_option maxHeartbeats 1000000 in
theorem word07_any (l : List UInt8) (bv : Value) (hb : Sl F w 1 encB bv l) (hl : l.length ≤ 100000) (p : Int) (hp : -1 ≤ p ∧ p ≤ 1000000) :
    Calls Tryz.prog 50 #[bv, .int .i64 p] w fun e w' => e = .returned (.tuple #[.string (rfWord l p).1, .int .i64 (rfWord l p).2]) ∧ w = w' := by
  obtain ⟨n, q, hx⟩ : ∃ n q, rfTake l p 1 = (n, q) := ⟨_, _, rfl⟩
  have hbd := rfTake_b l p 1 (.inl rfl) hp.1
  rw [hx] at hbd
  obtain ⟨hb1, hb2, hb3, hb4⟩ := hbd
  have HC := Lib.hid (take07_t l bv hb p ⟨hp.1, by omega⟩ 1 (.inl rfl) n q hx 1 rfl)
  have HW : Hid (rfWord l p = if q < 0 ∨ (l.length : Int) - q < (n : Int) then (⟨#[]⟩, -1) else (⟨((l.drop q.toNat).take n).toArray⟩, q + n)) := Lib.hid (by unfold rfWord; simp only [hx])
  have HB := Lib.hid hb
  obtain ⟨a, cap, rfl, h1, h2, h3, h4⟩ := hb
  unfold maxLen at h2
  simp only at hb1 hb2 hb3 hb4
  clear hx hp
  by_cases h0 : q < 0
  · have HT : Hid (rfWord l p = (⟨#[]⟩, -1)) := Lib.hid (by rw [HW.out, if_pos (.inl h0)])
    go_enter Tryz.func50, Tryz.ntmps50
    go_wp2_with fail
    refine (HC.out).mono ?_
    rintro e w1 ⟨rfl, rfl⟩
    go_wp2_with fail
    go_ret2
    exact ⟨by rw [HT.out]; rfl, rfl⟩
  · obtain ⟨t, rfl⟩ : ∃ t : Nat, q = t := ⟨q.toNat, by omega⟩
    by_cases h5 : (l.length : Int) - t < (n : Int)
    · have HT : Hid (rfWord l p = (⟨#[]⟩, -1)) := Lib.hid (by rw [HW.out, if_pos (.inr h5)])
      go_enter Tryz.func50, Tryz.ntmps50
      go_wp2_with fail
      refine (HC.out).mono ?_
      rintro e w1 ⟨rfl, rfl⟩
      go_wp2_with fail
      go_ret2
      exact ⟨by rw [HT.out]; rfl, rfl⟩
    · have hle : t + n ≤ l.length := by omega
      have HT : Hid (rfWord l p = (⟨((l.drop t).take n).toArray⟩, ((t : Int) + (n : Int)))) := Lib.hid (by rw [HW.out, if_neg (by omega), Int.toNat_natCast])
      have hw1 : IntKind.i64.wrap (t : Int) = (t : Int) := IntWalk.i64_in _ (by omega)
      have hi0 : (0 : Int) ≤ (t : Int) := by omega
      have hi1 : (t : Int) ≤ (t : Int) + (n : Int) := by omega
      have hi2 : (t : Int) + (n : Int) ≤ (cap : Int) := by omega
      have hi3 : (0 : Int) ≤ (t : Int) + (n : Int) := by omega
      have hs1 : ((t : Int) + (n : Int)).toNat - t = n := by omega
      by_cases hct : cap = t
      · have hn0 : n = 0 := by omega
        subst hn0 hct
        have hsl : Sl F w 1 encB (.slice a 0 0) ((l.drop cap).take 0) := ⟨a, 0, by simp, by simp, by unfold maxLen; omega, by simp, .inl (by simp)⟩
        have hcv := run_conv_sl (P := Tryz.prog) Tryz.underlying73 Tryz.underlying5 Tryz.underlying9 hsl
        clear hsl hs1 hi3 hi2 hi1
        go_enter Tryz.func50, Tryz.ntmps50
        go_wp2_with fail
        refine (HC.out).mono ?_
        rintro e w1 ⟨rfl, rfl⟩
        go_wp2_with fail
        go_ret2
        exact ⟨by rw [HT.out]; rfl, rfl⟩
      · obtain ⟨bb, off, rfl⟩ : ∃ bb off, a = some ⟨bb, off, none⟩ := by
          rcases h4 with h | ⟨bb, off, h, _⟩
          · rw [h] at hle; simp at hle; omega
          · exact ⟨bb, off, h⟩
        have hsl : Sl F w 1 encB (.slice (some ⟨bb, off + t, none⟩) n (cap - t)) ((l.drop t).take n) := by
          have := Sl.sub HB.out t (t + n) (by omega) hle
          rw [Nat.mul_one, show t + n - t = n by omega] at this
          exact this
        have hcv := run_conv_sl (P := Tryz.prog) Tryz.underlying73 Tryz.underlying5 Tryz.underlying9 hsl
        clear hsl
        go_enter Tryz.func50, Tryz.ntmps50
        go_wp2_with fail
        refine (HC.out).mono ?_
        rintro e w1 ⟨rfl, rfl⟩
        go_wp2_with fail
        go_ret2
        exact ⟨by rw [HT.out]; rfl, rfl⟩
end
end Go.Proofs.YtmgfneijcfjlfaaGreatDoor
namespace Go.Proofs.YtmgfneijcfjlfaaGreatDoor
open Go.RowKit
attribute [local go_sem ↓] Go.wp_at_zero Go.wp_at_succ
set_option maxRecDepth 100000 in
theorem SameTexts_any {F G : Nat → Prop} {w : World} (av bv : Value) (l m : List ByteArray) (ha : Sl F w 1 encS av l) (hb : Sl G w 1 encS bv m) :
    Calls Tryz.prog 21 #[av, bv] w fun e w' => e = .returned (.bool (decide (l = m))) ∧ Ext w w' := by
  obtain ⟨a, cap, rfl, h1, h2, h3, h4⟩ := ha
  obtain ⟨b, cap2, rfl, i1, i2, i3, i4⟩ := hb
  unfold maxLen at h2 i2
  have H4 := Lib.hid h4
  have I4 := Lib.hid i4
  clear h4 i4
  by_cases hl : l.length = m.length
  · obtain ⟨n, hn⟩ : ∃ n, n = l.length := ⟨_, rfl⟩
    rw [← hl, ← hn] at i1 i3 ⊢
    rw [← hn] at h1 h3
    have N1 : Hid (n = l.length) := Lib.hid hn
    have N2 : Hid (n = m.length) := Lib.hid (hn.trans hl)
    clear hn hl
    go_enter Tryz.func21, Tryz.ntmps21
    go_wp2_with fail
    go_loopg [5] n (fun q v5 wr => ∃ k : Nat, k + q = n ∧ v5 = .int .i64 k ∧ Hid (l.take k = m.take k) ∧ Hid (Ext w wr))
    case atStart => exact ⟨0, by omega, rfl, Lib.hid rfl, Lib.hid (Mods.refl _ _)⟩
    case round =>
      obtain ⟨k, hk, rfl, HQ, HM⟩ := hrel
      by_cases hltn : k < n
      · have hlt : k < l.length := by have := N1.out; omega
        have hlt2 : k < m.length := by have := N2.out; omega
        obtain ⟨b1, off1, rfl, hb1, hF1, hc1⟩ := Sl.atE H4.out HM.out k hlt
        obtain ⟨b2, off2, rfl, hb2, hF2, hc2⟩ := Sl.atE I4.out HM.out k hlt2
        obtain ⟨x, hx⟩ : ∃ x, x = l[k] := ⟨_, rfl⟩
        obtain ⟨y, hy⟩ : ∃ y, y = m[k] := ⟨_, rfl⟩
        have d1 := hc1 0 (.string x) (by rw [hx]; rfl)
        have d2 := hc2 0 (.string y) (by rw [hy]; rfl)
        simp only [Nat.mul_one, Nat.add_zero] at d1 d2
        have hx2 : l[k]? = some x := by rw [hx]; simp [hlt]
        have hy2 : m[k]? = some y := by rw [hy]; simp [hlt2]
        have HT : Hid (x = y → l.take (k + 1) = m.take (k + 1)) := Lib.hid (fun e => by rw [take_one l k x hx2, take_one m k y hy2, HQ.out, e])
        have HN : Hid (x ≠ y → decide (l = m) = false) := Lib.hid (fun e => by
          rw [decide_eq_false_iff_not]; intro h; rw [h, hy2] at hx2; injection hx2 with h5; exact e h5.symm)
        clear hc1 hc2 hx hy hx2 hy2 hlt hlt2
        by_cases hxy : x = y
        · subst hxy
          go_wp2_with fail
          go_region
          go_wp2_with fail
          go_roundg (gk - 1)
          case measure => omega
          case rel => exact ⟨k + 1, by omega, by go_num, Lib.hid (HT.out (by first | rfl | trivial)), Lib.hid HM.out.drew⟩
        · have hne : (x.toList == y.toList) = false := by rw [beq_eq_false_iff_ne]; exact fun e => hxy (toList_inj e)
          have HN2 := Lib.hid (HN.out hxy)
          clear hxy
          go_wp2_with fail
          go_region
          go_wp2_with fail
          go_ret
          exact ⟨ret_bool HN2.out.symm, HM.out.drew⟩
      · have he : Hid (decide (l = m) = true) := Lib.hid (by
          have := HQ.out
          have n1 := N1.out
          have n2 := N2.out
          rw [List.take_of_length_le (by omega), List.take_of_length_le (by omega)] at this
          simp [this])
        go_wp2_with fail
        go_ret
        exact ⟨ret_bool he.out.symm, HM.out⟩
  · have he : Hid (decide (l = m) = false) := Lib.hid (by rw [decide_eq_false_iff_not]; intro h; exact hl (by rw [h]))
    go_enter Tryz.func21, Tryz.ntmps21
    go_wp2_with fail
    go_ret
    exact ⟨ret_bool he.out.symm, Mods.refl _ _⟩
section
variable {F G : Nat → Prop} {w w' wr : World}
theorem sameTexts_t (av bv : Value) (l : List ByteArray) (ha : Sl F w 1 encS av l) (hb : Sl G w 1 encS bv l) :
    Calls Tryz.prog 21 #[av, bv] w fun e w' => e = .returned (.bool true) ∧ Ext w w' := by
  have := SameTexts_any av bv l l ha hb
  rw [decide_eq_true rfl] at this
  exact this
set_option maxRecDepth 100000 in
set_option maxHeartbeats 1000000 in
theorem same07_eq (n : NodeA) (ve vk vi ue uk ui : Value) (hve : Sl F w 4 encE ve n.entries) (hvk : Sl F w 1 encS vk n.keys) (hvi : Sl F w 1 encI vi n.kids) (hue : Sl G w 4 encE ue n.entries) (huk : Sl G w 1 encS uk n.keys) (hui : Sl G w 1 encI ui n.kids) :
    Calls Tryz.prog 25 #[.agg #[.bool n.leaf, ve, vk, vi], .agg #[.bool n.leaf, ue, uk, ui]] w fun e w' => e = .returned (.bool true) ∧ Ext w w' := by
  have HVK := Lib.hid hvk
  have HUK := Lib.hid huk
  obtain ⟨ea, ec, rfl, e1, e2, e3, hee⟩ := hve
  obtain ⟨ka, kc, rfl, k1, k2, k3, _⟩ := hvk
  obtain ⟨ia, ic, rfl, i1, i2, i3, hii⟩ := hvi
  obtain ⟨fa, fc, rfl, f1, f2, f3, hff⟩ := hue
  obtain ⟨la, lc, rfl, l1, l2, l3, _⟩ := huk
  obtain ⟨ja, jc, rfl, j1, j2, j3, hjj⟩ := hui
  unfold maxLen at e2 k2 i2 f2 l2 j2
  have HEE := Lib.hid hee
  have HFF := Lib.hid hff
  have HII := Lib.hid hii
  have HJJ := Lib.hid hjj
  have HW : Hid (Ext w ((w.alloc (.cells #[.bool n.leaf, .slice ea n.entries.length ec, .slice ka n.keys.length kc, .slice ia n.kids.length ic] 57)).alloc (.cells #[.bool n.leaf, .slice fa n.entries.length fc, .slice la n.keys.length lc, .slice ja n.kids.length jc] 57)) ∧
      Blk ((w.alloc (.cells #[.bool n.leaf, .slice ea n.entries.length ec, .slice ka n.keys.length kc, .slice ia n.kids.length ic] 57)).alloc (.cells #[.bool n.leaf, .slice fa n.entries.length fc, .slice la n.keys.length lc, .slice ja n.kids.length jc] 57)) w.heap.size #[.bool n.leaf, .slice ea n.entries.length ec, .slice ka n.keys.length kc, .slice ia n.kids.length ic] 57 ∧
      Blk ((w.alloc (.cells #[.bool n.leaf, .slice ea n.entries.length ec, .slice ka n.keys.length kc, .slice ia n.kids.length ic] 57)).alloc (.cells #[.bool n.leaf, .slice fa n.entries.length fc, .slice la n.keys.length lc, .slice ja n.kids.length jc] 57)) (w.heap.size + 1) #[.bool n.leaf, .slice fa n.entries.length fc, .slice la n.keys.length lc, .slice ja n.kids.length jc] 57) :=
    Lib.hid ⟨((Mods.refl _ w).alloc _).alloc _, (Blk.new w _ _).alloc _, heap_at (by simp)⟩
  clear hee hff hii hjj
  go_enter Tryz.func25, Tryz.ntmps25
  go_wp2_with fail
  go_loopg [5] n.entries.length (fun m v5 wr => ∃ (k : Nat), k + m = n.entries.length ∧ v5 = .int .i64 (k : Int) ∧ Hid (Ext w wr ∧ Blk wr w.heap.size #[.bool n.leaf, .slice ea n.entries.length ec, .slice ka n.keys.length kc, .slice ia n.kids.length ic] 57 ∧ Blk wr (w.heap.size + 1) #[.bool n.leaf, .slice fa n.entries.length fc, .slice la n.keys.length lc, .slice ja n.kids.length jc] 57))
  case atStart => exact ⟨0, by omega, rfl, HW⟩
  case round =>
    obtain ⟨k, hkm, rfl, HW⟩ := hrel
    have hb1 := HW.out.2.1.lt
    have hb2 := HW.out.2.2.lt
    have b1 := HW.out.2.1.cell (o := 1) (v := .slice ea n.entries.length ec) rfl
    have d1 := HW.out.2.2.cell (o := 1) (v := .slice fa n.entries.length fc) rfl
    by_cases hlt : k < n.entries.length
    · obtain ⟨b, off, rfl, _, _, hc⟩ := Sl.at HEE.out HW.out.1 (fun _ _ f => f.elim) k hlt
      obtain ⟨b', off', rfl, _, _, hc'⟩ := Sl.at HFF.out HW.out.1 (fun _ _ f => f.elim) k hlt
      obtain ⟨x, hx⟩ : ∃ x, n.entries[k] = x := ⟨_, rfl⟩
      rw [hx] at hc hc'
      have c0 : wr.cell? ⟨b, off + k * 4, none⟩ = some (.string x.key) := hc 0 _ rfl
      have c1 : wr.cell? ⟨b, off + k * 4 + 1, none⟩ = some (.string x.value) := hc 1 _ rfl
      have c2 : wr.cell? ⟨b, off + k * 4 + 2, none⟩ = some (.int .i64 x.chain) := hc 2 _ rfl
      have c3 : wr.cell? ⟨b, off + k * 4 + 3, none⟩ = some (.int .i64 x.size) := hc 3 _ rfl
      have g0 : wr.cell? ⟨b', off' + k * 4, none⟩ = some (.string x.key) := hc' 0 _ rfl
      have g1 : wr.cell? ⟨b', off' + k * 4 + 1, none⟩ = some (.string x.value) := hc' 1 _ rfl
      have g2 : wr.cell? ⟨b', off' + k * 4 + 2, none⟩ = some (.int .i64 x.chain) := hc' 2 _ rfl
      have g3 : wr.cell? ⟨b', off' + k * 4 + 3, none⟩ = some (.int .i64 x.size) := hc' 3 _ rfl
      have q1 : (0 : Int) ≤ (k : Int) := by omega
      have q2 : (k : Int) < (n.entries.length : Int) := by omega
      clear hc hc' hx
      go_wp2_with fail
      go_quiet (fail)
      go_wp2_with fail
      go_roundg (gk - 1)
      case measure => omega
      case rel => exact ⟨k + 1, by omega, by go_num, Lib.hid ⟨HW.out.1.drewN _, HW.out.2.1.ext ((Mods.refl _ _).drewN _), HW.out.2.2.ext ((Mods.refl _ _).drewN _)⟩⟩
    · obtain ⟨w5, hw5⟩ : ∃ w5, w5 = wr := ⟨_, rfl⟩
      have HW5 : Hid (Ext w w5 ∧ Blk w5 w.heap.size #[.bool n.leaf, .slice ea n.entries.length ec, .slice ka n.keys.length kc, .slice ia n.kids.length ic] 57 ∧ Blk w5 (w.heap.size + 1) #[.bool n.leaf, .slice fa n.entries.length fc, .slice la n.keys.length lc, .slice ja n.kids.length jc] 57) := Lib.hid (by rw [hw5]; exact HW.out)
      rw [← hw5] at b1 d1 ⊢
      clear hw5 HW hb1 hb2 wr
      go_wp2_with fail
      go_loopg [6] n.kids.length (fun m v5 wr => ∃ (k : Nat), k + m = n.kids.length ∧ v5 = .int .i64 (k : Int) ∧ Hid (Ext w wr ∧ Blk wr w.heap.size #[.bool n.leaf, .slice ea n.entries.length ec, .slice ka n.keys.length kc, .slice ia n.kids.length ic] 57 ∧ Blk wr (w.heap.size + 1) #[.bool n.leaf, .slice fa n.entries.length fc, .slice la n.keys.length lc, .slice ja n.kids.length jc] 57))
      case atStart => exact ⟨0, by omega, rfl, HW5⟩
      case round =>
        obtain ⟨k, hkm, rfl, HW⟩ := hrel
        have hb1 := HW.out.2.1.lt
        have hb2 := HW.out.2.2.lt
        have b3 := HW.out.2.1.cell (o := 3) (v := .slice ia n.kids.length ic) rfl
        have d3 := HW.out.2.2.cell (o := 3) (v := .slice ja n.kids.length jc) rfl
        by_cases hlt : k < n.kids.length
        · obtain ⟨b, off, rfl, _, _, hc⟩ := Sl.at HII.out HW.out.1 (fun _ _ f => f.elim) k hlt
          obtain ⟨b', off', rfl, _, _, hc'⟩ := Sl.at HJJ.out HW.out.1 (fun _ _ f => f.elim) k hlt
          obtain ⟨x, hx⟩ : ∃ x, n.kids[k] = x := ⟨_, rfl⟩
          rw [hx] at hc hc'
          have c0 : wr.cell? ⟨b, off + k, none⟩ = some (.int .i64 x) := by have := hc 0 _ rfl; simpa using this
          have g0 : wr.cell? ⟨b', off' + k, none⟩ = some (.int .i64 x) := by have := hc' 0 _ rfl; simpa using this
          have q1 : (0 : Int) ≤ (k : Int) := by omega
          have q2 : (k : Int) < (n.kids.length : Int) := by omega
          clear hc hc' hx
          go_wp2_with fail
          go_quiet (fail)
          go_wp2_with fail
          go_roundg (gk - 1)
          case measure => omega
          case rel => exact ⟨k + 1, by omega, by go_num, Lib.hid ⟨HW.out.1.drewN _, HW.out.2.1.ext ((Mods.refl _ _).drewN _), HW.out.2.2.ext ((Mods.refl _ _).drewN _)⟩⟩
        · have b2 := HW.out.2.1.cell (o := 2) (v := .slice ka n.keys.length kc) rfl
          have d2 := HW.out.2.2.cell (o := 2) (v := .slice la n.keys.length lc) rfl
          have HST := Lib.hid (sameTexts_t (.slice ka n.keys.length kc) (.slice la n.keys.length lc) n.keys (HVK.out.ext HW.out.1) (HUK.out.ext HW.out.1))
          go_wp2_with fail
          refine (HST.out).mono ?_
          rintro e w6 ⟨rfl, hm6⟩
          have HM := Lib.hid (HW.out.1.trans hm6)
          clear hm6
          go_wp2_with fail
          go_ret
          exact ⟨rfl, HM.out⟩
end
end Go.Proofs.YtmgfneijcfjlfaaGreatDoor
