/- CursorAll, walked. -/
import Derived.Test.YtepafbokbfcbgaaGreatDoorK51
namespace Go.Proofs.YtepafbokbfcbgaaGreatDoor
open Go.RowKit
attribute [local go_sem ↓] Go.wp_at_zero Go.wp_at_succ
theorem stepI_on {n k : Nat} (h : k < n) (b : Int) : stepI n (k : Int) b = (k : Int) + b := by
  unfold stepI
  exact if_pos (decide_eq_true ⟨by omega, by omega⟩)
theorem onI_no {n : Nat} {i : Int} (h : i < 0 ∨ (n : Int) ≤ i) : onI n i = false := decide_eq_false (by omega)
set_option maxRecDepth 100000 in
set_option maxHeartbeats 2000000 in
theorem CursorAll_any {ad : Nat → Addr} {w : World} (hL : Env NoB ad w) (hfu : Full ad) (l : List PairS) (lv : Value) (hl : Sl NoB w 2 encP lv l) (E K : Nat) (hE : E < 256) (hK : K < 256) :
    Calls Tryz.prog 7 #[.agg #[lv, .int .u8 (E : Int), .int .u8 (K : Int)]] w fun e w' => e = .returned (.bool true) ∧ Ext w w' := by
  have HL := Lib.hid hL
  have HFU := Lib.hid hfu
  have m0 : Ext w (w.alloc (.cells #[lv, .int .u8 (E : Int), .int .u8 (K : Int)] 50)) := (Mods.refl _ w).alloc _
  have HMD := Lib.hid (made_any (hL.mods m0.ext) l lv (hl.ext m0) E K hE hK)
  have HM0 := Lib.hid m0
  have HTL : Hid ((tameP 300 l).length ≤ 1000) := Lib.hid (by have := (tameP_ok 300 l).len; omega)
  obtain ⟨L, hLL⟩ : ∃ L, L = tameP 300 l := ⟨_, rfl⟩
  rw [← hLL] at HMD HTL
  obtain ⟨la, lc, rfl, _, _, _, _⟩ := hl
  clear hL hfu m0 hLL
  go_enter Tryz.func7, Tryz.ntmps7
  go_wp2_with fail
  refine (HMD.out).mono ?_
  rintro e w1 ⟨kb, va, vc, w0, root, D, G, rfl, hm1, hsl, hC, hG, hT, hD⟩
  have HM1 := Lib.hid (HM0.out.trans hm1)
  have HC := Lib.hid hC
  have HSL := Lib.hid hsl
  have HG := Lib.hid hG
  have HT := Lib.hid hT
  have HD := Lib.hid hD
  have HF := Lib.hid (first_cl hC hG hT)
  have htl := HTL.out
  clear hm1 hsl hC hG hT hD
  go_wp2_with fail
  refine (HF.out).mono ?_
  rintro e w2 ⟨rfl, hC⟩
  have HC2 := Lib.hid hC
  clear hC
  go_wp2_with fail
  go_loopg [6] L.length (fun m v6 wr => ∃ (k : Nat), k + m = L.length ∧ v6 = .int .i64 (k : Int) ∧ Hid (CLS ad w0 wr kb root G L D (k : Int)))
  case atStart => exact ⟨0, by omega, rfl, HC2⟩
  case round =>
    obtain ⟨k, hkm, rfl, HCk⟩ := hrel
    by_cases hlt : k < L.length
    · have HSM := Lib.hid (same12_any HFU.out HCk.out HSL.out)
      have i2 : (k : Int) < (L.length : Int) := by omega
      go_wp2_with fail
      refine (HSM.out).mono ?_
      rintro e w3 ⟨rfl, hC⟩
      have hnx := next_cl hC HG.out HD.out
      rw [stepI_on hlt] at hnx
      have HNX := Lib.hid hnx
      clear hC hnx
      go_wp2_with fail
      refine (HNX.out).mono ?_
      rintro e w4 ⟨rfl, hC⟩
      have HC4 := Lib.hid hC
      clear hC
      go_wp2_with fail
      go_roundg (gk - 1)
      case measure => omega
      case rel => exact ⟨k + 1, by omega, by go_num, HC4⟩
    · have hk : k = L.length := by omega
      subst hk
      have hon := on_cl HCk.out
      rw [onI_no (.inr (Int.le_refl _))] at hon
      have HON := Lib.hid hon
      have HLA := Lib.hid (last_cl HCk.out HG.out HT.out)
      have u1 : IntKind.i64.wrap ((L.length : Int) - 1) = (L.length : Int) - 1 := by rw [IntWalk.i64_in _ (by omega)]
      clear hon hkm
      go_wp2_with fail
      refine (HON.out).mono ?_
      rintro e w5 ⟨rfl, rfl⟩
      go_wp2_with fail
      refine (HLA.out).mono ?_
      rintro e w5 ⟨rfl, hC⟩
      have HC5 := Lib.hid hC
      clear hC HON HLA
      obtain ⟨z0, hz0⟩ : ∃ z0, z0 = (L.length : Int) - 1 := ⟨_, rfl⟩
      rw [← hz0] at HC5
      have HZ0 := Lib.hid hz0
      obtain ⟨wo, rfl⟩ : ∃ wo : World, wo = wr := ⟨_, rfl⟩
      clear HCk hlt
      go_wp2_with fail
      clear hz0
      go_loopg [7] L.length (fun m v7 wr => ∃ (z : Int), z < (m : Int) ∧ (m : Int) < z + 2 ∧ m ≤ 1000 ∧ v7 = .int .i64 z ∧ Hid (CLS ad w0 wr kb root G L D z ∧ z < (L.length : Int)))
      case atStart => exact ⟨z0, by have := HZ0.out; omega, by have := HZ0.out; omega, htl, by rw [HZ0.out], Lib.hid ⟨HC5.out, by have := HZ0.out; omega⟩⟩
      case round =>
        obtain ⟨z, hz1, hz2, hz3, rfl, HCz⟩ := hrel
        by_cases hz : 0 ≤ z
        · obtain ⟨q, rfl⟩ : ∃ q : Nat, z = (q : Int) := ⟨z.toNat, by omega⟩
          have HSM := Lib.hid (same12_any HFU.out HCz.out.1 HSL.out)
          have hql : q < L.length := by have := HCz.out.2; omega
          have HQL := Lib.hid hql
          have hzd : decide ((q : Int) ≥ 0) = true := decide_eq_true (by omega)
          clear hz
          go_wp2_with fail
          refine (HSM.out).mono ?_
          rintro e w6 ⟨rfl, hC⟩
          have hpv := prev_cl hC HG.out HD.out
          rw [stepI_on HQL.out, show (q : Int) + -1 = (q : Int) - 1 from rfl] at hpv
          have HPV := Lib.hid hpv
          clear hC hpv
          go_wp2_with fail
          refine (HPV.out).mono ?_
          rintro e w7 ⟨rfl, hC⟩
          have HC7 := Lib.hid hC
          clear hC
          have u2 : IntKind.i64.wrap ((q : Int) - 1) = (q : Int) - 1 := by rw [IntWalk.i64_in _ (by omega)]
          have HU2 := Lib.hid u2
          go_wp2_with fail
          go_roundg (gk - 1)
          case measure => omega
          case rel => exact ⟨(q : Int) - 1, by omega, by omega, by omega, by first | rfl | go_num, Lib.hid ⟨HC7.out, by have := HQL.out; omega⟩⟩
        · have hon := on_cl HCz.out.1
          rw [onI_no (.inl (by omega))] at hon
          have HON := Lib.hid hon
          have HX := Lib.hid (HM1.out.trans HCz.out.1.ext0)
          have HAW := Lib.hid (awake12_any (HL.out.mods HX.out.ext))
          have hzd : decide (z ≥ 0) = false := decide_eq_false hz
          clear hon hz1 hz2 hz3
          go_wp2_with fail
          refine (HON.out).mono ?_
          rintro e w6 ⟨rfl, rfl⟩
          go_wp2_with fail
          refine (HAW.out).mono ?_
          rintro e w6 ⟨rfl, hm6⟩
          have HM6 := Lib.hid (HX.out.trans hm6)
          clear hm6
          go_wp2_with fail
          go_ret
          exact ⟨rfl, HM6.out⟩
end Go.Proofs.YtepafbokbfcbgaaGreatDoor
