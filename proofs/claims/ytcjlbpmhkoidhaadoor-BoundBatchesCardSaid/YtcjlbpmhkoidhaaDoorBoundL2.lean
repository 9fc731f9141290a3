/- BoundBatches over the contracts. -/
import Derived.Test.YtcjlbpmhkoidhaaDoorBoundL
namespace Go.Proofs.YtcjlbpmhkoidhaaDoor
open Go.RowKit

set_option maxHeartbeats 1000000 in
theorem BoundBatches_any {F : Nat → Prop} {ad : Nat → Addr} {w : World} (hL : Env F ad w) (gb gs : Int) (wv iv : Value) (was is : List PairB) (hw : Sl F w 2 encP wv was) (hi : Sl F w 2 encP iv is) :
    Calls Tryd.prog 4 #[.agg #[.int .i64 gb, .int .i64 gs], wv, iv] w fun e w' => e = .returned (.bool true) ∧ Ext w w' := by
  have hx : ∃ a n c, wv = .slice a n c := by obtain ⟨a, c, h, _⟩ := hw; exact ⟨a, _, c, h⟩
  have hy : ∃ a n c, iv = .slice a n c := by obtain ⟨a, c, h, _⟩ := hi; exact ⟨a, _, c, h⟩
  have m0 : Ext w (w.alloc (.cells #[.int .i64 gb, .int .i64 gs] 34)) := (Mods.refl _ w).alloc _
  have HW := Lib.hid (hw.mods (Mods.ext m0))
  have HI := Lib.hid (hi.mods (Mods.ext m0))
  have HL := Lib.hid (hL.mods (Mods.ext m0))
  obtain ⟨a, n, c, rfl⟩ := hx
  obtain ⟨a', n', c', rfl⟩ := hy
  clear hw hi hL
  obtain ⟨C, hC⟩ : ∃ C, C = codeN gs [was, is] := ⟨_, rfl⟩
  have HC := Lib.hid hC
  clear hC
  go_enter Tryd.func4, Tryd.ntmps4
  go_wp2_with fail
  refine (Batch_any HL.out _ _ was is gs HW.out HI.out).mono ?_
  rw [← HC.out]
  rintro e w1 ⟨N, ev, rfl, hn, hr1, hm1⟩
  have HN := Lib.hid hn
  have HR1 := Lib.hid hr1
  have M1 := Lib.hid hm1
  have hbl : w.heap.size < w1.heap.size := by have := hm1.size; simp at this; omega
  have b0 : w1.cell? ⟨w.heap.size, 0, none⟩ = some (.int .i64 gb) := by rw [hm1.cell (by simp) (fun f => f)]; simp
  have b1 : w1.cell? ⟨w.heap.size, 1, none⟩ = some (.int .i64 gs) := by rw [hm1.cell (by simp) (fun f => f)]; simp
  clear hn hr1 hm1
  go_wp2_with fail
  refine (Safe_any (HL.out.mods (Mods.ext M1.out)) gb gs _ _ was is (HW.out.mods (Mods.ext M1.out)) (HI.out.mods (Mods.ext M1.out))).mono ?_
  rintro e w2 ⟨Y, fv, rfl, hy, hr2, hm2⟩
  have M2 := Lib.hid (M1.out.trans hm2)
  have HY := Lib.hid hy
  have HR2 := Lib.hid hr2
  have hbl2 : w.heap.size < w2.heap.size := Nat.lt_of_lt_of_le hbl hm2.size
  have b0' : w2.cell? ⟨w.heap.size, 0, none⟩ = some (.int .i64 gb) := (hm2.cell hbl (fun f => f)).trans b0
  have b1' : w2.cell? ⟨w.heap.size, 1, none⟩ = some (.int .i64 gs) := (hm2.cell hbl (fun f => f)).trans b1
  have HM2 := Lib.hid hm2
  clear hy hr2 b0 b1 hbl hm2
  go_wp2_with fail
  refine (code19_any _ _ was is gs _ (HW.out.mods (Mods.ext M2.out)) (HI.out.mods (Mods.ext M2.out))).mono ?_
  rw [← HC.out]
  rintro e w3 ⟨rfl, hm3⟩
  have M3 := Lib.hid (M2.out.trans hm3)
  have hbl3 : w.heap.size < w3.heap.size := Nat.lt_of_lt_of_le hbl2 hm3.size
  have b0'' : w3.cell? ⟨w.heap.size, 0, none⟩ = some (.int .i64 gb) := (hm3.cell hbl2 (fun f => f)).trans b0'
  have b1'' : w3.cell? ⟨w.heap.size, 1, none⟩ = some (.int .i64 gs) := (hm3.cell hbl2 (fun f => f)).trans b1'
  have HR1x := Lib.hid (HR1.out.mods (Mods.ext (HM2.out.trans hm3)))
  have HR2x := Lib.hid (HR2.out.mods (Mods.ext hm3))
  have HLx := Lib.hid (HL.out.mods (Mods.ext M3.out))
  clear b0' b1' hbl2 hm3
  go_wp2_with fail
  refine (tells19_any HLx.out C ev HR1x.out).mono ?_
  rintro e w' ⟨rfl, rfl⟩
  have hNz : C ≠ 0 → N = 0 := fun h => by rw [HN.out, if_neg h]
  have HNz := Lib.hid hNz
  clear hNz
  cases hg : rightG gb gs
  · have HCG : Hid (codeG gb gs [was, is] = 2) := Lib.hid (by unfold codeG; rw [hg]; rfl)
    have hY : Y = false := by rw [HY.out, HCG.out]; rfl
    have HR3 : Hid (IsRes F ad w3 2 fv) := Lib.hid (by rw [← HCG.out]; exact HR2x.out)
    subst hY
    by_cases hc : C = 0
    · have hz : ((C : Int) != 0) = false := by simp; omega
      clear hc
      go_wp2_with fail
      refine (Right04_any gb gs _).mono ?_
      rw [hg]
      rintro e w4 ⟨rfl, hm4⟩
      go_wp2_with fail
      refine (tells19_any (HLx.out.mods (Mods.ext hm4)) 2 fv (HR3.out.mods (Mods.ext hm4))).mono ?_
      rintro e w' ⟨rfl, rfl⟩
      go_wp2_with fail
      refine (awake19_any (HLx.out.mods (Mods.ext hm4))).mono ?_
      rintro e w5 ⟨rfl, hm5⟩
      go_wp2
      go_ret
      exact ⟨rfl, ((m0.trans M3.out).trans hm4).trans hm5⟩
    · have hN : N = 0 := HNz.out hc
      have hz : ((C : Int) != 0) = true := by simp; omega
      clear hc
      subst hN
      go_wp2_with fail
      refine (Right04_any gb gs _).mono ?_
      rw [hg]
      rintro e w4 ⟨rfl, hm4⟩
      go_wp2_with fail
      refine (tells19_any (HLx.out.mods (Mods.ext hm4)) 2 fv (HR3.out.mods (Mods.ext hm4))).mono ?_
      rintro e w' ⟨rfl, rfl⟩
      go_wp2_with fail
      refine (awake19_any (HLx.out.mods (Mods.ext hm4))).mono ?_
      rintro e w5 ⟨rfl, hm5⟩
      go_wp2
      go_ret
      exact ⟨rfl, ((m0.trans M3.out).trans hm4).trans hm5⟩
  · have HCG : Hid (codeG gb gs [was, is] = C) := Lib.hid (by unfold codeG; rw [hg, HC.out]; rfl)
    have HR3 : Hid (IsRes F ad w3 C fv) := Lib.hid (by rw [← HCG.out]; exact HR2x.out)
    by_cases hc : C = 0
    · obtain ⟨s1, s2, hrw, hri⟩ := code_two gs was is (by rw [← HC.out, hc])
      have hN : N = batchN was is gs := by rw [HN.out, if_pos hc]
      have hY : Y = decide (batchN was is gs ≤ gb) := by rw [HY.out, HCG.out, if_pos hc]
      have hfv : fv = .nilIface := by
        rcases HR3.out with ⟨_, h⟩ | ⟨h, _⟩
        · exact h
        · exact absurd hc h
      have HRW := Lib.hid (rightFrom_mem was _ hrw)
      have HRI := Lib.hid (rightFrom_mem is _ hri)
      have hz : ((C : Int) != 0) = false := by simp; omega
      clear hc hrw hri
      subst hN hY hfv
      go_wp2_with fail
      refine (Right04_any gb gs _).mono ?_
      rw [hg]
      rintro e w4 ⟨rfl, hm4⟩
      have b1z : w4.cell? ⟨w.heap.size, 1, none⟩ = some (.int .i64 gs) := (hm4.cell hbl3 (fun f => f)).trans b1''
      have b0z : w4.cell? ⟨w.heap.size, 0, none⟩ = some (.int .i64 gb) := (hm4.cell hbl3 (fun f => f)).trans b0''
      have hbl4 : w.heap.size < w4.heap.size := Nat.lt_of_lt_of_le hbl3 hm4.size
      have M4 := Lib.hid (M3.out.trans hm4)
      clear hm4
      go_wp2_with fail
      refine (Batch19_any _ _ was is gs _ (HW.out.mods (Mods.ext M4.out)) (HI.out.mods (Mods.ext M4.out)) HRW.out HRI.out s1 s2).mono ?_
      rintro e w5 ⟨rfl, hm5⟩
      have b0y : w5.cell? ⟨w.heap.size, 0, none⟩ = some (.int .i64 gb) := (hm5.cell hbl4 (fun f => f)).trans b0z
      go_wp2_with fail
      refine (awake19_any (HL.out.mods (Mods.ext (M4.out.trans hm5)))).mono ?_
      rintro e w6 ⟨rfl, hm6⟩
      go_wp2
      go_ret
      exact ⟨rfl, ((m0.trans M4.out).trans hm5).trans hm6⟩
    · have hN : N = 0 := HNz.out hc
      have hY : Y = false := by rw [HY.out, HCG.out, if_neg hc]
      have hz : ((C : Int) != 0) = true := by simp; omega
      clear hc
      subst hN hY
      go_wp2_with fail
      refine (Right04_any gb gs _).mono ?_
      rw [hg]
      rintro e w4 ⟨rfl, hm4⟩
      go_wp2_with fail
      refine (tells19_any (HLx.out.mods (Mods.ext hm4)) C fv (HR3.out.mods (Mods.ext hm4))).mono ?_
      rintro e w' ⟨rfl, rfl⟩
      go_wp2_with fail
      refine (awake19_any (HLx.out.mods (Mods.ext hm4))).mono ?_
      rintro e w5 ⟨rfl, hm5⟩
      go_wp2
      go_ret
      exact ⟨rfl, ((m0.trans M3.out).trans hm4).trans hm5⟩
end Go.Proofs.YtcjlbpmhkoidhaaDoor
