/- node.Key, node.Weight. -/
import Derived.Test.YtcjlbpmhkoidhaaDoorFault
import Derived.Test.YtcjlbpmhkoidhaaDoorDefs
namespace Go.Proofs.YtcjlbpmhkoidhaaDoor
open Go.RowKit

theorem key_any (s : ByteArray) (w : World) : Calls Tryd.prog 32 #[.string s] w fun e w' => e = .returned (.bool (keyB s)) ∧ w = w' := by
  by_cases h1 : 1 ≤ (s.size : Int)
  all_goals
    have h2 := Lib.hid h1
    go_enter Tryd.func32, Tryd.ntmps32
    go_wp2
    go_ret
    exact ⟨ret_bool (by have := h2.out; simp only [keyB]; first | (rw [decide_eq_true this]; simp) | (rw [decide_eq_false (by omega)]; simp)), rfl⟩

theorem sumE_one (l : List EntryA) (k : Nat) (h : k < l.length) : sumE (l.take (k + 1)) = sumE (l.take k) + weightE l[k] := by
  rw [take_one l k l[k] (by simp [h]), sumE_append]; simp [sumE]
theorem sumK_one (l : List ByteArray) (k : Nat) (h : k < l.length) : sumK (l.take (k + 1)) = sumK (l.take k) + (5 + (l[k].size : Int)) := by
  rw [take_one l k l[k] (by simp [h]), sumK_append]; simp [sumK]

set_option maxHeartbeats 400000 in
theorem weight_any {F : Nat → Prop} (n : NodeA) (ve vk vi : Value) (w : World) (hve : Sl F w 4 encE ve n.entries) (hvk : Sl F w 1 encS vk n.keys) (hb : weightN n ≤ 4611686018427387904) :
    Calls Tryd.prog 33 #[.agg #[.bool n.leaf, ve, vk, vi]] w fun e w' => e = .returned (.int .i64 (weightN n)) ∧ Ext w w' := by
  obtain ⟨ae, ce, rfl, he1, he2, he3, hee⟩ := hve
  obtain ⟨ak, ck, rfl, hk1, hk2, hk3, hkk⟩ := hvk
  unfold maxLen at he2 hk2
  have hsk := sumK_nonneg n.keys
  have hse := sumE_nonneg n.entries
  obtain ⟨L, hL⟩ : ∃ L : Int, L = if n.leaf then 0 else 4 := ⟨_, rfl⟩
  have hw0 : weightN n = 2 + L + sumE n.entries + sumK n.keys := by rw [hL]; rfl
  have hL12 : 0 ≤ L ∧ L ≤ 4 := by rw [hL]; split <;> omega
  obtain ⟨hL1, hL2⟩ := hL12
  have hbb : 2 + L + sumE n.entries + sumK n.keys ≤ 4611686018427387904 := by omega
  have HW := Lib.hid hw0
  clear hw0 hb
  cases hleaf : n.leaf
  all_goals
    have HL : Hid (L = _) := Lib.hid (by rw [hL, hleaf])
    clear hL hleaf
    go_enter Tryd.func33, Tryd.ntmps33
    go_wp2
    go_loopg [3, 16] n.entries.length (fun m t i wr => ∃ k : Nat, ∃ z : Int, k + m = n.entries.length ∧ i = .int .i64 k ∧ t = .int .i64 z ∧ Hid (z = 2 + L + sumE (n.entries.take k)) ∧ Ext w wr ∧ wr.cell? ⟨w.heap.size, 2, none⟩ = some (.slice ak n.keys.length ck))
    case atStart => exact ⟨0, _, by omega, rfl, rfl, by have := HL.out; simp at this; simp [Hid, sumE, this], (Mods.refl _ _).alloc _, by go_cell⟩
    case round =>
      obtain ⟨k, z, hk, rfl, rfl, HZ, hm, hkc⟩ := hrel
      have hs1 := sumE_take_le n.entries k
      have hs2 := sumE_nonneg (n.entries.take k)
      have hz1 : 0 ≤ z := by rw [HZ.out]; omega
      have hz2 : z ≤ 4611686018427387904 := by rw [HZ.out]; omega
      by_cases hlt : k < n.entries.length
      · obtain ⟨b, off, rfl, hb, hF, hc⟩ := Sl.at hee hm (fun _ _ f => f.elim) k hlt
        have c0 := hc 0 _ rfl
        simp only [Nat.add_zero] at c0
        have c1 := hc 1 _ rfl
        have c2 := hc 2 _ rfl
        have c3 := hc 3 _ rfl
        clear hc hee
        have hs := sumE_one n.entries k hlt
        have hs3 := sumE_take_le n.entries (k + 1)
        have hwe : weightE n.entries[k] = 2 + n.entries[k].key.size + (if n.entries[k].chain = 0 then 1 + (n.entries[k].value.size : Int) else 8) := rfl
        by_cases hz0 : n.entries[k].chain = 0
        · rw [if_pos hz0] at hwe
          have hzb : (n.entries[k].chain == 0) = true := beq_iff_eq.2 hz0
          have hb3 : 2 + L + sumE (n.entries.take k) + (2 + n.entries[k].key.size + (1 + (n.entries[k].value.size : Int))) ≤ 4611686018427387904 := by omega
          have hz3 : z + (2 + n.entries[k].key.size + (1 + (n.entries[k].value.size : Int))) ≤ 4611686018427387904 := by rw [HZ.out]; omega
          have HS := Lib.hid hs
          have HE := Lib.hid hwe
          have H0 := Lib.hid hz0
          clear hs hwe hz0
          go_wp2
          go_roundg (gk - 1)
          case measure => omega
          case rel => exact ⟨k + 1, _, by omega, by go_num, rfl, Lib.hid (by rw [HS.out, HE.out, HZ.out]; omega), ((hm.alloc _)), cell_alloc hkc _⟩
        · rw [if_neg hz0] at hwe
          have hzb : (n.entries[k].chain == 0) = false := beq_eq_false_iff_ne.2 hz0
          have hz3 : z + (2 + n.entries[k].key.size + 8) ≤ 4611686018427387904 := by rw [HZ.out]; omega
          have HS := Lib.hid hs
          have HE := Lib.hid hwe
          have H0 := Lib.hid hz0
          clear hs hwe hz0
          go_wp2
          go_roundg (gk - 1)
          case measure => omega
          case rel => exact ⟨k + 1, _, by omega, by go_num, rfl, Lib.hid (by rw [HS.out, HE.out, HZ.out]; omega), ((hm.alloc _)), cell_alloc hkc _⟩
      · have hke : k = n.entries.length := by omega
        have hzz : Hid (z = 2 + L + sumE n.entries) := Lib.hid (by rw [HZ.out, hke, List.take_length])
        clear HZ hke hee hs1 hs2
        go_wp2
        obtain ⟨wo, rfl⟩ : ∃ wo : World, wo = wr := ⟨_, rfl⟩
        go_loopg [3, 41] n.keys.length (fun m t i wr => ∃ k : Nat, ∃ y : Int, k + m = n.keys.length ∧ i = .int .i64 k ∧ t = .int .i64 y ∧ Hid (y = 2 + L + sumE n.entries + sumK (n.keys.take k)) ∧ Ext w wr)
        case atStart => exact ⟨0, _, by omega, rfl, rfl, Lib.hid (by rw [hzz.out]; simp [sumK]), hm⟩
        case round =>
          obtain ⟨k, y, hk, rfl, rfl, HY, hm⟩ := hrel
          have hs1 := sumK_take_le n.keys k
          have hs2 := sumK_nonneg (n.keys.take k)
          have hy1 : 0 ≤ y := by rw [HY.out]; omega
          have hy2 : y ≤ 4611686018427387904 := by rw [HY.out]; omega
          by_cases hlt : k < n.keys.length
          · obtain ⟨b, off, rfl, hb, hF, hc⟩ := Sl.at hkk hm (fun _ _ f => f.elim) k hlt
            have c0 := hc 0 _ rfl
            simp only [Nat.mul_one, Nat.add_zero] at c0
            clear hc hkk
            have hs := sumK_one n.keys k hlt
            have hs3 := sumK_take_le n.keys (k + 1)
            have hz3 : y + (5 + (n.keys[k].size : Int)) ≤ 4611686018427387904 := by rw [HY.out]; omega
            have HS := Lib.hid hs
            clear hs
            go_wp2
            go_roundg (gk - 1)
            case measure => omega
            case rel => exact ⟨k + 1, _, by omega, by go_num, rfl, Lib.hid (by rw [HS.out, HY.out]; omega), hm⟩
          · have hke : k = n.keys.length := by omega
            have hyy : Hid (y = weightN n) := Lib.hid (by rw [HY.out, hke, List.take_length, HW.out])
            clear HY hke
            go_wp2
            go_ret
            exact ⟨ret_int hyy.out, hm⟩
end Go.Proofs.YtcjlbpmhkoidhaaDoor
