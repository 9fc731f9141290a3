/- The references of layer 19: what they compute is what the program computes. -/
import Derived.Test.YtcjlbpmhkoidhaaDoorBoundW4
namespace Go.Proofs.YtcjlbpmhkoidhaaDoor
open Go.RowKit

theorem key07_any (s : ByteArray) (w : World) : Calls Tryd.prog 36 #[.string s] w fun e w' => e = .returned (.bool (keyB s)) ∧ w' = w := by
  by_cases h1 : 1 ≤ (s.size : Int)
  · have h2 := Lib.hid h1
    go_enter Tryd.func36, Tryd.ntmps36
    go_wp2
    go_ret
    exact ⟨ret_bool (by have := h2.out; simp only [keyB]; rw [decide_eq_true this]; simp), rfl⟩
  · have h2 := Lib.hid h1
    have h3 : ¬ 0 < (s.size : Int) := by omega
    go_enter Tryd.func36, Tryd.ntmps36
    go_wp2
    go_ret
    exact ⟨ret_bool (by have := h2.out; simp only [keyB]; rw [decide_eq_false (by omega)]; simp), rfl⟩

theorem Right04_any (b s : Int) (w : World) : Calls Tryd.prog 16 #[.agg #[.int .i64 b, .int .i64 s]] w fun e w' => e = .returned (.bool (rightG b s)) ∧ Ext w w' := by
  by_cases h1 : 8 ≤ b
  · by_cases h2 : b ≤ 256
    · by_cases h3 : 256 ≤ s
      · have HR : Hid (rightG b s = (decide (8 ≤ b) && decide (b ≤ 256) && decide (256 ≤ s) && decide (s ≤ 1024))) := Lib.hid rfl
        go_enter Tryd.func16, Tryd.ntmps16
        go_wp2
        go_ret
        exact ⟨ret_bool (by rw [HR.out]; simp; try omega), (Mods.refl _ w).alloc _⟩
      · have HR : Hid (rightG b s = (decide (8 ≤ b) && decide (b ≤ 256) && decide (256 ≤ s) && decide (s ≤ 1024))) := Lib.hid rfl
        go_enter Tryd.func16, Tryd.ntmps16
        go_wp2
        go_ret
        exact ⟨ret_bool (by rw [HR.out]; simp; try omega), (Mods.refl _ w).alloc _⟩
    · have HR : Hid (rightG b s = (decide (8 ≤ b) && decide (b ≤ 256) && decide (256 ≤ s) && decide (s ≤ 1024))) := Lib.hid rfl
      go_enter Tryd.func16, Tryd.ntmps16
      go_wp2
      go_ret
      exact ⟨ret_bool (by rw [HR.out]; simp; try omega), (Mods.refl _ w).alloc _⟩
  · have HR : Hid (rightG b s = (decide (8 ≤ b) && decide (b ≤ 256) && decide (256 ≤ s) && decide (s ≤ 1024))) := Lib.hid rfl
    go_enter Tryd.func16, Tryd.ntmps16
    go_wp2
    go_ret
    exact ⟨ret_bool (by rw [HR.out]; simp; try omega), (Mods.refl _ w).alloc _⟩

theorem leS_empty (s : ByteArray) (h : keyB s = true) : leS s ⟨#[]⟩ = false := by
  have hs := ((keyB_iff s).1 h).1
  have hl : (⟨#[]⟩ : ByteArray).toList = [] := by rw [ByteArray.toList_eq]
  have hne : s.toList ≠ [] := by
    intro e
    have := congrArg List.length e
    rw [ByteArray.toList_eq] at this
    simp at this
    rw [this] at hs
    simp at hs
  unfold leS
  rw [hl]
  cases hst : s.toList with
  | nil => exact absurd hst hne
  | cons a r => rfl

set_option maxHeartbeats 1000000 in
theorem Right19_any {F : Nat → Prop} (lv : Value) (l : List PairB) (w : World) (hl : Sl F w 2 encP lv l) :
    Calls Tryd.prog 23 #[lv] w fun e w' => e = .returned (.bool (rightP l)) ∧ Ext w w' := by
  obtain ⟨a, cap, rfl, h1, h2, h3, h4⟩ := hl
  unfold maxLen at h2
  go_enter Tryd.func23, Tryd.ntmps23
  go_wp2
  go_loopg [3] l.length (fun n i wr => ∃ k : Nat, ∃ lk : ByteArray, k + n = l.length ∧ i = .int .i64 k ∧ Hid (rightFrom lk (l.drop k) = rightP l) ∧ Hid (k = 0 → lk = ⟨#[]⟩) ∧ Hid (∀ h : k - 1 < l.length, 0 < k → lk = l[k - 1].1) ∧ Ext w wr)
  case atStart => exact ⟨0, ⟨#[]⟩, by omega, rfl, Lib.hid rfl, Lib.hid (fun _ => rfl), Lib.hid (fun _ h => by omega), Mods.refl _ _⟩
  case round =>
    obtain ⟨k, lk, hk, rfl, HQ, H0, H1, hm⟩ := hrel
    by_cases hlt : k < l.length
    · obtain ⟨b, off, rfl, hb, hF, hc⟩ := Sl.atE h4 hm k hlt
      have d0 := hc 0 _ rfl
      have d1 := hc 1 _ rfl
      simp only [Nat.add_zero] at d0
      have hrd := HQ.out
      rw [rightFrom_drop lk l k hlt] at hrd
      have HRD := Lib.hid hrd
      clear hrd HQ hc
      have i1 : (0 : Int) ≤ (k : Int) := by omega
      have i2 : (k : Int) < (l.length : Int) := by omega
      cases hkb : keyB l[k].1
      · have hf := Lib.hid (show rightP l = false by rw [← HRD.out, hkb]; rfl)
        clear h4
        go_wp2
        go_quiet ((go_at_call 36; exact Calls.quiet_of_same (key07_any _ _)))
        go_wp2
        go_ret
        exact ⟨ret_bool hf.out.symm, hm.drewN _⟩
      · by_cases hsz : l[k].2.size ≤ 4096
        · have hs1 : decide ((4096 : Int) < (l[k].2.size : Int)) = false := by simp; omega
          by_cases hk0 : k = 0
          · have hlk := H0.out hk0
            have hnext : Hid (rightFrom l[k].1 (l.drop (k + 1)) = rightP l) := Lib.hid (by rw [← HRD.out, hkb, hlk, leS_empty _ hkb]; simp [hsz])
            have hz : decide (0 < k) = false := by simp; omega
            have HK := Lib.hid hk0
            clear hk0 hlk h4
            go_wp2
            go_quiet ((go_at_call 36; exact Calls.quiet_of_same (key07_any _ _)))
            go_wp2
            go_roundg (gk - 1)
            case measure => omega
            case rel => exact ⟨k + 1, l[k].1, by omega, by go_num, hnext, Lib.hid (fun h => by omega), Lib.hid (fun _ _ => by simp), hm.drewN _⟩
          · have hlk := H1.out (by omega) (by omega)
            obtain ⟨b', off', ha, _, _, hc'⟩ := Sl.atE h4 hm (k - 1) (by omega)
            obtain ⟨rfl, rfl⟩ : b = b' ∧ off = off' := by simp at ha; exact ha
            have d2 := hc' 0 _ rfl
            simp only [Nat.add_zero] at d2
            rw [← hlk] at d2
            have hz : decide (0 < k) = true := by simp; omega
            have i3 : (0 : Int) ≤ (k : Int) - 1 := by omega
            have i4 : (k : Int) - 1 < (l.length : Int) := by omega
            have i5 : ((k : Int) - 1).toNat = k - 1 := by omega
            have HK := Lib.hid hk0
            have hle : (Op.bytesLess l[k].1.toList lk.toList || l[k].1.toList == lk.toList) = leS l[k].1 lk := rfl
            clear hk0 hlk ha hc' h4
            cases hlb : leS l[k].1 lk
            · rw [hlb] at hle
              have hnext : Hid (rightFrom l[k].1 (l.drop (k + 1)) = rightP l) := Lib.hid (by rw [← HRD.out, hkb, hlb]; simp [hsz])
              go_wp2
              go_quiet ((go_at_call 36; exact Calls.quiet_of_same (key07_any _ _)))
              go_wp2
              go_roundg (gk - 1)
              case measure => omega
              case rel => exact ⟨k + 1, l[k].1, by omega, by go_num, hnext, Lib.hid (fun h => by omega), Lib.hid (fun _ _ => by simp), hm.drewN _⟩
            · rw [hlb] at hle
              have hf := Lib.hid (show rightP l = false by rw [← HRD.out, hkb, hlb]; rfl)
              go_wp2
              go_quiet ((go_at_call 36; exact Calls.quiet_of_same (key07_any _ _)))
              go_wp2
              go_ret
              exact ⟨ret_bool hf.out.symm, hm.drewN _⟩
        · have hs1 : decide ((4096 : Int) < (l[k].2.size : Int)) = true := by simp; omega
          have hf := Lib.hid (show rightP l = false by rw [← HRD.out, hkb]; simp [hsz])
          clear h4
          go_wp2
          go_quiet ((go_at_call 36; exact Calls.quiet_of_same (key07_any _ _)))
          go_wp2
          go_ret
          exact ⟨ret_bool hf.out.symm, hm.drewN _⟩
    · have hke : k = l.length := by omega
      have hf : Hid (rightP l = true) := Lib.hid (by rw [← HQ.out, hke, List.drop_length]; rfl)
      clear HQ hke h4
      go_wp2
      go_ret
      exact ⟨ret_bool hf.out.symm, hm⟩
end Go.Proofs.YtcjlbpmhkoidhaaDoor
