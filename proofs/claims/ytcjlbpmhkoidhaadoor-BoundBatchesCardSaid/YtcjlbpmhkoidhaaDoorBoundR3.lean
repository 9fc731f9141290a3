/- The references of layer 19, to their end: Depth, Least. -/
import Derived.Test.YtcjlbpmhkoidhaaDoorBoundR2
namespace Go.Proofs.YtcjlbpmhkoidhaaDoor
open Go.RowKit

/-- how deep a tree is at most. -/
def depthN (n : Int) : Int := if n < 1 then 0 else (Lib.bitLen n.toNat : Int)

theorem Depth19_any (n : Int) (w : World) (h0 : 0 ≤ n) (h1 : n ≤ 9223372036854775807) :
    Calls Tryd.prog 10 #[.int .i64 n] w fun e w' => e = .returned (.int .i64 (depthN n)) ∧ w = w' := by
  have hd : Hid (depthN n = (Lib.bitLen n.toNat : Int)) := Lib.hid (by
    unfold depthN; split
    · have : n = 0 := by omega
      subst this; rfl
    · rfl)
  have hle : Lib.bitLen n.toNat ≤ 64 := by
    unfold Lib.bitLen
    have : ∀ f x, Lib.bitLenAux f x ≤ f := by
      intro f; induction f with
      | zero => intro x; simp [Lib.bitLenAux]
      | succ f ih => intro x; simp only [Lib.bitLenAux]; split; omega; have := ih (x / 2); omega
    exact this 64 _
  go_enter Tryd.func10, Tryd.ntmps10
  go_wp2
  go_loopg [0, 3] n.toNat (fun m i t wr => ∃ z d : Nat, wr = w ∧ i = .int .i64 z ∧ t = .int .i64 d ∧ (z : Int) ≤ n ∧ m = z ∧ Hid (d + Lib.bitLen z = Lib.bitLen n.toNat))
  case atStart => exact ⟨n.toNat, 0, rfl, by rw [Int.toNat_of_nonneg h0], rfl, by omega, rfl, Lib.hid (by omega)⟩
  case round =>
    obtain ⟨z, d, rfl, rfl, rfl, hz, hm, HZ⟩ := hrel
    have hd64 : d ≤ 64 := by have := HZ.out; omega
    by_cases hz0 : 0 < z
    · have hb := Lib.bitLen_half z (by omega) (by omega)
      have HB := Lib.hid hb
      have HM := Lib.hid hm
      clear hb hm
      go_wp2
      go_roundg (z / 2)
      case measure => have := HM.out; omega
      case rel => exact ⟨z / 2, d + 1, rfl, by go_num, by go_num, by omega, rfl, Lib.hid (by have := HB.out; have := HZ.out; omega)⟩
    · have he : z = 0 := by omega
      have HD : Hid ((d : Int) = depthN n) := Lib.hid (by rw [hd.out]; have := HZ.out; rw [he, show Lib.bitLen 0 = 0 from rfl] at this; omega)
      clear he hm
      go_wp2
      go_ret
      exact ⟨ret_int HD.out, rfl⟩

theorem ceil_iff (p b r : Int) (hr : 0 < r) : p < (b + r - 1) / r ↔ p * r < b := by
  rw [← Int.add_one_le_iff, Int.le_ediv_iff_mul_le hr, Int.add_mul]; omega

set_option maxHeartbeats 400000 in
theorem Least19_any {F : Nat → Prop} (lv : Value) (l : List PairB) (size : Int) (w : World) (hl : Sl F w 2 encP lv l) (hr : ∀ p ∈ l, p.1.size ≤ 32 ∧ p.2.size ≤ 4096) (h256 : 256 ≤ size) (h1024 : size ≤ 1024) :
    Calls Tryd.prog 13 #[lv, .int .i64 size] w fun e w' => e = .returned (.int .i64 (leastN l size)) ∧ Ext w w' := by
  have hl0 := Lib.hid hl
  obtain ⟨a, cap, rfl, h1, h2, h3, h4⟩ := hl
  unfold maxLen at h2
  have hw := weighs_le l hr
  obtain ⟨w1, w2⟩ := hw
  have hcb := chains_le size l hr
  obtain ⟨c1, c2⟩ := hcb
  have HR := Lib.hid hr
  clear hr
  go_enter Tryd.func13, Tryd.ntmps13
  go_wp2
  go_loopg [5, 6] l.length (fun n t i wr => ∃ k : Nat, ∃ z : Int, k + n = l.length ∧ i = .int .i64 k ∧ t = .int .i64 z ∧ Hid (z = sumBy weighP (l.take k)) ∧ Ext w wr)
  case atStart => exact ⟨0, 0, by omega, rfl, rfl, Lib.hid rfl, Mods.refl _ _⟩
  case round =>
    obtain ⟨k, z, hk, rfl, rfl, HZ, hm⟩ := hrel
    by_cases hlt : k < l.length
    · obtain ⟨b, off, rfl, hb, hF, hc⟩ := Sl.atE h4 hm k hlt
      have d0 := hc 0 _ rfl
      have d1 := hc 1 _ rfl
      simp only [Nat.add_zero] at d0
      clear hc h4
      have hs := Lib.hid (sumBy_take weighP l k l[k] (by simp [hlt]))
      have hb1 := weighs_le (l.take k) (fun x hx => HR.out x (mem_take hx))
      have hb2 := HR.out l[k] (by simp)
      obtain ⟨hks, hvs⟩ := hb2
      have hlen : (l.take k).length ≤ l.length := by simp; omega
      have hz1 : 0 ≤ z ∧ z ≤ 60 * (l.take k).length := by rw [HZ.out]; exact hb1
      obtain ⟨b1, b2⟩ := hz1
      clear hb1
      by_cases hv24 : (l[k].2.size : Int) ≤ 24
      · have hc0 : Hid (weighP l[k] = 2 + (l[k].1.size : Int) + (1 + (l[k].2.size : Int))) := Lib.hid (by unfold weighP; rw [if_pos hv24])
        go_wp2
        go_roundg (gk - 1)
        case measure => omega
        case rel => exact ⟨k + 1, _, by omega, by go_num, rfl, Lib.hid (by rw [hs.out, HZ.out, hc0.out]; omega), hm⟩
      · have hc0 : Hid (weighP l[k] = 2 + (l[k].1.size : Int) + 8) := Lib.hid (by unfold weighP; rw [if_neg hv24])
        go_wp2
        go_roundg (gk - 1)
        case measure => omega
        case rel => exact ⟨k + 1, _, by omega, by go_num, rfl, Lib.hid (by rw [hs.out, HZ.out, hc0.out]; omega), hm⟩
    · have hke : k = l.length := by omega
      have hzz : z = sumBy weighP l := by rw [HZ.out, hke, List.take_length]
      subst hzz
      clear HZ hke h4
      obtain ⟨wo, rfl⟩ : ∃ wo : World, wo = wr := ⟨_, rfl⟩
      have hC0 : 0 ≤ (sumBy weighP l + (size - 26) - 1) / (size - 26) := Int.ediv_nonneg (by omega) (by omega)
      have hC1 : (sumBy weighP l + (size - 26) - 1) / (size - 26) ≤ sumBy weighP l + (size - 26) - 1 := Int.ediv_le_self _ (by omega)
      generalize hB : sumBy weighP l = B at *
      have HB := Lib.hid hB
      clear hB
      go_wp2
      go_loopg [7] ((B + (size - 26) - 1) / (size - 26)).toNat (fun m t wr => ∃ p : Nat, wr = wo ∧ t = .int .i64 p ∧ (p : Int) + m = (B + (size - 26) - 1) / (size - 26))
      case atStart => exact ⟨0, rfl, rfl, by omega⟩
      case round =>
        obtain ⟨p, rfl, rfl, hp⟩ := hrel
        have hiff := ceil_iff p B (size - 26) (by omega)
        have hp0 : 0 ≤ (p : Int) * (size - 26) := Int.mul_nonneg (by omega) (by omega)
        by_cases hlt2 : (p : Int) < (B + (size - 26) - 1) / (size - 26)
        · have hpb : (p : Int) * (size - 26) < B := hiff.1 hlt2
          have HP := Lib.hid hp
          clear hiff hp
          go_wp2
          go_roundg (gk - 1)
          case measure => have := HP.out; omega
          case rel => exact ⟨p + 1, rfl, by go_num, by have := HP.out; omega⟩
        · have hpb : ¬ (p : Int) * (size - 26) < B := fun h => hlt2 (hiff.2 h)
          have hpe : (p : Int) = (B + (size - 26) - 1) / (size - 26) := by omega
          have hmul : (p : Int) * (size - 26) ≤ B + (size - 26) - 1 := by
            rw [hpe]; exact Int.ediv_mul_le _ (by omega)
          have HPE : Hid ((p : Int) + sumBy (chainP size) l = leastN l size) := Lib.hid (by unfold leastN; rw [HB.out, hpe])
          have hpB : (p : Int) ≤ B + (size - 26) - 1 := by omega
          clear hiff hp hpe
          go_wp2_with (go_at_call 26; refine (chains19_any _ l size _ (hl0.out.mods (Mods.ext hm)) HR.out).mono ?_; rintro e w' ⟨rfl, hm2⟩)
          go_ret
          exact ⟨ret_int HPE.out, hm.trans hm2⟩
end Go.Proofs.YtcjlbpmhkoidhaaDoor
