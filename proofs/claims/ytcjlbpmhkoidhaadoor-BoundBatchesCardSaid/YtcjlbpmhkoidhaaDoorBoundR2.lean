/- The references of layers 10 and 19, on: Need. -/
import Derived.Test.YtcjlbpmhkoidhaaDoorBoundR
namespace Go.Proofs.YtcjlbpmhkoidhaaDoor
open Go.RowKit

theorem need_step (n s : Int) (h : 1 ≤ n) (hs : 228 ≤ s) : (if n - min n s < 1 then 0 else (n - min n s - 1) / s + 1) + 1 = (n - 1) / s + 1 := by
  by_cases hn : n ≤ s
  · rw [show min n s = n by omega, if_pos (by omega), Int.ediv_eq_zero_of_lt (by omega) (by omega)]
  · rw [show min n s = s by omega, if_neg (by omega), show n - 1 = (n - s - 1) + 1 * s by omega, Int.add_mul_ediv_right _ _ (by omega)]

/-- the reference's loop, from what is left. -/
def leftN (n s : Int) : Int := if n < 1 then 0 else (n - 1) / s + 1
theorem leftN_nonneg (n s : Int) (h : 1 ≤ n) (hs : 228 ≤ s) : 1 ≤ leftN n s := by
  unfold leftN; rw [if_neg (by omega)]
  have : 0 ≤ (n - 1) / s := Int.ediv_nonneg (by omega) (by omega)
  omega

set_option maxHeartbeats 400000 in
theorem need10_any (n size : Int) (w : World) (h0 : -9223372036854775808 ≤ n) (h1 : n ≤ 1000000) :
    Calls Tryd.prog 40 #[.int .i64 n, .int .i64 size] w fun e w' => e = .returned (.int .i64 (needN n size)) ∧ w = w' := by
  by_cases hs : size < 256
  · have HR : Hid (needN n size = 0) := Lib.hid (by unfold needN; rw [if_pos (by omega)])
    go_enter Tryd.func40, Tryd.ntmps40
    go_wp2
    go_ret
    exact ⟨ret_int HR.out.symm, rfl⟩
  · by_cases hs2 : 1024 < size
    · have HR : Hid (needN n size = 0) := Lib.hid (by unfold needN; rw [if_pos (by omega)])
      go_enter Tryd.func40, Tryd.ntmps40
      go_wp2
      go_ret
      exact ⟨ret_int HR.out.symm, rfl⟩
    · have HR : Hid (needN n size = leftN n (size - 28)) := Lib.hid (by unfold needN leftN; by_cases hn : n < 1 <;> simp [hn] <;> omega)
      have hmax : leftN n (size - 28) ≤ 4386 := by
        unfold leftN
        split
        · omega
        · have h1 : (n - 1) / (size - 28) * (size - 28) ≤ n - 1 := Int.ediv_mul_le _ (by omega)
          have h2 : 0 ≤ (n - 1) / (size - 28) := Int.ediv_nonneg (by omega) (by omega)
          have h3 : (n - 1) / (size - 28) * 228 ≤ (n - 1) / (size - 28) * (size - 28) := Int.mul_le_mul_of_nonneg_left (by omega) h2
          omega
      have hnn : 0 ≤ leftN n (size - 28) := by
        by_cases hn : 1 ≤ n
        · have := leftN_nonneg n (size - 28) hn (by omega); omega
        · unfold leftN; rw [if_pos (by omega)]; omega
      go_enter Tryd.func40, Tryd.ntmps40
      go_wp2
      go_loopg [5, 6] (leftN n (size - 28)).toNat (fun m p i wr => ∃ k : Nat, ∃ z : Int, wr = w ∧ p = .int .i64 k ∧ i = .int .i64 z ∧ z ≤ n ∧ -9223372036854775808 ≤ z ∧ (k : Int) + leftN z (size - 28) = leftN n (size - 28) ∧ m = (leftN z (size - 28)).toNat)
      case atStart => exact ⟨0, n, rfl, rfl, rfl, by omega, by omega, by simp, rfl⟩
      case round =>
        obtain ⟨k, z, rfl, rfl, rfl, hz, hz0, hkz, hm⟩ := hrel
        by_cases hz1 : 0 < z
        · have hl1 := leftN_nonneg z (size - 28) (by omega) (by omega)
          have hstep : leftN (z - min z (size - 28)) (size - 28) + 1 = leftN z (size - 28) := by
            have := need_step z (size - 28) (by omega) (by omega)
            unfold leftN; rw [if_neg (show ¬ z < 1 by omega)]; exact this
          have hmin : 1 ≤ min z (size - 28) ∧ min z (size - 28) ≤ z := by omega
          have HMIN := Lib.hid hmin
          clear hmin
          have hk5 : (k : Int) < 5000 := by omega
          have HKZ := Lib.hid hkz
          have HST := Lib.hid hstep
          have HM := Lib.hid hm
          clear hkz hstep hm hl1 hnn hmax
          go_wp2
          have hl1 := leftN_nonneg z (size - 28) (by omega) (by omega)
          have H1 := HMIN.out
          have H2 := HST.out
          have H3 := HM.out
          have H4 := HKZ.out
          go_roundg (leftN (z - min z (size - 28)) (size - 28)).toNat
          case measure => omega
          case rel => exact ⟨k + 1, _, rfl, by go_num, rfl, by omega, by omega, by omega, rfl⟩
        · have hl0 : leftN z (size - 28) = 0 := by unfold leftN; rw [if_pos (by omega)]
          have HKN : Hid ((k : Int) = needN n size) := Lib.hid (by rw [HR.out]; omega)
          clear hkz hl0 hm hnn hmax
          go_wp2
          go_ret
          exact ⟨ret_int HKN.out, rfl⟩

theorem need10_small (n size : Int) (w : World) (h0 : 0 ≤ n) (h1 : n ≤ 4096) :
    Calls Tryd.prog 40 #[.int .i64 n, .int .i64 size] w fun e w' => e = .returned (.int .i64 (needN n size)) ∧ w = w' := need10_any n size w (by omega) (by omega)

set_option maxHeartbeats 400000 in
theorem chains19_any {F : Nat → Prop} (lv : Value) (l : List PairB) (size : Int) (w : World) (hl : Sl F w 2 encP lv l) (hr : ∀ p ∈ l, p.1.size ≤ 32 ∧ p.2.size ≤ 4096) :
    Calls Tryd.prog 26 #[lv, .int .i64 size] w fun e w' => e = .returned (.int .i64 (sumBy (chainP size) l)) ∧ Ext w w' := by
  obtain ⟨a, cap, rfl, h1, h2, h3, h4⟩ := hl
  unfold maxLen at h2
  have HR := Lib.hid hr
  clear hr
  go_enter Tryd.func26, Tryd.ntmps26
  go_wp2
  go_loopg [5, 6] l.length (fun n t i wr => ∃ k : Nat, ∃ z : Int, k + n = l.length ∧ i = .int .i64 k ∧ t = .int .i64 z ∧ Hid (z = sumBy (chainP size) (l.take k)) ∧ Ext w wr)
  case atStart => exact ⟨0, 0, by omega, rfl, rfl, Lib.hid rfl, Mods.refl _ _⟩
  case round =>
    obtain ⟨k, z, hk, rfl, rfl, HZ, hm⟩ := hrel
    by_cases hlt : k < l.length
    · obtain ⟨b, off, rfl, hb, hF, hc⟩ := Sl.atE h4 hm k hlt
      have c1 := hc 1 _ rfl
      clear hc h4
      have hs := Lib.hid (sumBy_take (chainP size) l k l[k] (by simp [hlt]))
      have hb1 := chains_le size (l.take k) (fun x hx => HR.out x (mem_take hx))
      have hb2 := HR.out l[k] (by simp)
      have hlen : (l.take k).length ≤ l.length := by simp; omega
      have hz1 : 0 ≤ z ∧ z ≤ 4096 * (l.take k).length := by rw [HZ.out]; exact hb1
      obtain ⟨b1, b2⟩ := hz1
      have hv : l[k].2.size ≤ 4096 := hb2.2
      have hn := needN_le l[k].2.size size (by omega)
      obtain ⟨n1, n2⟩ := hn
      clear hb1 hb2
      by_cases hv24 : (l[k].2.size : Int) ≤ 24
      · have hc0 : Hid (chainP size l[k] = 0) := Lib.hid (by unfold chainP; rw [if_pos hv24])
        go_wp2
        go_roundg (gk - 1)
        case measure => omega
        case rel => exact ⟨k + 1, _, by omega, by go_num, rfl, Lib.hid (by rw [hs.out, HZ.out, hc0.out]; omega), hm⟩
      · have hc0 : Hid (chainP size l[k] = needN l[k].2.size size) := Lib.hid (by unfold chainP; rw [if_neg hv24])
        go_wp2_with (go_at_call 40; refine (need10_small _ _ _ (by omega) (by omega)).mono ?_; rintro e w' ⟨rfl, rfl⟩)
        go_roundg (gk - 1)
        case measure => omega
        case rel => exact ⟨k + 1, _, by omega, by go_num, rfl, Lib.hid (by rw [hs.out, HZ.out, hc0.out]), hm⟩
    · have hke : k = l.length := by omega
      have hzz : Hid (z = sumBy (chainP size) l) := Lib.hid (by rw [HZ.out, hke, List.take_length])
      clear HZ hke h4
      go_wp2
      go_ret
      exact ⟨ret_int hzz.out, hm⟩

theorem Most19_any {F : Nat → Prop} (lv : Value) (l : List PairB) (size : Int) (w : World) (hl : Sl F w 2 encP lv l) (hr : ∀ p ∈ l, p.1.size ≤ 32 ∧ p.2.size ≤ 4096) :
    Calls Tryd.prog 12 #[lv, .int .i64 size] w fun e w' => e = .returned (.int .i64 (mostN l size)) ∧ Ext w w' := by
  have hl0 := Lib.hid hl
  obtain ⟨a, cap, rfl, h1, h2, h3, h4⟩ := hl
  unfold maxLen at h2
  have hb := chains_le size l hr
  obtain ⟨hb1, hb2⟩ := hb
  have HR := Lib.hid hr
  have HM : Hid ((l.length : Int) + max ((l.length : Int) - 1) 0 + sumBy (chainP size) l = mostN l size) := Lib.hid (by
    unfold mostN
    by_cases he : l = []
    · rw [if_pos he, he]; rfl
    · rw [if_neg he]
      have hn : 1 ≤ l.length := by cases l; exact absurd rfl he; simp
      omega)
  clear hr h4
  go_enter Tryd.func12, Tryd.ntmps12
  go_wp2_with (go_at_call 26; refine (chains19_any _ l size _ hl0.out HR.out).mono ?_; rintro e w' ⟨rfl, hm⟩)
  go_ret
  exact ⟨ret_int HM.out, hm⟩

theorem Worst13_any (value size : Int) (w : World) (h0 : 0 ≤ value) (h1 : value ≤ 4096) (h2 : 256 ≤ size) (h3 : size ≤ 1024) :
    Calls Tryd.prog 31 #[.int .i64 16, .int .i64 value, .int .i64 size] w fun e w' => e = .returned (.int .i64 (worstN 16 value size)) ∧ w = w' := by
  have hb := needN_le value size h1
  obtain ⟨hb1, hb2⟩ := hb
  by_cases hv : 24 < value
  · have HR : Hid (33 + needN value size = worstN 16 value size) := Lib.hid (by unfold worstN; rw [if_neg (by omega), if_pos hv, show max (16 : Int) 1 = 16 from rfl]; omega)
    go_enter Tryd.func31, Tryd.ntmps31
    go_wp2_with (go_at_call 40; refine (need10_small _ _ _ (by omega) (by omega)).mono ?_; rintro e w' ⟨rfl, rfl⟩)
    go_ret
    exact ⟨ret_int HR.out, rfl⟩
  · have HR : Hid (33 = worstN 16 value size) := Lib.hid (by unfold worstN; rw [if_neg (by omega), if_neg hv, show max (16 : Int) 1 = 16 from rfl]; omega)
    go_enter Tryd.func31, Tryd.ntmps31
    go_wp2
    go_ret
    exact ⟨ret_int HR.out, rfl⟩

set_option maxHeartbeats 400000 in
theorem Batch19_any {F : Nat → Prop} (wv iv : Value) (was is : List PairB) (size : Int) (w : World) (hw : Sl F w 2 encP wv was) (hi : Sl F w 2 encP iv is)
    (hrw : ∀ p ∈ was, p.1.size ≤ 32 ∧ p.2.size ≤ 4096) (hri : ∀ p ∈ is, p.1.size ≤ 32 ∧ p.2.size ≤ 4096) (h2 : 256 ≤ size) (h3 : size ≤ 1024) :
    Calls Tryd.prog 17 #[wv, iv, .int .i64 size] w fun e w' => e = .returned (.int .i64 (batchN was is size)) ∧ Ext w w' := by
  obtain ⟨b1, b2⟩ := mostN_le was size hrw
  obtain ⟨b3, b4⟩ := mostN_le is size hri
  obtain ⟨b5, b6⟩ := longFrom_le is hri 0 (by omega) (by omega)
  obtain ⟨b7, b8⟩ := worstN_le (longFrom 0 is) size b6
  have hx : ∃ a c, wv = .slice a was.length c ∧ was.length ≤ 140737488355328 := by obtain ⟨a, c, h, _, _, h3, _⟩ := hw; exact ⟨a, c, h, h3⟩
  have HW := Lib.hid hw
  have HI := Lib.hid hi
  obtain ⟨a, c, rfl, hl1⟩ := hx
  obtain ⟨a', cap, rfl, i1, i2, i3, i4⟩ := hi
  unfold maxLen at i2
  have HRW := Lib.hid hrw
  have HRI := Lib.hid hri
  clear hw hrw hri
  go_enter Tryd.func17, Tryd.ntmps17
  go_wp2
  go_loopg [7, 8] is.length (fun n t i wr => ∃ k : Nat, ∃ z : Int, k + n = is.length ∧ i = .int .i64 k ∧ t = .int .i64 z ∧ Hid (longFrom z (is.drop k) = longFrom 0 is) ∧ Ext w wr)
  case atStart => exact ⟨0, 0, by omega, rfl, rfl, Lib.hid rfl, Mods.refl _ _⟩
  case round =>
    obtain ⟨k, z, hk, rfl, rfl, HZ, hm⟩ := hrel
    by_cases hlt : k < is.length
    · obtain ⟨b, off, rfl, hb, hF, hc⟩ := Sl.atE i4 hm k hlt
      have c1 := hc 1 _ rfl
      clear hc i4
      have hz := HZ.out
      rw [List.drop_eq_getElem_cons hlt] at hz
      have HZ2 : Hid (longFrom (max z (is[k].2.size : Int)) (is.drop (k + 1)) = longFrom 0 is) := Lib.hid hz
      clear hz HZ
      go_wp2
      go_roundg (gk - 1)
      case measure => omega
      case rel => exact ⟨k + 1, _, by omega, by go_num, rfl, HZ2, hm⟩
    · have hke : k = is.length := by omega
      have hzz : z = longFrom 0 is := by have := HZ.out; rw [hke, List.drop_length] at this; exact this
      subst hzz
      clear HZ hke i4
      go_wp2_with fail
      refine (Most19_any _ was size _ (HW.out.mods (Mods.ext hm)) HRW.out).mono ?_
      rintro e w1 ⟨rfl, hm1⟩
      have hm01 := hm.trans hm1
      go_wp2_with fail
      refine (Most19_any _ is size _ (HI.out.mods (Mods.ext hm01)) HRI.out).mono ?_
      rintro e w2 ⟨rfl, hm2⟩
      go_wp2_with fail
      refine (Worst13_any _ size _ b5 b6 h2 h3).mono ?_
      rintro e w4 ⟨rfl, rfl⟩
      go_wp2
      go_ret
      exact ⟨rfl, hm01.trans hm2⟩
end Go.Proofs.YtcjlbpmhkoidhaaDoor
