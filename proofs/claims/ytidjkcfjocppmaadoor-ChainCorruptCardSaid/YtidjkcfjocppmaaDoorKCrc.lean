/- crc.Entry, crc.More, crc.Sum. -/
import Derived.Test.YtidjkcfjocppmaaDoorKFault
import Derived.Test.YtidjkcfjocppmaaDoorKPlain1
import Derived.Laws.BitsAllLaws
namespace Go.Proofs.YtidjkcfjocppmaaDoor
open Go.RowKit

theorem Entry_any (n : Nat) (h : n < 256) (w : World) : Calls Tryd.prog 96 #[.int .u8 (n : Int)] w fun e w' => e = .returned (.int .u32 (crcEntry n : Int)) ∧ w = w' := by
  go_enter Tryd.func96, Tryd.ntmps96
  go_wp2
  go_loopg [3, 7] 8 (fun m r i wr => ∃ k q : Nat, wr = w ∧ k + m = 8 ∧ i = .int .i64 k ∧ r = .int .u32 (q : Int) ∧ q < 4294967296 ∧ Hid (crcIter m q = crcEntry n))
  case atStart => exact ⟨0, n, rfl, rfl, rfl, by simp, by omega, Lib.hid rfl⟩
  case round =>
    obtain ⟨k, q, rfl, hk, rfl, rfl, hq, HQ⟩ := hrel
    have hand : bits .and .u32 (q : Int) 1 = ((q % 2 : Nat) : Int) := by
      have := u32_and_nat q 1 hq (by decide)
      rw [nat_mask1] at this; exact this
    have hxor : bits .xor .u32 ((q : Int) / 2) 3988292384 = (((q / 2) ^^^ 3988292384 : Nat) : Int) := by
      have := u32_xor_nat (q / 2) 3988292384 (by omega) (by decide)
      simpa using this
    by_cases hlt : k < 8
    · obtain ⟨m, rfl⟩ : ∃ m, gk = m + 1 := ⟨gk - 1, by omega⟩
      have hlt2 := crcStep_lt q hq
      by_cases hodd : q % 2 = 1
      · have hs : Hid (crcStep q = (q / 2) ^^^ 3988292384) := Lib.hid (by unfold crcStep; rw [if_pos hodd])
        have hb : (((q % 2 : Nat) : Int) == 1) = true := by rw [hodd]; rfl
        have HX := Lib.hid hxor
        clear hodd
        go_wp2
        go_roundg m
        case measure => omega
        case rel => exact ⟨k + 1, crcStep q, rfl, by omega, by go_num, by rw [hs.out], hlt2, HQ⟩
      · have hs : Hid (crcStep q = q / 2) := Lib.hid (by unfold crcStep; rw [if_neg hodd])
        have hb : (((q % 2 : Nat) : Int) == 1) = false := by
          have e : q % 2 = 0 := by omega
          rw [e]; rfl
        clear hodd hxor
        go_wp2
        go_roundg m
        case measure => omega
        case rel => exact ⟨k + 1, crcStep q, rfl, by omega, by go_num, by rw [hs.out]; exact val_int (by omega), hlt2, HQ⟩
    · obtain rfl : gk = 0 := by omega
      have hq2 : Hid (q = crcEntry n) := HQ
      clear hand hxor
      go_wp2
      go_ret
      exact ⟨ret_int (by rw [hq2.out]), rfl⟩

theorem More_any {F : Nat → Prop} (s : Nat) (hs : s < 4294967296) (bv : Value) (l : List UInt8) (w : World) (hb : Sl F w 1 encB bv l) :
    Calls Tryd.prog 93 #[.int .u32 (s : Int), bv] w fun e w' => e = .returned (.int .u32 ((4294967295 ^^^ crcMore (4294967295 ^^^ s) l : Nat) : Int)) ∧ w = w' := by
  obtain ⟨a, cap, rfl, h1, h2, h3, h4⟩ := hb
  unfold maxLen at h2
  have hx0 : ∀ q : Nat, q < 4294967296 → bits .xor .u32 IntKind.u32.max (q : Int) = ((4294967295 ^^^ q : Nat) : Int) := by
    intro q hq
    exact u32_xor_nat 4294967295 q (by decide) hq
  have hx1 := hx0 s hs
  have hs2 : 4294967295 ^^^ s < 4294967296 := Nat.xor_lt_two_pow (n := 32) (by decide) hs
  obtain ⟨t, ht⟩ : ∃ t, t = 4294967295 ^^^ s := ⟨_, rfl⟩
  rw [← ht] at hx1 hs2 ⊢
  clear ht
  have HX := Lib.hid hx0
  clear hx0
  go_enter Tryd.func93, Tryd.ntmps93
  go_wp2
  go_loopg [5, 12] l.length (fun m r i wr => ∃ k q : Nat, wr = w ∧ k + m = l.length ∧ i = .int .i64 k ∧ r = .int .u32 (q : Int) ∧ q < 4294967296 ∧ Hid (crcMore q (l.drop k) = crcMore t l))
  case atStart => exact ⟨0, t, rfl, by omega, rfl, rfl, hs2, Lib.hid (by rw [List.drop_zero])⟩
  case round =>
    obtain ⟨k, q, rfl, hk, rfl, rfl, hq, HQ⟩ := hrel
    by_cases hlt : k < l.length
    · obtain ⟨b, off, rfl, hb, hF, hc⟩ := Sl.atE h4 (Mods.refl _ _) k hlt
      obtain ⟨x, hx⟩ : ∃ x, x = l[k] := ⟨_, rfl⟩
      have hc0 := hc 0 (.int .u8 (x.toNat : Int)) (by rw [hx]; rfl)
      simp only [Nat.mul_one, Nat.add_zero] at hc0
      have hx8 : x.toNat < 256 := x.toNat_lt
      have hand : bits .xor .u8 ((q : Int) % 256) (x.toNat : Int) = (((q % 256) ^^^ x.toNat : Nat) : Int) := by
        have := u8_xor_nat (q % 256) x.toNat (by omega) hx8
        simpa using this
      have hy := Nat.xor_lt_two_pow (n := 8) (x := q % 256) (y := x.toNat) (by omega) (by omega)
      have he := crcEntry_lt _ hy
      have hxor : bits .xor .u32 ((q : Int) / 256) (crcEntry ((q % 256) ^^^ x.toNat) : Int) = ((crcByte q x.toNat : Nat) : Int) := by
        have := u32_xor_nat (q / 256) _ (by omega) he
        simpa [crcByte] using this
      have HD : Hid (crcMore (crcByte q x.toNat) (l.drop (k + 1)) = crcMore q (l.drop k)) := Lib.hid (by rw [List.drop_eq_getElem_cons hlt, hx]; rfl)
      have hlt2 := crcByte_lt q x.toNat hq hx8
      obtain ⟨y, hy0⟩ : ∃ y, y = (q % 256) ^^^ x.toNat := ⟨_, rfl⟩
      rw [← hy0] at hand hy he hxor
      obtain ⟨z, hz0⟩ : ∃ z, z = crcEntry y := ⟨_, rfl⟩
      have HZ := Lib.hid hz0
      rw [← hz0] at he hxor
      obtain ⟨q2, hq2⟩ : ∃ q2, q2 = crcByte q x.toNat := ⟨_, rfl⟩
      rw [← hq2] at hlt2 hxor HD
      clear hc hx hy0 hz0 hq2 h4
      go_wp2_with fail
      refine (Entry_any y hy _).mono ?_
      rintro e w1 ⟨rfl, rfl⟩
      rw [← HZ.out]
      go_wp2
      go_roundg (gk - 1)
      case measure => omega
      case rel => exact ⟨k + 1, q2, rfl, by omega, by go_num, rfl, hlt2, Lib.hid (HD.out.trans HQ.out)⟩
    · have hq2 : Hid (q = crcMore t l) := Lib.hid (by have := HQ.out; rw [List.drop_eq_nil_of_le (by omega)] at this; exact this)
      have hk2 : ((k : Nat) : Int) = l.length := by omega
      have hx2 := HX.out q hq
      go_wp2
      go_ret
      exact ⟨ret_int (by rw [hq2.out]), rfl⟩

theorem Sum_any {F : Nat → Prop} (bv : Value) (l : List UInt8) (w : World) (hb : Sl F w 1 encB bv l) :
    Calls Tryd.prog 85 #[bv] w fun e w' => e = .returned (.int .u32 (crcSum l : Int)) ∧ w = w' := by
  have HB := Lib.hid hb
  obtain ⟨a, cap, rfl, h1, h2, h3, h4⟩ := hb
  go_enter Tryd.func85, Tryd.ntmps85
  go_wp2_with fail
  refine (More_any 0 (by decide) _ l _ HB.out).mono ?_
  rintro e w1 ⟨rfl, rfl⟩
  go_wp2
  go_ret
  exact ⟨rfl, rfl⟩
end Go.Proofs.YtidjkcfjocppmaaDoor
