/- ref03.Right, Fits, Put. | ref03.Put of a fresh row. -/
import Derived.Test.YtidjkcfjocppmaaDoorKLawA
import Derived.Test.YtidjkcfjocppmaaDoorKField
namespace Go.Proofs.YtidjkcfjocppmaaDoor
open Go.RowKit
set_option maxRecDepth 100000 in
theorem Right03_any (W : Nat) (hw : W = 1 ∨ W = 2 ∨ W = 4 ∨ W = 8) (w : World) : Calls Tryd.prog 73 #[.int .i64 (W : Int)] w fun e w' => e = .returned (.bool true) ∧ w = w' := by
  rcases hw with rfl | rfl | rfl | rfl
  all_goals
    go_enter Tryd.func73, Tryd.ntmps73
    go_wp2_with fail
    go_ret
    exact ⟨rfl, rfl⟩
set_option maxRecDepth 100000 in
theorem Fits03_any (n W : Nat) (hw : W ≤ 8) (hn : n < 256 ^ W) (h64 : n < 18446744073709551616) (w : World) : Calls Tryd.prog 74 #[.int .u64 (n : Int), .int .i64 (W : Int)] w fun e w' => e = .returned (.bool true) ∧ Ext w w' := by
  have HN := Lib.hid hn
  clear hn
  go_enter Tryd.func74, Tryd.ntmps74
  go_wp2_with fail
  go_loopg [0, 5] W (fun q v0 v5 wr => ∃ (k m : Nat), k + q = W ∧ v0 = .int .u64 m ∧ v5 = .int .i64 k ∧ m < 18446744073709551616 ∧ Hid (m = n / 256 ^ k) ∧ Hid (Ext w wr))
  case atStart => exact ⟨0, n, by omega, rfl, rfl, h64, Lib.hid (by simp), Lib.hid (Mods.refl _ w)⟩
  case round =>
    obtain ⟨k, m, hk, rfl, rfl, hm, HQ, HM⟩ := hrel
    by_cases hltn : k < W
    · have hk8 : k < 8 := by omega
      go_wp2_with fail
      go_roundg (gk - 1)
      case measure => omega
      case rel => exact ⟨k + 1, m / 256, by omega, by go_num, by go_num, by omega, Lib.hid (by rw [HQ.out, Nat.div_div_eq_div_mul, Nat.pow_succ]), HM⟩
    · obtain rfl : k = W := by omega
      have hz : m = 0 := by rw [HQ.out]; exact Nat.div_eq_of_lt HN.out
      subst hz
      go_wp2_with fail
      go_ret
      exact ⟨rfl, HM.out⟩
end Go.Proofs.YtidjkcfjocppmaaDoor
namespace Go.Proofs.YtidjkcfjocppmaaDoor
open Go.RowKit
theorem leB_snoc : ∀ (k n : Nat), leB (k + 1) n = leB k n ++ [UInt8.ofNat (n / 256 ^ k)]
  | 0, n => by simp [leB]
  | k + 1, n => by
    rw [leB, leB_snoc k (n / 256), leB, List.cons_append, Nat.div_div_eq_div_mul, Nat.pow_succ, Nat.mul_comm 256]
theorem leB_len03 : ∀ (k n : Nat), (leB k n).length = k
  | 0, _ => rfl
  | k + 1, n => by rw [leB, List.length_cons, leB_len03 k]
set_option maxRecDepth 100000 in
theorem Put03_any {F : Nat → Prop} {w : World} (bv : Value) (l : List UInt8) (hb : Sl F w 1 encB bv l) (n W : Nat) (hw : W = 1 ∨ W = 2 ∨ W = 4 ∨ W = 8) (hn : n < 256 ^ W) (h64 : n < 18446744073709551616) (hlen : l.length ≤ 100000) :
    Calls Tryd.prog 52 #[bv, .int .u64 (n : Int), .int .i64 (W : Int)] w fun e w' => ∃ a c, e = .returned (.tuple #[.slice a (l.length + W) c, .int .i64 0]) ∧
      Own (fun _ => False) w' w.heap.size 5 1 encB (.slice a (l.length + W) c) (l ++ leB W n) ∧ Ext w w' := by
  have hw8 : W ≤ 8 := by omega
  have HB := Lib.hid hb
  have HN := Lib.hid hn
  have HW := Lib.hid hw
  obtain ⟨ba, bc, rfl, i1, i2, i3, i4⟩ := hb
  clear i4 hn hw
  go_enter Tryd.func52, Tryd.ntmps52
  go_wp2_with fail
  refine (Right03_any W HW.out _).mono ?_
  rintro e w1 ⟨rfl, rfl⟩
  go_wp2_with fail
  refine (Fits03_any n W hw8 HN.out h64 _).mono ?_
  rintro e w2 ⟨rfl, hm2⟩
  have HM2 := Lib.hid hm2
  have HSZ := Lib.hid hm2.size
  clear hm2
  go_wp2_with (at_builtin; refine wpl_app2 Tryd.elB encB_ok rfl _ _ rfl w.heap.size (.slice (some ⟨w2.heap.size, 0, none⟩) 0 0) _ ([] : List UInt8) l rfl rfl (Own.made (cur := #[]) (b := w2.heap.size) (cap := 0) (l := ([] : List UInt8)) (sz := 1) (enc := encB) (F := fun _ => False) (Blk.new w2 #[] 5) HSZ.out (fun f => f) (by simp) (by simp [maxLen]) rfl rfl encB_ok.len) (HB.out.ext (HM2.out.alloc _)) (by simp; omega) (Nat.le_trans HSZ.out (by simp)) (fun f => f) ?_; intro a' c' w4 hown hmod hat)
  have HM4 : Hid (Ext w w4) := Lib.hid ((HM2.out.alloc (.cells #[] 5)).trans' hmod (fun i hi h => by have := HSZ.out; simp [Value.ownBlock] at h; omega))
  have HO4 := Lib.hid hown
  clear hown hmod hat
  go_loopg [1, 8, 9] W (fun q v1 v8 v9 wr => ∃ (k m : Nat), k + q = W ∧ v1 = .int .u64 m ∧ v9 = .int .i64 k ∧ m < 18446744073709551616 ∧ Hid (m = n / 256 ^ k) ∧ Hid (Own (fun _ => False) wr w.heap.size 5 1 encB v8 (l ++ leB k n)) ∧ Hid (Ext w wr))
  case atStart => exact ⟨0, n, by omega, rfl, rfl, h64, Lib.hid (by simp), Lib.hid (by simpa [leB] using HO4.out), HM4⟩
  case round =>
    obtain ⟨k, m, hk, rfl, rfl, hm, HQ, HO, HM⟩ := hrel
    by_cases hltn : k < W
    · obtain ⟨R, hR⟩ : ∃ R, R = l ++ leB k n := ⟨_, rfl⟩
      have hfl : R.length = l.length + k := by rw [hR, List.length_append, leB_len03]
      have HS : Hid (l ++ leB (k + 1) n = R ++ [UInt8.ofNat m]) := Lib.hid (by rw [leB_snoc, HQ.out, hR, List.append_assoc])
      rw [← hR] at HO
      clear hR
      obtain ⟨a0, c0, rfl, _⟩ := HO.out.form
      have HSZ2 := Lib.hid HM.out.size
      have he : ((UInt8.ofNat m).toNat : Int) = (m : Int) % 256 := by rw [UInt8.toNat_ofNat']; omega
      obtain ⟨x, hx⟩ : ∃ x, x = UInt8.ofNat m := ⟨_, rfl⟩
      rw [← hx] at HS he
      clear hx
      go_wp2_with (at_builtin; refine wpl_app2 Tryd.elB encB_ok rfl _ _ rfl w.heap.size (.slice a0 R.length c0) (.slice (some ⟨wr.heap.size, 0, none⟩) 1 1) R [x] rfl rfl (HO.out.ext ((Mods.refl _ _).alloc _)) (Sl.one (F := fun _ => False) (x := x) (t := 5) (fz := (0, 0)) (by rw [show (encB x).toArray = #[.int .u8 ((m : Int) % 256)] by simp [encB, he]]; exact heap_at rfl) (fun f => f)) (by simp [hfl]; omega) (Nat.le_trans HSZ2.out (by simp)) (fun f => f) ?_; intro a5 c5 w5 hown hmod hat)
      go_roundg (gk - 1)
      case measure => omega
      case rel => exact ⟨k + 1, m / 256, by omega, by go_num, by go_num, by omega, Lib.hid (by rw [HQ.out, Nat.div_div_eq_div_mul, Nat.pow_succ]), Lib.hid (by rw [HS.out]; simpa [hfl] using hown), Lib.hid ((HM.out.alloc _).trans' hmod (fun i hi h => by have := (HO.out.lt i h).1; omega))⟩
    · obtain rfl : k = W := by omega
      have hfl : (l ++ leB k n).length = l.length + k := by rw [List.length_append, leB_len03]
      obtain ⟨a0, c0, rfl, _⟩ := HO.out.form
      go_wp2_with fail
      go_ret2
      exact ⟨a0, c0, by rw [← hfl]; rfl, hfl ▸ HO.out, HM.out⟩
end Go.Proofs.YtidjkcfjocppmaaDoor
