/- The small functions of the laws of chapter 10. | ref01.SameBytes, ref08.SameInts. | ref10.Text. | ref10.First. -/
import Derived.Test.YtidjkcfjocppmaaDoorKChainR
import Derived.Test.YtidjkcfjocppmaaDoorKChainA
namespace Go.Proofs.YtidjkcfjocppmaaDoor
open Go.RowKit
section
variable {F : Nat → Prop} {ad : Nat → Addr} {w : World}
/-- the length of a text: 25 to 4096. -/
def lenI (n : Int) : Int := 25 + n % 18446744073709551616 % 4072
theorem lenI_range (n : Int) : 25 ≤ lenI n ∧ lenI n ≤ 4096 := by unfold lenI; omega
set_option maxRecDepth 100000 in
theorem length_any (n : Int) (w : World) : Calls Tryd.prog 13 #[.int .i64 n] w fun e w' => e = .returned (.int .i64 (lenI n)) ∧ w = w' := by
  have hr := lenI_range n
  obtain ⟨r, hre⟩ : ∃ r : Nat, n % 18446744073709551616 % 4072 = (r : Int) := ⟨(n % 18446744073709551616 % 4072).toNat, by omega⟩
  have hr2 : r < 4072 := by omega
  have hl : lenI n = 25 + (r : Int) := by unfold lenI; rw [hre]
  have HL := Lib.hid hl
  have ht : (IntKind.u64.wrap n).tmod 4072 = (r : Int) := by
    rw [← hre, Int.tmod_eq_emod_of_nonneg (by show 0 ≤ n % _; omega)]
    rfl
  have HT := Lib.hid ht
  clear hl hr ht hre
  go_enter Tryd.func13, Tryd.ntmps13
  go_wp2_with fail
  go_ret
  refine ⟨?_, rfl⟩
  rw [HL.out]
  show Ending.returned (Value.int IntKind.i64 (wrap64 (25 + wrap64 ((IntKind.u64.wrap n).tmod 4072)))) = _
  rw [HT.out, show wrap64 (r : Int) = r by unfold wrap64; omega, show wrap64 (25 + (r : Int)) = 25 + r by unfold wrap64; omega]
/-- an error's code; 0 of none. -/
def codeO : Option Err → Nat
  | none => 0
  | some e => e.2
set_option maxRecDepth 100000 in
theorem tells_any (hL : Env F ad w) (hfu : Full ad) (ev : Value) (o : Option Err) (he : ErrR F ad w ev o) (k : Nat) (hk : k < 100) : Calls Tryd.prog 19 #[ev, .int .i64 (k : Int)] w fun e w' => e = .returned (.bool (decide (codeO o = k))) ∧ w = w' := by
  have HL := Lib.hid hL
  have HFU := Lib.hid hfu
  clear hL hfu
  cases o with
  | none =>
    obtain rfl : ev = .nilIface := he
    by_cases h0 : k = 0
    · subst h0
      go_enter Tryd.func19, Tryd.ntmps19
      go_wp2_with fail
      refine (code_nil _).mono ?_
      rintro e w1 ⟨rfl, rfl⟩
      go_wp2_with fail
      go_ret
      exact ⟨rfl, rfl⟩
    · have hd : ((k : Int) == 0) = false := by rw [beq_eq_false_iff_ne]; omega
      go_enter Tryd.func19, Tryd.ntmps19
      go_wp2_with fail
      go_ret
      refine ⟨?_, rfl⟩
      have : decide (codeO none = k) = false := by rw [decide_eq_false_iff_not]; exact fun e => h0 e.symm
      rw [this]
      rfl
  | some er =>
    obtain ⟨el, ek⟩ := er
    obtain ⟨b, rfl, he⟩ := he
    have hek := he.code
    have HE := Lib.hid he
    clear he
    by_cases h0 : k = 0
    · subst h0
      go_enter Tryd.func19, Tryd.ntmps19
      go_wp2_with fail
      go_ret
      refine ⟨?_, rfl⟩
      have : decide (codeO (some (el, ek)) = 0) = false := by rw [decide_eq_false_iff_not]; show ¬ ek = 0; omega
      rw [this]
      rfl
    · have hd : ((k : Int) == 0) = false := by rw [beq_eq_false_iff_ne]; omega
      go_enter Tryd.func19, Tryd.ntmps19
      go_wp2_with fail
      refine (code_any HL.out HFU.out _ el ek HE.out).mono ?_
      rintro e w1 ⟨rfl, rfl⟩
      go_wp2_with fail
      go_ret
      refine ⟨?_, rfl⟩
      have : decide (codeO (some (el, ek)) = k) = ((ek : Int) == (k : Int)) := by
        show decide (ek = k) = _
        rw [Bool.eq_iff_iff, decide_eq_true_iff, beq_iff_eq]; omega
      rw [this]
      rfl
end
end Go.Proofs.YtidjkcfjocppmaaDoor
namespace Go.Proofs.YtidjkcfjocppmaaDoor
open Go.RowKit
set_option maxRecDepth 100000 in
theorem SameBytes_any {F G : Nat → Prop} {w : World} (av bv : Value) (l m : List UInt8) (ha : Sl F w 1 encB av l) (hb : Sl G w 1 encB bv m) :
    Calls Tryd.prog 25 #[av, bv] w fun e w' => e = .returned (.bool (decide (l = m))) ∧ Ext w w' := by
  obtain ⟨a, cap, rfl, h1, h2, h3, h4⟩ := ha
  obtain ⟨b, cap2, rfl, i1, i2, i3, i4⟩ := hb
  unfold maxLen at h2 i2
  have H4 := Lib.hid h4
  have I4 := Lib.hid i4
  clear h4 i4
  by_cases hl : l.length = m.length
  · obtain ⟨n, hn⟩ : ∃ n, n = l.length := ⟨_, rfl⟩
    rw [← hl, ← hn] at i1 i3 ⊢
    rw [← hn] at h1 h3
    have N1 : Hid (n = l.length) := Lib.hid hn
    have N2 : Hid (n = m.length) := Lib.hid (hn.trans hl)
    clear hn hl
    go_enter Tryd.func25, Tryd.ntmps25
    go_wp2_with fail
    go_loopg [5] n (fun q v5 wr => ∃ k : Nat, k + q = n ∧ v5 = .int .i64 k ∧ Hid (l.take k = m.take k) ∧ Hid (Ext w wr))
    case atStart => exact ⟨0, by omega, rfl, Lib.hid rfl, Lib.hid (Mods.refl _ _)⟩
    case round =>
      obtain ⟨k, hk, rfl, HQ, HM⟩ := hrel
      by_cases hltn : k < n
      · have hlt : k < l.length := by have := N1.out; omega
        have hlt2 : k < m.length := by have := N2.out; omega
        obtain ⟨b1, off1, rfl, hb1, hF1, hc1⟩ := Sl.atE H4.out HM.out k hlt
        obtain ⟨b2, off2, rfl, hb2, hF2, hc2⟩ := Sl.atE I4.out HM.out k hlt2
        obtain ⟨x, hx⟩ : ∃ x, x = l[k] := ⟨_, rfl⟩
        obtain ⟨y, hy⟩ : ∃ y, y = m[k] := ⟨_, rfl⟩
        have d1 := hc1 0 (.int .u8 (x.toNat : Int)) (by rw [hx]; rfl)
        have d2 := hc2 0 (.int .u8 (y.toNat : Int)) (by rw [hy]; rfl)
        simp only [Nat.mul_one, Nat.add_zero] at d1 d2
        have hx8 : x.toNat < 256 := x.toNat_lt
        have hy8 : y.toNat < 256 := y.toNat_lt
        have hx2 : l[k]? = some x := by rw [hx]; simp [hlt]
        have hy2 : m[k]? = some y := by rw [hy]; simp [hlt2]
        have HT : Hid (x = y → l.take (k + 1) = m.take (k + 1)) := Lib.hid (fun e => by rw [take_one l k x hx2, take_one m k y hy2, HQ.out, e])
        have HN : Hid (x ≠ y → decide (l = m) = false) := Lib.hid (fun e => by
          rw [decide_eq_false_iff_not]; intro h; rw [h, hy2] at hx2; injection hx2 with h5; exact e h5.symm)
        clear hc1 hc2 hx hy hx2 hy2 hlt hlt2
        by_cases hxy : x = y
        · subst hxy
          go_wp2_with fail
          go_region
          go_wp2_with fail
          go_roundg (gk - 1)
          case measure => omega
          case rel => exact ⟨k + 1, by omega, by go_num, Lib.hid (HT.out (by first | rfl | trivial)), Lib.hid HM.out.drew⟩
        · have hne : x.toNat ≠ y.toNat := fun e => hxy (UInt8.toNat_inj.1 e)
          have HN2 := Lib.hid (HN.out hxy)
          clear hxy
          go_wp2_with fail
          go_region
          go_wp2_with fail
          go_ret
          exact ⟨ret_bool HN2.out.symm, HM.out.drew⟩
      · have he : Hid (decide (l = m) = true) := Lib.hid (by
          have := HQ.out
          have n1 := N1.out
          have n2 := N2.out
          rw [List.take_of_length_le (by omega), List.take_of_length_le (by omega)] at this
          simp [this])
        go_wp2_with fail
        go_ret
        exact ⟨ret_bool he.out.symm, HM.out⟩
  · have he : Hid (decide (l = m) = false) := Lib.hid (by rw [decide_eq_false_iff_not]; intro h; exact hl (by rw [h]))
    go_enter Tryd.func25, Tryd.ntmps25
    go_wp2_with fail
    go_ret
    exact ⟨ret_bool he.out.symm, Mods.refl _ _⟩
set_option maxRecDepth 100000 in
theorem SameInts_any {F G : Nat → Prop} {w : World} (av bv : Value) (l m : List Int) (ha : Sl F w 1 encI av l) (hb : Sl G w 1 encI bv m) :
    Calls Tryd.prog 27 #[av, bv] w fun e w' => e = .returned (.bool (decide (l = m))) ∧ Ext w w' := by
  obtain ⟨a, cap, rfl, h1, h2, h3, h4⟩ := ha
  obtain ⟨b, cap2, rfl, i1, i2, i3, i4⟩ := hb
  unfold maxLen at h2 i2
  have H4 := Lib.hid h4
  have I4 := Lib.hid i4
  clear h4 i4
  by_cases hl : l.length = m.length
  · obtain ⟨n, hn⟩ : ∃ n, n = l.length := ⟨_, rfl⟩
    rw [← hl, ← hn] at i1 i3 ⊢
    rw [← hn] at h1 h3
    have N1 : Hid (n = l.length) := Lib.hid hn
    have N2 : Hid (n = m.length) := Lib.hid (hn.trans hl)
    clear hn hl
    go_enter Tryd.func27, Tryd.ntmps27
    go_wp2_with fail
    go_loopg [5] n (fun q v5 wr => ∃ k : Nat, k + q = n ∧ v5 = .int .i64 k ∧ Hid (l.take k = m.take k) ∧ Hid (Ext w wr))
    case atStart => exact ⟨0, by omega, rfl, Lib.hid rfl, Lib.hid (Mods.refl _ _)⟩
    case round =>
      obtain ⟨k, hk, rfl, HQ, HM⟩ := hrel
      by_cases hltn : k < n
      · have hlt : k < l.length := by have := N1.out; omega
        have hlt2 : k < m.length := by have := N2.out; omega
        obtain ⟨b1, off1, rfl, hb1, hF1, hc1⟩ := Sl.atE H4.out HM.out k hlt
        obtain ⟨b2, off2, rfl, hb2, hF2, hc2⟩ := Sl.atE I4.out HM.out k hlt2
        obtain ⟨x, hx⟩ : ∃ x, x = l[k] := ⟨_, rfl⟩
        obtain ⟨y, hy⟩ : ∃ y, y = m[k] := ⟨_, rfl⟩
        have d1 := hc1 0 (.int .i64 x) (by rw [hx]; rfl)
        have d2 := hc2 0 (.int .i64 y) (by rw [hy]; rfl)
        simp only [Nat.mul_one, Nat.add_zero] at d1 d2
        have hx2 : l[k]? = some x := by rw [hx]; simp [hlt]
        have hy2 : m[k]? = some y := by rw [hy]; simp [hlt2]
        have HT : Hid (x = y → l.take (k + 1) = m.take (k + 1)) := Lib.hid (fun e => by rw [take_one l k x hx2, take_one m k y hy2, HQ.out, e])
        have HN : Hid (x ≠ y → decide (l = m) = false) := Lib.hid (fun e => by
          rw [decide_eq_false_iff_not]; intro h; rw [h, hy2] at hx2; injection hx2 with h5; exact e h5.symm)
        clear hc1 hc2 hx hy hx2 hy2 hlt hlt2
        by_cases hxy : x = y
        · subst hxy
          go_wp2_with fail
          go_region
          go_wp2_with fail
          go_roundg (gk - 1)
          case measure => omega
          case rel => exact ⟨k + 1, by omega, by go_num, Lib.hid (HT.out (by first | rfl | trivial)), Lib.hid HM.out.drew⟩
        · have hne : (x == y) = false := by rw [beq_eq_false_iff_ne]; exact hxy
          have HN2 := Lib.hid (HN.out hxy)
          clear hxy
          go_wp2_with fail
          go_region
          go_wp2_with fail
          go_ret
          exact ⟨ret_bool HN2.out.symm, HM.out.drew⟩
      · have he : Hid (decide (l = m) = true) := Lib.hid (by
          have := HQ.out
          have n1 := N1.out
          have n2 := N2.out
          rw [List.take_of_length_le (by omega), List.take_of_length_le (by omega)] at this
          simp [this])
        go_wp2_with fail
        go_ret
        exact ⟨ret_bool he.out.symm, HM.out⟩
  · have he : Hid (decide (l = m) = false) := Lib.hid (by rw [decide_eq_false_iff_not]; intro h; exact hl (by rw [h]))
    go_enter Tryd.func27, Tryd.ntmps27
    go_wp2_with fail
    go_ret
    exact ⟨ret_bool he.out.symm, Mods.refl _ _⟩
end Go.Proofs.YtidjkcfjocppmaaDoor
namespace Go.Proofs.YtidjkcfjocppmaaDoor
open Go.RowKit
def textB (seed : UInt8) (i : Nat) : UInt8 := UInt8.ofNat (i / 7) * 3 + seed
def textL (n : Nat) (seed : UInt8) : List UInt8 := (List.range n).map (textB seed)
set_option maxRecDepth 100000 in
theorem Text_any (n : Nat) (hn : n ≤ 4096) (seed : UInt8) (w : World) : Calls Tryd.prog 15 #[.int .i64 (n : Int), .int .u8 (seed.toNat : Int)] w fun e w' => e = .returned (.string ⟨(textL n seed).toArray⟩) ∧ Ext w w' := by
  have hs8 : seed.toNat < 256 := seed.toNat_lt
  have hmk := run_mk (P := Tryd.prog) 50 5 (.int .u8 0) 1 Tryd.underlying50 Tryd.mkB rfl n (by omega) (by omega)
  go_enter Tryd.func15, Tryd.ntmps15
  go_wp2_with fail
  go_loopg [6] n (fun q v6 wr => ∃ k : Nat, k + q = n ∧ v6 = .int .i64 k ∧ Hid (∃ c : Array Value, Blk wr w.heap.size c 5 ∧ c.size = n ∧ ∀ j, j < k → c[j]? = some (.int .u8 ((textB seed j).toNat : Int))) ∧ Hid (Ext w wr))
  case atStart => exact ⟨0, by omega, rfl, Lib.hid ⟨_, Blk.new w _ _, by simp, fun j hj => by omega⟩, Lib.hid ((Mods.refl _ w).alloc _)⟩
  case round =>
    obtain ⟨k, hk, rfl, HQ, HM⟩ := hrel
    obtain ⟨c, hB, hcs, hc⟩ := HQ.out
    have HB := Lib.hid hB
    have HC := Lib.hid hc
    clear hc
    by_cases hltn : k < n
    · have c0 := hB.cell (o := k) (v := c[k]'(by omega)) (by simp)
      have f0 := hB.frozen k
      obtain ⟨cv, hcv⟩ : ∃ cv, cv = c[k]'(by omega) := ⟨_, rfl⟩
      rw [← hcv] at c0
      clear hcv hB
      go_wp2_with fail
      go_roundg (gk - 1)
      case measure => omega
      case rel =>
        refine ⟨k + 1, by omega, by go_num, Lib.hid ⟨_, HB.out.set k _, by simp [hcs], fun j hj => ?_⟩, Lib.hid (HM.out.setCell (.inl (by simp)) _)⟩
        by_cases hjk : j = k
        · subst hjk
          rw [Array.getElem?_setIfInBounds_self_of_lt (by omega)]
          have : ((j : Int) / 7 % 256 * 3 + (seed.toNat : Int)) % 256 = ((textB seed j).toNat : Int) := by
            have e : (textB seed j).toNat = ((j / 7 % 256) * 3 % 256 + seed.toNat) % 256 := by
              unfold textB
              rw [UInt8.toNat_add, UInt8.toNat_mul, UInt8.toNat_ofNat']
              rfl
            rw [e]
            omega
          rw [this]
        · rw [Array.getElem?_setIfInBounds_ne (fun e => hjk e.symm)]
          exact HC.out j (by omega)
    · obtain rfl : k = n := by omega
      have hSl : Sl (fun _ => False) wr 1 encB (.slice (some ⟨w.heap.size, 0, none⟩) k k) (textL k seed) := by
        refine ⟨_, k, by simp [textL], by simp [textL], by unfold maxLen; omega, by simp [textL]; omega, .inr ⟨w.heap.size, 0, rfl, HB.out.lt, fun f => f, fun i x hi j u hu => ?_⟩⟩
        obtain ⟨hik, hx⟩ := List.getElem?_eq_some_iff.1 hi
        simp [textL] at hik hx
        have hj : j = 0 ∧ u = .int .u8 (x.toNat : Int) := by
          match j, hu with
          | 0, hu => exact ⟨rfl, by injection hu with hu; exact hu.symm⟩
        obtain ⟨rfl, rfl⟩ := hj
        simp only [Nat.mul_one, Nat.add_zero, Nat.zero_add]
        rw [← hx]
        exact HB.out.cell (o := i) (v := .int .u8 ((textB seed i).toNat : Int)) (HC.out i hik)
      have hcv := run_conv_sl (P := Tryd.prog) Tryd.underlying50 Tryd.underlying5 Tryd.underlying9 hSl
      go_wp2_with fail
      go_ret
      exact ⟨rfl, HM.out⟩
end Go.Proofs.YtidjkcfjocppmaaDoor
namespace Go.Proofs.YtidjkcfjocppmaaDoor
open Go.RowKit
def firstL (n : Nat) : List Nat := (List.range n).map (· + 2)
set_option maxRecDepth 100000 in
theorem First_any (n : Nat) (hn : n ≤ 1000) (w : World) : Calls Tryd.prog 23 #[.int .i64 (n : Int)] w fun e w' => ∃ iv, e = .returned iv ∧ Own (fun _ => False) w' w.heap.size 3 1 encN iv (firstL n) ∧ Ext w w' := by
  go_enter Tryd.func23, Tryd.ntmps23
  go_wp2_with fail
  go_loopg [3, 4] n (fun q v3 v4 wr => ∃ (k : Nat), k + q = n ∧ v4 = .int .i64 k ∧ Hid (Own (fun _ => False) wr w.heap.size 3 1 encN v3 (firstL k)) ∧ Hid (Ext w wr))
  case atStart => exact ⟨0, by omega, rfl, Lib.hid (Own.made (cur := #[]) (b := w.heap.size) (cap := 0) (l := ([] : List Nat)) (sz := 1) (enc := encN) (F := fun _ => False) (Blk.new w #[] 3) (Nat.le_refl _) (fun f => f) (by simp) (by simp [maxLen]) rfl rfl encN_ok.len), Lib.hid ((Mods.refl _ w).alloc _)⟩
  case round =>
    obtain ⟨k, hk, rfl, HQ, HM⟩ := hrel
    by_cases hltn : k < n
    · obtain ⟨a0, c0, rfl, _⟩ := HQ.out.form
      have hfl : (firstL k).length = k := by simp [firstL]
      have HS : Hid (firstL (k + 1) = firstL k ++ [k + 2]) := Lib.hid (by simp [firstL, List.range_succ])
      have HSZ := Lib.hid HM.out.size
      go_wp2_with (at_builtin; refine wpl_app2 Tryd.elI encN_ok rfl _ _ rfl w.heap.size (.slice a0 (firstL k).length c0) (.slice (some ⟨wr.heap.size, 0, none⟩) 1 1) (firstL k) [k + 2] rfl rfl (HQ.out.ext ((Mods.refl _ _).alloc _)) (slN (x := [k + 2]) (y := [2 + (k : Int)]) (by simp; omega) (Sl.one (F := fun _ => False) (x := 2 + (k : Int)) (t := 3) (fz := (0, 0)) (heap_at rfl) (fun f => f))) (by simp [firstL]; omega) (Nat.le_trans HSZ.out (by simp)) (fun f => f) ?_; intro a' c' w4 hown hmod hat)
      go_roundg (gk - 1)
      case measure => omega
      case rel => exact ⟨k + 1, by omega, by go_num, Lib.hid (HS.out ▸ by simpa [hfl] using hown), Lib.hid ((HM.out.alloc (.cells #[.int .i64 (2 + (k : Int))] 3)).trans' hmod (fun i hi h => by have := (HQ.out.lt i h).1; omega))⟩
    · obtain rfl : k = n := by omega
      go_wp2_with fail
      go_ret
      exact ⟨_, rfl, HQ.out, HM.out⟩
end Go.Proofs.YtidjkcfjocppmaaDoor
