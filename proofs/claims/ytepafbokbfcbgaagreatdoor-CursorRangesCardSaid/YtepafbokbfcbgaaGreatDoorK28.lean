/- ref07.num, text, Bytes; ref07.Key. | ref01.SameTexts; ref07.Same of nodes that are alike. -/
import Derived.Test.YtepafbokbfcbgaaGreatDoorK23
import Derived.Test.YtepafbokbfcbgaaGreatDoorK26
import Derived.Test.YtepafbokbfcbgaaGreatDoorK06
import Derived.Deep.RegionHeld3
import Derived.Test.YtepafbokbfcbgaaGreatDoorK19
import Derived.Test.YtepafbokbfcbgaaGreatDoorK03
import Derived.BigQuiet
namespace Go.Proofs.YtepafbokbfcbgaaGreatDoor
open Go.RowKit
attribute [local go_sem ↓] Go.wp_at_zero Go.wp_at_succ
theorem key07_any (s : ByteArray) (w : World) : Calls Tryz.prog 59 #[.string s] w fun e w' => e = .returned (.bool (keyB s)) ∧ w = w' := by
  obtain ⟨n, hn⟩ : ∃ n, n = s.size := ⟨_, rfl⟩
  have HN : Hid (keyB s = (decide (1 ≤ (n : Int)) && decide ((n : Int) ≤ 32))) := Lib.hid (by rw [hn]; rfl)
  rw [hn] at HN
  clear hn
  by_cases h1 : 0 < (s.size : Int)
  all_goals
    have h2 := Lib.hid h1
    go_enter Tryz.func59, Tryz.ntmps59
    go_wp2
    go_ret
    exact ⟨ret_bool (by have := h2.out; rw [HN.out]; first | (rw [decide_eq_true (show 1 ≤ (s.size : Int) by omega)]; simp; done) | (rw [decide_eq_false (show ¬ 1 ≤ (s.size : Int) by omega)]; simp; done)), rfl⟩
section
variable {F : Nat → Prop} {w w' : World}
set_option maxRecDepth 100000 in
theorem num07_any (bv : Value) (l : List UInt8) (hb : Sl F w 1 encB bv l) (n W : Nat) (hw : W = 1 ∨ W = 2 ∨ W = 4) (hn : n < 256 ^ W) (hlen : l.length ≤ 100000) :
    Calls Tryz.prog 127 #[bv, .int .i64 (n : Int), .int .i64 (W : Int)] w fun e w' => ∃ a c, e = .returned (.slice a (l.length + W) c) ∧ Own (fun _ => False) w' w.heap.size 5 1 encB (.slice a (l.length + W) c) (l ++ leB W n) ∧ Ext w w' := by
  have hn2 : n < 4294967296 := by
    rcases hw with rfl | rfl | rfl <;> simp at hn <;> omega
  have HB := Lib.hid hb
  have HN := Lib.hid hn
  have HW := Lib.hid hw
  clear hb hn hw
  go_enter Tryz.func127, Tryz.ntmps127
  go_wp2_with fail
  refine (Put03_any bv l HB.out n W (by have := HW.out; omega) HN.out (by omega) hlen).mono ?_
  rintro e w1 ⟨a, c, rfl, hO, hm⟩
  have HO := Lib.hid hO
  have HM := Lib.hid hm
  clear hO hm
  go_wp2_with fail
  go_ret
  exact ⟨a, c, rfl, HO.out, HM.out⟩
theorem num07_01 (bv : Value) (l : List UInt8) (hb : Sl F w 1 encB bv l) (hlen : l.length ≤ 100000) :
    Calls Tryz.prog 127 #[bv, .int .i64 0, .int .i64 1] w fun e w' => ∃ v, e = .returned v ∧ Own (fun _ => False) w' w.heap.size 5 1 encB v (l ++ leB 1 0) ∧ Ext w w' :=
  (num07_any bv l hb 0 1 (.inl rfl) (by decide) hlen).mono fun _ _ ⟨_, _, h1, h2, h3⟩ => ⟨_, h1, h2, h3⟩
theorem num07_11 (bv : Value) (l : List UInt8) (hb : Sl F w 1 encB bv l) (hlen : l.length ≤ 100000) :
    Calls Tryz.prog 127 #[bv, .int .i64 1, .int .i64 1] w fun e w' => ∃ v, e = .returned v ∧ Own (fun _ => False) w' w.heap.size 5 1 encB v (l ++ leB 1 1) ∧ Ext w w' :=
  (num07_any bv l hb 1 1 (.inl rfl) (by decide) hlen).mono fun _ _ ⟨_, _, h1, h2, h3⟩ => ⟨_, h1, h2, h3⟩
theorem num07_4 (bv : Value) (l : List UInt8) (hb : Sl F w 1 encB bv l) (n : Nat) (hn : n < 4294967296) (hlen : l.length ≤ 100000) :
    Calls Tryz.prog 127 #[bv, .int .i64 (n : Int), .int .i64 4] w fun e w' => ∃ v, e = .returned v ∧ Own (fun _ => False) w' w.heap.size 5 1 encB v (l ++ leB 4 n) ∧ Ext w w' :=
  (num07_any bv l hb n 4 (.inr (.inr rfl)) (by simpa using hn) hlen).mono fun _ _ ⟨_, _, h1, h2, h3⟩ => ⟨_, h1, h2, h3⟩
theorem num07_2 (bv : Value) (l : List UInt8) (hb : Sl F w 1 encB bv l) (n : Nat) (hn : n < 65536) (hlen : l.length ≤ 100000) :
    Calls Tryz.prog 127 #[bv, .int .i64 (n : Int), .int .i64 2] w fun e w' => ∃ v, e = .returned v ∧ Own (fun _ => False) w' w.heap.size 5 1 encB v (l ++ leB 2 n) ∧ Ext w w' :=
  (num07_any bv l hb n 2 (.inr (.inl rfl)) (by simpa using hn) hlen).mono fun _ _ ⟨_, _, h1, h2, h3⟩ => ⟨_, h1, h2, h3⟩
set_option maxRecDepth 100000 in
theorem text07_any (bv : Value) (l : List UInt8) (hb : Sl F w 1 encB bv l) (s : ByteArray) (hs : s.size < 256) (hlen : l.length ≤ 100000) :
    Calls Tryz.prog 128 #[bv, .string s] w fun e w' => ∃ a c, e = .returned (.slice a (l.length + (bytesT s).length) c) ∧ Own (fun _ => False) w' w.heap.size 5 1 encB (.slice a (l.length + (bytesT s).length) c) (l ++ bytesT s) ∧ Ext w w' := by
  have HB := Lib.hid hb
  have HTL : Hid ((bytesT s).length = 1 + s.size) := Lib.hid (by unfold bytesT; rw [List.length_append, leB_length, size_toList])
  clear hb
  go_enter Tryz.func128, Tryz.ntmps128
  go_wp2_with fail
  refine (num07_any bv l HB.out s.size 1 (.inl rfl) (by simpa using hs) hlen).mono ?_
  rintro e w1 ⟨a, c, rfl, hO, hm⟩
  obtain ⟨cap3, w3, hconv, hm3, hsl⟩ := conv_bytes (P := Tryz.prog) Tryz.underlying9 Tryz.underlying89 Tryz.underlying5 w1 s s.size rfl (by omega)
  have HO := Lib.hid (hO.ext hm3)
  have HM3 := Lib.hid (hm.trans hm3)
  have HSL := Lib.hid hsl
  have HZ := Lib.hid (hm.trans hm3).size
  have hll : (l ++ leB 1 s.size).length = l.length + 1 := by rw [List.length_append, leB_length]
  have HLL := Lib.hid hll
  clear hO hm hm3 hsl hll
  go_wp2_with (at_builtin; refine wpl_app2 Tryz.elB encB_ok rfl _ _ rfl w.heap.size (.slice a (l.length + 1) c) _ (l ++ leB 1 s.size) s.data.toList rfl rfl HO.out HSL.out (by rw [HLL.out, size_toList]; omega) HZ.out (fun f => f) ?_; intro a' c' w4 hown4 hmod hat)
  have HO4 := Lib.hid hown4
  have HM4 : Hid (Ext w w4) := Lib.hid (HM3.out.trans' hmod (fun i hi h => by have := (HO.out.lt i h).1; omega))
  clear hown4 hmod hat
  go_wp2_with fail
  go_ret
  have e : (l ++ leB 1 s.size).length + s.data.toList.length = l.length + (bytesT s).length := by rw [HLL.out, size_toList, HTL.out]; omega
  have h := HO4.out
  rw [e] at h
  refine ⟨a', c', ?_, ?_, HM4.out⟩
  · show Ending.returned (.slice a' (l.length + 1 + s.size) c') = _
    rw [show l.length + 1 + s.size = l.length + (bytesT s).length by rw [HTL.out]; omega]
  · unfold bytesT at h ⊢
    rw [← List.append_assoc]
    exact h
theorem text07v (bv : Value) (l : List UInt8) (hb : Sl F w 1 encB bv l) (s : ByteArray) (hs : s.size < 256) (hlen : l.length ≤ 100000) :
    Calls Tryz.prog 128 #[bv, .string s] w fun e w' => ∃ v, e = .returned v ∧ Own (fun _ => False) w' w.heap.size 5 1 encB v (l ++ bytesT s) ∧ Ext w w' :=
  (text07_any bv l hb s hs hlen).mono fun _ _ ⟨_, _, h1, h2, h3⟩ => ⟨_, h1, h2, h3⟩
end
end Go.Proofs.YtepafbokbfcbgaaGreatDoor
namespace Go.Proofs.YtepafbokbfcbgaaGreatDoor
open Go.RowKit
attribute [local go_sem ↓] Go.wp_at_zero Go.wp_at_succ
set_option maxRecDepth 100000 in
theorem SameTexts_any {F G : Nat → Prop} {w : World} (av bv : Value) (l m : List ByteArray) (ha : Sl F w 1 encS av l) (hb : Sl G w 1 encS bv m) :
    Calls Tryz.prog 14 #[av, bv] w fun e w' => e = .returned (.bool (decide (l = m))) ∧ Ext w w' := by
  obtain ⟨a, cap, rfl, h1, h2, h3, h4⟩ := ha
  obtain ⟨b, cap2, rfl, i1, i2, i3, i4⟩ := hb
  unfold maxLen at h2 i2
  have H4 := Lib.hid h4
  have I4 := Lib.hid i4
  clear h4 i4
  by_cases hl : l.length = m.length
  · obtain ⟨n, hn⟩ : ∃ n, n = l.length := ⟨_, rfl⟩
    rw [← hl, ← hn] at i1 i3 ⊢
    rw [← hn] at h1 h3
    have N1 : Hid (n = l.length) := Lib.hid hn
    have N2 : Hid (n = m.length) := Lib.hid (hn.trans hl)
    clear hn hl
    go_enter Tryz.func14, Tryz.ntmps14
    go_wp2_with fail
    go_loopg [5] n (fun q v5 wr => ∃ k : Nat, k + q = n ∧ v5 = .int .i64 k ∧ Hid (l.take k = m.take k) ∧ Hid (Ext w wr))
    case atStart => exact ⟨0, by omega, rfl, Lib.hid rfl, Lib.hid (Mods.refl _ _)⟩
    case round =>
      obtain ⟨k, hk, rfl, HQ, HM⟩ := hrel
      by_cases hltn : k < n
      · have hlt : k < l.length := by have := N1.out; omega
        have hlt2 : k < m.length := by have := N2.out; omega
        obtain ⟨b1, off1, rfl, hb1, hF1, hc1⟩ := Sl.atE H4.out HM.out k hlt
        obtain ⟨b2, off2, rfl, hb2, hF2, hc2⟩ := Sl.atE I4.out HM.out k hlt2
        obtain ⟨x, hx⟩ : ∃ x, x = l[k] := ⟨_, rfl⟩
        obtain ⟨y, hy⟩ : ∃ y, y = m[k] := ⟨_, rfl⟩
        have d1 := hc1 0 (.string x) (by rw [hx]; rfl)
        have d2 := hc2 0 (.string y) (by rw [hy]; rfl)
        simp only [Nat.mul_one, Nat.add_zero] at d1 d2
        have hx2 : l[k]? = some x := by rw [hx]; simp [hlt]
        have hy2 : m[k]? = some y := by rw [hy]; simp [hlt2]
        have HT : Hid (x = y → l.take (k + 1) = m.take (k + 1)) := Lib.hid (fun e => by rw [take_one l k x hx2, take_one m k y hy2, HQ.out, e])
        have HN : Hid (x ≠ y → decide (l = m) = false) := Lib.hid (fun e => by
          rw [decide_eq_false_iff_not]; intro h; rw [h, hy2] at hx2; injection hx2 with h5; exact e h5.symm)
        clear hc1 hc2 hx hy hx2 hy2 hlt hlt2
        by_cases hxy : x = y
        · subst hxy
          go_wp2_with fail
          go_region
          go_wp2_with fail
          go_roundg (gk - 1)
          case measure => omega
          case rel => exact ⟨k + 1, by omega, by go_num, Lib.hid (HT.out (by first | rfl | trivial)), Lib.hid HM.out.drew⟩
        · have hne : (x.toList == y.toList) = false := by rw [beq_eq_false_iff_ne]; exact fun e => hxy (toList_inj e)
          have HN2 := Lib.hid (HN.out hxy)
          clear hxy
          go_wp2_with fail
          go_region
          go_wp2_with fail
          go_ret
          exact ⟨ret_bool HN2.out.symm, HM.out.drew⟩
      · have he : Hid (decide (l = m) = true) := Lib.hid (by
          have := HQ.out
          have n1 := N1.out
          have n2 := N2.out
          rw [List.take_of_length_le (by omega), List.take_of_length_le (by omega)] at this
          simp [this])
        go_wp2_with fail
        go_ret
        exact ⟨ret_bool he.out.symm, HM.out⟩
  · have he : Hid (decide (l = m) = false) := Lib.hid (by rw [decide_eq_false_iff_not]; intro h; exact hl (by rw [h]))
    go_enter Tryz.func14, Tryz.ntmps14
    go_wp2_with fail
    go_ret
    exact ⟨ret_bool he.out.symm, Mods.refl _ _⟩
section
variable {F G : Nat → Prop} {w w' wr : World}
end
end Go.Proofs.YtepafbokbfcbgaaGreatDoor
