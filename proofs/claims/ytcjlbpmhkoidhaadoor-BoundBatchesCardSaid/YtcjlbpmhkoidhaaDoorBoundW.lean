/- Walks of layer 19's program side: chain.Need, total, chains, most, weigh, check, Most, Least, Depth. -/
import Derived.Test.YtcjlbpmhkoidhaaDoorNodeW
import Derived.Test.YtcjlbpmhkoidhaaDoorBoundDefs
namespace Go.Proofs.YtcjlbpmhkoidhaaDoor
open Go.RowKit

theorem piece_any (n : Int) (w : World) (h0 : 0 ≤ n) (h1 : n ≤ 9223372036854775807) : Calls Tryd.prog 43 #[.int .i64 n] w fun e w' => e = .returned (.int .i64 (n - 28)) ∧ w = w' := by
  have e : n - 24 - 4 = n - 28 := by omega
  have E := Lib.hid e
  clear e
  go_enter Tryd.func43, Tryd.ntmps43
  go_wp2
  go_ret
  exact ⟨by rw [← E.out]; rfl, rfl⟩

theorem need_any (n size : Int) (w : World) (h0 : -9223372036854775808 ≤ n) (h1 : n ≤ 9223372036854775807) : Calls Tryd.prog 35 #[.int .i64 n, .int .i64 size] w fun e w' => e = .returned (.int .i64 (needN n size)) ∧ w = w' := by
  by_cases hc : n < 1 ∨ size < 256 ∨ 1024 < size
  · have hr : needN n size = 0 := by unfold needN; rw [if_pos hc]
    have HR := Lib.hid hr
    clear hr
    rcases hc with hc | hc | hc
    · go_enter Tryd.func35, Tryd.ntmps35
      go_wp2
      go_ret
      exact ⟨by rw [HR.out]; rfl, rfl⟩
    · by_cases hn : n < 1
      all_goals
        go_enter Tryd.func35, Tryd.ntmps35
        go_wp2
        go_ret
        exact ⟨by rw [HR.out]; rfl, rfl⟩
    · by_cases hn : n < 1
      all_goals
        by_cases hs : size < 256
        all_goals
          go_enter Tryd.func35, Tryd.ntmps35
          go_wp2
          go_ret
          exact ⟨by rw [HR.out]; rfl, rfl⟩
  · have hr : needN n size = (n - 1) / (size - 28) + 1 := by unfold needN; rw [if_neg hc]
    have HR := Lib.hid hr
    clear hr
    have h2 : 0 ≤ (n - 1) / (size - 28) := Int.ediv_nonneg (by omega) (by omega)
    have h3 : (n - 1) / (size - 28) ≤ n - 1 := Int.ediv_le_self _ (by omega)
    have h4 : 1 ≤ n ∧ 256 ≤ size ∧ size ≤ 1024 := by omega
    obtain ⟨h4, h5, h6⟩ := h4
    clear hc
    go_enter Tryd.func35, Tryd.ntmps35
    go_wp2_with (go_at_call 43; refine (piece_any _ _ (by omega) (by omega)).mono ?_; rintro e w' ⟨rfl, rfl⟩)
    go_ret
    exact ⟨by rw [HR.out]; rfl, rfl⟩

/-! ### the closures, and the sum -/
theorem chains1_any (k v : ByteArray) (b : Nat) (size : Int) (w : World) (hv : v.size ≤ 4096) (hb : b < w.heap.size) (hc : w.cell? ⟨b, 0, none⟩ = some (.int .i64 size)) :
    Calls Tryd.prog 34 #[.agg #[.string k, .string v], .pointer (some ⟨b, 0, none⟩)] w fun e w' => e = .returned (.int .i64 (chainP size (k, v))) ∧ Ext w w' := by
  by_cases h : (v.size : Int) ≤ 24
  · have HR := Lib.hid (show chainP size (k, v) = 0 by unfold chainP; rw [if_pos h])
    go_enter Tryd.func34, Tryd.ntmps34
    go_wp2
    go_ret
    exact ⟨by rw [HR.out]; rfl, (Mods.refl _ _).alloc _⟩
  · have HR := Lib.hid (show chainP size (k, v) = needN v.size size by unfold chainP; rw [if_neg h])
    go_enter Tryd.func34, Tryd.ntmps34
    go_wp2_with (go_at_call 35; refine (need_any _ _ _ (by omega) (by omega)).mono ?_; rintro e w' ⟨rfl, rfl⟩)
    go_ret
    exact ⟨by rw [HR.out]; rfl, (Mods.refl _ _).alloc _⟩

set_option maxHeartbeats 400000 in
theorem total1_any {F : Nat → Prop} (g : PairB → Int) (lv : Value) (l : List PairB) (c : Value) (fn : FuncId) (w : World) (hl : Sl F w 2 encP lv l) (hg : ∀ x ∈ l, 0 ≤ g x ∧ g x ≤ 8192)
    (hcf : ∀ (args : Array Value) (w : World), (callFunc fn args).run Tryd.prog w = .ok (.enter fn args) w)
    (hof : ∀ x ∈ l, ∀ w1, Ext w w1 → Calls Tryd.prog fn #[.agg #[.string x.1, .string x.2], c] w1 fun e w' => e = .returned (.int .i64 (g x)) ∧ Ext w1 w') :
    Calls Tryd.prog 20 #[lv, .func (.func fn) #[] #[c]] w fun e w' => e = .returned (.int .i64 (sumBy g l)) ∧ Ext w w' := by
  obtain ⟨a, cap, rfl, h1, h2, h3, h4⟩ := hl
  unfold maxLen at h2
  have HO := Lib.hid hof
  have HG := Lib.hid hg
  clear hof hg
  go_enter Tryd.func20, Tryd.ntmps20
  go_wp2
  go_loopg [5, 10] l.length (fun n t i wr => ∃ k : Nat, ∃ z : Int, k + n = l.length ∧ i = .int .i64 k ∧ t = .int .i64 z ∧ Hid (z = sumBy g (l.take k)) ∧ Ext w wr)
  case atStart => exact ⟨0, 0, by omega, rfl, rfl, Lib.hid rfl, Mods.refl _ _⟩
  case round =>
    obtain ⟨k, z, hk, rfl, rfl, HZ, hm⟩ := hrel
    by_cases hlt : k < l.length
    · obtain ⟨b, off, rfl, hb, hF, hc⟩ := Sl.at h4 hm (fun _ _ f => f.elim) k hlt
      have c0 := hc 0 _ rfl
      have c1 := hc 1 _ rfl
      simp only [Nat.add_zero] at c0
      clear hc h4
      have hs := Lib.hid (sumBy_take g l k l[k] (by simp [hlt]))
      have hb1 := sumBy_le g 8192 (l.take k) (fun x hx => HG.out x (mem_take hx))
      have hb2 := HG.out l[k] (by simp)
      have hlen : (l.take k).length ≤ l.length := by simp; omega
      have hz1 : 0 ≤ z ∧ z ≤ 8192 * (l.take k).length := by rw [HZ.out]; exact hb1
      obtain ⟨b1, b2⟩ := hz1
      obtain ⟨b3, b4⟩ := hb2
      clear hb1
      go_wp2
      refine (HO.out l[k] (by simp) _ (hm.alloc _)).mono ?_
      rintro e w' ⟨rfl, hm2⟩
      go_wp2
      go_roundg (gk - 1)
      case measure => omega
      case rel => exact ⟨k + 1, _, by omega, by go_num, rfl, Lib.hid (by rw [hs.out, HZ.out]), (hm.alloc _).trans' hm2 (fun _ _ f => f.elim)⟩
    · have hke : k = l.length := by omega
      have hzz : Hid (z = sumBy g l) := Lib.hid (by rw [HZ.out, hke, List.take_length])
      clear HZ hke h4
      go_wp2
      go_ret
      exact ⟨ret_int hzz.out, hm⟩

set_option maxHeartbeats 400000 in
theorem total0_any {F : Nat → Prop} (g : PairB → Int) (lv : Value) (l : List PairB) (fn : FuncId) (w : World) (hl : Sl F w 2 encP lv l) (hg : ∀ x ∈ l, 0 ≤ g x ∧ g x ≤ 8192)
    (hcf : ∀ (args : Array Value) (w : World), (callFunc fn args).run Tryd.prog w = .ok (.enter fn args) w)
    (hof : ∀ x ∈ l, ∀ w1, Ext w w1 → Calls Tryd.prog fn #[.agg #[.string x.1, .string x.2]] w1 fun e w' => e = .returned (.int .i64 (g x)) ∧ Ext w1 w') :
    Calls Tryd.prog 20 #[lv, .func (.func fn) #[] #[]] w fun e w' => e = .returned (.int .i64 (sumBy g l)) ∧ Ext w w' := by
  obtain ⟨a, cap, rfl, h1, h2, h3, h4⟩ := hl
  unfold maxLen at h2
  have HO := Lib.hid hof
  have HG := Lib.hid hg
  clear hof hg
  go_enter Tryd.func20, Tryd.ntmps20
  go_wp2
  go_loopg [5, 10] l.length (fun n t i wr => ∃ k : Nat, ∃ z : Int, k + n = l.length ∧ i = .int .i64 k ∧ t = .int .i64 z ∧ Hid (z = sumBy g (l.take k)) ∧ Ext w wr)
  case atStart => exact ⟨0, 0, by omega, rfl, rfl, Lib.hid rfl, Mods.refl _ _⟩
  case round =>
    obtain ⟨k, z, hk, rfl, rfl, HZ, hm⟩ := hrel
    by_cases hlt : k < l.length
    · obtain ⟨b, off, rfl, hb, hF, hc⟩ := Sl.at h4 hm (fun _ _ f => f.elim) k hlt
      have c0 := hc 0 _ rfl
      have c1 := hc 1 _ rfl
      simp only [Nat.add_zero] at c0
      clear hc h4
      have hs := Lib.hid (sumBy_take g l k l[k] (by simp [hlt]))
      have hb1 := sumBy_le g 8192 (l.take k) (fun x hx => HG.out x (mem_take hx))
      have hb2 := HG.out l[k] (by simp)
      have hlen : (l.take k).length ≤ l.length := by simp; omega
      have hz1 : 0 ≤ z ∧ z ≤ 8192 * (l.take k).length := by rw [HZ.out]; exact hb1
      obtain ⟨b1, b2⟩ := hz1
      obtain ⟨b3, b4⟩ := hb2
      clear hb1
      go_wp2
      refine (HO.out l[k] (by simp) _ (hm.alloc _)).mono ?_
      rintro e w' ⟨rfl, hm2⟩
      go_wp2
      go_roundg (gk - 1)
      case measure => omega
      case rel => exact ⟨k + 1, _, by omega, by go_num, rfl, Lib.hid (by rw [hs.out, HZ.out]), (hm.alloc _).trans' hm2 (fun _ _ f => f.elim)⟩
    · have hke : k = l.length := by omega
      have hzz : Hid (z = sumBy g l) := Lib.hid (by rw [HZ.out, hke, List.take_length])
      clear HZ hke h4
      go_wp2
      go_ret
      exact ⟨ret_int hzz.out, hm⟩

theorem weigh_any (k v : ByteArray) (w : World) (hk : k.size ≤ 32) (hv : v.size ≤ 4096) :
    Calls Tryd.prog 21 #[.agg #[.string k, .string v]] w fun e w' => e = .returned (.int .i64 (weighP (k, v))) ∧ Ext w w' := by
  by_cases h : (v.size : Int) ≤ 24
  · obtain ⟨W0, hX, hw3, hw4, hw⟩ : ∃ W0 : Int, Hid (weightN ⟨true, [⟨k, v, 0, 0⟩], [], []⟩ = W0) ∧ 0 ≤ W0 ∧ W0 ≤ 5000 ∧ Hid (W0 - 2 = weighP (k, v)) := by
      refine ⟨2 + (2 + (k.size : Int) + (1 + (v.size : Int))), Lib.hid ?_, by omega, by omega, Lib.hid ?_⟩
      · simp [weightN, sumE, sumK, weightE]
      · simp [weighP, h]; omega
    go_enter Tryd.func21, Tryd.ntmps21
    go_wp2_with fail
    refine (weight_any ⟨true, [⟨k, v, 0, 0⟩], [], []⟩ _ _ _ _ (Sl.one (F := fun _ => False) (by exact heap_at (by simp)) (fun f => f)) (Sl.nil (fun _ => False) _ _ _) (by rw [hX.out]; omega)).mono ?_
    rw [hX.out]
    rintro e w' ⟨rfl, hm⟩
    go_wp2
    go_ret
    exact ⟨ret_int hw.out, ((((Mods.refl _ w).alloc _).alloc _).alloc _).trans hm⟩
  · obtain ⟨W0, hX, hw3, hw4, hw⟩ : ∃ W0 : Int, Hid (weightN ⟨true, [⟨k, ⟨#[]⟩, 2, v.size⟩], [], []⟩ = W0) ∧ 0 ≤ W0 ∧ W0 ≤ 5000 ∧ Hid (W0 - 2 = weighP (k, v)) := by
      refine ⟨2 + (2 + (k.size : Int) + 8), Lib.hid ?_, by omega, by omega, Lib.hid ?_⟩
      · simp [weightN, sumE, sumK, weightE]
      · simp [weighP, h]; omega
    go_enter Tryd.func21, Tryd.ntmps21
    go_wp2_with fail
    refine (weight_any ⟨true, [⟨k, ⟨#[]⟩, 2, v.size⟩], [], []⟩ _ _ _ _ (Sl.one (F := fun _ => False) (by exact heap_at (by simp)) (fun f => f)) (Sl.nil (fun _ => False) _ _ _) (by rw [hX.out]; omega)).mono ?_
    rw [hX.out]
    rintro e w' ⟨rfl, hm⟩
    go_wp2
    go_ret
    exact ⟨ret_int hw.out, ((((Mods.refl _ w).alloc _).alloc _).alloc _).trans hm⟩

theorem chains_any {F : Nat → Prop} (lv : Value) (l : List PairB) (size : Int) (w : World) (hl : Sl F w 2 encP lv l) (hr : ∀ p ∈ l, p.1.size ≤ 32 ∧ p.2.size ≤ 4096) :
    Calls Tryd.prog 22 #[lv, .int .i64 size] w fun e w' => e = .returned (.int .i64 (sumBy (chainP size) l)) ∧ Ext w w' := by
  have hcf : ∀ (args : Array Value) (w : World), (callFunc 34 args).run Tryd.prog w = .ok (.enter 34 args) w := fun _ _ => by kernel_rfl
  have hlm := hl.mods ((Mods.refl _ w).alloc (.cells #[.int .i64 size] 3))
  have HT := Lib.hid (total1_any (chainP size) lv l (.pointer (some ⟨w.heap.size, 0, none⟩)) 34 _ hlm (fun x hx => by
      have := needN_le x.2.size size (by have := (hr x hx).2; omega)
      unfold chainP; split <;> omega) hcf
      (fun x hx w1 m => chains1_any x.1 x.2 w.heap.size size w1 (hr x hx).2 (by have := m.size; simp at this; omega) (by rw [m.cell (by simp) (fun f => f)]; simp)))
  clear hcf
  go_enter Tryd.func22, Tryd.ntmps22
  go_wp2_with fail
  refine HT.out.mono ?_
  rintro e w' ⟨rfl, hm⟩
  go_wp2
  go_ret
  exact ⟨rfl, ((Mods.refl _ w).alloc _).trans hm⟩
end Go.Proofs.YtcjlbpmhkoidhaaDoor
