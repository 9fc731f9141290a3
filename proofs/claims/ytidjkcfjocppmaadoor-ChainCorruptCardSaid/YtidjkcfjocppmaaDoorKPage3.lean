/- page.read, Open, OpenAt. -/
import Derived.Test.YtidjkcfjocppmaaDoorKPage2
import Derived.Test.YtidjkcfjocppmaaDoorKRows1
namespace Go.Proofs.YtidjkcfjocppmaaDoor
open Go.RowKit

theorem Sl.sub {α : Type} {F : Nat → Prop} {w : World} {sz : Nat} {enc : α → List Value} {b off n c : Nat} {l : List α} (h : Sl F w sz enc (.slice (some ⟨b, off, none⟩) n c) l) (i j : Nat) (hij : i ≤ j) (hj : j ≤ n) :
    Sl F w sz enc (.slice (some ⟨b, off + i * sz, none⟩) (j - i) (c - i)) ((l.drop i).take (j - i)) := by
  obtain ⟨a, cap, he, h1, h2, h3, h4⟩ := h
  simp only [Value.slice.injEq] at he
  obtain ⟨rfl, rfl, rfl⟩ := he
  have hlen : ((l.drop i).take (j - i)).length = j - i := by simp [List.length_take, List.length_drop]; omega
  refine ⟨some ⟨b, off + i * sz, none⟩, c - i, by rw [hlen], by rw [hlen]; omega, by omega, by rw [hlen]; omega, ?_⟩
  rcases h4 with h4 | ⟨b', off', hbo, hb, hF, hc⟩
  · left; simp [h4]
  · simp only [Option.some.injEq, Addr.mk.injEq, and_true] at hbo
    obtain ⟨rfl, rfl⟩ := hbo
    refine .inr ⟨b, off + i * sz, rfl, hb, hF, fun k x hk q u hu => ?_⟩
    have hk1 : k < j - i := by
      have := (List.getElem?_eq_some_iff.1 hk).1
      rwa [hlen] at this
    rw [List.getElem?_take_of_lt hk1, List.getElem?_drop] at hk
    have := hc (i + k) x hk q u hu
    rw [← this]
    congr 2
    rw [Nat.add_mul]; omega

theorem take_ok (l : List UInt8) (i W : Nat) (h : i + W ≤ l.length) : takeF l (i : Int) W = (numAt l i W, none) := by
  unfold takeF numAt
  rw [if_neg (by omega), if_neg (by omega), Int.toNat_natCast]

theorem Tryd.pageSize : (Tryd.prog.info? 52).map (·.size) = some 4 := by kernel_rfl

theorem Take_at {F : Nat → Prop} {ad : Nat → Addr} {w : World} (hL : Env F ad w) (bv : Value) (l : List UInt8) (hb : Sl F w 1 encB bv l) (i W n : Nat) (hw : W = 1 ∨ W = 2 ∨ W = 4 ∨ W = 8) (hT : takeF l (i : Int) W = (n, none)) :
    Calls Tryd.prog 65 #[bv, .int .i64 (i : Int), .int .i64 (W : Int)] w fun e w' => e = .returned (.tuple #[.int .u64 (n : Int), .nilIface]) ∧ Ext w w' := by
  refine (Take_any hL bv l hb i W hw).mono ?_
  rintro e w' ⟨ev, rfl, hE, hm⟩
  rw [hT] at hE
  cases hE
  exact ⟨by rw [hT], hm⟩

set_option maxRecDepth 100000 in
set_option maxHeartbeats 800000 in
theorem read_any {F : Nat → Prop} {ad : Nat → Addr} {w : World} (hL : Env F ad w) (bv : Value) (l : List UInt8) (hb : Sl F w 1 encB bv l) (h1 : 256 ≤ l.length) (h2 : l.length ≤ 1024) :
    Calls Tryd.prog 94 #[bv] w fun e w' => ∃ pv, e = .returned (pageV (readP l) pv) ∧ Sl F w' 1 encB pv (readP l).body ∧ Ext w w' := by
  have HB : Hid (∀ w', Ext w w' → Sl F w' 1 encB bv l) := Lib.hid (fun w' m => hb.ext m)
  have HL : Hid (∀ w', Ext w w' → Env F ad w') := Lib.hid (fun w' m => hL.mods m.ext)
  have HF : Hid (Bd F w) := Lib.hid (fun k hk => hL.lt k hk)
  have T0 := Lib.hid (take_ok l 0 1 (by omega))
  have T2 := Lib.hid (take_ok l 2 2 (by omega))
  have T4 := Lib.hid (take_ok l 4 4 (by omega))
  have T8 := Lib.hid (take_ok l 8 8 (by omega))
  have L0 := numAt_lt l 0 1
  have L2 := numAt_lt l 2 2
  have L4 := numAt_lt l 4 4
  have L8 := numAt_lt l 8 8
  obtain ⟨n0, hn0⟩ : ∃ n, n = numAt l 0 1 := ⟨_, rfl⟩
  obtain ⟨n2, hn2⟩ : ∃ n, n = numAt l 2 2 := ⟨_, rfl⟩
  obtain ⟨n4, hn4⟩ : ∃ n, n = numAt l 4 4 := ⟨_, rfl⟩
  obtain ⟨n8, hn8⟩ : ∃ n, n = numAt l 8 8 := ⟨_, rfl⟩
  have HP : Hid (readP l = ⟨(n0 : Nat), (n4 : Nat), n8, if n2 ≤ l.length - 24 then (l.drop 20).take n2 else []⟩) := Lib.hid (by rw [hn0, hn2, hn4, hn8]; rfl)
  rw [← hn0] at T0 L0
  rw [← hn2] at T2 L2
  rw [← hn4] at T4 L4
  rw [← hn8] at T8 L8
  replace L0 : n0 < 256 := L0
  replace L2 : n2 < 65536 := L2
  replace L4 : n4 < 4294967296 := L4
  replace L8 : n8 < 18446744073709551616 := L8
  clear hn0 hn2 hn4 hn8
  obtain ⟨a, cap, rfl, i1, i2, i3, i4⟩ := hb
  unfold maxLen at i2
  have hne : l ≠ [] := by intro h; rw [h] at h1; simp at h1
  obtain ⟨b, off, rfl, hbl, hF, _⟩ : ∃ b off, a = some ⟨b, off, none⟩ ∧ b < w.heap.size ∧ ¬ F b ∧ True := by
    rcases i4 with h | ⟨b, off, h, hh, hF, _⟩
    · exact absurd h hne
    · exact ⟨b, off, h, hh, hF, trivial⟩
  clear i4 hne hL
  go_enter Tryd.func94, Tryd.ntmps94
  go_wp2_with fail
  have m0 : Ext w (w.alloc (.cells #[.int .i64 0, .int .i64 0, .int .u64 0, .slice none 0 0] 52)) := (Mods.refl _ w).alloc _
  have RB : Hid (∀ w', Ext (w.alloc (.cells #[.int .i64 0, .int .i64 0, .int .u64 0, .slice none 0 0] 52)) w' → Blk w' w.heap.size #[.int .i64 0, .int .i64 0, .int .u64 0, .slice none 0 0] 52) := Lib.hid (fun w' m => (Blk.new w _ _).ext m)
  refine (Take_at (HL.out _ m0) _ l (HB.out _ m0) 0 1 n0 (by decide) T0.out).mono ?_
  rintro e w1 ⟨rfl, hm⟩
  have M1 := Lib.hid (m0.trans hm)
  have M5 := Lib.hid hm
  clear m0 hm
  go_wp2_with fail
  refine (Take_at (HL.out _ M1.out) _ l (HB.out _ M1.out) 2 2 n2 (by decide) T2.out).mono ?_
  rintro e w2 ⟨rfl, hm⟩
  have M2 := Lib.hid (M1.out.trans hm)
  have M5 := Lib.hid (M5.out.trans hm)
  clear hm
  go_wp2_with fail
  refine (Take_at (HL.out _ M2.out) _ l (HB.out _ M2.out) 4 4 n4 (by decide) T4.out).mono ?_
  rintro e w3 ⟨rfl, hm⟩
  have M3 := Lib.hid (M2.out.trans hm)
  have M5 := Lib.hid (M5.out.trans hm)
  clear hm
  go_wp2_with fail
  refine (Take_at (HL.out _ M3.out) _ l (HB.out _ M3.out) 8 8 n8 (by decide) T8.out).mono ?_
  rintro e w4 ⟨rfl, hm⟩
  have M4 := Lib.hid (M3.out.trans hm)
  have M5 := Lib.hid (M5.out.trans hm)
  clear hm
  have hz4 : w.heap.size < w4.heap.size := Nat.lt_of_lt_of_le (by simp) M5.out.size
  have rb := RB.out w4 M5.out
  have r0 := rb.cell (o := 0) rfl
  have r1 := rb.cell (o := 1) rfl
  have r2 := rb.cell (o := 2) rfl
  have r3 := rb.cell (o := 3) rfl
  have rf := rb.frozen
  clear rb
  by_cases hc : n2 + 24 ≤ l.length
  · have HP2 : Hid (readP l = ⟨(n0 : Nat), (n4 : Nat), n8, (l.drop 20).take n2⟩) := Lib.hid (by rw [HP.out, if_pos (by omega)])
    go_wp2_with fail
    have HB4 := (HB.out _ (M4.out.alloc (.cells #[.int .i64 n0, .int .i64 n4, .int .u64 n8, .slice none 0 0] 52))).sub 20 (20 + n2) (by omega) (by omega)
    simp only [Nat.mul_one, Nat.add_sub_cancel_left] at HB4
    have PA := Clone_any (HF.out.mods (M4.out.alloc (.cells #[.int .i64 n0, .int .i64 n4, .int .u64 n8, .slice none 0 0] 52))) _ _ HB4
    refine PA.mono ?_
    rintro e w5 ⟨a5, c5, rfl, hO5, hm5⟩
    have hlen : ((l.drop 20).take n2).length = n2 := by simp [List.length_take, List.length_drop]; omega
    rw [hlen] at hO5 ⊢
    have mG := Mods.set4 ((Mods.refl (fun k => k = w4.heap.size ∨ k = w.heap.size) w5).setCell (p := ⟨w4.heap.size, 3, none⟩) (.inr (.inl rfl)) (.slice a5 n2 c5)) (R := w.heap.size) (.inr (.inr rfl)) (.int .i64 n0) (.int .i64 n4) (.int .u64 n8) (.slice a5 n2 c5)
    have hS5 := (hO5.mods mG (fun g hg h => by have h9 := (hO5.lt g hg).1; simp at h9; omega)).sl (fun _ => rfl) (by rw [hlen]; omega)
    have M6 := Lib.hid ((M4.out.alloc (.cells #[.int .i64 n0, .int .i64 n4, .int .u64 n8, .slice none 0 0] 52)).trans hm5)
    have hR5 := (RB.out w4 M5.out).alloc (.cells #[.int .i64 n0, .int .i64 n4, .int .u64 n8, .slice none 0 0] 52) |>.ext hm5
    have hP5 := (Blk.new w4 #[.int .i64 n0, .int .i64 n4, .int .u64 n8, .slice none 0 0] 52).ext hm5
    have s0 := hR5.cell (o := 0) rfl
    have s1 := hR5.cell (o := 1) rfl
    have s2 := hR5.cell (o := 2) rfl
    have s3 := hR5.cell (o := 3) rfl
    have sf := hR5.frozen
    have t0 := hP5.cell (o := 0) rfl
    have t1 := hP5.cell (o := 1) rfl
    have t2 := hP5.cell (o := 2) rfl
    have t3 := hP5.cell (o := 3) rfl
    have tf := hP5.frozen
    have hne : w4.heap.size ≠ w.heap.size := by omega
    have hne2 : w.heap.size ≠ w4.heap.size := by omega
    have hb5 := Blk.set4 (hR5.set_other (p := ⟨w4.heap.size, 3, none⟩) hne2 (.slice a5 n2 c5)) (.int .i64 n0) (.int .i64 n4) (.int .u64 n8) (.slice a5 n2 c5)
    have hm6 := Mods.set4 (M6.out.setCell (p := ⟨w4.heap.size, 3, none⟩) (.inl (by show w.heap.size ≤ w4.heap.size; omega)) (.slice a5 n2 c5)) (.inl (Nat.le_refl w.heap.size)) (.int .i64 n0) (.int .i64 n4) (.int .u64 n8) (.slice a5 n2 c5)
    have HB5 := Lib.hid hb5
    have HM6 := Lib.hid hm6
    have HS5 := Lib.hid hS5
    clear hb5 hm6 hS5 hO5 mG hR5 hP5 hm5 r0 r1 r2 r3 rf HB4 PA hlen
    go_wp2_with fail
    refine bodyPost_ret (results_cell_row rfl _ _ w.heap.size 52 #[.int .i64 n0, .int .i64 n4, .int .u64 n8, .slice a5 n2 c5] (0, 0) _ rfl HB5.out Tryd.underlying52 rfl Tryd.pageSize) rfl ?_
    exact ⟨.slice a5 n2 c5, by rw [HP2.out]; rfl, by rw [HP2.out]; exact HS5.out, HM6.out⟩
  · have HP2 : Hid (readP l = ⟨(n0 : Nat), (n4 : Nat), n8, []⟩) := Lib.hid (by rw [HP.out, if_neg (by omega)])
    have hc2 : l.length < n2 + 24 := by omega
    clear hc
    go_wp2_with fail
    have hb5 := (Blk.set4 (RB.out w4 M5.out) (.int .i64 n0) (.int .i64 n4) (.int .u64 n8) (.slice none 0 0)).alloc (.cells #[.int .i64 n0, .int .i64 n4, .int .u64 n8, .slice none 0 0] 52)
    have hm5 := (Mods.set4 M4.out (.inl (Nat.le_refl w.heap.size)) (.int .i64 n0) (.int .i64 n4) (.int .u64 n8) (.slice none 0 0)).alloc (.cells #[.int .i64 n0, .int .i64 n4, .int .u64 n8, .slice none 0 0] 52)
    refine bodyPost_ret (results_cell_row rfl _ _ w.heap.size 52 #[.int .i64 n0, .int .i64 n4, .int .u64 n8, .slice none 0 0] (0, 0) _ rfl hb5 Tryd.underlying52 rfl Tryd.pageSize) rfl ?_
    exact ⟨.slice none 0 0, by rw [HP2.out]; rfl, by rw [HP2.out]; exact Sl.nil _ _ _ _, hm5⟩
end Go.Proofs.YtidjkcfjocppmaaDoor
