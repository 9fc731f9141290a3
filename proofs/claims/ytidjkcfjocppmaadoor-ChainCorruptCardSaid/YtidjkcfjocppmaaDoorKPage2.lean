/- page.Seal. -/
import Derived.Test.YtidjkcfjocppmaaDoorKPage
namespace Go.Proofs.YtidjkcfjocppmaaDoor
open Go.RowKit

def hdrP (p : PageA) : Nat → List UInt8
  | 0 => []
  | 1 => leB 1 p.kind.toNat
  | 2 => leB 1 p.kind.toNat ++ leB 1 0
  | 3 => leB 1 p.kind.toNat ++ leB 1 0 ++ leB 2 p.body.length
  | 4 => leB 1 p.kind.toNat ++ leB 1 0 ++ leB 2 p.body.length ++ leB 4 p.id.toNat
  | 5 => leB 1 p.kind.toNat ++ leB 1 0 ++ leB 2 p.body.length ++ leB 4 p.id.toNat ++ leB 8 p.gen
  | _ => leB 1 p.kind.toNat ++ leB 1 0 ++ leB 2 p.body.length ++ leB 4 p.id.toNat ++ leB 8 p.gen ++ leB 4 0

theorem Tryd.idx6_0 (a0 a1 a2 a3 a4 a5 a6 a7 a8 a9 a10 a11 : Value) (w : World) : (Instr.index 147 (.agg #[a0, a1, a2, a3, a4, a5, a6, a7, a8, a9, a10, a11]) (.int .i64 0)).run Tryd.prog w = .ok (.agg #[a0, a1]) w := by kernel_rfl
theorem Tryd.idx6_1 (a0 a1 a2 a3 a4 a5 a6 a7 a8 a9 a10 a11 : Value) (w : World) : (Instr.index 147 (.agg #[a0, a1, a2, a3, a4, a5, a6, a7, a8, a9, a10, a11]) (.int .i64 1)).run Tryd.prog w = .ok (.agg #[a2, a3]) w := by kernel_rfl
theorem Tryd.idx6_2 (a0 a1 a2 a3 a4 a5 a6 a7 a8 a9 a10 a11 : Value) (w : World) : (Instr.index 147 (.agg #[a0, a1, a2, a3, a4, a5, a6, a7, a8, a9, a10, a11]) (.int .i64 2)).run Tryd.prog w = .ok (.agg #[a4, a5]) w := by kernel_rfl
theorem Tryd.idx6_3 (a0 a1 a2 a3 a4 a5 a6 a7 a8 a9 a10 a11 : Value) (w : World) : (Instr.index 147 (.agg #[a0, a1, a2, a3, a4, a5, a6, a7, a8, a9, a10, a11]) (.int .i64 3)).run Tryd.prog w = .ok (.agg #[a6, a7]) w := by kernel_rfl
theorem Tryd.idx6_4 (a0 a1 a2 a3 a4 a5 a6 a7 a8 a9 a10 a11 : Value) (w : World) : (Instr.index 147 (.agg #[a0, a1, a2, a3, a4, a5, a6, a7, a8, a9, a10, a11]) (.int .i64 4)).run Tryd.prog w = .ok (.agg #[a8, a9]) w := by kernel_rfl
theorem Tryd.idx6_5 (a0 a1 a2 a3 a4 a5 a6 a7 a8 a9 a10 a11 : Value) (w : World) : (Instr.index 147 (.agg #[a0, a1, a2, a3, a4, a5, a6, a7, a8, a9, a10, a11]) (.int .i64 5)).run Tryd.prog w = .ok (.agg #[a10, a11]) w := by kernel_rfl

set_option maxRecDepth 100000 in
set_option maxHeartbeats 1600000 in
theorem Seal_ok {F : Nat → Prop} {ad : Nat → Addr} {w : World} (hL : Env F ad w) (p : PageA) (bv : Value) (hb : Sl F w 1 encB bv p.body) (size : Nat) (hg : p.gen < 18446744073709551616) (hc : pgCheck p size = none) :
    Calls Tryd.prog 67 #[pageV p bv, .int .i64 (size : Int)] w fun e w' => ∃ a c, e = .returned (.tuple #[.slice a size c, .nilIface]) ∧ Own F w' w.heap.size 5 1 encB (.slice a size c) (sealP p size) ∧ Ext w w' := by
  have HB : Hid (∀ w', Ext w w' → Sl F w' 1 encB bv p.body) := Lib.hid (fun w' m => hb.ext m)
  have HL : Hid (∀ w', Ext w w' → Env F ad w') := Lib.hid (fun w' m => hL.mods m.ext)
  have HF : Hid (Bd F w) := Lib.hid (fun k hk => hL.lt k hk)
  obtain ⟨a, cap, rfl, h1, h2, h3, h4⟩ := hb
  unfold maxLen at h2
  clear h4 hL
  have HC := Lib.hid hc
  obtain ⟨c1, c2, c3, c4, c5, c6⟩ := pgCheck_none hc
  obtain ⟨k1, k2⟩ := kindB_range c3
  clear hc c3
  have HR : Hid (rawP p size = hdrP p 6 ++ p.body ++ List.replicate (size - 4 - (20 + p.body.length)) 0) := Lib.hid rfl
  have HS : Hid (sealP p size = rawP p size ++ leB 4 (crcSum (rawP p size))) := Lib.hid rfl
  have HRL : Hid ((rawP p size).length = size - 4) := Lib.hid (rawP_length p size (by omega))
  obtain ⟨K, hK⟩ : ∃ n : Nat, p.kind = n := ⟨p.kind.toNat, by omega⟩
  obtain ⟨I, hI⟩ : ∃ n : Nat, p.id = n := ⟨p.id.toNat, by omega⟩
  have H1 : Hid (p.kind.toNat = K) := Lib.hid (by omega)
  have H2 : Hid (p.id.toNat = I) := Lib.hid (by omega)
  rw [hK] at k1 k2
  rw [hI] at c4 c5
  replace c1 : 256 ≤ size := by omega
  replace c2 : size ≤ 1024 := by omega
  replace c5 : I < 256 := by omega
  replace c6 : p.body.length + 24 ≤ size := by omega
  replace k2 : K < 6 := by omega
  have HG := Lib.hid hg
  clear k1 c4 hg
  have HP : Hid (∀ bv, pageV p bv = .agg #[.int .i64 K, .int .i64 I, .int .u64 (p.gen : Int), bv]) := Lib.hid (fun _ => by rw [pageV, hK, hI])
  clear hK hI
  rw [HP.out]
  go_enter Tryd.func67, Tryd.ntmps67
  go_wp2_with fail
  rw [← HP.out]
  have m0 : Ext w (w.alloc (.cells #[.int .i64 K, .int .i64 I, .int .u64 (p.gen : Int), .slice a p.body.length cap] 52)) := (Mods.refl _ w).alloc _
  refine (Check_any (HL.out _ m0) p _ (HB.out _ m0) size).mono ?_
  rintro e w1 ⟨ev, rfl, hE, hm⟩
  rw [HC.out] at hE
  cases hE
  have M1 : Hid (Ext w w1) := Lib.hid (m0.trans hm)
  have hcell : ∀ o : Nat, w1.cell? ⟨w.heap.size, o, none⟩ = (w.alloc (.cells #[.int .i64 K, .int .i64 I, .int .u64 (p.gen : Int), .slice a p.body.length cap] 52)).cell? ⟨w.heap.size, o, none⟩ := fun o => hm.cell (by simp) (fun f => f)
  have q0 : w1.cell? ⟨w.heap.size, 0, none⟩ = some (.int .i64 K) := by rw [hcell, cells_of_block (heap_at rfl)]; rfl
  have q1 : w1.cell? ⟨w.heap.size, 1, none⟩ = some (.int .i64 I) := by rw [hcell, cells_of_block (heap_at rfl)]; rfl
  have q2 : w1.cell? ⟨w.heap.size, 2, none⟩ = some (.int .u64 p.gen) := by rw [hcell, cells_of_block (heap_at rfl)]; rfl
  have q3 : w1.cell? ⟨w.heap.size, 3, none⟩ = some (.slice a p.body.length cap) := by rw [hcell, cells_of_block (heap_at rfl)]; rfl
  have Q3 : Hid (∀ w', Ext w1 w' → w'.cell? ⟨w.heap.size, 3, none⟩ = some (.slice a p.body.length cap)) := Lib.hid (fun w' m => (m.cell (Nat.lt_of_lt_of_le (by simp) hm.size) (fun f => f)).trans q3)
  clear hcell hm m0
  go_wp2_with fail
  go_loopg [7, 37] 6 (fun m v7 v37 wr => ∃ (k : Nat) (a : Option Addr) (c : Nat), k + m = 6 ∧ v7 = .slice a (hdrP p k).length c ∧ v37 = .int .i64 k ∧ Hid (Sl F wr 1 encB (.slice a (hdrP p k).length c) (hdrP p k)) ∧
    Hid (0 < k → Own F wr w.heap.size 5 1 encB (.slice a (hdrP p k).length c) (hdrP p k)) ∧ Hid (Ext w1 wr))
  case atStart => exact ⟨0, none, 0, rfl, rfl, rfl, Lib.hid (Sl.nil _ _ _ _), Lib.hid (by omega), Lib.hid (Mods.refl _ _)⟩
  case round =>
    clear q0 q1 q2 q3
    obtain ⟨k, a2, cc2, hk, rfl, rfl, HS2, HO2, HM2⟩ := hrel
    by_cases hlt : k < 6
    · have hk6 : k = 0 ∨ k = 1 ∨ k = 2 ∨ k = 3 ∨ k = 4 ∨ k = 5 := by omega
      obtain ⟨m, rfl⟩ : ∃ m, gk = m + 1 := ⟨gk - 1, by omega⟩
      have hm6 : Hid (k + (m + 1) = 6) := Lib.hid hk
      clear hk hlt
      rcases hk6 with rfl | rfl | rfl | rfl | rfl | rfl
      · have hl0 : (hdrP p 0).length = 0 := by simp [hdrP]
        have hstep : Hid (hdrP p 0 ++ leB 1 (K) = hdrP p 1) := Lib.hid (by have := H1.out; simp [hdrP, this])
        have hl1 : Hid ((hdrP p 1).length = 0 + 1) := Lib.hid (by simp [hdrP, leB_length])
        have ix := Tryd.idx6_0
        rw [hl0] at HS2 ⊢
        have HL0 := Lib.hid hl0
        clear hl0
        go_wp2_with fail
        have HW2 : Ext w (wr.alloc (.cells #[.int .u64 ((K : Nat) : Int), .int .u64 1] 146)) := (M1.out.trans HM2.out).alloc _
        have PA := Put_any (HL.out _ HW2) _ (hdrP p 0) (HS2.out.ext ((Mods.refl _ wr).alloc _)) (K) 1 (by decide) (by have := HG.out; omega) (by rw [HL0.out]; decide)
        rw [hstep.out, HL0.out] at PA
        refine PA.mono ?_
        rintro e w3 ⟨a3, c3, rfl, hO3, hm3⟩
        have HO3 := Lib.hid hO3
        have HM3 : Hid (Ext w1 w3) := Lib.hid ((HM2.out.alloc _).trans hm3)
        have HZ3 := Lib.hid HW2.size
        clear hO3 hm3 HW2 PA
        go_wp2_with fail
        go_roundg m
        case measure => omega
        case rel => exact ⟨1, a3, c3, by have := hm6.out; omega, by rw [hl1.out], by go_num, Lib.hid (by rw [hl1.out]; exact HO3.out.sl (fun _ => rfl) (by rw [hl1.out]; decide)), Lib.hid (fun _ => by rw [hl1.out]; exact HO3.out.rebase HZ3.out), HM3⟩
      · have hl0 : (hdrP p 1).length = 1 := by simp [hdrP, leB_length]
        have hstep : Hid (hdrP p 1 ++ leB 1 (0) = hdrP p 2) := Lib.hid (by  simp [hdrP])
        have hl1 : Hid ((hdrP p 2).length = 1 + 1) := Lib.hid (by simp [hdrP, leB_length])
        have ix := Tryd.idx6_1
        rw [hl0] at HS2 ⊢
        have HL0 := Lib.hid hl0
        clear hl0
        go_wp2_with fail
        have HW2 : Ext w (wr.alloc (.cells #[.int .u64 ((0 : Nat) : Int), .int .u64 1] 146)) := (M1.out.trans HM2.out).alloc _
        have PA := Put_any (HL.out _ HW2) _ (hdrP p 1) (HS2.out.ext ((Mods.refl _ wr).alloc _)) (0) 1 (by decide) (by have := HG.out; omega) (by rw [HL0.out]; decide)
        rw [hstep.out, HL0.out] at PA
        refine PA.mono ?_
        rintro e w3 ⟨a3, c3, rfl, hO3, hm3⟩
        have HO3 := Lib.hid hO3
        have HM3 : Hid (Ext w1 w3) := Lib.hid ((HM2.out.alloc _).trans hm3)
        have HZ3 := Lib.hid HW2.size
        clear hO3 hm3 HW2 PA
        go_wp2_with fail
        go_roundg m
        case measure => omega
        case rel => exact ⟨2, a3, c3, by have := hm6.out; omega, by rw [hl1.out], by go_num, Lib.hid (by rw [hl1.out]; exact HO3.out.sl (fun _ => rfl) (by rw [hl1.out]; decide)), Lib.hid (fun _ => by rw [hl1.out]; exact HO3.out.rebase HZ3.out), HM3⟩
      · have hl0 : (hdrP p 2).length = 2 := by simp [hdrP, leB_length]
        have hstep : Hid (hdrP p 2 ++ leB 2 (p.body.length) = hdrP p 3) := Lib.hid (by  simp [hdrP])
        have hl1 : Hid ((hdrP p 3).length = 2 + 2) := Lib.hid (by simp [hdrP, leB_length])
        have ix := Tryd.idx6_2
        rw [hl0] at HS2 ⊢
        have HL0 := Lib.hid hl0
        clear hl0
        go_wp2_with fail
        have HW2 : Ext w (wr.alloc (.cells #[.int .u64 ((p.body.length : Nat) : Int), .int .u64 2] 146)) := (M1.out.trans HM2.out).alloc _
        have PA := Put_any (HL.out _ HW2) _ (hdrP p 2) (HS2.out.ext ((Mods.refl _ wr).alloc _)) (p.body.length) 2 (by decide) (by have := HG.out; omega) (by rw [HL0.out]; decide)
        rw [hstep.out, HL0.out] at PA
        refine PA.mono ?_
        rintro e w3 ⟨a3, c3, rfl, hO3, hm3⟩
        have HO3 := Lib.hid hO3
        have HM3 : Hid (Ext w1 w3) := Lib.hid ((HM2.out.alloc _).trans hm3)
        have HZ3 := Lib.hid HW2.size
        clear hO3 hm3 HW2 PA
        go_wp2_with fail
        go_roundg m
        case measure => omega
        case rel => exact ⟨3, a3, c3, by have := hm6.out; omega, by rw [hl1.out], by go_num, Lib.hid (by rw [hl1.out]; exact HO3.out.sl (fun _ => rfl) (by rw [hl1.out]; decide)), Lib.hid (fun _ => by rw [hl1.out]; exact HO3.out.rebase HZ3.out), HM3⟩
      · have hl0 : (hdrP p 3).length = 4 := by simp [hdrP, leB_length]
        have hstep : Hid (hdrP p 3 ++ leB 4 (I) = hdrP p 4) := Lib.hid (by have := H2.out; simp [hdrP, this])
        have hl1 : Hid ((hdrP p 4).length = 4 + 4) := Lib.hid (by simp [hdrP, leB_length])
        have ix := Tryd.idx6_3
        rw [hl0] at HS2 ⊢
        have HL0 := Lib.hid hl0
        clear hl0
        go_wp2_with fail
        have HW2 : Ext w (wr.alloc (.cells #[.int .u64 ((I : Nat) : Int), .int .u64 4] 146)) := (M1.out.trans HM2.out).alloc _
        have PA := Put_any (HL.out _ HW2) _ (hdrP p 3) (HS2.out.ext ((Mods.refl _ wr).alloc _)) (I) 4 (by decide) (by have := HG.out; omega) (by rw [HL0.out]; decide)
        rw [hstep.out, HL0.out] at PA
        refine PA.mono ?_
        rintro e w3 ⟨a3, c3, rfl, hO3, hm3⟩
        have HO3 := Lib.hid hO3
        have HM3 : Hid (Ext w1 w3) := Lib.hid ((HM2.out.alloc _).trans hm3)
        have HZ3 := Lib.hid HW2.size
        clear hO3 hm3 HW2 PA
        go_wp2_with fail
        go_roundg m
        case measure => omega
        case rel => exact ⟨4, a3, c3, by have := hm6.out; omega, by rw [hl1.out], by go_num, Lib.hid (by rw [hl1.out]; exact HO3.out.sl (fun _ => rfl) (by rw [hl1.out]; decide)), Lib.hid (fun _ => by rw [hl1.out]; exact HO3.out.rebase HZ3.out), HM3⟩
      · have hl0 : (hdrP p 4).length = 8 := by simp [hdrP, leB_length]
        have hstep : Hid (hdrP p 4 ++ leB 8 (p.gen) = hdrP p 5) := Lib.hid (by  simp [hdrP])
        have hl1 : Hid ((hdrP p 5).length = 8 + 8) := Lib.hid (by simp [hdrP, leB_length])
        have ix := Tryd.idx6_4
        rw [hl0] at HS2 ⊢
        have HL0 := Lib.hid hl0
        clear hl0
        go_wp2_with fail
        have HW2 : Ext w (wr.alloc (.cells #[.int .u64 ((p.gen : Nat) : Int), .int .u64 8] 146)) := (M1.out.trans HM2.out).alloc _
        have PA := Put_any (HL.out _ HW2) _ (hdrP p 4) (HS2.out.ext ((Mods.refl _ wr).alloc _)) (p.gen) 8 (by decide) (by have := HG.out; omega) (by rw [HL0.out]; decide)
        rw [hstep.out, HL0.out] at PA
        refine PA.mono ?_
        rintro e w3 ⟨a3, c3, rfl, hO3, hm3⟩
        have HO3 := Lib.hid hO3
        have HM3 : Hid (Ext w1 w3) := Lib.hid ((HM2.out.alloc _).trans hm3)
        have HZ3 := Lib.hid HW2.size
        clear hO3 hm3 HW2 PA
        go_wp2_with fail
        go_roundg m
        case measure => omega
        case rel => exact ⟨5, a3, c3, by have := hm6.out; omega, by rw [hl1.out], by go_num, Lib.hid (by rw [hl1.out]; exact HO3.out.sl (fun _ => rfl) (by rw [hl1.out]; decide)), Lib.hid (fun _ => by rw [hl1.out]; exact HO3.out.rebase HZ3.out), HM3⟩
      · have hl0 : (hdrP p 5).length = 16 := by simp [hdrP, leB_length]
        have hstep : Hid (hdrP p 5 ++ leB 4 (0) = hdrP p 6) := Lib.hid (by  simp [hdrP])
        have hl1 : Hid ((hdrP p 6).length = 16 + 4) := Lib.hid (by simp [hdrP, leB_length])
        have ix := Tryd.idx6_5
        rw [hl0] at HS2 ⊢
        have HL0 := Lib.hid hl0
        clear hl0
        go_wp2_with fail
        have HW2 : Ext w (wr.alloc (.cells #[.int .u64 ((0 : Nat) : Int), .int .u64 4] 146)) := (M1.out.trans HM2.out).alloc _
        have PA := Put_any (HL.out _ HW2) _ (hdrP p 5) (HS2.out.ext ((Mods.refl _ wr).alloc _)) (0) 4 (by decide) (by have := HG.out; omega) (by rw [HL0.out]; decide)
        rw [hstep.out, HL0.out] at PA
        refine PA.mono ?_
        rintro e w3 ⟨a3, c3, rfl, hO3, hm3⟩
        have HO3 := Lib.hid hO3
        have HM3 : Hid (Ext w1 w3) := Lib.hid ((HM2.out.alloc _).trans hm3)
        have HZ3 := Lib.hid HW2.size
        clear hO3 hm3 HW2 PA
        go_wp2_with fail
        go_roundg m
        case measure => omega
        case rel => exact ⟨6, a3, c3, by have := hm6.out; omega, by rw [hl1.out], by go_num, Lib.hid (by rw [hl1.out]; exact HO3.out.sl (fun _ => rfl) (by rw [hl1.out]; decide)), Lib.hid (fun _ => by rw [hl1.out]; exact HO3.out.rebase HZ3.out), HM3⟩
    · obtain rfl : k = 6 := by omega
      have hl0 : (hdrP p 6).length = 20 := by simp [hdrP, leB_length]
      have HO := Lib.hid (HO2.out (by decide))
      have q3 := Q3.out _ HM2.out
      have M2 := Lib.hid (M1.out.trans HM2.out)
      have zz := M2.out.size
      rw [hl0] at HO ⊢
      have HL0 := Lib.hid hl0
      clear hl0
      clear hk hlt
      go_wp2_with (first
        | (at_builtin; refine wpl_app Tryd.elB encB_ok rfl (.tmp 55) (.tmp 57) rfl w.heap.size _ _ (hdrP p 6) p.body rfl rfl HO.out (HB.out _ M2.out) (by have := HL0.out; omega) zz (HF.out.mods M2.out) ?_
           rw [HL0.out]; intro a3 c3 w3 hO3 hm3
           have HO3 := Lib.hid hO3
           have HM3 : Hid (Ext w w3) := Lib.hid (Mods.past M2.out hm3)
           have HL3 : Hid ((hdrP p 6 ++ p.body).length = 20 + p.body.length) := Lib.hid (by rw [List.length_append, HL0.out])
           clear hO3 hm3)
        | (at_builtin; refine wpl_app_zeros Tryd.elB encB_ok (0 : UInt8) rfl rfl .i64 Tryd.underlying3 rfl (.tmp 59) (.tmp 64) rfl w.heap.size _ _ _ (size - 4 - (20 + p.body.length)) _ (hdrP p 6 ++ p.body) rfl rfl HL3.out.symm (by omega) (by omega) HO3.out (by omega) HM3.out.size (HF.out.mods HM3.out) ?_
           intro a4 c4 w4 hO4 hm4
           have hl4 : 20 + p.body.length + (size - 4 - (20 + p.body.length)) = size - 4 := by omega
           rw [hl4] at hO4 ⊢
           rw [← HR.out] at hO4
           have HO4 := Lib.hid hO4
           have HM4 : Hid (Ext w w4) := Lib.hid (Mods.past HM3.out hm4)
           have HS4 := Lib.hid (hO4.sl (fun _ => rfl) (by rw [HRL.out]; omega))
           clear hO4 hm4 hl4))
      go_wp2_with fail
      refine (Sum_any _ (rawP p size) _ HS4.out).mono ?_
      have hcr := crcSum_lt (rawP p size)
      obtain ⟨cs, hcs⟩ : ∃ cs, cs = crcSum (rawP p size) := ⟨_, rfl⟩
      rw [← hcs] at hcr HS ⊢
      clear hcs
      rintro e w5 ⟨rfl, rfl⟩
      go_wp2_with fail
      have PA := Put_any (HL.out _ HM4.out) _ (rawP p size) HS4.out cs 4 (by decide) (by omega) (by rw [HRL.out]; omega)
      rw [HRL.out, ← HS.out, show size - 4 + 4 = size by omega] at PA
      refine PA.mono ?_
      rintro e w6 ⟨a6, c6, rfl, hO6, hm6⟩
      have HO6 := Lib.hid (hO6.rebase HM4.out.size)
      have HM6 : Hid (Ext w w6) := Lib.hid (HM4.out.trans hm6)
      clear hO6 hm6 PA
      go_wp2_with fail
      refine (wrap_nil _ _).mono ?_
      rintro e w7 ⟨rfl, rfl⟩
      go_wp2_with fail
      go_ret2
      exact ⟨a6, c6, rfl, HO6.out, HM6.out⟩
end Go.Proofs.YtidjkcfjocppmaaDoor
