/- law14.pager. -/
import Derived.Test.YtffhiabonigapaaGreatDoorK21
namespace Go.Proofs.YtffhiabonigapaaGreatDoor
open Go.RowKit
set_option maxRecDepth 100000 in
theorem pager14_any {ad : Nat → Addr} {w : World} (hL : Env NoB ad w) (n : Nat) (h8 : 8 ≤ n) (h256 : n ≤ 256) : Calls Tryz.prog 50 #[.int .i64 (n : Int)] w (PagerG ad w n 5) := by
  have m0 : Ext w (w.alloc (.cells #[.pointer none, .pointer none, .int .u64 0] 44)) := (Mods.refl _ w).alloc _
  have HL := Lib.hid (hL.withR m0 (by simp))
  have HB0 := Lib.hid (Blk.new w #[.pointer none, .pointer none, .int .u64 0] 44)
  have HL0 := Lib.hid hL
  have HM0 := Lib.hid m0
  clear hL m0
  go_enter Tryz.func50, Tryz.ntmps50
  go_wp2_with fail
  refine (dkNew_ok n 256 h8 h256 (by omega) (by omega)).mono ?_
  rintro e w1 ⟨d, Pd, rfl, hD, hn, hm⟩
  have HN1 := Lib.hid (Nxt.of (P := NoB) (P' := Pd) HL.out (fun _ h => h.elim) ⟨hm, fun k hk h => by have := hn k h; omega, hD.bd⟩)
  have HD := Lib.hid hD
  have HB1 := Lib.hid (HB0.out.ext hm)
  have hrl := HB1.out.lt
  clear hD hn hm
  go_wp2_with fail
  refine (caNew_ok HN1.out.env (fun _ h => .inr h) HD.out 5 (by omega) (by omega)).mono ?_
  rintro e w2 ⟨c, sb, bvs, F2, rfl, hC, hN2⟩
  have HC := Lib.hid hC
  have HN2 := Lib.hid (HN1.out.trans hN2)
  have hrl2 := Nat.lt_of_lt_of_le hrl hN2.size
  clear hC hN2
  go_wp2_with fail
  refine (spNew_any n h8 h256).mono ?_
  rintro e w3 ⟨s, b2, rfl, hS, h1, h2, hm3⟩
  obtain ⟨P, F, hG, hN⟩ := PgR.made (s := s) (b2 := b2) h8 h256 (q := 5) (by omega) (by omega) HC.out HN2.out hS hm3 h1 h2
  have rb := hN.blk HB0.out (fun f => f)
  have r0 := rb.cell (o := 0) rfl
  have r1 := rb.cell (o := 1) rfl
  have r2 := rb.cell (o := 2) rfl
  have rf := rb.frozen
  have hR : ∀ k, P k → k ≠ w.heap.size := fun k hk e => by
    subst e; exact hN.stp.old _ (by simp) hk
  have mR : Mods (fun k => k = w.heap.size) w3 (((w3.setCell ⟨w.heap.size, 0, none⟩ (.pointer (some ⟨c, 0, none⟩))).setCell ⟨w.heap.size, 1, none⟩ (.pointer (some ⟨s, 0, none⟩))).setCell ⟨w.heap.size, 2, none⟩ (.int .u64 5)) := Mods.set3 (F := fun k => k = w.heap.size) (Mods.refl _ w3) (.inr rfl) _ _ _
  have hG4 := hG.plus (F' := F) mR hR (fun k hk => hN.grow k (.inr hk)) (fun _ _ h => h)
  have HG := Lib.hid hG4
  have HN : Hid (Nxt NoB P NoB F ad w _) := Lib.hid ⟨⟨(Mods.set3 (HM0.out.trans hN.stp.mods) (.inl (Nat.le_refl w.heap.size)) (.pointer (some ⟨c, 0, none⟩)) (.pointer (some ⟨s, 0, none⟩)) (.int .u64 5)), fun k hk hp => hN.stp.old k (Nat.lt_of_lt_of_le hk HM0.out.size) hp, fun k hk => Nat.lt_of_lt_of_le (hN.stp.bd k hk) mR.size⟩,
    hN.sub, fun _ h => h.elim, fun k hk hf => (hN.oldF k (Nat.lt_of_lt_of_le hk HM0.out.size) hf).elim id (fun e => by omega), hN.env.mods (mR.mono (fun k hk => hN.grow k (.inr hk)))⟩
  have HBR := Lib.hid (Blk.set3 rb (.pointer (some ⟨c, 0, none⟩)) (.pointer (some ⟨s, 0, none⟩)) (.int .u64 5))
  clear hS h1 h2 hm3 hG hN hG4 mR hR rb
  go_wp2_with fail
  refine bodyPost_ret (results_row_tmp rfl _ _ w.heap.size 44 #[.pointer (some ⟨c, 0, none⟩), .pointer (some ⟨s, 0, none⟩), .int .u64 5] _ rfl HBR.out Tryz.underlying44 rfl Tryz.pagerSize) rfl ?_
  exact ⟨c, s, P, F, rfl, HG.out, HN.out⟩
end Go.Proofs.YtffhiabonigapaaGreatDoor
