/- page.Open, OpenAt. | page.OpenAt. -/
import Derived.Test.YtidjkcfjocppmaaDoorKPage3
import Derived.Test.YtidjkcfjocppmaaDoorKBase2
namespace Go.Proofs.YtidjkcfjocppmaaDoor
open Go.RowKit

set_option maxRecDepth 100000 in
theorem Seal_bad {F : Nat → Prop} {ad : Nat → Addr} {w : World} (hL : Env F ad w) (p : PageA) (bv : Value) (hb : Sl F w 1 encB bv p.body) (size : Nat) (er : List Int × Nat) (hc : pgCheck p size = some er) :
    Calls Tryd.prog 67 #[pageV p bv, .int .i64 (size : Int)] w fun e w' => ∃ ev, e = .returned (.tuple #[.slice none 0 0, ev]) ∧ ErrR F ad w' ev (some (-1 :: er.1, er.2)) ∧ Ext w w' := by
  have HB : Hid (∀ w', Ext w w' → Sl F w' 1 encB bv p.body) := Lib.hid (fun w' m => hb.ext m)
  have HL : Hid (∀ w', Ext w w' → Env F ad w') := Lib.hid (fun w' m => hL.mods m.ext)
  have HC := Lib.hid hc
  clear hb hL hc
  have HP : Hid (∀ bv, pageV p bv = .agg #[.int .i64 p.kind, .int .i64 p.id, .int .u64 (p.gen : Int), bv]) := Lib.hid (fun _ => rfl)
  rw [HP.out]
  go_enter Tryd.func67, Tryd.ntmps67
  go_wp2_with fail
  rw [← HP.out]
  have m0 : Ext w (w.alloc (.cells #[.int .i64 p.kind, .int .i64 p.id, .int .u64 (p.gen : Int), bv] 52)) := (Mods.refl _ w).alloc _
  refine (Check_any (HL.out _ m0) p _ (HB.out _ m0) size).mono ?_
  rintro e w1 ⟨ev, rfl, hE, hm⟩
  rw [HC.out] at hE
  obtain ⟨f, rfl, hE⟩ := hE
  have HE := Lib.hid hE
  have M1 := Lib.hid (m0.trans hm)
  clear hE hm m0
  go_wp2_with fail
  refine (wrap_any (HL.out _ M1.out) _ _ _ _ HE.out).mono ?_
  rintro e w2 ⟨f2, rfl, hE2, hm⟩
  have HE2 := Lib.hid hE2
  clear hE2
  go_wp2_with fail
  go_ret2
  exact ⟨_, rfl, ⟨f2, rfl, HE2.out⟩, M1.out.trans hm⟩

set_option maxRecDepth 100000 in
set_option maxHeartbeats 1600000 in
theorem Open_any {F : Nat → Prop} {ad : Nat → Addr} {w : World} (hL : Env F ad w) (bv : Value) (l : List UInt8) (hb : Sl F w 1 encB bv l) (h1 : 256 ≤ l.length) (h2 : l.length ≤ 1024) :
    Calls Tryd.prog 88 #[bv] w fun e w' => Ext w w' ∧
      ((openB l = true ∧ ∃ pv, e = .returned (.tuple #[pageV (readP l) pv, .nilIface]) ∧ Sl F w' 1 encB pv (readP l).body) ∨
       (openB l = false ∧ ∃ f, e = .returned (.tuple #[pageV ⟨0, 0, 0, []⟩ (.slice none 0 0), faultV f]) ∧ ErrC F ad w' (faultV f) [openId l] 5)) := by
  have HB : Hid (∀ w', Ext (w.alloc (.cells #[.int .i64 0, .int .i64 0, .int .u64 0, .slice none 0 0] 52)) w' → Sl (plusR F w.heap.size) w' 1 encB bv l) := Lib.hid (fun w' m => hb.withR (((Mods.refl _ w).alloc _).trans m))
  have HL : Hid (∀ w', Ext (w.alloc (.cells #[.int .i64 0, .int .i64 0, .int .u64 0, .slice none 0 0] 52)) w' → Env (plusR F w.heap.size) ad w') := Lib.hid (fun w' m => hL.withR (((Mods.refl _ w).alloc _).trans m) (Nat.lt_of_lt_of_le (by simp) m.size))
  obtain ⟨a, cap, rfl, i1, i2, i3, i4⟩ := hb
  unfold maxLen at i2
  clear i4
  have hz : sizedB (l.length : Int) = true := by simp [sizedB]; omega
  have z5 : 2 < w.heap.size := Nat.lt_of_lt_of_le (by decide) hL.size
  have G5 : Hid (∀ w', Ext w w' → w'.cell? ⟨2, 0, none⟩ = some (.iface 169 (.pointer (some (ad 5))))) := Lib.hid (fun w' m => (hL.mods m.ext).c5)
  clear hL
  go_enter Tryd.func88, Tryd.ntmps88
  go_wp2_with fail
  refine (sized_any _ _).mono ?_
  rintro e w1 ⟨rfl, rfl⟩
  go_wp2_with fail
  have m0 : Ext w (w.alloc (.cells #[.int .i64 0, .int .i64 0, .int .u64 0, .slice none 0 0] 52)) := (Mods.refl _ w).alloc _
  have RB : Hid (∀ w', Ext (w.alloc (.cells #[.int .i64 0, .int .i64 0, .int .u64 0, .slice none 0 0] 52)) w' → Blk w' w.heap.size #[.int .i64 0, .int .i64 0, .int .u64 0, .slice none 0 0] 52) := Lib.hid (fun w' m => (Blk.new w _ _).ext m)
  have M0 : Hid (Ext w (w.alloc (.cells #[.int .i64 0, .int .i64 0, .int .u64 0, .slice none 0 0] 52))) := Lib.hid m0
  refine (read_any (HL.out _ (Mods.refl _ _)) _ l (HB.out _ (Mods.refl _ _)) h1 h2).mono ?_
  rintro e w1 ⟨pv, rfl, hS, hm⟩
  obtain ⟨p, hp⟩ : ∃ p, p = readP l := ⟨_, rfl⟩
  have HPE := Lib.hid hp
  rw [← hp] at hS ⊢
  obtain ⟨K, hK⟩ : ∃ n, n = p.kind := ⟨_, rfl⟩
  obtain ⟨I, hI⟩ : ∃ n, n = p.id := ⟨_, rfl⟩
  obtain ⟨G, hG⟩ : ∃ n, n = p.gen := ⟨_, rfl⟩
  have HP : Hid (∀ bv, pageV p bv = .agg #[.int .i64 K, .int .i64 I, .int .u64 (G : Int), bv]) := Lib.hid (fun _ => by rw [hK, hI, hG]; rfl)
  have HI := Lib.hid hI
  have HG := Lib.hid (show p.gen < 18446744073709551616 by rw [hp]; exact readP_gen l)
  clear hK hI hG hp
  have M1 := Lib.hid hm
  have HS : Hid (∀ w', Ext w1 w' → Sl (plusR F w.heap.size) w' 1 encB pv p.body) := Lib.hid (fun w' m => hS.ext m)
  obtain ⟨a2, cc2, rfl, _⟩ := hS
  clear m0 hm
  rw [HP.out]
  go_wp2_with fail
  rw [← HP.out]
  have M2 := Lib.hid (M1.out.alloc (.cells #[.int .i64 K, .int .i64 I, .int .u64 (G : Int), .slice a2 p.body.length cc2] 52))
  have PB : Hid (∀ w', Ext (w1.alloc (.cells #[.int .i64 K, .int .i64 I, .int .u64 (G : Int), .slice a2 p.body.length cc2] 52)) w' → Blk w' w1.heap.size #[.int .i64 K, .int .i64 I, .int .u64 (G : Int), .slice a2 p.body.length cc2] 52) := Lib.hid (fun w' m => (Blk.new w1 _ _).ext m)
  have hlt1 : w.heap.size < w1.heap.size := Nat.lt_of_lt_of_le (by simp) M1.out.size
  cases hc : pgCheck p (l.length : Int) with
  | some er =>
    have HO : Hid (openB l = false) := Lib.hid (by unfold openB; rw [← HPE.out, hc]; simp)
    refine (Seal_bad (HL.out _ M2.out) p _ (HS.out _ ((Mods.refl _ w1).alloc _)) l.length er hc).mono ?_
    rintro e w2 ⟨ev, rfl, ⟨f, rfl, hE⟩, hm⟩
    have M3 := Lib.hid (M2.out.trans hm)
    have pb := PB.out w2 hm
    have p1 := pb.cell (o := 1) rfl
    have g5 := G5.out w2 (M0.out.trans M3.out)
    clear hE hm hc pb
    by_cases hI : 256 ≤ I
    · have HID : Hid (openId l = -1) := Lib.hid (by unfold openId; rw [← HPE.out, ← HI.out, if_pos hI])
      go_wp2_with fail
      refine (at_any (HL.out _ M3.out) _ _ _ _ 5 (.sent 5 (by decide) (by decide))).mono ?_
      rintro e w3 ⟨f3, rfl, hE3, hm3⟩
      have rb := RB.out w3 (M3.out.trans hm3)
      have r0 := rb.cell (o := 0) rfl
      have r1 := rb.cell (o := 1) rfl
      have r2 := rb.cell (o := 2) rfl
      have r3 := rb.cell (o := 3) rfl
      have rf := rb.frozen
      have HB5 := Lib.hid (Blk.set4 rb (.int .i64 0) (.int .i64 0) (.int .u64 0) (.slice none 0 0))
      have HM5 := Lib.hid (Mods.set4 ((M0.out.trans M3.out).trans hm3) (.inl (Nat.le_refl w.heap.size)) (.int .i64 0) (.int .i64 0) (.int .u64 0) (.slice none 0 0))
      have HE5 := Lib.hid (hE3.unR (Mods.set4 (Mods.refl _ w3) (R := w.heap.size) (.inr (.inr rfl)) (.int .i64 0) (.int .i64 0) (.int .u64 0) (.slice none 0 0)))
      clear rb hE3 hm3
      go_wp2_with fail
      refine bodyPost_ret (results_row_tmp rfl _ _ w.heap.size 52 #[.int .i64 0, .int .i64 0, .int .u64 0, .slice none 0 0] _ rfl HB5.out Tryd.underlying52 rfl Tryd.pageSize) rfl ?_
      exact ⟨HM5.out, .inr ⟨HO.out, f3, rfl, by rw [HID.out]; exact HE5.out⟩⟩
    · have hI2 : I < 256 := by omega
      have HID : Hid (openId l = I) := Lib.hid (by unfold openId; rw [← HPE.out, ← HI.out, if_neg hI])
      have HI0 : Hid (pgOf I = I) := Lib.hid (by have := (readP_id l).1; rw [← HPE.out, ← HI.out] at this; unfold pgOf; rw [if_neg (by omega)])
      clear hI
      go_wp2_with fail
      refine (at_any (HL.out _ M3.out) _ _ _ _ 5 (.sent 5 (by decide) (by decide))).mono ?_
      rintro e w3 ⟨f3, rfl, hE3, hm3⟩
      have rb := RB.out w3 (M3.out.trans hm3)
      have r0 := rb.cell (o := 0) rfl
      have r1 := rb.cell (o := 1) rfl
      have r2 := rb.cell (o := 2) rfl
      have r3 := rb.cell (o := 3) rfl
      have rf := rb.frozen
      have HB5 := Lib.hid (Blk.set4 rb (.int .i64 0) (.int .i64 0) (.int .u64 0) (.slice none 0 0))
      have HM5 := Lib.hid (Mods.set4 ((M0.out.trans M3.out).trans hm3) (.inl (Nat.le_refl w.heap.size)) (.int .i64 0) (.int .i64 0) (.int .u64 0) (.slice none 0 0))
      have HE5 := Lib.hid (hE3.unR (Mods.set4 (Mods.refl _ w3) (R := w.heap.size) (.inr (.inr rfl)) (.int .i64 0) (.int .i64 0) (.int .u64 0) (.slice none 0 0)))
      clear rb hE3 hm3
      go_wp2_with fail
      refine bodyPost_ret (results_row_tmp rfl _ _ w.heap.size 52 #[.int .i64 0, .int .i64 0, .int .u64 0, .slice none 0 0] _ rfl HB5.out Tryd.underlying52 rfl Tryd.pageSize) rfl ?_
      exact ⟨HM5.out, .inr ⟨HO.out, f3, rfl, by rw [HID.out]; exact (by have := HE5.out; rw [HI0.out] at this; exact this)⟩⟩
  | none =>
    have HG2 := HG.out
    refine (Seal_ok (HL.out _ M2.out) p _ (HS.out _ ((Mods.refl _ w1).alloc _)) l.length HG2 hc).mono ?_
    rintro e w2 ⟨a3, c3, rfl, hO3, hm⟩
    have hlen := sealP_length p l.length (by have := (pgCheck_none hc).2.2.2.2.2; omega)
    have HS3 := Lib.hid (hO3.sl (fun _ => rfl) (by rw [hlen]; omega))
    have M3 := Lib.hid (M2.out.trans hm)
    have pb := PB.out w2 hm
    have p0 := pb.cell (o := 0) rfl
    have p1 := pb.cell (o := 1) rfl
    have p2 := pb.cell (o := 2) rfl
    have p3 := pb.cell (o := 3) rfl
    have g5 := G5.out w2 (M0.out.trans M3.out)
    have PBE : Hid (∀ w', Ext w2 w' → Ext (w1.alloc (.cells #[.int .i64 K, .int .i64 I, .int .u64 (G : Int), .slice a2 p.body.length cc2] 52)) w') := Lib.hid (fun w' m => hm.trans m)
    clear hO3 hm pb HG2
    by_cases heq : sealP p l.length = l
    · have HO : Hid (openB l = true) := Lib.hid (by unfold openB; rw [← HPE.out, hc]; simp [heq])
      have HQ : Hid (decide (sealP p l.length = l) = true) := Lib.hid (by simp [heq])
      clear hc heq hlen
      go_wp2_with fail
      refine (EqualB_any _ _ (sealP p l.length) l HS3.out (HB.out _ M3.out)).mono ?_
      rintro e w4 ⟨rfl, hm4⟩
      rw [HQ.out]
      have M4 := Lib.hid (M3.out.trans hm4)
      have pb := PB.out w4 (PBE.out _ hm4)
      have q0 := pb.cell (o := 0) rfl
      have q1 := pb.cell (o := 1) rfl
      have q2 := pb.cell (o := 2) rfl
      have q3 := pb.cell (o := 3) rfl
      have rb := RB.out w4 M4.out
      have r0 := rb.cell (o := 0) rfl
      have r1 := rb.cell (o := 1) rfl
      have r2 := rb.cell (o := 2) rfl
      have r3 := rb.cell (o := 3) rfl
      have rf := rb.frozen
      have HB5 := Lib.hid (Blk.set4 rb (.int .i64 K) (.int .i64 I) (.int .u64 (G : Int)) (.slice a2 p.body.length cc2))
      have HM5 := Lib.hid (Mods.set4 (M0.out.trans M4.out) (.inl (Nat.le_refl w.heap.size)) (.int .i64 K) (.int .i64 I) (.int .u64 (G : Int)) (.slice a2 p.body.length cc2))
      have HS5 := Lib.hid ((HS.out w4 (by have := PBE.out _ hm4; exact ((Mods.refl _ w1).alloc _).trans this)).unR (Mods.set4 (Mods.refl _ w4) (R := w.heap.size) (.inr (.inr rfl)) (.int .i64 K) (.int .i64 I) (.int .u64 (G : Int)) (.slice a2 p.body.length cc2)))
      clear rb pb hm4 p0 p1 p2 p3
      go_wp2_with fail
      refine bodyPost_ret (results_row_tmp rfl _ _ w.heap.size 52 #[.int .i64 K, .int .i64 I, .int .u64 (G : Int), .slice a2 p.body.length cc2] _ rfl HB5.out Tryd.underlying52 rfl Tryd.pageSize) rfl ?_
      exact ⟨HM5.out, .inl ⟨HO.out, .slice a2 p.body.length cc2, by rw [← HPE.out, HP.out]; rfl, by rw [← HPE.out]; exact HS5.out⟩⟩
    · have HO : Hid (openB l = false) := Lib.hid (by unfold openB; rw [← HPE.out, hc]; simp [heq])
      have HQ : Hid (decide (sealP p l.length = l) = false) := Lib.hid (by simp [heq])
      clear hc heq hlen
      go_wp2_with fail
      refine (EqualB_any _ _ (sealP p l.length) l HS3.out (HB.out _ M3.out)).mono ?_
      rintro e w4 ⟨rfl, hm4⟩
      rw [HQ.out]
      have M3 := Lib.hid (M3.out.trans hm4)
      have pb := PB.out w4 (PBE.out _ hm4)
      have q1 := pb.cell (o := 1) rfl
      have g5 := G5.out w4 (M0.out.trans M3.out)
      clear pb hm4 p0 p1 p2 p3
      by_cases hI : 256 ≤ I
      · have HID : Hid (openId l = -1) := Lib.hid (by unfold openId; rw [← HPE.out, ← HI.out, if_pos hI])
        go_wp2_with fail
        refine (at_any (HL.out _ M3.out) _ _ _ _ 5 (.sent 5 (by decide) (by decide))).mono ?_
        rintro e w3 ⟨f3, rfl, hE3, hm3⟩
        have rb := RB.out w3 (M3.out.trans hm3)
        have r0 := rb.cell (o := 0) rfl
        have r1 := rb.cell (o := 1) rfl
        have r2 := rb.cell (o := 2) rfl
        have r3 := rb.cell (o := 3) rfl
        have rf := rb.frozen
        have HB5 := Lib.hid (Blk.set4 rb (.int .i64 0) (.int .i64 0) (.int .u64 0) (.slice none 0 0))
        have HM5 := Lib.hid (Mods.set4 ((M0.out.trans M3.out).trans hm3) (.inl (Nat.le_refl w.heap.size)) (.int .i64 0) (.int .i64 0) (.int .u64 0) (.slice none 0 0))
        have HE5 := Lib.hid (hE3.unR (Mods.set4 (Mods.refl _ w3) (R := w.heap.size) (.inr (.inr rfl)) (.int .i64 0) (.int .i64 0) (.int .u64 0) (.slice none 0 0)))
        clear rb hE3 hm3
        go_wp2_with fail
        refine bodyPost_ret (results_row_tmp rfl _ _ w.heap.size 52 #[.int .i64 0, .int .i64 0, .int .u64 0, .slice none 0 0] _ rfl HB5.out Tryd.underlying52 rfl Tryd.pageSize) rfl ?_
        exact ⟨HM5.out, .inr ⟨HO.out, f3, rfl, by rw [HID.out]; exact HE5.out⟩⟩
      · have hI2 : I < 256 := by omega
        have HID : Hid (openId l = I) := Lib.hid (by unfold openId; rw [← HPE.out, ← HI.out, if_neg hI])
        have HI0 : Hid (pgOf I = I) := Lib.hid (by have := (readP_id l).1; rw [← HPE.out, ← HI.out] at this; unfold pgOf; rw [if_neg (by omega)])
        clear hI
        go_wp2_with fail
        refine (at_any (HL.out _ M3.out) _ _ _ _ 5 (.sent 5 (by decide) (by decide))).mono ?_
        rintro e w3 ⟨f3, rfl, hE3, hm3⟩
        have rb := RB.out w3 (M3.out.trans hm3)
        have r0 := rb.cell (o := 0) rfl
        have r1 := rb.cell (o := 1) rfl
        have r2 := rb.cell (o := 2) rfl
        have r3 := rb.cell (o := 3) rfl
        have rf := rb.frozen
        have HB5 := Lib.hid (Blk.set4 rb (.int .i64 0) (.int .i64 0) (.int .u64 0) (.slice none 0 0))
        have HM5 := Lib.hid (Mods.set4 ((M0.out.trans M3.out).trans hm3) (.inl (Nat.le_refl w.heap.size)) (.int .i64 0) (.int .i64 0) (.int .u64 0) (.slice none 0 0))
        have HE5 := Lib.hid (hE3.unR (Mods.set4 (Mods.refl _ w3) (R := w.heap.size) (.inr (.inr rfl)) (.int .i64 0) (.int .i64 0) (.int .u64 0) (.slice none 0 0)))
        clear rb hE3 hm3
        go_wp2_with fail
        refine bodyPost_ret (results_row_tmp rfl _ _ w.heap.size 52 #[.int .i64 0, .int .i64 0, .int .u64 0, .slice none 0 0] _ rfl HB5.out Tryd.underlying52 rfl Tryd.pageSize) rfl ?_
        exact ⟨HM5.out, .inr ⟨HO.out, f3, rfl, by rw [HID.out]; exact (by have := HE5.out; rw [HI0.out] at this; exact this)⟩⟩
end Go.Proofs.YtidjkcfjocppmaaDoor
namespace Go.Proofs.YtidjkcfjocppmaaDoor
open Go.RowKit

set_option maxRecDepth 100000 in
set_option maxHeartbeats 1600000 in
theorem OpenAt_any {F : Nat → Prop} {ad : Nat → Addr} {w : World} (hL : Env F ad w) (bv : Value) (l : List UInt8) (hb : Sl F w 1 encB bv l) (h1 : 256 ≤ l.length) (h2 : l.length ≤ 1024) (id : Int) :
    Calls Tryd.prog 72 #[bv, .int .i64 id] w fun e w' => Ext w w' ∧
      ((∃ p pv, openAtP l id = .inl p ∧ e = .returned (.tuple #[pageV p pv, .nilIface]) ∧ Sl F w' 1 encB pv p.body) ∨
       (∃ pg k f, openAtP l id = .inr (pg, k) ∧ e = .returned (.tuple #[pageV ⟨0, 0, 0, []⟩ (.slice none 0 0), faultV f]) ∧ ErrC F ad w' (faultV f) pg k)) := by
  have HB : Hid (∀ w', Ext (w.alloc (.cells #[.int .i64 0, .int .i64 0, .int .u64 0, .slice none 0 0] 52)) w' → Sl (plusR F w.heap.size) w' 1 encB bv l) := Lib.hid (fun w' m => hb.withR (((Mods.refl _ w).alloc _).trans m))
  have HL : Hid (∀ w', Ext (w.alloc (.cells #[.int .i64 0, .int .i64 0, .int .u64 0, .slice none 0 0] 52)) w' → Env (plusR F w.heap.size) ad w') := Lib.hid (fun w' m => hL.withR (((Mods.refl _ w).alloc _).trans m) (Nat.lt_of_lt_of_le (by simp) m.size))
  obtain ⟨a, cap, rfl, i1, i2, i3, i4⟩ := hb
  unfold maxLen at i2
  clear i4
  have z5 : 2 < w.heap.size := Nat.lt_of_lt_of_le (by decide) hL.size
  have G5 : Hid (∀ w', Ext w w' → w'.cell? ⟨2, 0, none⟩ = some (.iface 169 (.pointer (some (ad 5))))) := Lib.hid (fun w' m => (hL.mods m.ext).c5)
  clear hL
  have m0 : Ext w (w.alloc (.cells #[.int .i64 0, .int .i64 0, .int .u64 0, .slice none 0 0] 52)) := (Mods.refl _ w).alloc _
  have RB : Hid (∀ w', Ext (w.alloc (.cells #[.int .i64 0, .int .i64 0, .int .u64 0, .slice none 0 0] 52)) w' → Blk w' w.heap.size #[.int .i64 0, .int .i64 0, .int .u64 0, .slice none 0 0] 52) := Lib.hid (fun w' m => (Blk.new w _ _).ext m)
  have M0 : Hid (Ext w (w.alloc (.cells #[.int .i64 0, .int .i64 0, .int .u64 0, .slice none 0 0] 52))) := Lib.hid m0
  clear m0
  go_enter Tryd.func72, Tryd.ntmps72
  go_wp2_with fail
  refine (Open_any (HL.out _ (Mods.refl _ _)) _ l (HB.out _ (Mods.refl _ _)) h1 h2).mono ?_
  rintro e w1 ⟨hm, hres⟩
  have hlt1 : w.heap.size < w1.heap.size := Nat.lt_of_lt_of_le (by simp) hm.size
  have z6 : 2 < w1.heap.size := Nat.lt_trans z5 hlt1
  rcases hres with ⟨ho, pv, rfl, hS⟩ | ⟨ho, f, rfl, hE⟩
  · obtain ⟨p, hp⟩ : ∃ p, p = readP l := ⟨_, rfl⟩
    have HPE := Lib.hid hp
    rw [← hp] at hS ⊢
    obtain ⟨K, hK⟩ : ∃ n, n = p.kind := ⟨_, rfl⟩
    obtain ⟨I, hI⟩ : ∃ n, n = p.id := ⟨_, rfl⟩
    obtain ⟨G, hG⟩ : ∃ n, n = p.gen := ⟨_, rfl⟩
    have HP : Hid (∀ bv, pageV p bv = .agg #[.int .i64 K, .int .i64 I, .int .u64 (G : Int), bv]) := Lib.hid (fun _ => by rw [hK, hI, hG]; rfl)
    have HI := Lib.hid hI
    have HOP := Lib.hid ho
    clear hK hI hG hp ho
    have M1 := Lib.hid hm
    have HS : Hid (∀ w', Ext w1 w' → Sl (plusR F w.heap.size) w' 1 encB pv p.body) := Lib.hid (fun w' m => hS.ext m)
    obtain ⟨a2, cc2, rfl, _⟩ := hS
    clear hm
    rw [HP.out]
    have rb := RB.out w1 M1.out
    have r0 := rb.cell (o := 0) rfl
    have r1 := rb.cell (o := 1) rfl
    have r2 := rb.cell (o := 2) rfl
    have r3 := rb.cell (o := 3) rfl
    have rf := rb.frozen
    have g5 := G5.out w1 (M0.out.trans M1.out)
    by_cases hid : I = id
    · have HA : Hid (openAtP l id = .inl p) := Lib.hid (by unfold openAtP; rw [if_neg (by rw [HOP.out]; decide), ← HPE.out, if_neg (by rw [← HI.out]; simpa using hid)])
      subst hid
      have HB5 := Lib.hid ((Blk.set4 rb (.int .i64 K) (.int .i64 I) (.int .u64 (G : Int)) (.slice a2 p.body.length cc2)).alloc (.cells #[.int .i64 K, .int .i64 I, .int .u64 (G : Int), .slice a2 p.body.length cc2] 52))
      have HM5 := Lib.hid ((Mods.set4 (M0.out.trans M1.out) (.inl (Nat.le_refl w.heap.size)) (.int .i64 K) (.int .i64 I) (.int .u64 (G : Int)) (.slice a2 p.body.length cc2)).alloc (.cells #[.int .i64 K, .int .i64 I, .int .u64 (G : Int), .slice a2 p.body.length cc2] 52))
      have HS5 := Lib.hid ((HS.out w1 (Mods.refl _ w1)).unR ((Mods.set4 (Mods.refl _ w1) (R := w.heap.size) (.inr (.inr rfl)) (.int .i64 K) (.int .i64 I) (.int .u64 (G : Int)) (.slice a2 p.body.length cc2)).alloc (.cells #[.int .i64 K, .int .i64 I, .int .u64 (G : Int), .slice a2 p.body.length cc2] 52)))
      clear rb
      go_wp2_with fail
      refine bodyPost_ret (results_row_tmp rfl _ _ w.heap.size 52 #[.int .i64 K, .int .i64 I, .int .u64 (G : Int), .slice a2 p.body.length cc2] _ rfl HB5.out Tryd.underlying52 rfl Tryd.pageSize) rfl ?_
      exact ⟨HM5.out, .inl ⟨p, .slice a2 p.body.length cc2, HA.out, by rw [HP.out]; rfl, HS5.out⟩⟩
    · have HA : Hid (openAtP l id = .inr ([pgOf id], 5)) := Lib.hid (by unfold openAtP; rw [if_neg (by rw [HOP.out]; decide), ← HPE.out, if_pos (by rw [← HI.out]; exact hid)]; rfl)
      clear rb r0 r1 r2 r3 rf
      go_wp2_with fail
      have M2 := Lib.hid (M1.out.alloc (.cells #[.int .i64 K, .int .i64 I, .int .u64 (G : Int), .slice a2 p.body.length cc2] 52))
      refine (at_any (HL.out _ M2.out) _ _ _ _ 5 (.sent 5 (by decide) (by decide))).mono ?_
      rintro e w3 ⟨f3, rfl, hE3, hm3⟩
      have M3 := Lib.hid (M2.out.trans hm3)
      clear hm3
      have rb := RB.out w3 M3.out
      have r0 := rb.cell (o := 0) rfl
      have r1 := rb.cell (o := 1) rfl
      have r2 := rb.cell (o := 2) rfl
      have r3 := rb.cell (o := 3) rfl
      have rf := rb.frozen
      have HB5 := Lib.hid (Blk.set4 rb (.int .i64 0) (.int .i64 0) (.int .u64 0) (.slice none 0 0))
      have HM5 := Lib.hid (Mods.set4 (M0.out.trans M3.out) (.inl (Nat.le_refl w.heap.size)) (.int .i64 0) (.int .i64 0) (.int .u64 0) (.slice none 0 0))
      have HE5 := Lib.hid (hE3.unR (Mods.set4 (Mods.refl _ w3) (R := w.heap.size) (.inr (.inr rfl)) (.int .i64 0) (.int .i64 0) (.int .u64 0) (.slice none 0 0)))
      clear rb
      go_wp2_with fail
      refine bodyPost_ret (results_row_tmp rfl _ _ w.heap.size 52 #[.int .i64 0, .int .i64 0, .int .u64 0, .slice none 0 0] _ rfl HB5.out Tryd.underlying52 rfl Tryd.pageSize) rfl ?_
      exact ⟨HM5.out, .inr ⟨_, _, f3, HA.out, rfl, HE5.out⟩⟩
  · have HA : Hid (openAtP l id = .inr ([-1, openId l], 5)) := Lib.hid (by unfold openAtP; rw [if_pos ho])
    have HE := Lib.hid hE
    have M1 := Lib.hid hm
    clear ho hE hm
    rw [show pageV ⟨0, 0, 0, []⟩ (.slice none 0 0) = .agg #[.int .i64 0, .int .i64 0, .int .u64 0, .slice none 0 0] from rfl]
    · go_wp2_with fail
      have M2 := Lib.hid (M1.out.alloc (.cells #[.int .i64 0, .int .i64 0, .int .u64 0, .slice none 0 0] 52))
      refine (wrap_any (HL.out _ M2.out) _ _ _ _ (HE.out.mods ((Mods.refl _ w1).alloc _))).mono ?_
      rintro e w3 ⟨f3, rfl, hE3, hm3⟩
      have M3 := Lib.hid (M2.out.trans hm3)
      clear hm3
      have rb := RB.out w3 M3.out
      have r0 := rb.cell (o := 0) rfl
      have r1 := rb.cell (o := 1) rfl
      have r2 := rb.cell (o := 2) rfl
      have r3 := rb.cell (o := 3) rfl
      have rf := rb.frozen
      have HB5 := Lib.hid (Blk.set4 rb (.int .i64 0) (.int .i64 0) (.int .u64 0) (.slice none 0 0))
      have HM5 := Lib.hid (Mods.set4 (M0.out.trans M3.out) (.inl (Nat.le_refl w.heap.size)) (.int .i64 0) (.int .i64 0) (.int .u64 0) (.slice none 0 0))
      have HE5 := Lib.hid (hE3.unR (Mods.set4 (Mods.refl _ w3) (R := w.heap.size) (.inr (.inr rfl)) (.int .i64 0) (.int .i64 0) (.int .u64 0) (.slice none 0 0)))
      clear rb
      go_wp2_with fail
      refine bodyPost_ret (results_row_tmp rfl _ _ w.heap.size 52 #[.int .i64 0, .int .i64 0, .int .u64 0, .slice none 0 0] _ rfl HB5.out Tryd.underlying52 rfl Tryd.pageSize) rfl ?_
      exact ⟨HM5.out, .inr ⟨_, _, f3, HA.out, rfl, HE5.out⟩⟩
end Go.Proofs.YtidjkcfjocppmaaDoor
