/- ChainCorrupt, walked. -/
import Derived.Test.YtidjkcfjocppmaaDoorKAs3
import Derived.Test.YtidjkcfjocppmaaDoorKLawC
import Derived.Test.YtidjkcfjocppmaaDoorKBackL
import Derived.Test.YtidjkcfjocppmaaDoorKPgDisk
import Derived.IntWalk
import Derived.Laws.BitsAllLaws
namespace Go.Proofs.YtidjkcfjocppmaaDoor
open Go.RowKit
attribute [local go_sem ↓] Go.wp_at_zero Go.wp_at_succ
section
variable {ad : Nat → Addr} {w0 w w' : World} {B c s : Nat} {P P' F F' : Nat → Prop} {G G' : GA} {l l' : List Nat}
theorem lsFlushD (h : LS ad w0 w B c s P F G l) : ∃ d, (Calls Tryd.prog 28 #[.pointer (some ⟨c, 0, none⟩)] w fun e w' => e = .returned (.pointer (some ⟨d, 0, none⟩)) ∧ w = w') ∧
    Calls Tryd.prog 29 #[.pointer (some ⟨d, 0, none⟩)] w (LsDone ad w0 B c s P F w G.flushD l .nilIface) := by
  obtain ⟨d, h1, h2⟩ := pgDiskFlush h.env h.sub h.pg
  refine ⟨d, h1, (h2 w (Mods.refl _ w)).mono ?_⟩
  rintro e w' ⟨P', F', hG, hN, rfl⟩
  exact ⟨P', F', rfl, h.step hN hG, hN⟩
theorem shut_open {b : List UInt8} (h : openB b = false) (id : Int) : ∃ q : Int, openAtP b id = .inr ([-1, q], 5) ∧ -1 ≤ q ∧ q < 256 := by
  refine ⟨openId b, by unfold openAtP; rw [if_pos h], ?_⟩
  have := readP_id b
  unfold openId
  split <;> omega
/-- what is known of a chain of which a page was turned. -/
theorem turned_facts {v : List UInt8} {m j bit mask : Nat} {G : GA} (hs : G.size = 256) (hb : 0 + 2 + m ≤ 256) (h : Holds G 7 v 0 m) (hj : j < m) (hbit : bit < 2048) (hm : mask % 2 = 1) :
    (G.flushC.flushD.last (j + (0 + 2))).isSome = true ∧ (∃ q : Int, (G.flushC.flushD.turned (j + (0 + 2)) bit mask).view (j + (0 + 2)) = some (.inr ([-1, q], 5)) ∧ -1 ≤ q ∧ q < 256) ∧
    ∀ i, i < m → i ≠ j → PageK (G.flushC.flushD.turned (j + (0 + 2)) bit mask) 7 v 0 m i := by
  have hl := holds_flush (nn := 228) hs (by omega) (by omega) hb (by decide) h
  have hlast : G.flushC.flushD.last (j + (0 + 2)) = some (sealP (chPage 7 v 228 (idsK 0 m) j) G.size) := hl j hj
  refine ⟨by rw [hlast]; rfl, ?_, fun i hi hij => ?_⟩
  · have hc := corrupt_shut (p := chPage 7 v 228 (idsK 0 m) j) (size := 256) bit mask (chPage_pgOk (nn := 228) rfl (by omega) (by omega) hb hj) (by omega) hm
    obtain ⟨q, h1, h2⟩ := shut_open hc ((j + (0 + 2) : Nat) : Int)
    refine ⟨q, ?_, h2⟩
    show openO (upd G.flushC.flushD.look (j + (0 + 2)) ((G.flushC.flushD.last (j + (0 + 2))).map fun b => corruptB b bit mask) (j + (0 + 2))) (j + (0 + 2)) = _
    rw [upd_self, hlast, Option.map_some, hs]
    unfold openO
    rw [Option.map_some, h1]
  · unfold PageK
    show openO (upd G.flushC.flushD.look (j + (0 + 2)) ((G.flushC.flushD.last (j + (0 + 2))).map fun b => corruptB b bit mask) (i + (0 + 2))) (i + (0 + 2)) = some (.inl (chPage 7 v (G.size - 28) (idsK 0 m) i))
    rw [upd_ne _ _ (by omega), show G.flushC.flushD.look (i + (0 + 2)) = some (sealP (chPage 7 v 228 (idsK 0 m) i) G.size) from hl i hi]
    unfold openO
    rw [Option.map_some, open_seal (nn := 228) (by omega) (by omega) (by omega) hb (by decide) hi, show G.size - 28 = 228 by omega]
/-- Read, in a law, of a chain of which a page can't be read. -/
theorem lsReadTurned {v : List UInt8} {m j : Nat} {q : Int} (h : LS ad w0 w B c s P F G l) (hs : G.size = 256) (hb : G.blocks ≤ 256) (hk : 0 + 2 + m ≤ G.blocks) (n id : Nat) (hn : n = v.length) (hm : m = ndK n) (h25 : 25 ≤ n) (h4096 : n ≤ 4096) (hid : id = 0 + 2) (hj : j < m)
    (hbad : G.view (j + (0 + 2)) = some (.inr ([-1, q], 5))) (hoth : ∀ i, i < m → i ≠ j → PageK G 7 v 0 m i) :
    Calls Tryd.prog 18 #[pgV c s 7, .int .i64 (id : Int), .int .i64 (n : Int)] w fun e w' => ∃ P' F' f, e = .returned (.tuple #[.string ⟨#[]⟩, faultV f]) ∧ LS ad w0 w' B c s P' F' G l ∧ ErrC F' ad w' (faultV f) [-1, -1, -1, q] 5 := by
  subst hn hid
  have hf : Fit v.length 228 m := by rw [hm]; exact ndK_fit _ (by omega)
  obtain ⟨w1, w2⟩ := walk_bad (G := G) (gen := 7) (nn := 228) hf (by omega) hk hb hj hbad hoth j 0 v.length (by omega) (by omega)
  rw [idsK_at, if_pos (by omega), show 0 + (0 + 2) = 0 + 2 from rfl, Nat.zero_mul, Nat.sub_zero] at w1 w2
  have hz : chErr G ((0 + 2 : Nat) : Int) (v.length : Int) = some ([-1, -1, -1, q], 5) := by
    unfold chErr chCheck
    rw [if_neg (by omega), Int.toNat_natCast, w1]
    rfl
  refine (chRead_any h.env h.sub h.pg 7 ((0 + 2 : Nat) : Int) (v.length : Int) (by omega) (fun _ _ => by rw [Int.toNat_natCast]; exact w2)).mono ?_
  rintro e w' ⟨P', F', hG, hN, ⟨h1, _⟩ | ⟨er, f, he, rfl, hE⟩⟩
  · rw [hz] at h1; cases h1
  · rw [hz] at he
    injection he with he
    subst he
    exact ⟨P', F', f, rfl, h.step hN hG, hE⟩
end
set_option maxRecDepth 100000 in
set_option maxHeartbeats 4000000 in
theorem ChainCorrupt_any {ad : Nat → Addr} {w : World} (hL : Env NoB ad w) (hfu : Full ad) (hg : TypeLaid w) (n : Int) (pg bit mask : Nat) (hpg : pg < 65536) (hbit : bit < 65536) (hmask : mask < 4294967296) :
    Calls Tryd.prog 8 #[.int .i64 n, .agg #[.int .u16 (pg : Int), .int .u16 (bit : Int), .int .u32 (mask : Int)]] w fun e w' => e = .returned (.bool true) ∧ Ext w w' := by
  obtain ⟨na, hna⟩ : ∃ k : Nat, lenI n = (k : Int) := ⟨(lenI n).toNat, by have := lenI_range n; omega⟩
  have ha1 : 25 ≤ na ∧ na ≤ 4096 := by have := lenI_range n; omega
  obtain ⟨ha25, ha4⟩ := ha1
  have HA := Lib.hid hna
  have MA := Lib.hid (ndK_le na ha4)
  obtain ⟨w0, hw0⟩ : ∃ w0, w0 = w.alloc (.cells #[.int .u16 (pg : Int), .int .u16 (bit : Int), .int .u32 (mask : Int)] 62) := ⟨_, rfl⟩
  have hm0 : Ext w w0 := by rw [hw0]; exact (Mods.refl _ w).alloc _
  have hbx : Blk w0 w.heap.size #[.int .u16 (pg : Int), .int .u16 (bit : Int), .int .u32 (mask : Int)] 62 := by rw [hw0]; exact Blk.new w _ _
  have HM0 := Lib.hid hm0
  have HBX := Lib.hid hbx
  have HL := Lib.hid (hL.mods hm0)
  have HFU := Lib.hid hfu
  have HG := Lib.hid (hg.ext hm0)
  clear hL hna hfu hg hm0 hbx
  go_enter Tryd.func8, Tryd.ntmps8
  go_wp2_with fail
  rw [← hw0]
  refine (pager_any HL.out 30 (by omega) (by omega)).mono ?_
  rintro e w1 ⟨c, s, P, F, rfl, hG, hN⟩
  have hS := LS.start hG hN
  rw [spK_zero 30 (by omega)] at hS
  have HS := Lib.hid hS
  have t0 := hS.c0
  have t1 := hS.c1
  have t2 := hS.c2
  clear hG hN hS hw0
  unfold pgV
  go_wp2_with fail
  refine (length_any n _).mono ?_
  rintro e w2 ⟨rfl, rfl⟩
  rw [HA.out]
  go_wp2_with fail
  go_region_held3 (fun w' => w'.cell? ⟨w1.heap.size, 0, none⟩ = some (.pointer (some ⟨c, 0, none⟩)) ∧ w'.cell? ⟨w1.heap.size, 1, none⟩ = some (.pointer (some ⟨s, 0, none⟩)) ∧ w'.cell? ⟨w1.heap.size, 2, none⟩ = some (.int .u64 7))
    (first | (with_reducible exact ⟨x0, x1, x2⟩) | (with_reducible exact ⟨z0, z1, z2⟩) | go_keep)
    (first
      | (go_at_call 15; refine (tx_any na ha4 5 _).mono ?_; rintro e w3 ⟨rfl, hm3⟩; have x0 := cellE hm3 t0; have x1 := cellE hm3 t1; have x2 := cellE hm3 t2)
      | (go_at_call 14; refine (lsWrite (HS.out.drew.ext hm3) rfl rfl (by omega) (by decide) (tx na 5) (by rw [tx_size]; exact ha25) (by rw [tx_size]; exact ha4)).mono ?_; rintro e w4 ht4; obtain ⟨iv, ev, rfl⟩ := ht4.form; have z0 := ht4.box.cell (o := 0) rfl; have z1 := ht4.box.cell (o := 1) rfl; have z2 := ht4.box.cell (o := 2) rfl))
  obtain ⟨x, hx, rfl, rfl, P4, F4, G4, hS4, hp4⟩ := ht4.okT (by have := MA.out; omega)
  have HX := Lib.hid hx
  have HP4 := Lib.hid hp4
  have HS4 := Lib.hid hS4
  clear z0 z1 z2 x0 x1 x2 hm3 ht4 hS4 hx hp4 t0 t1 t2
  have t0 := HS4.out.c0
  go_wp2_with fail
  refine (lsFlush HS4.out).mono ?_
  rintro e w5 ⟨P5, F5, rfl, hS5, _⟩
  have HS5 := Lib.hid hS5
  clear hS5 t0
  have t0 := HS5.out.c0
  obtain ⟨d, hd1, hd2⟩ := lsFlushD HS5.out
  have HD1 := Lib.hid hd1
  have HD2 := Lib.hid hd2
  clear hd1 hd2
  go_wp2_with fail
  refine HD1.out.mono ?_
  rintro e w6 ⟨rfl, rfl⟩
  go_wp2_with fail
  refine HD2.out.mono ?_
  rintro e w7 ⟨P7, F7, rfl, hS7, _⟩
  have HS7 := Lib.hid hS7
  clear hS7 t0
  have t0 := HS7.out.c0
  go_wp2_with fail
  refine (pgForgetSees HS7.out.env HS7.out.sub HS7.out.pg).mono ?_
  rintro e w8 ⟨P8, F8, rfl, hN8, hT8⟩
  have HN8 := Lib.hid hN8
  have HT8 := Lib.hid hT8
  have hbox8 := hN8.blk HS7.out.box HS7.out.nB
  clear t0
  have t0 := hbox8.cell (o := 0) rfl
  have hE8 : Ext w0 w8 := (HS7.out.nx.trans hN8).stp.mods
  have hbx8 := HBX.out.mods hE8 (fun f => f)
  have q0 := hbx8.cell (o := 0) (v := .int .u16 (pg : Int)) rfl
  have q1 := hbx8.cell (o := 1) (v := .int .u16 (bit : Int)) rfl
  have q2 := hbx8.cell (o := 2) (v := .int .u32 (mask : Int)) rfl
  have HE8 := Lib.hid hE8
  clear hN8 hT8 hbox8 hE8 hbx8
  go_wp2_with fail
  obtain ⟨m, hm⟩ : ∃ m, m = ndK na := ⟨_, rfl⟩
  have hm18 : m ≤ 18 := by rw [hm]; exact MA.out
  have hm1 : 0 < m := by rw [hm]; exact (ndK_fit na (by omega)).m1
  have HM := Lib.hid hm
  obtain ⟨j, hj⟩ : ∃ j, j = pg % m := ⟨_, rfl⟩
  have hjm : j < m := by rw [hj]; exact Nat.mod_lt _ hm1
  obtain ⟨bad, hbad⟩ : ∃ bad, bad = j + (0 + 2) := ⟨_, rfl⟩
  have HBAD := Lib.hid hbad
  have u1 : IntKind.i64.wrap (pg : Int) = (pg : Int) := IntWalk.i64_in _ (by omega)
  have u2 : (pg : Int).tmod (m : Int) = (j : Int) := by
    rw [Int.tmod_eq_emod_of_nonneg (by omega), hj]; rfl
  have u3 : IntKind.i64.wrap (2 + (j : Int)) = (bad : Int) := by rw [hbad]; rw [IntWalk.i64_in _ (by omega)]; omega
  have u4 : ((m : Int) == 0) = false := beq_eq_false_iff_ne.2 (by omega)
  have u6 : ¬ m = 0 := by omega
  have u7 : ¬ (m : Int) = 0 := by omega
  have u8 : (0 : Int) < (m : Int) := by omega
  have u9 : Op.intDiv .rem .i64 (pg : Int) (m : Int) = pure (.int .i64 (j : Int)) := by
    unfold Op.intDiv
    rw [if_neg u7]
    show (pure (.int .i64 ((pg : Int).tmod (m : Int))) : Sem Value) = _
    rw [u2]
  have u5 : IntKind.i64.wrap (j : Int) = (j : Int) := IntWalk.i64_in _ (by omega)
  clear hm hj hbad
  go_region_held3 (fun w' => w'.cell? ⟨w.heap.size, 0, none⟩ = some (.int .u16 (pg : Int)))
    (first | (with_reducible exact q0) | go_keep)
    (first
      | (go_at_call 11; refine (need10_any (na : Int) 256 _ (by omega) (by omega)).mono ?_; rintro e w9 ⟨rfl, rfl⟩; rw [ndK_need na (by omega), ← HM.out]))
  obtain ⟨bt, hbt⟩ : ∃ bt, bt = bit % 2048 := ⟨_, rfl⟩
  have hbt1 : bt < 2048 := by omega
  obtain ⟨mk, hmk⟩ : ∃ mk, mk = mask ||| 1 := ⟨_, rfl⟩
  have hmk1 : mk < 4294967296 := by rw [hmk]; exact Nat.or_lt_two_pow (n := 32) hmask (by decide)
  have hmk2 : mk % 2 = 1 := by
    rw [hmk]
    have h := Nat.or_mod_two_pow (a := mask) (b := 1) (n := 1)
    rw [Nat.pow_one] at h
    rw [h]
    rcases Nat.mod_two_eq_zero_or_one mask with h | h <;> rw [h] <;> rfl
  obtain ⟨f1, ⟨qq, f2, f3, f4⟩, f5⟩ := turned_facts (G := G4) (v := textL na 5) (m := m) (j := j) (bit := bt) (mask := mk) (HP4.out.size.trans rfl) (by omega) (by rw [HM.out]; exact HP4.out.here rfl) hjm hbt1 hmk2
  rw [← HBAD.out] at f1 f2 f5
  obtain ⟨d', hd', hc'⟩ := HT8.out
  have HDd := Lib.hid hd'
  have HCc := Lib.hid hc'
  have HF1 := Lib.hid f1
  have HF2 := Lib.hid f2
  have HF5 := Lib.hid f5
  have HQ : Hid (-1 ≤ qq ∧ qq < 256) := Lib.hid ⟨f3, f4⟩
  have HBK : Hid (bad < G4.flushC.flushD.blocks) := Lib.hid (by show bad < G4.blocks; rw [HP4.out.blocks, HBAD.out]; show _ < 30; omega)
  have HBT : Hid (bt < 8 * G4.flushC.flushD.size) := Lib.hid (by show bt < 8 * G4.size; rw [HP4.out.size]; show _ < 8 * 256; omega)
  have HMK := Lib.hid hmk1
  have HNP : Hid (¬ P8 w1.heap.size ∧ ¬ P8 w.heap.size) := Lib.hid ⟨HN8.out.not HS7.out.box.lt HS7.out.nB, fun hp => ((HS7.out.nx.trans HN8.out).stp.old _ HBX.out.lt hp)⟩
  have v1 : (bit : Int).tmod 2048 = (bt : Int) := by rw [Int.tmod_eq_emod_of_nonneg (by omega), hbt]; rfl
  have v2 : IntKind.i64.wrap (bt : Int) = (bt : Int) := IntWalk.i64_in _ (by omega)
  have v4 : bits .or .u32 (mask : Int) 1 = (mk : Int) := by
    have := u32_or_nat mask 1 hmask (by decide)
    rw [hmk]; exact this
  have v3 : IntKind.u16.wrap (bt : Int) = (bt : Int) := by show (bt : Int) % 65536 = _; omega
  clear hbt hmk f1 f2 f3 f4 f5 hd' hc' hbt1 hmk1 hmk2 u1 u2 u3 u4 u5 u6 u7 u8 u9 q0
  go_wp2_with fail
  go_region_held3 (fun w' => w'.cell? ⟨w1.heap.size, 0, none⟩ = some (.pointer (some ⟨c, 0, none⟩)) ∧ w'.cell? ⟨w.heap.size, 1, none⟩ = some (.int .u16 (bit : Int)) ∧ w'.cell? ⟨w.heap.size, 2, none⟩ = some (.int .u32 (mask : Int)))
    (first | (with_reducible exact ⟨t0, q1, q2⟩) | (with_reducible exact ⟨x0, x1, x2⟩) | go_keep)
    (first
      | (go_at_call 28; refine (HDd.out _ (Mods.refl _ w8).drew.drew).mono ?_; rintro e w9 ⟨rfl, rfl⟩)
      | (go_at_call 30; refine (HCc.out _ (Mods.refl _ w8).drew.drew bad bt mk HBK.out HBT.out HMK.out HF1.out).mono ?_; rintro e w10 ⟨P10, F10, hG10, hN10, rfl⟩; have x0 := hN10.cellK (w := w8.drew.drew) t0 HNP.out.1; have x1 := hN10.cellK (w := w8.drew.drew) q1 HNP.out.2; have x2 := hN10.cellK (w := w8.drew.drew) q2 HNP.out.2))
  have HS10 := Lib.hid (HS7.out.step ((HN8.out.trans (Nxt.ext HN8.out.env HN8.out.sub (Mods.refl _ w8).drew.drew)).trans hN10) hG10)
  clear x0 x1 x2 hG10 hN10 t0 q1 q2 v1 v2 v3 v4
  have t0 := HS10.out.c0
  have t1 := HS10.out.c1
  have t2 := HS10.out.c2
  go_wp2_with fail
  refine (lsReadTurned (v := textL na 5) (m := m) (j := j) (q := qq) HS10.out (HP4.out.size.trans rfl) (by show G4.blocks ≤ 256; rw [HP4.out.blocks]; show 30 ≤ 256; omega) (by show _ ≤ G4.blocks; rw [HP4.out.blocks]; show _ ≤ 30; omega) na x (textL_len na 5).symm HM.out ha25 ha4 HX.out hjm (by rw [← HBAD.out]; exact HF2.out) HF5.out).mono ?_
  rintro e w11 ⟨P11, F11, f, rfl, hS11, hE11⟩
  have HS11 := Lib.hid hS11
  have HE11 := Lib.hid hE11
  have HR : Hid (∀ p ∈ [(-1 : Int), -1, -1, qq], -9223372036854775808 ≤ p ∧ p ≤ 9223372036854775807) := Lib.hid (fun p hp => by
    have := HQ.out
    simp at hp
    rcases hp with rfl | rfl <;> omega)
  clear hS11 hE11 t0 t1 t2
  go_wp2_with fail
  refine (tellsC HS11.out.env HFU.out HE11.out 5 (by omega) rfl).mono ?_
  rintro e w12 ⟨rfl, rfl⟩
  go_wp2_with fail
  refine (Page_any (HG.out.ext HS11.out.ext0) _ _ 5 HE11.out (by simp) HR.out).mono ?_
  rintro e w13 ⟨rfl, hm13⟩
  obtain ⟨pf, hpf⟩ : ∃ p, p = pageF [(-1 : Int), -1, -1, qq] := ⟨_, rfl⟩
  have hpf1 : -1 ≤ pf := by rw [hpf]; exact pageF_ge _
  rw [← hpf]
  have HS13 := Lib.hid (HS11.out.ext hm13)
  have HE13 := Lib.hid (HE11.out.mods hm13.ext)
  clear hpf hm13
  go_wp2_with fail
  refine (named_any (HG.out.ext HS13.out.ext0) _ _ 5 HE13.out (by simp) (by simp) HR.out bad).mono ?_
  rintro e w14 ⟨rfl, hm14⟩
  have HS14 := Lib.hid (HS13.out.ext hm14)
  clear hm14
  go_wp2_with fail
  refine (awake_any (HL.out.mods HS14.out.ext0)).mono ?_
  rintro e w15 ⟨rfl, hm15⟩
  have HM15 := Lib.hid ((HM0.out.trans HS14.out.ext0).trans hm15)
  clear hm15
  go_wp2_with fail
  go_ret
  exact ⟨rfl, HM15.out⟩
end Go.Proofs.YtidjkcfjocppmaaDoor
