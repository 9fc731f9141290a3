/- LookupLoads, walked. -/
import Derived.Test.YtmgfneijcfjlfaaGreatDoorK34
import Derived.Test.YtmgfneijcfjlfaaGreatDoorK46
import Derived.Test.YtmgfneijcfjlfaaGreatDoorK42
import Derived.Test.YtmgfneijcfjlfaaGreatDoorK41
import Derived.Test.YtmgfneijcfjlfaaGreatDoorK28
namespace Go.Proofs.YtmgfneijcfjlfaaGreatDoor
open Go.RowKit
attribute [local go_sem ↓] Go.wp_at_zero Go.wp_at_succ
/-- a single page, put on a new pager. -/
theorem one_puts {p : PageA} (hid : p.id = 3) (hg : p.gen < 18446744073709551616) (hk : 1 ≤ p.kind ∧ p.kind ≤ 4) (hb : p.body.length ≤ 232) : PutsOk 200 [p] := by
  refine ⟨List.pairwise_singleton _ _, fun q hq => ?_, fun q hq => ?_, fun q hq => ?_⟩
  · rw [List.mem_singleton.1 hq, hid]; decide
  · rw [List.mem_singleton.1 hq]; exact hg
  · rw [List.mem_singleton.1 hq]
    unfold pgCheck
    rw [if_neg (by decide), if_neg]
    have hk2 : kindB p.kind = true := by
      unfold kindB
      simp only [Bool.or_eq_true, decide_eq_true_eq]
      omega
    rw [hk2, hid]
    simp
    omega
theorem one_load {p : PageA} (hid : p.id = 3) : (putsG (G0 200) [p]).load 3 = match decodeA p with
    | .inl n => .inl n
    | .inr (l, k) => .inr (-1 :: l, k) := by
  have hv := putsG_at [p] (G0 200) p (List.pairwise_singleton _ _) List.mem_cons_self
  rw [hid] at hv
  have hg : (putsG (G0 200) [p]).get 3 = .inl p := by
    have hc : (putsG (G0 200) [p]).check 3 = none := by
      unfold GA.check
      rw [if_neg (by rw [(putsG_same [p] (G0 200)).1]; decide)]
    unfold GA.get
    rw [hc]
    simp only [hv]
  unfold GA.load
  rw [hg]
  rfl
/-- what a page of any kind is, loaded. -/
theorem one_cases (kind : Int) (gen : Nat) (b : List UInt8) (hk : 1 ≤ kind ∧ kind ≤ 4) :
    (∃ n, (putsG (G0 200) [⟨kind, 3, gen, b⟩]).load 3 = .inl n ∧ getN (decide (kind = 3)) b = some n ∧ (kind = 3 ∨ kind = 2)) ∨
    ((putsG (G0 200) [⟨kind, 3, gen, b⟩]).load 3 = .inr ([-1, 3], 5) ∧ (getN (decide (kind = 3)) b = none ∨ kind = 1 ∨ kind = 4)) := by
  rw [one_load (p := ⟨kind, 3, gen, b⟩) rfl]
  unfold decodeA
  simp only
  by_cases h : kind = 3 ∨ kind = 2
  · rw [if_pos h]
    cases hn : getN (decide (kind = 3)) b with
    | some n => exact .inl ⟨n, rfl, rfl, h⟩
    | none => exact .inr ⟨rfl, .inl rfl⟩
  · rw [if_neg h]
    exact .inr ⟨rfl, .inr (by omega)⟩
theorem get07_t {F : Nat → Prop} {w : World} (lf : Bool) (l : List UInt8) (bv : Value) (hb : Sl F w 1 encB bv l) (hl : l.length ≤ 900) :
    Calls Tryz.prog 23 #[.bool lf, bv] w (Got07 lf l w) := by
  cases lf with
  | true => exact get07L_any l bv hb hl
  | false => exact get07I_any l bv hb hl
set_option maxRecDepth 100000 in
set_option maxHeartbeats 4000000 in
theorem LookupLoads_any {ad : Nat → Addr} {w : World} (hL : Env NoB ad w) (hfu : Full ad) (hg : TypeLaid w) (kind id : Int) (gen : Nat) (hgen : gen < 18446744073709551616) (bv : Value) (l : List UInt8) (hb : Sl NoB w 1 encB bv l) :
    Calls Tryz.prog 7 #[.agg #[.int .i64 kind, .int .i64 id, .int .u64 (gen : Int), bv]] w fun e w' => e = .returned (.bool true) ∧ Ext w w' := by
  have HL := Lib.hid hL
  have HFU := Lib.hid hfu
  have HG := Lib.hid hg
  have hb0 := hb
  obtain ⟨ba, bc, rfl, b1, b2, b3, -⟩ := hb
  unfold maxLen at b2
  obtain ⟨q, hq, hq1, hq2⟩ : ∃ q : Nat, q = min l.length 232 ∧ q ≤ l.length ∧ q ≤ 232 := ⟨_, rfl, Nat.min_le_left _ _, Nat.min_le_right _ _⟩
  have hqz : (min (l.length : Int) 232).toNat = q := by omega
  clear hq
  by_cases hk : 1 ≤ kind ∧ kind ≤ 4
  · have m0 : Ext w ((w.alloc (.cells #[.int .i64 kind, .int .i64 3, .int .u64 (gen : Int), .slice ba q bc] 75)).alloc (.cells #[.int .i64 kind, .int .i64 3, .int .u64 (gen : Int), .slice ba q bc] 75)) := ((Mods.refl _ w).alloc _).alloc _
    obtain ⟨b, hbq⟩ : ∃ b, b = l.take q := ⟨_, rfl⟩
    have hbl : b.length = q := by rw [hbq, List.length_take]; omega
    have HBY : Hid (Sl NoB w 1 encB (.slice ba q bc) b) := Lib.hid (by rw [hbq]; exact hb0.pre q hq1)
    have HBX := Lib.hid ((Blk.new w #[.int .i64 kind, .int .i64 3, .int .u64 (gen : Int), .slice ba q bc] 75).alloc (.cells #[.int .i64 kind, .int .i64 3, .int .u64 (gen : Int), .slice ba q bc] 75))
    have hpc := (pagerOf_any (hL.mods m0.ext) [((⟨kind, 3, gen, b⟩ : PageA), (ba, q, bc))] (.slice (some ⟨w.heap.size + 1, 0, none⟩) 1 1) (Sl.one (heap_at (by simp)) (fun f => f)) (fun x hx => by
      rw [List.mem_singleton.1 hx]
      exact HBY.out.ext m0) (one_puts rfl hgen hk (by show b.length ≤ 232; omega)) (by simp))
    simp only [List.map_cons, List.map_nil] at hpc
    have HPC := Lib.hid hpc
    have HM0 := Lib.hid m0
    have HC := Lib.hid (one_cases kind gen b hk)
    have k1 := hk.1
    have k2 := hk.2
    clear hL hfu hg m0 hbq hb0 hk hpc
    go_enter Tryz.func7, Tryz.ntmps7
    go_wp2_with fail
    refine (HPC.out).mono ?_
    rintro e w2 ⟨c, s, P, F, rfl, hG, hN⟩
    have hS := LG.startZ (gen := 5) hG hN 5 rfl
    have t0 := hS.c0
    have t1 := hS.c1
    have t2 : _ = some (Value.int .u64 5) := hS.c2
    have HLD := Lib.hid (load_any hS.env hS.sub hS.pg 5 3 ((G0_puts_total 200 [⟨kind, 3, gen, b⟩]).knows _))
    rw [pgV5] at HLD ⊢
    have HS := Lib.hid hS
    clear hG hN hS
    go_wp2_with fail
    refine (HLD.out).mono ?_
    rintro e w3 hd
    rcases HC.out with ⟨n, hn1, hn2, hkk⟩ | ⟨hn1, hn2⟩
    · have hd2 := HS.out.done hd
      rw [hn1] at hd2
      obtain ⟨P3, F3, hS3, ve, vk, vi, rfl, hse, hsk, hsi⟩ := hd2
      have HSE := Lib.hid hse
      have HSK := Lib.hid hsk
      have HSI := Lib.hid hsi
      obtain ⟨ea, ec, rfl, -, -, -, -⟩ := hse
      obtain ⟨ka, kc, rfl, -, -, -, -⟩ := hsk
      obtain ⟨ia, ic, rfl, -, -, -, -⟩ := hsi
      have m3 : Ext w3 (w3.alloc (.cells #[.bool n.leaf, .slice ea n.entries.length ec, .slice ka n.keys.length kc, .slice ia n.kids.length ic] 57)) := (Mods.refl _ w3).alloc _
      have HN5 := Lib.hid (Blk.new w3 #[.bool n.leaf, .slice ea n.entries.length ec, .slice ka n.keys.length kc, .slice ia n.kids.length ic] 57)
      have hb3 := (hS3.old HBX.out).ext m3
      have y0 := hb3.cell (o := 0) (v := .int .i64 kind) rfl
      have y3 := hb3.cell (o := 3) (v := .slice ba q bc) rfl
      have HB3 := Lib.hid hb3
      have HGT := Lib.hid (get07_t (kind == 3) b (.slice ba q bc) ((hS3.sl (HBY.out.ext HM0.out)).ext m3) (by omega))
      have HS3 := Lib.hid hS3
      have HM3 := Lib.hid m3
      have HN2 : Hid (getN (kind == 3) b = some n) := Lib.hid hn2
      clear hd hS3 m3 hb3 t0 t1 t2 hn1 hn2
      go_wp2_with fail
      refine (HGT.out).mono ?_
      rintro e w4 ⟨hres, hm4⟩
      rw [HN2.out] at hres
      obtain ⟨ue, uk, ui, rfl, hue, huk, hui⟩ := hres
      have HUE := Lib.hid hue
      have HUK := Lib.hid huk
      have HUI := Lib.hid hui
      obtain ⟨fa, fc, rfl, -, -, -, -⟩ := hue
      obtain ⟨ga, gc, rfl, -, -, -, -⟩ := huk
      obtain ⟨ja, jc, rfl, -, -, -, -⟩ := hui
      have m5 : Ext w4 (w4.alloc (.cells #[.bool n.leaf, .slice fa n.entries.length fc, .slice ga n.keys.length gc, .slice ja n.kids.length jc] 57)) := (Mods.refl _ w4).alloc _
      have hn5 := (HN5.out.ext hm4).ext m5
      have z0 := hn5.cell (o := 0) (v := .bool n.leaf) rfl
      have z1 := hn5.cell (o := 1) (v := .slice ea n.entries.length ec) rfl
      have z2 := hn5.cell (o := 2) (v := .slice ka n.keys.length kc) rfl
      have z3 := hn5.cell (o := 3) (v := .slice ia n.kids.length ic) rfl
      have y0 := ((HB3.out.ext hm4).ext m5).cell (o := 0) (v := .int .i64 kind) rfl
      have hx : Ext w3 (w4.alloc (.cells #[.bool n.leaf, .slice fa n.entries.length fc, .slice ga n.keys.length gc, .slice ja n.kids.length jc] 57)) := (HM3.out.trans hm4).trans m5
      have HSM := Lib.hid (same07_eq n _ _ _ _ _ _ (HSE.out.ext hx) (HSK.out.ext hx) (HSI.out.ext hx) (HUE.out.ext m5) (HUK.out.ext m5) (HUI.out.ext m5))
      have HX := Lib.hid ((HM0.out.trans HS3.out.ext0).trans hx)
      clear hm4 m5 hn5 hx y3
      rcases hkk with rfl | rfl
      all_goals
        go_wp2_with fail
        refine (HSM.out).mono ?_
        rintro e w6 ⟨rfl, hm6⟩
        have HX6 := Lib.hid (HX.out.trans hm6)
        have HAW := Lib.hid (awake11_any (HL.out.mods HX6.out.ext))
        clear hm6
        go_wp2_with fail
        refine (HAW.out).mono ?_
        rintro e w7 ⟨rfl, hm7⟩
        have HX7 := Lib.hid (HX6.out.trans hm7)
        clear hm7
        go_wp2_with fail
        go_ret
        exact ⟨rfl, HX7.out⟩
    · have hd2 := HS.out.done hd
      rw [hn1] at hd2
      obtain ⟨P3, F3, hS3, f, rfl, hE3⟩ := hd2
      have m3 : Ext w3 (w3.alloc (.cells #[.bool false, .slice none 0 0, .slice none 0 0, .slice none 0 0] 57)) := (Mods.refl _ w3).alloc _
      have HN5 := Lib.hid (Blk.new w3 #[.bool false, .slice none 0 0, .slice none 0 0, .slice none 0 0] 57)
      have hb3 := (hS3.old HBX.out).ext m3
      have y0 := hb3.cell (o := 0) (v := .int .i64 kind) rfl
      have y3 := hb3.cell (o := 3) (v := .slice ba q bc) rfl
      have HB3 := Lib.hid hb3
      have HGT := Lib.hid (get07_t (kind == 3) b (.slice ba q bc) ((hS3.sl (HBY.out.ext HM0.out)).ext m3) (by omega))
      have HS3 := Lib.hid hS3
      have HM3 := Lib.hid m3
      have HE3 := Lib.hid hE3
      have HN2 : Hid (getN (kind == 3) b = none ∨ kind = 1 ∨ kind = 4) := Lib.hid hn2
      clear hd hS3 m3 hb3 t0 t1 t2 hn1 hn2 hE3
      go_wp2_with fail
      refine (HGT.out).mono ?_
      rintro e w4 ⟨hres, hm4⟩
      have HF : Hid (∃ lv a1 n1 c1 a2 n2 c2 a3 n3 c3 isb, e = .returned (.tuple #[.agg #[.bool lv, .slice a1 n1 c1, .slice a2 n2 c2, .slice a3 n3 c3], .bool isb]) ∧ (isb = false ∨ (isb = true ∧ kind = 1) ∨ (isb = true ∧ kind = 4))) := Lib.hid (by
        cases hg : getN (kind == 3) b with
        | none =>
          rw [hg] at hres
          exact ⟨_, _, _, _, _, _, _, _, _, _, _, hres, .inl rfl⟩
        | some n =>
          rw [hg] at hres
          obtain ⟨ue, uk, ui, he, ⟨fa, fc, rfl, _⟩, ⟨ga, gc, rfl, _⟩, ⟨ja, jc, rfl, _⟩⟩ := hres
          have h2 := HN2.out
          rw [hg] at h2
          exact ⟨_, _, _, _, _, _, _, _, _, _, _, he, .inr (by
            rcases h2 with h2 | h2 | h2
            · cases h2
            · exact .inl ⟨rfl, h2⟩
            · exact .inr ⟨rfl, h2⟩)⟩)
      obtain ⟨lv, a1, n1, c1, a2, n2, c2, a3, n3, c3, isb, rfl, hcase⟩ := HF.out
      have m5 : Ext w4 (w4.alloc (.cells #[.bool lv, .slice a1 n1 c1, .slice a2 n2 c2, .slice a3 n3 c3] 57)) := (Mods.refl _ w4).alloc _
      have hn5 := (HN5.out.ext hm4).ext m5
      have z0 := hn5.cell (o := 0) (v := .bool false) rfl
      have z1 := hn5.cell (o := 1) (v := .slice none 0 0) rfl
      have z2 := hn5.cell (o := 2) (v := .slice none 0 0) rfl
      have z3 := hn5.cell (o := 3) (v := .slice none 0 0) rfl
      have y0 := ((HB3.out.ext hm4).ext m5).cell (o := 0) (v := .int .i64 kind) rfl
      have hx : Ext w3 (w4.alloc (.cells #[.bool lv, .slice a1 n1 c1, .slice a2 n2 c2, .slice a3 n3 c3] 57)) := (HM3.out.trans hm4).trans m5
      have HX := Lib.hid ((HM0.out.trans HS3.out.ext0).trans hx)
      have HTL := Lib.hid (tellsT (HS3.out.env.mods hx.ext) HFU.out (HE3.out.mods hx.ext) 5 (by omega) rfl)
      have HPG := Lib.hid (Page_any (HG.out.ext HX.out) _ _ _ (HE3.out.mods hx.ext) (by decide) (by decide))
      rw [show pageF [-1, 3] = 3 from rfl] at HPG
      clear hm4 m5 hn5 hx y3 HF hres
      rcases hcase with rfl | ⟨rfl, rfl⟩ | ⟨rfl, rfl⟩
      all_goals
        go_wp2_with fail
        refine (HTL.out).mono ?_
        rintro e w6 ⟨rfl, rfl⟩
        go_wp2_with fail
        refine (HPG.out).mono ?_
        rintro e w6 ⟨rfl, hm6⟩
        have z0 := cellE hm6 z0
        have z1 := cellE hm6 z1
        have z2 := cellE hm6 z2
        have z3 := cellE hm6 z3
        have HX6 := Lib.hid (HX.out.trans hm6)
        have HSM := Lib.hid (same07_eq (F := NoB) (G := NoB) (w := w6) ⟨false, [], [], []⟩ _ _ _ _ _ _ (Sl.nil _ _ _ _) (Sl.nil _ _ _ _) (Sl.nil _ _ _ _) (Sl.nil _ _ _ _) (Sl.nil _ _ _ _) (Sl.nil _ _ _ _))
        clear hm6
        go_wp2_with fail
        refine (HSM.out).mono ?_
        rintro e w7 ⟨rfl, hm7⟩
        have HX7 := Lib.hid (HX6.out.trans hm7)
        have HAW := Lib.hid (awake11_any (HL.out.mods HX7.out.ext))
        clear hm7
        go_wp2_with fail
        refine (HAW.out).mono ?_
        rintro e w8 ⟨rfl, hm8⟩
        have HX8 := Lib.hid (HX7.out.trans hm8)
        clear hm8
        go_wp2_with fail
        go_ret
        exact ⟨rfl, HX8.out⟩
  · have HAW := Lib.hid (fun w' (m : Ext w w') => awake11_any (hL.mods m.ext))
    have h2 : kind < 1 ∨ 4 < kind := by omega
    clear hL hfu hg
    rcases h2 with h1 | h1
    all_goals
      go_enter Tryz.func7, Tryz.ntmps7
      go_wp2_with fail
      refine (HAW.out _ ((Mods.refl _ w).alloc _)).mono ?_
      rintro e w2 ⟨rfl, hm2⟩
      have HM2 : Hid (Ext w w2) := Lib.hid (((Mods.refl _ w).alloc _).trans hm2)
      clear hm2
      go_wp2_with fail
      go_ret
      exact ⟨rfl, HM2.out⟩
end Go.Proofs.YtmgfneijcfjlfaaGreatDoor
