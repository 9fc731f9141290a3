/- LookupSpoilt, walked. -/
import Derived.Test.YtepafbokbfcbgaaGreatDoorK37
import Derived.Test.YtepafbokbfcbgaaGreatDoorK43
import Derived.Test.YtepafbokbfcbgaaGreatDoorK35
import Derived.Test.YtepafbokbfcbgaaGreatDoorK41
import Derived.Test.YtepafbokbfcbgaaGreatDoorK05
import Derived.Deep.RegionHeld3
import Derived.BigQuiet
import Derived.IntWalk
import Derived.Laws.BitsAllLaws
namespace Go.Proofs.YtepafbokbfcbgaaGreatDoor
open Go.RowKit
attribute [local go_sem ↓] Go.wp_at_zero Go.wp_at_succ
section
variable {ad : Nat → Addr} {w0 w w' : World} {B c s gen : Nat} {P P' F F' : Nat → Prop} {G G' : GA} {l l' : List Nat}
set_option maxRecDepth 100000 in
set_option maxHeartbeats 4000000 in
theorem LookupSpoilt_any {ad : Nat → Addr} {w : World} (hL : Env NoB ad w) (hfu : Full ad) (l : List PairS) (lv : Value) (hl : Sl NoB w 2 encP lv l) (E K : Nat) (hE : E < 256) (hK : K < 256) (wh ho : Nat) (hwh : wh < 256) (hho : ho < 256) (mask : Nat) (hmask : mask < 4294967296) :
    Calls Tryz.prog 10 #[.agg #[lv, .int .u8 (E : Int), .int .u8 (K : Int)], .agg #[.int .u8 (wh : Int), .int .u8 (ho : Int)], .int .u32 (mask : Int)] w fun e w' => e = .returned (.bool true) ∧ Ext w w' := by
  have HL := Lib.hid hL
  have HFU := Lib.hid hfu
  have HT := Lib.hid (tree_on (tameP_ok 300 l) (e := 1 + E % 3) (k := 2 + K % 3) (by omega) (by omega) (by omega) (by omega))
  have m0 : Ext w ((w.alloc (.cells #[lv, .int .u8 (E : Int), .int .u8 (K : Int)] 24)).alloc (.cells #[.int .u8 (wh : Int), .int .u8 (ho : Int)] 87)) := ((Mods.refl _ w).alloc _).alloc _
  have HBC := Lib.hid (built_any l lv (hl.ext m0) E K hE hK)
  have HM0 := Lib.hid m0
  obtain ⟨la, lc, rfl, _, _, _, _⟩ := hl
  clear hL hfu m0
  go_enter Tryz.func10, Tryz.ntmps10
  go_wp2_with fail
  refine (HBC.out).mono ?_
  rintro e w1 ⟨pv, xs, vl, rfl, hP, hxs, hO, hm1⟩
  obtain ⟨q, hq⟩ : ∃ q, q = tameP 300 l := ⟨_, rfl⟩
  rw [← hq] at hxs HT hO ⊢
  have HTQ : Hid (Tame 300 q) := Lib.hid (by rw [hq]; exact tameP_ok 300 l)
  obtain ⟨r, hr⟩ : ∃ r, r = buildA 5 (1 + E % 3) (2 + K % 3) q := ⟨_, rfl⟩
  rw [← hr] at hxs HT ⊢
  have HRR := Lib.hid hr
  have HM1 := Lib.hid (HM0.out.trans hm1)
  have hln : xs.length ≤ 100 := by have := HT.out.few; rw [← hxs, List.length_map] at this; omega
  have HXS := Lib.hid hxs
  obtain ⟨hsl, hbs⟩ := hP.pages (by omega) (fun x hx => by
    have hpu := HT.out.puts
    rw [← hxs] at hpu
    exact hpu.bodies _ (List.mem_map_of_mem hx))
  obtain ⟨pa, pc, rfl, pp1, pp2⟩ := hP.row.form
  unfold maxLen at pp2
  obtain ⟨va, vc, rfl, v1, v2⟩ := hO.form
  unfold maxLen at v2
  have hTB := Blk.new w1 #[.slice pa xs.length pc, .int .i64 (r.2.1 : Int), .int .i64 (r.2.2 : Int)] 27
  have HTB := Lib.hid hTB
  have b0 := hTB.cell (o := 0) (v := .slice pa xs.length pc) rfl
  have m2 : Ext w1 (w1.alloc (.cells #[.slice pa xs.length pc, .int .i64 (r.2.1 : Int), .int .i64 (r.2.2 : Int)] 27)) := (Mods.refl _ w1).alloc _
  have HM2 := Lib.hid (HM1.out.trans m2)
  have HSL := Lib.hid (hsl.ext m2)
  have HBS := Lib.hid (fun x hx => (hbs x hx).ext m2)
  by_cases h2 : xs.length < 2
  · have h2i : (xs.length : Int) < 2 := by omega
    have HAW := Lib.hid (awake11_any (HL.out.mods HM2.out.ext))
    clear hP hxs hm1 hr hsl hbs m2 hO hq hTB
    go_wp2_with fail
    refine (HAW.out).mono ?_
    rintro e w10 ⟨rfl, hm10⟩
    have HM10 := Lib.hid (HM2.out.trans hm10)
    clear hm10
    go_wp2_with fail
    go_ret
    exact ⟨rfl, HM10.out⟩
  · have h2i : ¬ (xs.length : Int) < 2 := by omega
    obtain ⟨at_, hat⟩ : ∃ at_, at_ = wh % xs.length := ⟨_, rfl⟩
    have hal : at_ < xs.length := by rw [hat]; exact Nat.mod_lt _ (by omega)
    have u2 : (wh : Int).tmod (xs.length : Int) = (at_ : Int) := by
      rw [Int.tmod_eq_emod_of_nonneg (by omega), hat]; rfl
    have u2' : (wh : Int) % (xs.length : Int) = (at_ : Int) := by rw [hat]; rfl
    have u7 : ¬ (xs.length : Int) = 0 := by omega
    have u4 : ((xs.length : Int) == 0) = false := beq_eq_false_iff_ne.2 u7
    have u9 : Op.intDiv .rem .i64 (wh : Int) (xs.length : Int) = pure (.int .i64 (at_ : Int)) := by
      unfold Op.intDiv
      rw [if_neg u7]
      show (pure (.int .i64 ((wh : Int).tmod (xs.length : Int))) : Sem Value) = _
      rw [u2]
    obtain ⟨hw, hhw⟩ : ∃ hw, hw = ho % 3 := ⟨_, rfl⟩
    have hw3 : hw < 3 := by omega
    have x1 : (ho : Int).tmod 3 = (hw : Int) := by rw [Int.tmod_eq_emod_of_nonneg (by omega), hhw]; rfl
    have x2 : (ho : Int) % 3 = (hw : Int) := by rw [hhw]; rfl
    have HW0 : Hid (Own NoF ((w1.alloc (.cells #[.slice pa xs.length pc, .int .i64 (r.2.1 : Int), .int .i64 (r.2.2 : Int)] 27)).alloc (.cells #[] 91)) (w1.heap.size + 1) 91 4 encPg (.slice (some ⟨w1.heap.size + 1, 0, none⟩) 0 0) ([] : List PgE)) := Lib.hid (by
      have h := Own.empty (F := NoF) (w := (w1.alloc (.cells #[.slice pa xs.length pc, .int .i64 (r.2.1 : Int), .int .i64 (r.2.2 : Int)] 27))) (fun k f => f.elim) 91 4 encPg encPg_ok.len
      simpa using h)
    have m3 : Ext (w1.alloc (.cells #[.slice pa xs.length pc, .int .i64 (r.2.1 : Int), .int .i64 (r.2.2 : Int)] 27)) ((w1.alloc (.cells #[.slice pa xs.length pc, .int .i64 (r.2.1 : Int), .int .i64 (r.2.2 : Int)] 27)).alloc (.cells #[] 91)) := (Mods.refl _ _).alloc _
    have HM3 := Lib.hid m3
    have HSL3 := Lib.hid (HSL.out.ext m3)
    have b0' := (hTB.ext m3).cell (o := 0) (v := .slice pa xs.length pc) rfl
    have HXL : Hid (r.1.length = xs.length) := Lib.hid (by rw [← hxs, List.length_map])
    have hne : xs ≠ [] := fun e => by rw [e] at h2; simp at h2
    have HNE := Lib.hid hne
    have HQN : Hid (q ≠ []) := Lib.hid (fun e => h2 (by rw [← HXL.out, HRR.out, e]; simp [buildA]))
    obtain ⟨x, hx⟩ : ∃ x, xs[at_]? = some x := ⟨xs[at_], List.getElem?_eq_getElem hal⟩
    have HX := Lib.hid hx
    have HXP : Hid (r.1[at_]? = some x.1) := Lib.hid (by rw [← hxs, List.getElem?_map, hx]; rfl)
    have hali : (at_ : Int) < (xs.length : Int) := by omega
    have ha0 : (0 : Int) ≤ (at_ : Int) := by omega
    -- behind the append: the row g, and all else as it was
    have HAP : Hid (∀ (a4 : Option Addr) (c4 : Nat) (w4 : World), Own NoF w4 (w1.heap.size + 1) 91 4 encPg (.slice a4 xs.length c4) xs → Mods (fun k => (Value.slice (some ⟨w1.heap.size + 1, 0, none⟩) 0 0).ownBlock = some k) ((w1.alloc (.cells #[.slice pa xs.length pc, .int .i64 (r.2.1 : Int), .int .i64 (r.2.2 : Int)] 27)).alloc (.cells #[] 91)) w4 →
        ∃ g, a4 = some ⟨g, 0, none⟩ ∧ w1.heap.size + 1 ≤ g ∧ (∀ o, w4.frozen? ⟨g, o, none⟩ = false) ∧ Ext (w1.alloc (.cells #[.slice pa xs.length pc, .int .i64 (r.2.1 : Int), .int .i64 (r.2.2 : Int)] 27)) w4 ∧ ∀ (j : Nat) (y : PgE), xs[j]? = some y → w4.cell? ⟨g, j * 4, none⟩ = some (.int .i64 y.1.kind) ∧ w4.cell? ⟨g, j * 4 + 1, none⟩ = some (.int .i64 y.1.id) ∧ w4.cell? ⟨g, j * 4 + 2, none⟩ = some (.int .u64 (y.1.gen : Int)) ∧ w4.cell? ⟨g, j * 4 + 3, none⟩ = some (svE y)) := Lib.hid (fun a4 c4 w4 hO4 hm4 => by
      obtain ⟨g, c', hg, k1, k2, k3, k4, k5⟩ := hO4.some HNE.out
      injection hg with hg _ hc
      subst hg hc
      refine ⟨g, rfl, k3, k5, HM3.out.trans' hm4 (fun i hi e => ?_), fun j y hy => ?_⟩
      · simp [Value.ownBlock] at e
        subst e
        simp at hi
      · have hs := (hO4.sl encPg_ok.len (by omega)).cellsAt hy
        have e0 := hs 0 (.int .i64 y.1.kind) rfl
        have e1 := hs 1 (.int .i64 y.1.id) rfl
        have e2 := hs 2 (.int .u64 (y.1.gen : Int)) rfl
        have e3 := hs 3 (svE y) rfl
        simp only [Nat.zero_add, Nat.add_zero] at e0 e1 e2 e3
        exact ⟨e0, e1, e2, e3⟩)
    -- any pages there: their bodies
    have HBD : Hid (∀ (ys : List PgE) (w5 : World), Ext (w1.alloc (.cells #[.slice pa xs.length pc, .int .i64 (r.2.1 : Int), .int .i64 (r.2.2 : Int)] 27)) w5 → (∀ y ∈ ys, ∃ x ∈ xs, svE y = svE x ∧ y.1.body = x.1.body) → ∀ y ∈ ys, Sl NoB w5 1 encB (svE y) y.1.body) := Lib.hid (fun ys w5 hm hy y hym => by
      obtain ⟨x, hx, e1, e2⟩ := hy y hym
      rw [e1, e2]
      exact (HBS.out x hx).ext hm)
    have HROOT : Hid (IntOk (r.2.1 : Int)) := Lib.hid (by
      have hrt : r.2.1 < 256 := by
        rcases HT.out.tree with ⟨_, h, _⟩ | ⟨_, h, _⟩
        · omega
        · exact h
      have hroot : -9223372036854775808 ≤ (r.2.1 : Int) ∧ (r.2.1 : Int) ≤ 9223372036854775807 := by omega
      exact (Lit.wf_int_iff .i64 _).2 hroot)
    have hhc : hw = 0 ∨ hw = 1 ∨ hw = 2 := by omega
    clear hP hxs hm1 hr hsl hbs m2 hO hq hTB m3 hat hhw hne hx h2 hw3 x1
    rcases hhc with rfl | rfl | rfl
    · have k0 : (((0 : Nat) : Int) == 0) = true := rfl
      go_wp2_with (first
        | (at_builtin; refine wpl_app2 Tryz.elPg encPg_ok rfl _ _ rfl (w1.heap.size + 1) (.slice (some ⟨w1.heap.size + 1, 0, none⟩) 0 0) (.slice pa xs.length pc) ([] : List PgE) xs rfl rfl HW0.out HSL3.out (by simp only [List.length_nil]; omega) (by simp) (fun f => f) ?_; simp only [List.length_nil, Nat.zero_add, List.nil_append]; intro a4 c4 w4 hO4 hm4 hat4; obtain ⟨g, rfl, hg1, hgf, hX4, hcell⟩ := HAP.out a4 c4 w4 hO4 hm4; have HO4 := Lib.hid hO4; have HX4 := Lib.hid hX4; have HG1 := Lib.hid hg1; obtain ⟨_, _, z2, _⟩ := hcell at_ x HX.out; clear hO4 hm4 hat4 hcell hX4 hg1)
        | fail)
      have HO5 : Hid (Own NoF (w4.setCell ⟨g, at_ * 4 + 2, none⟩ (.int .u64 6)) (w1.heap.size + 1) 91 4 encPg (.slice (some ⟨g, 0, none⟩) xs.length c4) (xs.set at_ ({ x.1 with gen := 6 }, x.2))) := Lib.hid (HO4.out.set encPg_ok.len (i := at_) (j := 2) HX.out (by omega) rfl)
      have HX5 : Hid (Ext (w1.alloc (.cells #[.slice pa xs.length pc, .int .i64 (r.2.1 : Int), .int .i64 (r.2.2 : Int)] 27)) (w4.setCell ⟨g, at_ * 4 + 2, none⟩ (.int .u64 6))) := Lib.hid (HX4.out.setCell (p := ⟨g, at_ * 4 + 2, none⟩) (.inl (by have := HG1.out; simp; omega)) _)
      have HYL : Hid ((xs.set at_ ({ x.1 with gen := 6 }, x.2)).length = xs.length) := Lib.hid List.length_set
      have HYB : Hid (∀ y ∈ xs.set at_ ({ x.1 with gen := 6 }, x.2), ∃ x ∈ xs, svE y = svE x ∧ y.1.body = x.1.body) := Lib.hid (fun y hy => by
        rcases List.mem_or_eq_of_mem_set hy with h | rfl
        · exact ⟨y, h, rfl, rfl⟩
        · exact ⟨x, List.mem_of_getElem? HX.out, rfl, rfl⟩)
      have HYM : Hid ((xs.set at_ ({ x.1 with gen := 6 }, x.2)).map (·.1) = r.1.set at_ { x.1 with gen := 6 }) := Lib.hid (by rw [List.map_set, HXS.out])
      have HSP : Hid (PutsOk 200 (r.1.set at_ { x.1 with gen := 6 }) ∧ ∃ er, walkW (putsG (G0 200) (r.1.set at_ { x.1 with gen := 6 })) 5 (r.2.1 : Int) = .inr er ∧ er.2 = 5) := Lib.hid (by
        have h := HRR.out
        subst h
        exact spoil_young HTQ.out (by omega) (by omega) (by omega) (by omega) HQN.out HXP.out)
      have HWK := Lib.hid HSP.out.2
      have HPU : Hid (PutsOk 200 ((xs.set at_ ({ x.1 with gen := 6 }, x.2)).map (·.1))) := Lib.hid (by rw [HYM.out]; exact HSP.out.1)
      have HPC := Lib.hid (pagerOf_any (HL.out.mods ((HM2.out.trans HX5.out).ext)) (xs.set at_ ({ x.1 with gen := 6 }, x.2)) (.slice (some ⟨g, 0, none⟩) xs.length c4) (HO5.out.sl encPg_ok.len (by rw [HYL.out]; omega)) (HBD.out _ _ HX5.out HYB.out) HPU.out (by rw [HYL.out]; omega))
      rw [HYM.out] at HPC
      have HTB5 := Lib.hid (HTB.out.ext HX5.out)
      go_wp2_with fail
      refine (HPC.out).mono ?_
      rintro e w6 ⟨c, s, P, F, rfl, hG, hN⟩
      have hS := LG.startZ (gen := 5) hG hN 5 rfl
      have t0 := hS.c0
      have t1 := hS.c1
      have t2 : _ = some (Value.int .u64 5) := hS.c2
      have hb := hS.old HTB5.out
      have b1 := hb.cell (o := 1) (v := .int .i64 (r.2.1 : Int)) rfl
      have HS := Lib.hid hS
      have HPT := Lib.hid (lookWalk_any hS.env hS.sub hS.pg 5 (r.2.1 : Int) HROOT.out (by rw [(putsG_same _ (G0 200)).1]; show 200 ≤ 256; omega) (G0_puts_total 200 _))
      rw [pgV5] at HPT ⊢
      clear hG hN hS hb
      go_wp2_with fail
      refine (HPT.out).mono ?_
      rintro e w7 hd
      obtain ⟨er, hwk, her⟩ := HWK.out
      obtain ⟨el, ek⟩ := er
      rw [hwk] at hd
      obtain ⟨P3, F3, hS3, f, rfl, hE3⟩ := HS.out.done hd
      have hm8 : Ext w7 (w7.alloc (.cells #[.slice none 0 0, .slice none 0 0, .int .i64 0] 40)) := (Mods.refl _ w7).alloc _
      have hRB := Blk.new w7 #[.slice none 0 0, .slice none 0 0, .int .i64 0] 40
      have y0 := hRB.cell (o := 0) (v := .slice none 0 0) rfl
      have y1 := hRB.cell (o := 1) (v := .slice none 0 0) rfl
      have HTL := Lib.hid (tellsT (hS3.env.mods hm8.ext) HFU.out (hE3.mods hm8.ext) 5 (by omega) her)
      have HX8 := Lib.hid (((HM2.out.trans HX5.out).trans hS3.ext0).trans hm8)
      have HAW := Lib.hid (awake11_any (HL.out.mods HX8.out.ext))
      clear hd hwk her hS3 hE3 hm8 hRB t0 t1 t2 b1
      go_wp2_with fail
      refine (HTL.out).mono ?_
      rintro e w9 ⟨rfl, rfl⟩
      go_wp2_with fail
      refine (HAW.out).mono ?_
      rintro e w10 ⟨rfl, hm10⟩
      have HM10 := Lib.hid (HX8.out.trans hm10)
      clear hm10
      go_wp2_with fail
      go_ret
      exact ⟨rfl, HM10.out⟩
    · have k0 : (((1 : Nat) : Int) == 0) = false := rfl
      obtain ⟨ot, hot⟩ : ∃ ot, ot = (at_ + 1) % xs.length := ⟨_, rfl⟩
      have hol : ot < xs.length := by rw [hot]; exact Nat.mod_lt _ (by omega)
      have hoa : ot ≠ at_ := by
        rw [hot]
        by_cases h : at_ + 1 < xs.length
        · rw [Nat.mod_eq_of_lt h]; omega
        · have : at_ + 1 = xs.length := by omega
          rw [this, Nat.mod_self]; omega
      have w2a : ((at_ : Int) + 1).tmod (xs.length : Int) = (ot : Int) := by
        rw [Int.tmod_eq_emod_of_nonneg (by omega), hot]; rfl
      have w9 : Op.intDiv .rem .i64 ((at_ : Int) + 1) (xs.length : Int) = pure (.int .i64 (ot : Int)) := by
        unfold Op.intDiv
        rw [if_neg u7]
        show (pure (.int .i64 (((at_ : Int) + 1).tmod (xs.length : Int))) : Sem Value) = _
        rw [w2a]
      have w2b : ((at_ : Int) + 1) % (xs.length : Int) = (ot : Int) := by rw [hot]; rfl
      obtain ⟨o, ho_⟩ : ∃ o, xs[ot]? = some o := ⟨xs[ot], List.getElem?_eq_getElem hol⟩
      have HO := Lib.hid ho_
      have HOP : Hid (r.1[(at_ + 1) % r.1.length]? = some o.1) := Lib.hid (by rw [HXL.out, ← hot, ← HXS.out, List.getElem?_map, ho_]; rfl)
      have HCA : Hid (∀ {g : Nat} {W : World} {c4 : Nat}, Sl NoF W 4 encPg (.slice (some ⟨g, 0, none⟩) xs.length c4) (xs.set at_ ({ x.1 with kind := o.1.kind }, x.2)) → W.cell? ⟨g, at_ * 4 + 3, none⟩ = some (.slice x.2.1 x.2.2.1 x.2.2.2)) := Lib.hid (fun hs => by
        have h := hs.cellsAt (j := at_) (x := ({ x.1 with kind := o.1.kind }, x.2)) (List.getElem?_set_self (by omega)) 3 (.slice x.2.1 x.2.2.1 x.2.2.2) rfl
        simpa only [Nat.zero_add] using h)
      have HCO : Hid (∀ {g : Nat} {W : World} {c4 : Nat}, Sl NoF W 4 encPg (.slice (some ⟨g, 0, none⟩) xs.length c4) (xs.set at_ ({ x.1 with kind := o.1.kind }, x.2)) → W.cell? ⟨g, ot * 4 + 3, none⟩ = some (.slice o.2.1 o.2.2.1 o.2.2.2)) := Lib.hid (fun hs => by
        have h := hs.cellsAt (j := ot) (x := o) (by rw [List.getElem?_set_ne (fun e => hoa e.symm)]; exact ho_) 3 (.slice o.2.1 o.2.2.1 o.2.2.2) rfl
        simpa only [Nat.zero_add] using h)
      have HC2 : Hid (∀ {g : Nat} {W : World} {c4 : Nat}, Sl NoF W 4 encPg (.slice (some ⟨g, 0, none⟩) xs.length c4) (xs.set at_ ({ x.1 with kind := o.1.kind, body := o.1.body }, o.2)) → W.cell? ⟨g, at_ * 4, none⟩ = some (.int .i64 o.1.kind) ∧ W.cell? ⟨g, at_ * 4 + 1, none⟩ = some (.int .i64 x.1.id) ∧ W.cell? ⟨g, ot * 4 + 1, none⟩ = some (.int .i64 o.1.id)) := Lib.hid (fun hs => by
        have h := hs.cellsAt (j := at_) (x := ({ x.1 with kind := o.1.kind, body := o.1.body }, o.2)) (List.getElem?_set_self (by omega)) 0 (.int .i64 o.1.kind) rfl
        have h1 := hs.cellsAt (j := at_) (x := ({ x.1 with kind := o.1.kind, body := o.1.body }, o.2)) (List.getElem?_set_self (by omega)) 1 (.int .i64 x.1.id) rfl
        have h2 := hs.cellsAt (j := ot) (x := o) (by rw [List.getElem?_set_ne (fun e => hoa e.symm)]; exact ho_) 1 (.int .i64 o.1.id) rfl
        simp only [Nat.zero_add, Nat.add_zero] at h h1 h2
        exact ⟨h, h1, h2⟩)
      have HOL := Lib.hid hol
      have HOA := Lib.hid hoa
      have holi : (ot : Int) < (xs.length : Int) := by omega
      have ho0 : (0 : Int) ≤ (ot : Int) := by omega
      clear hot hol hoa ho_
      go_wp2_with (first
        | (at_builtin; refine wpl_app2 Tryz.elPg encPg_ok rfl _ _ rfl (w1.heap.size + 1) (.slice (some ⟨w1.heap.size + 1, 0, none⟩) 0 0) (.slice pa xs.length pc) ([] : List PgE) xs rfl rfl HW0.out HSL3.out (by simp only [List.length_nil]; omega) (by simp) (fun f => f) ?_; simp only [List.length_nil, Nat.zero_add, List.nil_append]; intro a4 c4 w4 hO4 hm4 hat4; obtain ⟨g, rfl, hg1, hgf, hX4, hcell⟩ := HAP.out a4 c4 w4 hO4 hm4; have HO4 := Lib.hid hO4; have HX4 := Lib.hid hX4; have HG1 := Lib.hid hg1; obtain ⟨z0, z1, _, z3⟩ := hcell at_ x HX.out; obtain ⟨_, o1, _, o3⟩ := hcell ot o HO.out; unfold svE at z3 o3; have HO5a : Hid (Own NoF (w4.setCell ⟨g, at_ * 4, none⟩ (.int .i64 o.1.kind)) (w1.heap.size + 1) 91 4 encPg (.slice (some ⟨g, 0, none⟩) xs.length c4) (xs.set at_ ({ x.1 with kind := o.1.kind }, x.2))) := Lib.hid (HO4.out.set encPg_ok.len (i := at_) (j := 0) HX.out (by omega) rfl); have hs5 := HO5a.out.sl encPg_ok.len (by rw [List.length_set]; omega); have z3a := HCA.out hs5; have o3a := HCO.out hs5; clear hs5; clear hO4 hm4 hat4 hcell hX4 hg1)
        | fail)
      have HO5 : Hid (Own NoF ((w4.setCell ⟨g, at_ * 4, none⟩ (.int .i64 o.1.kind)).setCell ⟨g, at_ * 4 + 3, none⟩ (.slice o.2.1 o.2.2.1 o.2.2.2)) (w1.heap.size + 1) 91 4 encPg (.slice (some ⟨g, 0, none⟩) xs.length c4) (xs.set at_ ({ x.1 with kind := o.1.kind, body := o.1.body }, o.2))) := Lib.hid (by
        have h := HO5a.out.set encPg_ok.len (i := at_) (j := 3) (x := ({ x.1 with kind := o.1.kind }, x.2)) (x' := ({ x.1 with kind := o.1.kind, body := o.1.body }, o.2)) (u := .slice o.2.1 o.2.2.1 o.2.2.2) (List.getElem?_set_self (by omega)) (by omega) rfl
        rw [List.set_set] at h
        exact h)
      have HX5 : Hid (Ext (w1.alloc (.cells #[.slice pa xs.length pc, .int .i64 (r.2.1 : Int), .int .i64 (r.2.2 : Int)] 27)) ((w4.setCell ⟨g, at_ * 4, none⟩ (.int .i64 o.1.kind)).setCell ⟨g, at_ * 4 + 3, none⟩ (.slice o.2.1 o.2.2.1 o.2.2.2))) := Lib.hid ((HX4.out.setCell (p := ⟨g, at_ * 4, none⟩) (.inl (by have := HG1.out; simp; omega)) _).setCell (p := ⟨g, at_ * 4 + 3, none⟩) (.inl (by have := HG1.out; simp; omega)) _)
      obtain ⟨W5, hW5⟩ : ∃ W5, ((w4.setCell ⟨g, at_ * 4, none⟩ (.int .i64 o.1.kind)).setCell ⟨g, at_ * 4 + 3, none⟩ (.slice o.2.1 o.2.2.1 o.2.2.2)) = W5 := ⟨_, rfl⟩
      rw [hW5] at HO5 HX5 ⊢
      obtain ⟨y0, y1, y2⟩ := HC2.out (HO5.out.sl encPg_ok.len (by rw [List.length_set]; omega))
      have hb5 := HTB.out.ext HX5.out
      have b1 := hb5.cell (o := 1) (v := .int .i64 (r.2.1 : Int)) rfl
      obtain ⟨q1, e1⟩ : ∃ q, (x.1.id == (r.2.1 : Int)) = q := ⟨_, rfl⟩
      obtain ⟨q2, e2⟩ : ∃ q, (o.1.id == (r.2.1 : Int)) = q := ⟨_, rfl⟩
      obtain ⟨q3, e3⟩ : ∃ q, (o.1.kind == 4) = q := ⟨_, rfl⟩
      clear hW5 z0 z1 z3 o1 o3 z3a o3a hb5 w2a w2b w9 b0'
      cases q1 with
      | true =>
        go_wp2_with fail
        go_quiet (fail)
        have HX6 := Lib.hid (HX5.out.trans ((Mods.refl _ _).drewN nq))
        have HAW := Lib.hid (awake11_any (HL.out.mods (HM2.out.trans HX6.out).ext))
        go_wp2_with fail
        refine (HAW.out).mono ?_
        rintro e w10 ⟨rfl, hm10⟩
        have HM10 := Lib.hid ((HM2.out.trans HX6.out).trans hm10)
        clear hm10
        go_wp2_with fail
        go_ret
        exact ⟨rfl, HM10.out⟩
      | false =>
        cases q2 with
        | true =>
          go_wp2_with fail
          go_quiet (fail)
          have HX6 := Lib.hid (HX5.out.trans ((Mods.refl _ _).drewN nq))
          have HAW := Lib.hid (awake11_any (HL.out.mods (HM2.out.trans HX6.out).ext))
          go_wp2_with fail
          refine (HAW.out).mono ?_
          rintro e w10 ⟨rfl, hm10⟩
          have HM10 := Lib.hid ((HM2.out.trans HX6.out).trans hm10)
          clear hm10
          go_wp2_with fail
          go_ret
          exact ⟨rfl, HM10.out⟩
        | false =>
          cases q3 with
          | true =>
            go_wp2_with fail
            go_quiet (fail)
            have HX6 := Lib.hid (HX5.out.trans ((Mods.refl _ _).drewN nq))
            have HAW := Lib.hid (awake11_any (HL.out.mods (HM2.out.trans HX6.out).ext))
            go_wp2_with fail
            refine (HAW.out).mono ?_
            rintro e w10 ⟨rfl, hm10⟩
            have HM10 := Lib.hid ((HM2.out.trans HX6.out).trans hm10)
            clear hm10
            go_wp2_with fail
            go_ret
            exact ⟨rfl, HM10.out⟩
          | false =>
            have HQ1 : Hid (x.1.id ≠ (r.2.1 : Int)) := Lib.hid (beq_eq_false_iff_ne.1 e1)
            have HQ2 : Hid (o.1.id ≠ (r.2.1 : Int)) := Lib.hid (beq_eq_false_iff_ne.1 e2)
            have HQ3 : Hid (o.1.kind ≠ 4) := Lib.hid (beq_eq_false_iff_ne.1 e3)
            go_wp2_with fail
            go_quiet (fail)
            have HX5q := Lib.hid (HX5.out.trans ((Mods.refl _ _).drewN nq))
            have HO5q := Lib.hid (HO5.out.ext ((Mods.refl _ _).drewN nq))
            clear HX5 HO5
            obtain ⟨HX5⟩ : Nonempty (Hid (Ext (w1.alloc (.cells #[.slice pa xs.length pc, .int .i64 (r.2.1 : Int), .int .i64 (r.2.2 : Int)] 27)) (W5.drewN nq))) := ⟨HX5q⟩
            have HO5 := HO5q
            have HYL : Hid ((xs.set at_ ({ x.1 with kind := o.1.kind, body := o.1.body }, o.2)).length = xs.length) := Lib.hid List.length_set
            have HYB : Hid (∀ y ∈ xs.set at_ ({ x.1 with kind := o.1.kind, body := o.1.body }, o.2), ∃ x ∈ xs, svE y = svE x ∧ y.1.body = x.1.body) := Lib.hid (fun y hy => by
              rcases List.mem_or_eq_of_mem_set hy with h | rfl
              · exact ⟨y, h, rfl, rfl⟩
              · exact ⟨o, List.mem_of_getElem? HO.out, rfl, rfl⟩)
            have HYM : Hid ((xs.set at_ ({ x.1 with kind := o.1.kind, body := o.1.body }, o.2)).map (·.1) = r.1.set at_ { x.1 with kind := o.1.kind, body := o.1.body }) := Lib.hid (by rw [List.map_set, HXS.out])
            have HSP : Hid (PutsOk 200 (r.1.set at_ { x.1 with kind := o.1.kind, body := o.1.body }) ∧ ∃ er, walkW (putsG (G0 200) (r.1.set at_ { x.1 with kind := o.1.kind, body := o.1.body })) 5 (r.2.1 : Int) = .inr er ∧ er.2 = 5) := Lib.hid (by
              have h := HRR.out
              subst h
              exact spoil_twice HTQ.out (by omega) (by omega) (by omega) (by omega) HQN.out HXP.out HOP.out HQ1.out HQ2.out HQ3.out)
            have HWK := Lib.hid HSP.out.2
            have HPU : Hid (PutsOk 200 ((xs.set at_ ({ x.1 with kind := o.1.kind, body := o.1.body }, o.2)).map (·.1))) := Lib.hid (by rw [HYM.out]; exact HSP.out.1)
            have HPC := Lib.hid (pagerOf_any (HL.out.mods ((HM2.out.trans HX5.out).ext)) (xs.set at_ ({ x.1 with kind := o.1.kind, body := o.1.body }, o.2)) (.slice (some ⟨g, 0, none⟩) xs.length c4) (HO5.out.sl encPg_ok.len (by rw [HYL.out]; omega)) (HBD.out _ _ HX5.out HYB.out) HPU.out (by rw [HYL.out]; omega))
            rw [HYM.out] at HPC
            have HTB5 := Lib.hid (HTB.out.ext HX5.out)
            clear y0 y1 y2 b1 e1 e2 e3
            go_wp2_with fail
            refine (HPC.out).mono ?_
            rintro e w6 ⟨c, s, P, F, rfl, hG, hN⟩
            have hS := LG.startZ (gen := 5) hG hN 5 rfl
            have t0 := hS.c0
            have t1 := hS.c1
            have t2 : _ = some (Value.int .u64 5) := hS.c2
            have hb := hS.old HTB5.out
            have b1 := hb.cell (o := 1) (v := .int .i64 (r.2.1 : Int)) rfl
            have HS := Lib.hid hS
            have HPT := Lib.hid (lookWalk_any hS.env hS.sub hS.pg 5 (r.2.1 : Int) HROOT.out (by rw [(putsG_same _ (G0 200)).1]; show 200 ≤ 256; omega) (G0_puts_total 200 _))
            rw [pgV5] at HPT ⊢
            clear hG hN hS hb
            go_wp2_with fail
            refine (HPT.out).mono ?_
            rintro e w7 hd
            obtain ⟨er, hwk, her⟩ := HWK.out
            obtain ⟨el, ek⟩ := er
            rw [hwk] at hd
            obtain ⟨P3, F3, hS3, f, rfl, hE3⟩ := HS.out.done hd
            have hm8 : Ext w7 (w7.alloc (.cells #[.slice none 0 0, .slice none 0 0, .int .i64 0] 40)) := (Mods.refl _ w7).alloc _
            have hRB := Blk.new w7 #[.slice none 0 0, .slice none 0 0, .int .i64 0] 40
            have y0 := hRB.cell (o := 0) (v := .slice none 0 0) rfl
            have y1 := hRB.cell (o := 1) (v := .slice none 0 0) rfl
            have HTL := Lib.hid (tellsT (hS3.env.mods hm8.ext) HFU.out (hE3.mods hm8.ext) 5 (by omega) her)
            have HX8 := Lib.hid (((HM2.out.trans HX5.out).trans hS3.ext0).trans hm8)
            have HAW := Lib.hid (awake11_any (HL.out.mods HX8.out.ext))
            clear hd hwk her hS3 hE3 hm8 hRB t0 t1 t2 b1
            go_wp2_with fail
            refine (HTL.out).mono ?_
            rintro e w9 ⟨rfl, rfl⟩
            go_wp2_with fail
            refine (HAW.out).mono ?_
            rintro e w10 ⟨rfl, hm10⟩
            have HM10 := Lib.hid (HX8.out.trans hm10)
            clear hm10
            go_wp2_with fail
            go_ret
            exact ⟨rfl, HM10.out⟩
    · have k0 : (((2 : Nat) : Int) == 0) = false := rfl
      obtain ⟨bt, hbt⟩ : ∃ bt, bt = mask % 2000 := ⟨_, rfl⟩
      have hbt1 : bt < 2000 := by omega
      obtain ⟨mk, hmk⟩ : ∃ mk, mk = mask ||| 1 := ⟨_, rfl⟩
      have hmk1 : mk < 4294967296 := by rw [hmk]; exact Nat.or_lt_two_pow (n := 32) hmask (by decide)
      have hmk2 : mk % 2 = 1 := by
        rw [hmk]
        have h := Nat.or_mod_two_pow (a := mask) (b := 1) (n := 1)
        rw [Nat.pow_one] at h
        rw [h]
        rcases Nat.mod_two_eq_zero_or_one mask with h | h <;> rw [h] <;> rfl
      obtain ⟨bad, hbad⟩ : ∃ bad, bad = 2 + at_ := ⟨_, rfl⟩
      have HSP : Hid (((putsG (G0 200) r.1).flushC.flushD.last bad).isSome = true ∧ ((putsG (G0 200) r.1).flushC.flushD.turned bad bt mk).total ∧ ∃ er, walkW ((putsG (G0 200) r.1).flushC.flushD.turned bad bt mk) 5 (r.2.1 : Int) = .inr er ∧ er.2 = 5) := Lib.hid (by
        rw [hbad]
        have hal : at_ < r.1.length := by rw [HXL.out]; omega
        have h := HRR.out
        subst h
        exact spoil_burst HTQ.out (by omega) (by omega) (by omega) (by omega) HQN.out hal (by omega) hmk2)
      have HWK := Lib.hid HSP.out.2.2
      have HBK : Hid (bad < (putsG (G0 200) r.1).flushC.flushD.blocks) := Lib.hid (by show bad < (putsG (G0 200) r.1).blocks; rw [(putsG_same r.1 (G0 200)).1]; show bad < 200; omega)
      have HBT : Hid (bt < 8 * (putsG (G0 200) r.1).flushC.flushD.size) := Lib.hid (by show bt < 8 * (putsG (G0 200) r.1).size; rw [(putsG_same r.1 (G0 200)).2.1]; show bt < 8 * 256; omega)
      have HMK := Lib.hid hmk1
      have hbti : (bt : Int) < 2000 := by omega
      have hbt0 : (0 : Int) ≤ (bt : Int) := by omega
      have g1 : (mask : Int).tmod 2000 = (bt : Int) := by rw [Int.tmod_eq_emod_of_nonneg (by omega), hbt]; rfl
      have g2 : (mask : Int) % 2000 = (bt : Int) := by rw [hbt]; rfl
      have g3 : 2 + (at_ : Int) = (bad : Int) := by omega
      have g4 : bits .or .u32 (mask : Int) 1 = (mk : Int) := by
        have := u32_or_nat mask 1 hmask (by decide)
        rw [hmk]; exact this
      clear hbt hmk hmk1 hmk2 hbad hbt1
      go_wp2_with (first
        | (at_builtin; refine wpl_app2 Tryz.elPg encPg_ok rfl _ _ rfl (w1.heap.size + 1) (.slice (some ⟨w1.heap.size + 1, 0, none⟩) 0 0) (.slice pa xs.length pc) ([] : List PgE) xs rfl rfl HW0.out HSL3.out (by simp only [List.length_nil]; omega) (by simp) (fun f => f) ?_; simp only [List.length_nil, Nat.zero_add, List.nil_append]; intro a4 c4 w4 hO4 hm4 hat4; obtain ⟨g, rfl, hg1, hgf, hX4, hcell⟩ := HAP.out a4 c4 w4 hO4 hm4; have HO4 := Lib.hid hO4; have HX4 := Lib.hid hX4; have HG1 := Lib.hid hg1; clear hO4 hm4 hat4 hcell hX4 hg1)
        | fail)
      have HX5 := HX4
      have HO5 := HO4
      have HYL : Hid (xs.length = xs.length) := Lib.hid rfl
      have HYB : Hid (∀ y ∈ xs, ∃ x ∈ xs, svE y = svE x ∧ y.1.body = x.1.body) := Lib.hid (fun y hy => ⟨y, hy, rfl, rfl⟩)
      have HYM := HXS
      have HPU : Hid (PutsOk 200 (xs.map (·.1))) := Lib.hid (by rw [HXS.out]; exact HT.out.puts)
      have HPC := Lib.hid (pagerOf_any (HL.out.mods ((HM2.out.trans HX5.out).ext)) xs (.slice (some ⟨g, 0, none⟩) xs.length c4) (HO5.out.sl encPg_ok.len (by rw [HYL.out]; omega)) (HBD.out _ _ HX5.out HYB.out) HPU.out (by rw [HYL.out]; omega))
      rw [HYM.out] at HPC
      have HTB5 := Lib.hid (HTB.out.ext HX5.out)
      refine (HPC.out).mono ?_
      rintro e w6 ⟨c, s, P, F, rfl, hG, hN⟩
      have hS := LG.startZ (gen := 5) hG hN 5 rfl
      have t0 := hS.c0
      have HS := Lib.hid hS
      clear hG hN hS b0'
      rw [pgV5]
      go_wp2_with fail
      refine (pgFlush HS.out.env HS.out.sub HS.out.pg).mono ?_
      rintro e w7 ⟨P7, F7, hG7, hN7, rfl⟩
      have HS7 := Lib.hid (HS.out.step hN7 hG7)
      clear hG7 hN7 t0
      have t0 := HS7.out.c0
      obtain ⟨d, hd1, hd2⟩ := pgDiskFlush HS7.out.env HS7.out.sub HS7.out.pg
      have HD1 := Lib.hid hd1
      have HD2 := Lib.hid hd2
      clear hd1 hd2
      go_wp2_with fail
      refine (HD1.out).mono ?_
      rintro e w8 ⟨rfl, rfl⟩
      go_wp2_with fail
      refine (HD2.out _ (Mods.refl _ _)).mono ?_
      rintro e w8 ⟨P8, F8, hG8, hN8, rfl⟩
      have HS8 := Lib.hid (HS7.out.step hN8 hG8)
      clear hG8 hN8 t0
      have t0 := HS8.out.c0
      obtain ⟨d2, ht1, ht2⟩ := pgTurn HS8.out.env HS8.out.sub HS8.out.pg
      have HT1 := Lib.hid ht1
      have HT2 := Lib.hid ht2
      clear ht1 ht2
      go_wp2_with fail
      refine (HT1.out _ (Mods.refl _ _)).mono ?_
      rintro e w9 ⟨rfl, rfl⟩
      go_wp2_with fail
      refine (HT2.out _ (Mods.refl _ _) bad bt mk HBK.out HBT.out HMK.out HSP.out.1).mono ?_
      rintro e w9 ⟨rfl, P9, F9, hN9, hF9⟩
      have HN9 := Lib.hid hN9
      have HF9 := Lib.hid hF9
      have hbx := hN9.blk HS8.out.box HS8.out.nB
      clear hN9 hF9 t0 g1 g2 g3 g4
      have t0 := hbx.cell (o := 0) (v := .pointer (some ⟨c, 0, none⟩)) rfl
      clear hbx
      go_wp2_with fail
      refine (HF9.out _ (Mods.refl _ _)).mono ?_
      rintro e w10 ⟨P10, F10, hG10, hN10, rfl⟩
      have hS10 := HS8.out.step (HN9.out.trans hN10) hG10
      clear t0
      have t0 := hS10.c0
      have t1 := hS10.c1
      have t2 : _ = some (Value.int .u64 5) := hS10.c2
      have hb := hS10.old HTB5.out
      have b1 := hb.cell (o := 1) (v := .int .i64 (r.2.1 : Int)) rfl
      have HS10 := Lib.hid hS10
      have HPT := Lib.hid (lookWalk_any hS10.env hS10.sub hS10.pg 5 (r.2.1 : Int) HROOT.out (by show (putsG (G0 200) r.1).blocks ≤ 256; rw [(putsG_same _ (G0 200)).1]; show 200 ≤ 256; omega) HSP.out.2.1)
      rw [pgV5] at HPT
      clear hG10 hN10 hS10 hb
      go_wp2_with fail
      refine (HPT.out).mono ?_
      rintro e w7 hd
      obtain ⟨er, hwk, her⟩ := HWK.out
      obtain ⟨el, ek⟩ := er
      rw [hwk] at hd
      obtain ⟨P3, F3, hS3, f, rfl, hE3⟩ := HS10.out.done hd
      have hm8 : Ext w7 (w7.alloc (.cells #[.slice none 0 0, .slice none 0 0, .int .i64 0] 40)) := (Mods.refl _ w7).alloc _
      have hRB := Blk.new w7 #[.slice none 0 0, .slice none 0 0, .int .i64 0] 40
      have y0 := hRB.cell (o := 0) (v := .slice none 0 0) rfl
      have y1 := hRB.cell (o := 1) (v := .slice none 0 0) rfl
      have HTL := Lib.hid (tellsT (hS3.env.mods hm8.ext) HFU.out (hE3.mods hm8.ext) 5 (by omega) her)
      have HX8 := Lib.hid (((HM2.out.trans HX5.out).trans hS3.ext0).trans hm8)
      have HAW := Lib.hid (awake11_any (HL.out.mods HX8.out.ext))
      clear hd hwk her hS3 hE3 hm8 hRB t0 t1 t2 b1
      go_wp2_with fail
      refine (HTL.out).mono ?_
      rintro e w9 ⟨rfl, rfl⟩
      go_wp2_with fail
      refine (HAW.out).mono ?_
      rintro e w10 ⟨rfl, hm10⟩
      have HM10 := Lib.hid (HX8.out.trans hm10)
      clear hm10
      go_wp2_with fail
      go_ret
      exact ⟨rfl, HM10.out⟩
end
end Go.Proofs.YtepafbokbfcbgaaGreatDoor
