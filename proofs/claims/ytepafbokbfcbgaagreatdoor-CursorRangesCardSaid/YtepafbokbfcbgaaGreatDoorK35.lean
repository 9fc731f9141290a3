/- law11.built: a tree of a shape, and its pairs. | law11.awake; tells. | ref11.Keys. -/
import Derived.Test.YtepafbokbfcbgaaGreatDoorK34
import Derived.Test.YtepafbokbfcbgaaGreatDoorK32
import Derived.Test.YtepafbokbfcbgaaGreatDoorK05
namespace Go.Proofs.YtepafbokbfcbgaaGreatDoor
open Go.RowKit
attribute [local go_sem ↓] Go.wp_at_zero Go.wp_at_succ
/-- pairs of which the first k have been cut. -/
def cutK (n k : Nat) (l : List PairS) : List PairS := cutP n (l.take k) ++ l.drop k
theorem cutK_zero (n : Nat) (l : List PairS) : cutK n 0 l = l := by simp [cutK, cutP]
theorem cutK_all (n : Nat) (l : List PairS) : cutK n l.length l = cutP n l := by simp [cutK]
theorem cutK_len (n k : Nat) (l : List PairS) : (cutK n k l).length = l.length := by
  unfold cutK cutP
  rw [List.length_append, List.length_map, List.length_take, List.length_drop]; omega
theorem cutK_at {n k : Nat} {l : List PairS} {x : PairS} (hx : l[k]? = some x) : (cutK n k l)[k]? = some x := by
  have hk := (List.getElem?_eq_some_iff.1 hx).1
  unfold cutK cutP
  rw [List.getElem?_append_right (by rw [List.length_map, List.length_take]; omega), List.length_map, List.length_take, List.getElem?_drop]
  rw [show k + (k - min k l.length) = k by omega]
  exact hx
theorem cutK_set {n k : Nat} {l : List PairS} {x : PairS} (hx : l[k]? = some x) : (cutK n k l).set k (x.1, cutS n x.2) = cutK n (k + 1) l := by
  have hk := (List.getElem?_eq_some_iff.1 hx).1
  unfold cutK
  have hl : (cutP n (l.take k)).length = k := by unfold cutP; rw [List.length_map, List.length_take]; omega
  rw [List.set_append_right _ _ (by rw [hl]; exact Nat.le_refl _), hl, Nat.sub_self, drop_of hx, List.set_cons_zero, take_one l k x hx]
  unfold cutP
  rw [List.map_append]
  simp
section
variable {F : Nat → Prop} {w w' wr w2 : World}
def BuiltR (n : Nat) (w : World) (l : List PairS) (e k : Nat) (en : Ending) (w' : World) : Prop :=
  ∃ pv xs vl, en = .returned (.tuple #[.agg #[pv, .int .i64 ((buildA 5 e k (tameP n l)).2.1 : Int), .int .i64 ((buildA 5 e k (tameP n l)).2.2 : Int)], vl]) ∧ PgsR w' w.heap.size pv xs ∧ xs.map (·.1) = (buildA 5 e k (tameP n l)).1 ∧ Own NoF w' w.heap.size 98 2 encP vl (tameP n l) ∧ Ext w w'
set_option maxRecDepth 100000 in
set_option maxHeartbeats 2000000 in
theorem built_any (l : List PairS) (lv : Value) (hl : Sl NoF w 2 encP lv l) (E K : Nat) (hE : E < 256) (hK : K < 256) :
    Calls Tryz.prog 11 #[.agg #[lv, .int .u8 (E : Int), .int .u8 (K : Int)]] w (BuiltR 300 w l (1 + E % 3) (2 + K % 3)) := by
  obtain ⟨la, lc, rfl, h1, h2, h3, hll⟩ := hl
  unfold maxLen at h2
  obtain ⟨q, hq⟩ : ∃ q, q = min l.length 24 := ⟨_, rfl⟩
  have hmin : min (l.length : Int) 24 = (q : Int) := by omega
  have i1 : (0 : Int) ≤ (q : Int) := by omega
  have i2 : (q : Int) ≤ (lc : Int) := by omega
  have m0 : Ext w ((w.alloc (.cells #[.slice la l.length lc, .int .u8 (E : Int), .int .u8 (K : Int)] 24)).alloc (.cells #[.slice none 0 0, .int .i64 0, .int .i64 0] 27)) := ((Mods.refl _ w).alloc _).alloc _
  have HSL : Hid (Sl NoF w 2 encP (.slice la q lc) (l.take 24)) := Lib.hid ⟨la, lc, by rw [List.length_take, hq, Nat.min_comm], by rw [List.length_take]; omega, by unfold maxLen; omega, by rw [List.length_take]; omega, by
    rcases hll with hll | ⟨b, off, e, hb, hF, hc⟩
    · left; rw [hll]; rfl
    · right
      refine ⟨b, off, e, hb, hF, fun i x hx j u hu => hc i x ?_ j u hu⟩
      rw [List.getElem?_take] at hx
      split at hx
      · exact hx
      · cases hx⟩
  have HPR := Lib.hid (pairs_any (w := ((w.alloc (.cells #[.slice la l.length lc, .int .u8 (E : Int), .int .u8 (K : Int)] 24)).alloc (.cells #[.slice none 0 0, .int .i64 0, .int .i64 0] 27))) (l.take 24) (.slice la q lc) (HSL.out.ext m0) (by rw [List.length_take]; omega))
  have HM0 := Lib.hid m0
  have HBX : Hid (Blk ((w.alloc (.cells #[.slice la l.length lc, .int .u8 (E : Int), .int .u8 (K : Int)] 24)).alloc (.cells #[.slice none 0 0, .int .i64 0, .int .i64 0] 27)) w.heap.size #[.slice la l.length lc, .int .u8 (E : Int), .int .u8 (K : Int)] 24) := Lib.hid ((Blk.new w _ _).alloc _)
  have HBR : Hid (Blk ((w.alloc (.cells #[.slice la l.length lc, .int .u8 (E : Int), .int .u8 (K : Int)] 24)).alloc (.cells #[.slice none 0 0, .int .i64 0, .int .i64 0] 27)) (w.heap.size + 1) #[.slice none 0 0, .int .i64 0, .int .i64 0] 27) := Lib.hid (heap_at (by simp))
  clear m0 hq hll
  go_enter Tryz.func11, Tryz.ntmps11
  go_wp2_with fail
  refine (HPR.out).mono ?_
  rintro e w1 ⟨v, rfl, hO, hm1⟩
  obtain ⟨p0, hp0⟩ : ∃ p0, p0 = pairsP (l.take 24) := ⟨_, rfl⟩
  rw [← hp0] at hO
  have HP0 := Lib.hid hp0
  obtain ⟨va, vc, rfl, hv1, hv2⟩ := hO.form
  unfold maxLen at hv2
  have HP24 : Hid (p0.length ≤ 24) := Lib.hid (by have := (pairsP_ok (l.take 24)).2.2; rw [← hp0, List.length_take] at this; omega)
  have hp24 := HP24.out
  have HS1 : Hid (Own NoF w1 (w.heap.size + 2) 98 2 encP (.slice va p0.length vc) (cutK 300 0 p0) ∧ Blk w1 w.heap.size #[.slice la l.length lc, .int .u8 (E : Int), .int .u8 (K : Int)] 24 ∧ Blk w1 (w.heap.size + 1) #[.slice none 0 0, .int .i64 0, .int .i64 0] 27 ∧ Ext w w1) :=
    Lib.hid ⟨by rw [cutK_zero]; exact hO.rebase (by simp), HBX.out.ext hm1, HBR.out.ext hm1, HM0.out.trans hm1⟩
  clear hO hm1 hp0 hmin i1 i2
  go_wp2_with fail
  go_loopg [5] p0.length (fun m v5 wr => ∃ (k : Nat), k + m = p0.length ∧ v5 = .int .i64 (k : Int) ∧ Hid (Own NoF wr (w.heap.size + 2) 98 2 encP (.slice va p0.length vc) (cutK 300 k p0) ∧ Blk wr w.heap.size #[.slice la l.length lc, .int .u8 (E : Int), .int .u8 (K : Int)] 24 ∧ Blk wr (w.heap.size + 1) #[.slice none 0 0, .int .i64 0, .int .i64 0] 27 ∧ Ext w wr))
  case atStart => exact ⟨0, by omega, rfl, HS1⟩
  case round =>
    obtain ⟨k, hkm, rfl, HS⟩ := hrel
    by_cases hlt : k < p0.length
    · obtain ⟨g, c', hgs, -, -, hg3, hg4, hgf⟩ := HS.out.1.some (by intro e; have := congrArg List.length e; rw [cutK_len, List.length_nil] at this; omega)
      injection hgs with hgs hgn hgc
      subst hgs hgc
      clear hgn
      obtain ⟨x, hx⟩ : ∃ x, p0[k]? = some x := ⟨_, List.getElem?_eq_getElem hlt⟩
      have HX := Lib.hid hx
      obtain ⟨xk, xv⟩ := x
      have hsl := HS.out.1.sl encP_ok.len (by rw [cutK_len]; omega)
      have c1 := hsl.cellsAt (cutK_at (n := 300) hx) 1 _ rfl
      simp only [Nat.zero_add] at c1
      obtain ⟨z, hz⟩ : ∃ z, z = min xv.size 300 := ⟨_, rfl⟩
      have hmin : min (xv.size : Int) 300 = (z : Int) := by omega
      have hz1 : (0 : Int) ≤ (z : Int) := by omega
      have hz2 : (z : Int) ≤ (xv.size : Int) := by omega
      have hzf := hgf (k * 2 + 1)
      have hzd : wr.drew.frozen? ⟨g, k * 2 + 1, none⟩ = false := hzf
      have HZ : Hid (cutS 300 xv = xv.extract 0 z) := Lib.hid (by unfold cutS; rw [hz])
      have HS4 : Hid (Own NoF (wr.drew.setCell ⟨g, k * 2 + 1, none⟩ (.string (xv.extract 0 z))) (w.heap.size + 2) 98 2 encP (.slice (some ⟨g, 0, none⟩) p0.length vc) (cutK 300 (k + 1) p0) ∧ Blk (wr.drew.setCell ⟨g, k * 2 + 1, none⟩ (.string (xv.extract 0 z))) w.heap.size #[.slice la l.length lc, .int .u8 (E : Int), .int .u8 (K : Int)] 24 ∧ Blk (wr.drew.setCell ⟨g, k * 2 + 1, none⟩ (.string (xv.extract 0 z))) (w.heap.size + 1) #[.slice none 0 0, .int .i64 0, .int .i64 0] 27 ∧ Ext w (wr.drew.setCell ⟨g, k * 2 + 1, none⟩ (.string (xv.extract 0 z)))) := Lib.hid (by
        obtain ⟨k1, k2, k3, k4⟩ := HS.out
        refine ⟨?_, (k2.drew).set_other (p := ⟨g, k * 2 + 1, none⟩) (by show w.heap.size ≠ g; omega) _, (k3.drew).set_other (p := ⟨g, k * 2 + 1, none⟩) (by show w.heap.size + 1 ≠ g; omega) _, k4.drew.setCell (.inl (by show w.heap.size ≤ g; omega)) _⟩
        rw [← cutK_set HX.out, HZ.out]
        exact (k1.ext (Mods.refl _ wr).drew).set encP_ok.len (cutK_at (n := 300) HX.out) (j := 1) (by omega) rfl)
      have i1 : (0 : Int) ≤ (k : Int) := by omega
      have i2 : (k : Int) < (p0.length : Int) := by omega
      clear hsl hx hz hgf
      go_wp2_with fail
      go_region_law (fail)
      all_goals
        go_wp2_with fail
        go_roundg (gk - 1)
        case measure => omega
        case rel => exact ⟨k + 1, by omega, by go_num, HS4⟩
    · have hk : k = p0.length := by omega
      subst hk
      have HCT : Hid (cutK 300 p0.length p0 = tameP 300 l) := Lib.hid (by rw [cutK_all, HP0.out]; rfl)
      have b1 := HS.out.2.1.cell (o := 1) (v := .int .u8 (E : Int)) rfl
      have b2 := HS.out.2.1.cell (o := 2) (v := .int .u8 (K : Int)) rfl
      have HT := tameP_ok 300 l
      have HPO : Hid (Own NoF wr (w.heap.size + 2) 98 2 encP (.slice va p0.length vc) (tameP 300 l)) := Lib.hid (by have := HS.out.1; rw [HCT.out] at this; exact this)
      have HBC := Lib.hid (build_any (w := wr) (tameP 300 l) (.slice va p0.length vc) (HPO.out.sl encP_ok.len (by have := HT.len; omega)) HT.ok (by have := HT.len; omega) (1 + E % 3) (2 + K % 3) (by omega) (by omega) (by omega) (by omega) 5 (by omega))
      have e1 : ((1 + E % 3 : Nat) : Int) = 1 + (E : Int) % 3 := by omega
      have e2 : ((2 + K % 3 : Nat) : Int) = 2 + (K : Int) % 3 := by omega
      rw [e1, e2] at HBC
      have HT' := Lib.hid HT
      clear HT e1 e2
      go_wp2_with fail
      refine (HBC.out).mono ?_
      rintro e w4 ⟨pv, xs, rfl, hP, hxs, hm4⟩
      have rb := HS.out.2.2.1.ext hm4
      have hrl := rb.lt
      have r0 := rb.cell (o := 0) rfl
      have r1 := rb.cell (o := 1) rfl
      have r2 := rb.cell (o := 2) rfl
      have rf := rb.frozen
      have mR : Mods (fun k => k = w.heap.size + 1) w4 (((w4.setCell ⟨w.heap.size + 1, 0, none⟩ pv).setCell ⟨w.heap.size + 1, 1, none⟩ (.int .i64 ((buildA 5 (1 + E % 3) (2 + K % 3) (tameP 300 l)).2.1 : Int))).setCell ⟨w.heap.size + 1, 2, none⟩ (.int .i64 ((buildA 5 (1 + E % 3) (2 + K % 3) (tameP 300 l)).2.2 : Int))) :=
        ((((Mods.refl (fun k => k = w.heap.size + 1) w4).setCell (F := fun k => k = w.heap.size + 1) (p := ⟨w.heap.size + 1, 0, none⟩) (.inr rfl) _).setCell (F := fun k => k = w.heap.size + 1) (p := ⟨w.heap.size + 1, 1, none⟩) (.inr rfl) _).setCell (F := fun k => k = w.heap.size + 1) (p := ⟨w.heap.size + 1, 2, none⟩) (.inr rfl) _)
      have hb0 := ((rb.set 0 pv).set 1 (.int .i64 ((buildA 5 (1 + E % 3) (2 + K % 3) (tameP 300 l)).2.1 : Int))).set 2 (.int .i64 ((buildA 5 (1 + E % 3) (2 + K % 3) (tameP 300 l)).2.2 : Int))
      have HBF : Hid (Blk (((w4.setCell ⟨w.heap.size + 1, 0, none⟩ pv).setCell ⟨w.heap.size + 1, 1, none⟩ (.int .i64 ((buildA 5 (1 + E % 3) (2 + K % 3) (tameP 300 l)).2.1 : Int))).setCell ⟨w.heap.size + 1, 2, none⟩ (.int .i64 ((buildA 5 (1 + E % 3) (2 + K % 3) (tameP 300 l)).2.2 : Int))) (w.heap.size + 1) #[pv, .int .i64 ((buildA 5 (1 + E % 3) (2 + K % 3) (tameP 300 l)).2.1 : Int), .int .i64 ((buildA 5 (1 + E % 3) (2 + K % 3) (tameP 300 l)).2.2 : Int)] 27) := Lib.hid (by simpa using hb0)
      have HFIN : Hid (PgsR (((w4.setCell ⟨w.heap.size + 1, 0, none⟩ pv).setCell ⟨w.heap.size + 1, 1, none⟩ (.int .i64 ((buildA 5 (1 + E % 3) (2 + K % 3) (tameP 300 l)).2.1 : Int))).setCell ⟨w.heap.size + 1, 2, none⟩ (.int .i64 ((buildA 5 (1 + E % 3) (2 + K % 3) (tameP 300 l)).2.2 : Int))) w.heap.size pv xs ∧ Own NoF (((w4.setCell ⟨w.heap.size + 1, 0, none⟩ pv).setCell ⟨w.heap.size + 1, 1, none⟩ (.int .i64 ((buildA 5 (1 + E % 3) (2 + K % 3) (tameP 300 l)).2.1 : Int))).setCell ⟨w.heap.size + 1, 2, none⟩ (.int .i64 ((buildA 5 (1 + E % 3) (2 + K % 3) (tameP 300 l)).2.2 : Int))) w.heap.size 98 2 encP (.slice va p0.length vc) (tameP 300 l) ∧ Ext w (((w4.setCell ⟨w.heap.size + 1, 0, none⟩ pv).setCell ⟨w.heap.size + 1, 1, none⟩ (.int .i64 ((buildA 5 (1 + E % 3) (2 + K % 3) (tameP 300 l)).2.1 : Int))).setCell ⟨w.heap.size + 1, 2, none⟩ (.int .i64 ((buildA 5 (1 + E % 3) (2 + K % 3) (tameP 300 l)).2.2 : Int)))) := Lib.hid
        ⟨(hP.blk rb mR (by decide) (by decide)).rebase (by have := HS.out.2.2.2.size; omega), ((HPO.out.ext hm4).mods mR (fun g hg e => Own.notB (HPO.out.ext hm4) rb (by decide) g hg e)).rebase (by omega), (HS.out.2.2.2.trans hm4).trans' mR (fun i hi e => by omega)⟩
      have HXS := Lib.hid hxs
      obtain ⟨pa, pc, rfl, _, _⟩ := hP.row.form
      clear hP hxs hm4 mR hb0 rb
      go_wp2_with fail
      refine bodyPost_ret (results_row_tmp rfl _ _ (w.heap.size + 1) 27 #[_, _, _] _ rfl HBF.out Tryz.underlying27 rfl Tryz.treeSize) rfl ?_
      exact ⟨_, xs, _, rfl, HFIN.out.1, HXS.out, HFIN.out.2.1, HFIN.out.2.2⟩
end
end Go.Proofs.YtepafbokbfcbgaaGreatDoor
namespace Go.Proofs.YtepafbokbfcbgaaGreatDoor
open Go.RowKit
attribute [local go_sem ↓] Go.wp_at_zero Go.wp_at_succ
theorem tellsT {F : Nat → Prop} {ad : Nat → Addr} {w : World} {el : List Int} {k : Nat} (hL : Env F ad w) (hfu : Full ad) {f : Nat} (he : ErrC F ad w (faultV f) el k) (q : Nat) (hq : q < 100) (hk : k = q) : Calls Tryz.prog 46 #[faultV f, .int .i64 (q : Int)] w fun e w' => e = .returned (.bool true) ∧ w = w' := by
  refine (tells_any hL hfu (faultV f) (some (el, k)) ⟨f, rfl, he⟩ q hq).mono ?_
  rintro e w' ⟨rfl, h⟩
  refine ⟨?_, h⟩
  have : decide (codeO (some (el, k)) = q) = true := decide_eq_true hk
  rw [this]
/-- one short pair. -/
def axP : List PairS := [(⟨#[97]⟩, ⟨#[120]⟩)]
theorem axP_tame : Tame 300 axP := by
  refine ⟨List.pairwise_singleton _ _, fun x hx => ?_, by decide, fun x hx => ?_⟩
  · simp [axP] at hx; subst hx
    exact ⟨by decide, by decide⟩
  · simp [axP] at hx; subst hx
    decide
set_option maxRecDepth 100000 in
set_option maxHeartbeats 2000000 in
theorem awake11_any {ad : Nat → Addr} {w : World} (hL : Env NoB ad w) : Calls Tryz.prog 16 #[] w fun e w' => e = .returned (.bool true) ∧ Ext w w' := by
  have HL := Lib.hid hL
  have HT := Lib.hid (tree_on axP_tame (e := 3) (k := 2) (by omega) (by omega) (by omega) (by omega))
  clear hL
  have HBC : Hid (Calls Tryz.prog 48 #[.slice (some ⟨w.heap.size, 0, none⟩) 1 1, .int .i64 3, .int .i64 2, .int .u64 5, .int .i64 256] (w.alloc (.cells #[.string ⟨#[97]⟩, .string ⟨#[120]⟩] 98)) (TreeRes (w.alloc (.cells #[.string ⟨#[97]⟩, .string ⟨#[120]⟩] 98)) (buildA 5 3 2 axP))) := Lib.hid
    (build_any (F := NoB) axP _ (Sl.one (x := ((⟨#[97]⟩, ⟨#[120]⟩) : PairS)) (heap_at rfl) (fun f => f)) axP_tame.ok (by decide) 3 2 (by omega) (by omega) (by omega) (by omega) 5 (by omega))
  have HM0 : Hid (Ext w (w.alloc (.cells #[.string ⟨#[97]⟩, .string ⟨#[120]⟩] 98))) := Lib.hid ((Mods.refl _ w).alloc _)
  go_enter Tryz.func16, Tryz.ntmps16
  go_wp2_with fail
  refine (HBC.out).mono ?_
  rintro e w1 ⟨pv, xs, rfl, hP, hxs, hm1⟩
  obtain ⟨r, hr⟩ : ∃ r, r = buildA 5 3 2 axP := ⟨_, rfl⟩
  rw [← hr] at hxs HT ⊢
  have HM1 := Lib.hid (HM0.out.trans hm1)
  have hpu := HT.out.puts
  rw [← hxs] at hpu
  have hln : xs.length ≤ 1000 := by have := HT.out.few; rw [← hxs, List.length_map] at this; omega
  obtain ⟨hsl, hbs⟩ := hP.pages hln (fun x hx => hpu.bodies _ (List.mem_map_of_mem hx))
  obtain ⟨pa, pc, rfl, _, _⟩ := hP.row.form
  have m2 : Ext w1 (w1.alloc (.cells #[.slice pa xs.length pc, .int .i64 (r.2.1 : Int), .int .i64 (r.2.2 : Int)] 27)) := (Mods.refl _ w1).alloc _
  have HPC := Lib.hid (pagerOf_any (HL.out.mods ((HM1.out.trans m2).ext)) xs (.slice pa xs.length pc) (hsl.ext m2) (fun x hx => (hbs x hx).ext m2) hpu hln)
  have HTB := Lib.hid (Blk.new w1 #[.slice pa xs.length pc, .int .i64 (r.2.1 : Int), .int .i64 (r.2.2 : Int)] 27)
  have HM2 := Lib.hid (HM1.out.trans m2)
  rw [hxs] at HPC
  clear hP hxs hm1 hr hpu hln hsl hbs m2
  go_wp2_with fail
  refine (HPC.out).mono ?_
  rintro e w2 ⟨c, s, P, F, rfl, hG, hN⟩
  have hS := LG.startZ (gen := 5) hG hN 5 rfl
  have t0 := hS.c0
  have t1 := hS.c1
  have t2 : _ = some (Value.int .u64 5) := hS.c2
  have hb := hS.old HTB.out
  have b1 := hb.cell (o := 1) (v := .int .i64 (r.2.1 : Int)) rfl
  have HS := Lib.hid hS
  have HGT := Lib.hid (look_any hS.env hS.sub hS.pg 5 (r.2.1 : Int) ⟨#[97]⟩ ((G0_puts_total 200 r.1).look _ _))
  have HLK : Hid (lookA (putsG (G0 200) r.1) (r.2.1 : Int) ⟨#[97]⟩ = .inl (some ⟨#[120]⟩)) := Lib.hid (by rw [HT.out.tree.look (by decide)]; rfl)
  rw [pgV5] at HGT ⊢
  clear hG hN hS hb
  go_wp2_with fail
  refine (HGT.out).mono ?_
  rintro e w3 hd
  rw [HLK.out] at hd
  obtain ⟨P3, F3, hS3, rfl⟩ := HS.out.done hd
  have HX := Lib.hid (HM2.out.trans hS3.ext0)
  clear hd hS3 t0 t1 t2 b1
  go_wp2_with fail
  go_ret
  exact ⟨rfl, HX.out⟩
end Go.Proofs.YtepafbokbfcbgaaGreatDoor
namespace Go.Proofs.YtepafbokbfcbgaaGreatDoor
open Go.RowKit
attribute [local go_sem ↓] Go.wp_at_zero Go.wp_at_succ
set_option maxRecDepth 100000 in
set_option maxHeartbeats 1000000 in
theorem keys11_any {F : Nat → Prop} {w : World} (q : List PairS) (qv : Value) (hq : Sl F w 2 encP qv q) (hlen : q.length ≤ 100000) :
    Calls Tryz.prog 15 #[qv] w fun e w' => ∃ kv, e = .returned kv ∧ Own (fun _ => False) w' w.heap.size 9 1 encS kv (q.map (·.1)) ∧ Ext w w' := by
  have HQ := Lib.hid hq
  obtain ⟨qa, qc, rfl, b1, b2, b3, -⟩ := hq
  unfold maxLen at b2
  have HO0 : Hid (Own (fun _ => False) (w.alloc (.cells #[] 9)) w.heap.size 9 1 encS (.slice (some ⟨w.heap.size, 0, none⟩) 0 0) (([] : List PairS).map (·.1))) := Lib.hid (Own.empty (fun k f => f.elim) _ _ _ encS_ok.len)
  have HM0 : Hid (Ext w (w.alloc (.cells #[] 9))) := Lib.hid ((Mods.refl _ w).alloc _)
  go_enter Tryz.func15, Tryz.ntmps15
  go_wp2_with fail
  go_loopg [3, 4] q.length (fun m v3 v4 wr => ∃ (k : Nat) (kv : Value), k + m = q.length ∧ kv = v3 ∧ v4 = .int .i64 (k : Int) ∧ Hid (Own (fun _ => False) wr w.heap.size 9 1 encS kv ((q.take k).map (·.1)) ∧ Ext w wr))
  case atStart => exact ⟨0, _, by omega, rfl, rfl, Lib.hid ⟨HO0.out, HM0.out⟩⟩
  case round =>
    obtain ⟨k, v3, hk, rfl, rfl, HR⟩ := hrel
    by_cases hlt : k < q.length
    · obtain ⟨x, hx⟩ : ∃ x, x = q[k] := ⟨_, rfl⟩
      obtain ⟨pa, pc, hv, -, -⟩ := _root_.id HR.out.1.form
      have hl : ((q.take k).map (·.1)).length = k := by rw [List.length_map, List.length_take]; omega
      rw [hl] at hv
      obtain ⟨qb, qoff, hqa, hc⟩ := HQ.out.elem hlt HR.out.2
      have d0 := hc 0 (.string x.1) (by rw [hx]; rfl)
      simp only [Nat.add_zero] at d0
      have HX : Hid ((q.take (k + 1)).map (·.1) = (q.take k).map (·.1) ++ [x.1]) := Lib.hid (by rw [take_one _ _ _ (List.getElem?_eq_getElem hlt), List.map_append, hx]; rfl)
      have HLN := Lib.hid hl
      have HOW := Lib.hid (HR.out.1.ext ((Mods.refl _ wr).alloc (.cells #[.string x.1] 9)))
      have HSZ := Lib.hid HR.out.2.size
      subst hv
      have i1 : (0 : Int) ≤ (k : Int) := by omega
      have i2 : (k : Int) < (q.length : Int) := by omega
      subst hqa
      clear hc hx hl
      go_wp2_with (first
        | (at_builtin; refine wpl_app2 Tryz.elS encS_ok rfl _ _ rfl w.heap.size (.slice pa k pc) (.slice (some ⟨wr.heap.size, 0, none⟩) 1 1) ((q.take k).map (·.1)) [x.1] rfl rfl HOW.out (Sl.one (F := fun _ => False) (x := x.1) (t := 9) (fz := (0, 0)) (heap_at rfl) (fun f => f)) (by rw [HLN.out]; simp only [List.length_cons, List.length_nil]; omega) (Nat.le_trans HSZ.out (by simp)) (fun f => f) ?_; intro a' c' w4 hown4 hmod4 hat4; rw [HLN.out] at hown4 ⊢; simp only [List.length_cons, List.length_nil, Nat.zero_add] at hown4 ⊢; have HO4 := Lib.hid hown4; have HM4 := Lib.hid hmod4; have HA4 := Lib.hid HR.out.1.lt; clear hown4 hmod4 hat4)
        | fail)
      go_roundg (gk - 1)
      case measure => omega
      case rel =>
        refine ⟨k + 1, _, by omega, rfl, by go_num, Lib.hid ⟨by rw [HX.out]; exact HO4.out, (HR.out.2.alloc (.cells #[.string x.1] 9)).trans' HM4.out (fun i hi hg => ?_)⟩⟩
        have := (HA4.out i hg).1
        omega
    · have hkq : k = q.length := by omega
      have HF : Hid (Own (fun _ => False) wr w.heap.size 9 1 encS v3 (q.map (·.1))) := Lib.hid (by have := HR.out.1; rw [hkq, List.take_length] at this; exact this)
      have HM := Lib.hid HR.out.2
      clear hkq
      go_wp2_with fail
      go_ret
      exact ⟨_, rfl, HF.out, HM.out⟩
end Go.Proofs.YtepafbokbfcbgaaGreatDoor
