/- The reference's Join. | RemoveJoins holds. -/
import Derived.Test.YtpjpldedebddgaaGreatDoorK42
import Derived.Test.YtpjpldedebddgaaGreatDoorK41
import Derived.Test.YtpjpldedebddgaaGreatDoorK36
namespace Go.Proofs.YtpjpldedebddgaaGreatDoor
open Go.RowKit
attribute [local go_sem ↓] Go.wp_at_zero Go.wp_at_succ
/-- while the reference joins: the node's block. -/
structure JnR (w wx : World) (X : Nat) (lf : Bool) (es : List EntryA) (ks : List ByteArray) (is : List Int) (ve vk vi : Value) : Prop where
  ext : Ext w wx
  hX : w.heap.size ≤ X
  blk : Blk wx X #[.bool lf, ve, vk, vi] 26
  oe : Own (fun _ => False) wx w.heap.size 114 4 encE ve es
  ok : Own (fun _ => False) wx w.heap.size 9 1 encS vk ks
  oi : Own (fun _ => False) wx w.heap.size 3 1 encI vi is
section
variable {w wx wz : World} {X : Nat} {lf : Bool} {es es' : List EntryA} {ks ks' : List ByteArray} {is is' : List Int} {ve vk vi v : Value}
theorem JnR.at (h : JnR w wx X lf es ks is ve vk vi) (m : Ext wx wz) : JnR w wz X lf es ks is ve vk vi := ⟨h.ext.trans m, h.hX, h.blk.ext m, h.oe.ext m, h.ok.ext m, h.oi.ext m⟩
theorem JnR.putE (h : JnR w wx X lf es ks is ve vk vi) (m : Ext wx wz) {base : Nat} (hb : w.heap.size ≤ base) (o : Own (fun _ => False) wz base 114 4 encE v es') : JnR w (wz.setCell ⟨X, 1, none⟩ v) X lf es' ks is v vk vi := by
  have h := h.at m
  have mX := Mods.at (fun k => k = X) wz X 1 v rfl
  exact ⟨h.ext.trans' mX (fun i hi e => by have := h.hX; omega), h.hX, h.blk.set 1 v, (o.rebase hb).mods mX (fun g hg e => (o.rebase hb).notB h.blk (by decide) g hg e), h.ok.mods mX (fun g hg e => h.ok.notB h.blk (by decide) g hg e), h.oi.mods mX (fun g hg e => h.oi.notB h.blk (by decide) g hg e)⟩
theorem JnR.putK (h : JnR w wx X lf es ks is ve vk vi) (m : Ext wx wz) {base : Nat} (hb : w.heap.size ≤ base) (o : Own (fun _ => False) wz base 9 1 encS v ks') : JnR w (wz.setCell ⟨X, 2, none⟩ v) X lf es ks' is ve v vi := by
  have h := h.at m
  have mX := Mods.at (fun k => k = X) wz X 2 v rfl
  exact ⟨h.ext.trans' mX (fun i hi e => by have := h.hX; omega), h.hX, h.blk.set 2 v, h.oe.mods mX (fun g hg e => h.oe.notB h.blk (by decide) g hg e), (o.rebase hb).mods mX (fun g hg e => (o.rebase hb).notB h.blk (by decide) g hg e), h.oi.mods mX (fun g hg e => h.oi.notB h.blk (by decide) g hg e)⟩
theorem JnR.putI (h : JnR w wx X lf es ks is ve vk vi) (m : Ext wx wz) {base : Nat} (hb : w.heap.size ≤ base) (o : Own (fun _ => False) wz base 3 1 encI v is') : JnR w (wz.setCell ⟨X, 3, none⟩ v) X lf es ks is' ve vk v := by
  have h := h.at m
  have mX := Mods.at (fun k => k = X) wz X 3 v rfl
  exact ⟨h.ext.trans' mX (fun i hi e => by have := h.hX; omega), h.hX, h.blk.set 3 v, h.oe.mods mX (fun g hg e => h.oe.notB h.blk (by decide) g hg e), h.ok.mods mX (fun g hg e => h.ok.notB h.blk (by decide) g hg e), (o.rebase hb).mods mX (fun g hg e => (o.rebase hb).notB h.blk (by decide) g hg e)⟩
end
theorem inner_noE {n : NodeA} {r : Bool} (hl : n.leaf = r) (hr : rightN n = true) (h : r = false := by rfl) : n.entries = [] := by
  have hf := form_right hr
  unfold formN at hf
  rw [if_neg (by rw [hl, h]; simp)] at hf
  exact hf.1
section
variable {P P' F F' H : Nat → Prop} {ad : Nat → Addr} {w w' : World} {c s : Nat} {G : GA} {l : List Nat}
set_option maxRecDepth 100000 in
set_option maxHeartbeats 2000000 in
theorem join14_any (hL : Env F ad w) (a b : NodeA) (key : ByteArray) (ve vk vi ue uk ui : Value) (la lb : Bool) (hla : a.leaf = la) (hlb : b.leaf = lb) (hve : Sl F w 4 encE ve a.entries) (hvk : Sl F w 1 encS vk a.keys) (hvi : Sl F w 1 encI vi a.kids) (hue : Sl F w 4 encE ue b.entries) (huk : Sl F w 1 encS uk b.keys) (hui : Sl F w 1 encI ui b.kids) :
    Calls Tryz.prog 24 #[.agg #[.bool la, ve, vk, vi], .string key, .agg #[.bool lb, ue, uk, ui]] w (JoinR w (joinO a key b)) := by
  obtain ⟨ea, ec, rfl, e1, e2, e3, -⟩ := _root_.id hve
  obtain ⟨ka, kc, rfl, k1, k2, k3, -⟩ := _root_.id hvk
  obtain ⟨ia, ic, rfl, i1, i2, i3, -⟩ := _root_.id hvi
  obtain ⟨fa, fc, rfl, f1, f2, f3, -⟩ := _root_.id hue
  obtain ⟨ga, gc, rfl, g1, g2, g3, -⟩ := _root_.id huk
  obtain ⟨ha, hc, rfl, h1, h2, h3, -⟩ := _root_.id hui
  unfold maxLen at e2 k2 i2 f2 g2 h2
  obtain ⟨w0, hw0⟩ : ∃ w0, w0 = ((w.alloc (.cells #[.bool la, .slice ea a.entries.length ec, .slice ka a.keys.length kc, .slice ia a.kids.length ic] 26)).alloc (.cells #[.bool lb, .slice fa b.entries.length fc, .slice ga b.keys.length gc, .slice ha b.kids.length hc] 26)).alloc (.cells nodeZc 26) := ⟨_, rfl⟩
  have m0 : Ext w w0 := by rw [hw0]; exact (((Mods.refl _ w).alloc _).alloc _).alloc _
  have hz : w0.heap.size = w.heap.size + 3 := by rw [hw0]; simp
  have hA : Blk w0 w.heap.size #[.bool la, .slice ea a.entries.length ec, .slice ka a.keys.length kc, .slice ia a.kids.length ic] 26 := by rw [hw0]; exact ((Blk.new w _ _).alloc _).alloc _
  have hB : Blk w0 (w.heap.size + 1) #[.bool lb, .slice fa b.entries.length fc, .slice ga b.keys.length gc, .slice ha b.kids.length hc] 26 := by rw [hw0]; exact (show Blk ((w.alloc (.cells #[.bool la, .slice ea a.entries.length ec, .slice ka a.keys.length kc, .slice ia a.kids.length ic] 26)).alloc (.cells #[.bool lb, .slice fa b.entries.length fc, .slice ga b.keys.length gc, .slice ha b.kids.length hc] 26)) (w.heap.size + 1) _ 26 from heap_at (by simp)).alloc _
  have HR : Hid (Blk w0 (w.heap.size + 1 + 1) nodeZc 26) := Lib.hid (by rw [hw0]; exact heap_at (by simp))
  have HCA := fun W (m : Ext w0 W) => right07_t a _ _ _ (hve.ext (m0.trans m)) (hvk.ext (m0.trans m)) (hvi.ext (m0.trans m)) _ rfl
  have HCB := fun W (m : Ext w0 W) => right07_t b _ _ _ (hue.ext (m0.trans m)) (huk.ext (m0.trans m)) (hui.ext (m0.trans m)) _ rfl
  rw [hla] at HCA
  rw [hlb] at HCB
  have HCA := Lib.hid HCA
  have HCB := Lib.hid HCB
  have HFAIL : Hid (∀ W, Ext w0 W → joinO a key b = none → JoinR w (joinO a key b) (.returned (.tuple #[.agg #[.bool false, .slice none 0 0, .slice none 0 0, .slice none 0 0], .bool false])) ((((W.setCell ⟨w.heap.size + 1 + 1, 0, none⟩ (.bool false)).setCell ⟨w.heap.size + 1 + 1, 1, none⟩ (.slice none 0 0)).setCell ⟨w.heap.size + 1 + 1, 2, none⟩ (.slice none 0 0)).setCell ⟨w.heap.size + 1 + 1, 3, none⟩ (.slice none 0 0))) := Lib.hid (fun W m hn => by
    rw [hn]
    exact ⟨_, rfl, ⟨_, _, _, rfl, Own.nil _ _ _ _ _ _, Own.nil _ _ _ _ _ _, Own.nil _ _ _ _ _ _⟩, Mods.set4 (m0.trans m) (.inl (by omega)) _ _ _ _⟩)
  have HRET : Hid (∀ W, Ext w0 W → ∀ (x0 x1 x2 x3 : Value), Blk ((((W.setCell ⟨w.heap.size + 1 + 1, 0, none⟩ x0).setCell ⟨w.heap.size + 1 + 1, 1, none⟩ x1).setCell ⟨w.heap.size + 1 + 1, 2, none⟩ x2).setCell ⟨w.heap.size + 1 + 1, 3, none⟩ x3) (w.heap.size + 1 + 1) #[x0, x1, x2, x3] 26) := Lib.hid (fun W m x0 x1 x2 x3 => (HR.out.ext m).set4 x0 x1 x2 x3)
  have HRF : Hid (∀ W, Ext w0 W → W.cell? ⟨w.heap.size + 1 + 1, 0, none⟩ = some (.bool false) ∧ W.cell? ⟨w.heap.size + 1 + 1, 1, none⟩ = some (.slice none 0 0) ∧ W.cell? ⟨w.heap.size + 1 + 1, 2, none⟩ = some (.slice none 0 0) ∧ W.cell? ⟨w.heap.size + 1 + 1, 3, none⟩ = some (.slice none 0 0)) := Lib.hid (fun W m => ⟨(HR.out.ext m).cell rfl, (HR.out.ext m).cell rfl, (HR.out.ext m).cell rfl, (HR.out.ext m).cell rfl⟩)
  have HAB : Hid (∀ W, Ext w0 W → Blk W w.heap.size #[.bool la, .slice ea a.entries.length ec, .slice ka a.keys.length kc, .slice ia a.kids.length ic] 26 ∧ Blk W (w.heap.size + 1) #[.bool lb, .slice fa b.entries.length fc, .slice ga b.keys.length gc, .slice ha b.kids.length hc] 26) := Lib.hid (fun W m => ⟨hA.ext m, hB.ext m⟩)
  have HVE := Lib.hid (fun W (m : Ext w0 W) => hve.ext (m0.trans m))
  have HVK := Lib.hid (fun W (m : Ext w0 W) => hvk.ext (m0.trans m))
  have HVI := Lib.hid (fun W (m : Ext w0 W) => hvi.ext (m0.trans m))
  have HUE := Lib.hid (fun W (m : Ext w0 W) => hue.ext (m0.trans m))
  have HUK := Lib.hid (fun W (m : Ext w0 W) => huk.ext (m0.trans m))
  have HUI := Lib.hid (fun W (m : Ext w0 W) => hui.ext (m0.trans m))
  have HM0 := Lib.hid m0
  have HW0 := Lib.hid hw0
  have HLA := Lib.hid hla
  have HLB := Lib.hid hlb
  have hF0 := HR.out.frozen
  have HLT := Lib.hid hL.lt
  clear hL hla hlb hve hvk hvi hue huk hui m0 hz hA hB hw0
  by_cases hab : la = lb
  · subst hab
    have a0 := (HAB.out _ (Mods.refl _ _)).1.cell (o := 0) (v := .bool la) rfl
    have b0 := (HAB.out _ (Mods.refl _ _)).2.cell (o := 0) (v := .bool la) rfl
    have a1 := (HAB.out _ (Mods.refl _ _)).1.cell (o := 1) (v := .slice ea a.entries.length ec) rfl
    have a2 := (HAB.out _ (Mods.refl _ _)).1.cell (o := 2) (v := .slice ka a.keys.length kc) rfl
    have a3 := (HAB.out _ (Mods.refl _ _)).1.cell (o := 3) (v := .slice ia a.kids.length ic) rfl
    go_enter Tryz.func24, Tryz.ntmps24
    go_wp2_with fail
    rw [← HW0.out]
    refine (HCA.out w0 (Mods.refl _ _)).mono ?_
    rintro e w1 ⟨rfl, hm1⟩
    cases hra : rightN a with
    | false =>
      have hne : joinO a key b = none := by unfold joinO; rw [if_neg (fun h => by rw [hra] at h; simp at h)]
      have HNE := Lib.hid hne
      have hF1 := (HR.out.ext hm1).frozen
      obtain ⟨q0, q1, q2, q3⟩ := HRF.out w1 hm1
      have HM1 := Lib.hid hm1
      clear hm1 hne hra
      go_wp2_with fail
      refine bodyPost_ret (results_row_tmp rfl _ _ (w.heap.size + 1 + 1) 26 _ _ rfl (HRET.out w1 HM1.out _ _ _ _) Tryz.underlying26 rfl Tryz.nodeSz) rfl ?_
      exact HFAIL.out w1 HM1.out HNE.out
    | true =>
      have HRA := Lib.hid hra
      obtain ⟨ha1, hb1⟩ := HAB.out w1 hm1
      have b0 := hb1.cell (o := 0) (v := .bool la) rfl
      have b1 := hb1.cell (o := 1) (v := .slice fa b.entries.length fc) rfl
      have b2 := hb1.cell (o := 2) (v := .slice ga b.keys.length gc) rfl
      have b3 := hb1.cell (o := 3) (v := .slice ha b.kids.length hc) rfl
      have HM1 := Lib.hid hm1
      clear hm1 hra ha1 hb1 a0 a1 a2 a3
      go_wp2_with fail
      refine (HCB.out w1 HM1.out).mono ?_
      rintro e w2 ⟨rfl, hm2⟩
      have hm2 := HM1.out.trans hm2
      cases hrb : rightN b with
      | false =>
        have hne : joinO a key b = none := by unfold joinO; rw [if_neg (fun h => by rw [hrb] at h; simp at h)]
        have HNE := Lib.hid hne
        have hF1 := (HR.out.ext hm2).frozen
        obtain ⟨q0, q1, q2, q3⟩ := HRF.out w2 hm2
        have HM2 := Lib.hid hm2
        clear hm2 hne hrb b0 b1 b2 b3
        go_wp2_with fail
        refine bodyPost_ret (results_row_tmp rfl _ _ (w.heap.size + 1 + 1) 26 _ _ rfl (HRET.out w2 HM2.out _ _ _ _) Tryz.underlying26 rfl Tryz.nodeSz) rfl ?_
        exact HFAIL.out w2 HM2.out HNE.out
      | true =>
        have HRB := Lib.hid hrb
        have l1 := right_lens HRA.out
        have l2 := right_lens hrb
        obtain ⟨l11, l12, l13⟩ := l1
        obtain ⟨l21, l22, l23⟩ := l2
        obtain ⟨ha1, hb1⟩ := HAB.out w2 hm2
        have a0 := ha1.cell (o := 0) (v := .bool la) rfl
        obtain ⟨w3, hw3⟩ : ∃ w3, w3 = w2.alloc (.cells #[.bool la, .slice none 0 0, .slice none 0 0, .slice none 0 0] 26) := ⟨_, rfl⟩
        have m3 : Ext w2 w3 := by rw [hw3]; exact (Mods.refl _ _).alloc _
        obtain ⟨X, hXe⟩ : ∃ X, X = w2.heap.size := ⟨_, rfl⟩
        have hXb : Blk w3 X #[.bool la, .slice none 0 0, .slice none 0 0, .slice none 0 0] 26 := by rw [hw3, hXe]; exact Blk.new w2 _ _
        have hX0 : w0.heap.size ≤ X := by rw [hXe]; exact hm2.size
        have HJ0 : Hid (JnR w0 w3 X la [] [] [] (.slice none 0 0) (.slice none 0 0) (.slice none 0 0)) := Lib.hid ⟨hm2.trans m3, hX0, hXb, Own.nil _ _ _ _ _ _, Own.nil _ _ _ _ _ _, Own.nil _ _ _ _ _ _⟩
        have HX := Lib.hid hXb
        have HM3 := Lib.hid (hm2.trans m3)
        have HW3 := Lib.hid hw3
        have HXE := Lib.hid hXe
        clear hm2 hrb ha1 hb1 b0 b1 b2 b3 hw3 m3 hXe hXb hX0
        go_wp2_with fail
        rw [← HW3.out, ← HXE.out]
        have xm := (Mods.refl (fun _ => False) w3).drew
        go_cut [] (fun wx => ∃ (a2 : Option Addr) (c2 : Nat), Hid (JnR w0 wx X la (a.entries ++ b.entries) [] [] (.slice a2 (a.entries.length + b.entries.length) c2) (.slice none 0 0) (.slice none 0 0)))
        case first =>
          have hX := (HJ0.out.at xm).blk
          have x0 := hX.cell (o := 0) (v := .bool la) rfl
          have x1 := hX.cell (o := 1) (v := .slice none 0 0) rfl
          have x2 := hX.cell (o := 2) (v := .slice none 0 0) rfl
          have x3 := hX.cell (o := 3) (v := .slice none 0 0) rfl
          have xf := hX.frozen
          have kk := HAB.out _ (HJ0.out.ext.trans xm)
          have k1 := kk.1.cell (o := 1) (v := .slice ea a.entries.length ec) rfl
          have k2 := kk.2.cell (o := 1) (v := .slice fa b.entries.length fc) rfl
          go_region_law
            (first
              | (refine step_app2 Tryz.elE encE_ok (by rfl) _ _ (by rfl) w3.heap.size (.slice none 0 0) (.slice ea a.entries.length ec) [] a.entries (by rfl) (by rfl) (Own.nil (fun _ => False) _ _ _ _ _) (HVE.out _ (HJ0.out.ext.trans xm)) (by simp; omega) (xm).size (fun f => f) ?_; simp only [List.length_nil, Nat.zero_add, List.nil_append]; intro a1 c1 wz hO1 hmA hat; have xm := Mods.past (xm) (hmA.mono (fun k hk => by simp [Value.ownBlock] at hk)); have hX := (HJ0.out.at xm).blk; have x0 := hX.cell (o := 0) (v := .bool la) rfl; have x1 := hX.cell (o := 1) (v := .slice none 0 0) rfl; have x2 := hX.cell (o := 2) (v := .slice none 0 0) rfl; have x3 := hX.cell (o := 3) (v := .slice none 0 0) rfl; have xf := hX.frozen; have kk := HAB.out _ (HJ0.out.ext.trans xm); have k1 := kk.1.cell (o := 1) (v := .slice ea a.entries.length ec) rfl; have k2 := kk.2.cell (o := 1) (v := .slice fa b.entries.length fc) rfl)
              | (refine step_app2 Tryz.elE encE_ok (by rfl) _ _ (by rfl) w3.heap.size (.slice a1 a.entries.length c1) (.slice fa b.entries.length fc) a.entries b.entries (by rfl) (by rfl) hO1 (HUE.out _ (HJ0.out.ext.trans xm)) (by omega) xm.size (fun f => f) ?_; intro a2 c2 wz hO2 hmA hat; have xm := Mods.past xm (hmA.mono (fun k hk => (hO1.lt k hk).1)); have hX := (HJ0.out.at xm).blk; have x0 := hX.cell (o := 0) (v := .bool la) rfl; have x1 := hX.cell (o := 1) (v := .slice none 0 0) rfl; have x2 := hX.cell (o := 2) (v := .slice none 0 0) rfl; have x3 := hX.cell (o := 3) (v := .slice none 0 0) rfl; have xf := hX.frozen; have kk := HAB.out _ (HJ0.out.ext.trans xm); have k1 := kk.1.cell (o := 1) (v := .slice ea a.entries.length ec) rfl; have k2 := kk.2.cell (o := 1) (v := .slice fa b.entries.length fc) rfl)
              | fail)
          all_goals
            go_wp2_with fail
            go_meet
            exact ⟨_, _, Lib.hid (HJ0.out.putE xm HJ0.out.ext.size hO2)⟩
        obtain ⟨a2, c2, HJ1⟩ := hcut
        obtain ⟨w4, hw4⟩ : ∃ w4, w4 = wc := ⟨_, rfl⟩
        rw [← hw4] at HJ1 ⊢
        have kk := HAB.out _ HJ1.out.ext
        have a0 := kk.1.cell (o := 0) (v := .bool la) rfl
        clear kk hw4
        go_upto_if 39 with fail
        go_cut [] (fun wx => ∃ (kv iv : Value), Hid (JnR w0 wx X la (joinedA a key b).entries (joinedA a key b).keys (joinedA a key b).kids (.slice a2 (a.entries.length + b.entries.length) c2) kv iv))
        case first =>
          cases la with
          | true =>
            go_wp2_with fail
            go_meet
            have e : joinedA a key b = ⟨true, a.entries ++ b.entries, [], []⟩ := by unfold joinedA; rw [if_pos HLA.out]
            rw [e]
            exact ⟨_, _, HJ1⟩
          | false =>
            go_wp2_with fail
            have xm := (Mods.refl (fun _ => False) w4).drew
            go_cut [] (fun wx => ∃ (i4 : Option Addr) (j4 : Nat), Hid (JnR w0 wx X false (a.entries ++ b.entries) [] (a.kids ++ b.kids) (.slice a2 (a.entries.length + b.entries.length) c2) (.slice none 0 0) (.slice i4 (a.kids.length + b.kids.length) j4)))
            case first =>
              have hX := (HJ1.out.at xm).blk
              have x0 := hX.cell (o := 0) (v := .bool false) rfl
              have x1 := hX.cell (o := 1) (v := .slice a2 (a.entries.length + b.entries.length) c2) rfl
              have x2 := hX.cell (o := 2) (v := .slice none 0 0) rfl
              have x3 := hX.cell (o := 3) (v := .slice none 0 0) rfl
              have xf := hX.frozen
              have kk := HAB.out _ (HJ1.out.ext.trans xm)
              have k1 := kk.1.cell (o := 3) (v := .slice ia a.kids.length ic) rfl
              have k2 := kk.2.cell (o := 3) (v := .slice ha b.kids.length hc) rfl
              go_region_law
                (first
                  | (refine step_app2 Tryz.elI encI_ok (by rfl) _ _ (by rfl) w4.heap.size (.slice none 0 0) (.slice ia a.kids.length ic) [] a.kids (by rfl) (by rfl) (Own.nil (fun _ => False) _ _ _ _ _) (HVI.out _ (HJ1.out.ext.trans xm)) (by simp; omega) (xm).size (fun f => f) ?_; simp only [List.length_nil, Nat.zero_add, List.nil_append]; intro a1 c1 wz hO1 hmA hat; have xm := Mods.past (xm) (hmA.mono (fun k hk => by simp [Value.ownBlock] at hk)); have hX := (HJ1.out.at xm).blk; have x0 := hX.cell (o := 0) (v := .bool false) rfl; have x1 := hX.cell (o := 1) (v := .slice a2 (a.entries.length + b.entries.length) c2) rfl; have x2 := hX.cell (o := 2) (v := .slice none 0 0) rfl; have x3 := hX.cell (o := 3) (v := .slice none 0 0) rfl; have xf := hX.frozen; have kk := HAB.out _ (HJ1.out.ext.trans xm); have k1 := kk.1.cell (o := 3) (v := .slice ia a.kids.length ic) rfl; have k2 := kk.2.cell (o := 3) (v := .slice ha b.kids.length hc) rfl)
                  | (refine step_app2 Tryz.elI encI_ok (by rfl) _ _ (by rfl) w4.heap.size (.slice a1 a.kids.length c1) (.slice ha b.kids.length hc) a.kids b.kids (by rfl) (by rfl) hO1 (HUI.out _ (HJ1.out.ext.trans xm)) (by omega) xm.size (fun f => f) ?_; intro i4 j4 wz hO2 hmA hat; have xm := Mods.past xm (hmA.mono (fun k hk => (hO1.lt k hk).1)); have hX := (HJ1.out.at xm).blk; have x0 := hX.cell (o := 0) (v := .bool false) rfl; have x1 := hX.cell (o := 1) (v := .slice a2 (a.entries.length + b.entries.length) c2) rfl; have x2 := hX.cell (o := 2) (v := .slice none 0 0) rfl; have x3 := hX.cell (o := 3) (v := .slice none 0 0) rfl; have xf := hX.frozen; have kk := HAB.out _ (HJ1.out.ext.trans xm); have k1 := kk.1.cell (o := 3) (v := .slice ia a.kids.length ic) rfl; have k2 := kk.2.cell (o := 3) (v := .slice ha b.kids.length hc) rfl)
                  | fail)
              all_goals
                go_wp2_with fail
                go_meet
                exact ⟨_, _, Lib.hid (HJ1.out.putI xm HJ1.out.ext.size hO2)⟩
            obtain ⟨i4, j4, HJ2⟩ := hcut
            obtain ⟨w5, hw5⟩ : ∃ w5, w5 = wc := ⟨_, rfl⟩
            rw [← hw5] at HJ2 ⊢
            clear hw5
            go_wp2_with fail
            have xm := (Mods.refl (fun _ => False) w5).drew
            go_cut [] (fun wx => ∃ (k6 : Option Addr) (c6 : Nat), Hid (JnR w0 wx X false (a.entries ++ b.entries) ((a.keys ++ [key]) ++ b.keys) (a.kids ++ b.kids) (.slice a2 (a.entries.length + b.entries.length) c2) (.slice k6 (a.keys.length + 1 + b.keys.length) c6) (.slice i4 (a.kids.length + b.kids.length) j4)))
            case first =>
              have hX := (HJ2.out.at xm).blk
              have x0 := hX.cell (o := 0) (v := .bool false) rfl
              have x1 := hX.cell (o := 1) (v := .slice a2 (a.entries.length + b.entries.length) c2) rfl
              have x2 := hX.cell (o := 2) (v := .slice none 0 0) rfl
              have x3 := hX.cell (o := 3) (v := .slice i4 (a.kids.length + b.kids.length) j4) rfl
              have xf := hX.frozen
              have kk := HAB.out _ (HJ2.out.ext.trans xm)
              have k1 := kk.1.cell (o := 2) (v := .slice ka a.keys.length kc) rfl
              have k2 := kk.2.cell (o := 2) (v := .slice ga b.keys.length gc) rfl
              have xb := xm.alloc (.cells #[.string key] 9)
              have xa := ((Mods.refl (fun _ => False) w5).alloc (.cells #[.string key] 9)).drew
              have x2c : (w5.alloc (.cells #[.string key] 9)).cell? ⟨X, 2, none⟩ = some (.slice none 0 0) := cell_alloc (w := w5) x2 _
              have k1c : (w5.alloc (.cells #[.string key] 9)).cell? ⟨w.heap.size, 2, none⟩ = some (.slice ka a.keys.length kc) := cell_alloc (w := w5) k1 _
              have k2c : (w5.alloc (.cells #[.string key] 9)).cell? ⟨w.heap.size + 1, 2, none⟩ = some (.slice ga b.keys.length gc) := cell_alloc (w := w5) k2 _
              have x2b := fun o => cell_alloc (x := o) x2
              have k1b := fun o => cell_alloc (x := o) k1
              have k2b := fun o => cell_alloc (x := o) k2
              go_region_law
                (first
                  | (refine step_app2 Tryz.elS encS_ok (by rfl) _ _ (by rfl) w5.heap.size (.slice none 0 0) (.slice ka a.keys.length kc) [] a.keys (by rfl) (by rfl) (Own.nil (fun _ => False) _ _ _ _ _) (HVK.out _ (HJ2.out.ext.trans xm)) (by simp; omega) (xm).size (fun f => f) ?_; simp only [List.length_nil, Nat.zero_add, List.nil_append]; intro a1 c1 wz hO1 hmA hat; have hmE : Ext _ wz := (Mods.mono hmA (fun k hk => by simp [Value.ownBlock] at hk)); have xm := (xm).trans hmE; have hX := (HJ2.out.at xm).blk; have x0 := hX.cell (o := 0) (v := .bool false) rfl; have x1 := hX.cell (o := 1) (v := .slice a2 (a.entries.length + b.entries.length) c2) rfl; have x2 := hX.cell (o := 2) (v := .slice none 0 0) rfl; have x3 := hX.cell (o := 3) (v := .slice i4 (a.kids.length + b.kids.length) j4) rfl; have xf := hX.frozen; have kk := HAB.out _ (HJ2.out.ext.trans xm); have k1 := kk.1.cell (o := 2) (v := .slice ka a.keys.length kc) rfl; have k2 := kk.2.cell (o := 2) (v := .slice ga b.keys.length gc) rfl; have x2b := fun o => cell_alloc (x := o) x2; have k1b := fun o => cell_alloc (x := o) k1; have k2b := fun o => cell_alloc (x := o) k2)
                  | (refine step_app2 Tryz.elS encS_ok (by rfl) _ _ (by rfl) w5.heap.size (.slice none 0 0) (.slice ka a.keys.length kc) [] a.keys (by rfl) (by rfl) (Own.nil (fun _ => False) _ _ _ _ _) (HVK.out _ (HJ2.out.ext.trans xb)) (by simp; omega) xb.size (fun f => f) ?_; simp only [List.length_nil, Nat.zero_add, List.nil_append]; intro a1 c1 wz hO1 hmA hat; have hmE : Ext _ wz := (Mods.mono hmA (fun k hk => by simp [Value.ownBlock] at hk)); have hC := row_at hmE; have xm := xb.trans hmE; have hX := (HJ2.out.at xm).blk; have x0 := hX.cell (o := 0) (v := .bool false) rfl; have x1 := hX.cell (o := 1) (v := .slice a2 (a.entries.length + b.entries.length) c2) rfl; have x2 := hX.cell (o := 2) (v := .slice none 0 0) rfl; have x3 := hX.cell (o := 3) (v := .slice i4 (a.kids.length + b.kids.length) j4) rfl; have xf := hX.frozen; have kk := HAB.out _ (HJ2.out.ext.trans xm); have k1 := kk.1.cell (o := 2) (v := .slice ka a.keys.length kc) rfl; have k2 := kk.2.cell (o := 2) (v := .slice ga b.keys.length gc) rfl; have x2b := fun o => cell_alloc (x := o) x2; have k1b := fun o => cell_alloc (x := o) k1; have k2b := fun o => cell_alloc (x := o) k2)
                  | (refine step_app2 Tryz.elS encS_ok (by rfl) _ _ (by rfl) w5.heap.size (.slice none 0 0) (.slice ka a.keys.length kc) [] a.keys (by rfl) (by rfl) (Own.nil (fun _ => False) _ _ _ _ _) (HVK.out _ (HJ2.out.ext.trans xa)) (by simp; omega) xa.size (fun f => f) ?_; simp only [List.length_nil, Nat.zero_add, List.nil_append]; intro a1 c1 wz hO1 hmA hat; have hmE : Ext _ wz := (Mods.mono hmA (fun k hk => by simp [Value.ownBlock] at hk)); have hC := row_at2 hmE; have xm := xa.trans hmE; have hX := (HJ2.out.at xm).blk; have x0 := hX.cell (o := 0) (v := .bool false) rfl; have x1 := hX.cell (o := 1) (v := .slice a2 (a.entries.length + b.entries.length) c2) rfl; have x2 := hX.cell (o := 2) (v := .slice none 0 0) rfl; have x3 := hX.cell (o := 3) (v := .slice i4 (a.kids.length + b.kids.length) j4) rfl; have xf := hX.frozen; have kk := HAB.out _ (HJ2.out.ext.trans xm); have k1 := kk.1.cell (o := 2) (v := .slice ka a.keys.length kc) rfl; have k2 := kk.2.cell (o := 2) (v := .slice ga b.keys.length gc) rfl; have x2b := fun o => cell_alloc (x := o) x2; have k1b := fun o => cell_alloc (x := o) k1; have k2b := fun o => cell_alloc (x := o) k2)
                  | (refine step_app2 Tryz.elS encS_ok (by rfl) _ _ (by rfl) w5.heap.size (.slice a1 a.keys.length c1) _ a.keys [key] (by rfl) (by rfl) hO1 hC (by simp; omega) (xm).size (fun f => f) ?_; simp only [List.length_cons, List.length_nil, Nat.zero_add]; intro a5 c5 wz hO2 hmA hat; have xm := Mods.past (xm) (hmA.mono (fun k hk => (hO1.lt k hk).1)); have hX := (HJ2.out.at xm).blk; have x0 := hX.cell (o := 0) (v := .bool false) rfl; have x1 := hX.cell (o := 1) (v := .slice a2 (a.entries.length + b.entries.length) c2) rfl; have x2 := hX.cell (o := 2) (v := .slice none 0 0) rfl; have x3 := hX.cell (o := 3) (v := .slice i4 (a.kids.length + b.kids.length) j4) rfl; have xf := hX.frozen; have kk := HAB.out _ (HJ2.out.ext.trans xm); have k1 := kk.1.cell (o := 2) (v := .slice ka a.keys.length kc) rfl; have k2 := kk.2.cell (o := 2) (v := .slice ga b.keys.length gc) rfl; have x2b := fun o => cell_alloc (x := o) x2; have k1b := fun o => cell_alloc (x := o) k1; have k2b := fun o => cell_alloc (x := o) k2)
                  | (refine step_app2 Tryz.elS encS_ok (by rfl) _ _ (by rfl) w5.heap.size (.slice a1 a.keys.length c1) _ a.keys [key] (by rfl) (by rfl) (hO1.ext ((Mods.refl _ _).alloc _)) (Sl.one (F := fun _ => False) (heap_at (by simp)) (fun f => f)) (by simp; omega) (xm.alloc _).size (fun f => f) ?_; simp only [List.length_cons, List.length_nil, Nat.zero_add]; intro a5 c5 wz hO2 hmA hat; have xm := Mods.past (xm.alloc _) (hmA.mono (fun k hk => (hO1.lt k hk).1)); have hX := (HJ2.out.at xm).blk; have x0 := hX.cell (o := 0) (v := .bool false) rfl; have x1 := hX.cell (o := 1) (v := .slice a2 (a.entries.length + b.entries.length) c2) rfl; have x2 := hX.cell (o := 2) (v := .slice none 0 0) rfl; have x3 := hX.cell (o := 3) (v := .slice i4 (a.kids.length + b.kids.length) j4) rfl; have xf := hX.frozen; have kk := HAB.out _ (HJ2.out.ext.trans xm); have k1 := kk.1.cell (o := 2) (v := .slice ka a.keys.length kc) rfl; have k2 := kk.2.cell (o := 2) (v := .slice ga b.keys.length gc) rfl; have x2b := fun o => cell_alloc (x := o) x2; have k1b := fun o => cell_alloc (x := o) k1; have k2b := fun o => cell_alloc (x := o) k2)
                  | (refine step_app2 Tryz.elS encS_ok (by rfl) _ _ (by rfl) w5.heap.size (.slice a5 (a.keys.length + 1) c5) (.slice ga b.keys.length gc) (a.keys ++ [key]) b.keys (by rfl) (by rfl) hO2 (HUK.out _ (HJ2.out.ext.trans (xm))) (by simp; omega) (xm).size (fun f => f) ?_; simp only [List.length_append, List.length_cons, List.length_nil, Nat.zero_add]; intro a6 c6 wz hO3 hmA hat; have xm := Mods.past (xm) (hmA.mono (fun k hk => (hO2.lt k hk).1)); have hX := (HJ2.out.at xm).blk; have x0 := hX.cell (o := 0) (v := .bool false) rfl; have x1 := hX.cell (o := 1) (v := .slice a2 (a.entries.length + b.entries.length) c2) rfl; have x2 := hX.cell (o := 2) (v := .slice none 0 0) rfl; have x3 := hX.cell (o := 3) (v := .slice i4 (a.kids.length + b.kids.length) j4) rfl; have xf := hX.frozen; have kk := HAB.out _ (HJ2.out.ext.trans xm); have k1 := kk.1.cell (o := 2) (v := .slice ka a.keys.length kc) rfl; have k2 := kk.2.cell (o := 2) (v := .slice ga b.keys.length gc) rfl; have x2b := fun o => cell_alloc (x := o) x2; have k1b := fun o => cell_alloc (x := o) k1; have k2b := fun o => cell_alloc (x := o) k2)
                  | fail)
              all_goals
                go_wp2_with fail
                go_meet
                exact ⟨_, _, Lib.hid (HJ2.out.putK xm HJ2.out.ext.size hO3)⟩
            obtain ⟨k6, c6, HJ3⟩ := hcut
            go_wp2_with fail
            go_meet
            have e : joinedA a key b = ⟨false, [], (a.keys ++ [key]) ++ b.keys, a.kids ++ b.kids⟩ := by unfold joinedA; rw [if_neg (by rw [HLA.out]; simp)]
            have e2 : a.entries ++ b.entries = [] := by rw [inner_noE HLA.out HRA.out, inner_noE HLB.out HRB.out]; rfl
            rw [e, ← e2]
            exact ⟨_, _, HJ3⟩
        obtain ⟨kv, iv, HJ⟩ := hcut
        obtain ⟨n, hn⟩ : ∃ n, n = joinedA a key b := ⟨_, rfl⟩
        have hnl : n.leaf = la := by
          rw [hn]
          unfold joinedA
          rw [HLA.out]
          cases la <;> rfl
        have HJ : Hid (JnR w0 wc X la n.entries n.keys n.kids (.slice a2 (a.entries.length + b.entries.length) c2) kv iv) := Lib.hid (by rw [hn]; exact HJ.out)
        have HN := Lib.hid hn
        have HNL := Lib.hid hnl
        have hlen : n.entries.length ≤ 200000 ∧ n.keys.length ≤ 200000 ∧ n.kids.length ≤ 200000 := by
          rw [hn]
          unfold joinedA
          split <;> simp <;> omega
        obtain ⟨ya, yc, rfl, _, _⟩ := HJ.out.ok.form
        obtain ⟨za, zc, rfl, _, _⟩ := HJ.out.oi.form
        have x0 := HJ.out.blk.cell (o := 0) (v := .bool la) rfl
        have x1 := HJ.out.blk.cell (o := 1) (v := .slice a2 (a.entries.length + b.entries.length) c2) rfl
        have x2 := HJ.out.blk.cell (o := 2) (v := .slice ya n.keys.length yc) rfl
        have x3 := HJ.out.blk.cell (o := 3) (v := .slice za n.kids.length zc) rfl
        have HRT := right07_t (F := fun _ => False) n _ _ _ (HJ.out.oe.sl encE_ok.len (by omega)) (HJ.out.ok.sl encS_ok.len (by omega)) (HJ.out.oi.sl encI_ok.len (by omega)) _ rfl
        rw [hnl] at HRT
        have HRT := Lib.hid HRT
        have hw0z : w.heap.size ≤ w0.heap.size := HM0.out.size
        clear hn hnl hlen
        go_wp2_with fail
        refine HRT.out.mono ?_
        rintro e w5 ⟨rfl, hm5⟩
        have hm6 := HJ.out.ext.trans hm5
        cases hrn : rightN n with
        | false =>
          have hne : joinO a key b = none := by unfold joinO; rw [if_neg (fun h => by rw [← HN.out, hrn] at h; simp at h)]
          have HNE := Lib.hid hne
          have hF1 := (HR.out.ext hm6).frozen
          obtain ⟨q0, q1, q2, q3⟩ := HRF.out w5 hm6
          have HM5 := Lib.hid hm6
          clear hm5 hm6 hne hrn
          go_wp2_with fail
          refine bodyPost_ret (results_row_tmp rfl _ _ (w.heap.size + 1 + 1) 26 _ _ rfl (HRET.out w5 HM5.out _ _ _ _) Tryz.underlying26 rfl Tryz.nodeSz) rfl ?_
          exact HFAIL.out w5 HM5.out HNE.out
        | true =>
          have hje : joinO a key b = some n := by unfold joinO; rw [if_pos ⟨by rw [HLA.out, HLB.out], HRA.out, HRB.out, by rw [← HN.out]; exact hrn⟩, ← HN.out]
          have HJE := Lib.hid hje
          have hF1 := (HR.out.ext hm6).frozen
          obtain ⟨q0, q1, q2, q3⟩ := HRF.out w5 hm6
          have HJ5 := Lib.hid (HJ.out.at hm5)
          have x0 := HJ5.out.blk.cell (o := 0) (v := .bool la) rfl
          have x1 := HJ5.out.blk.cell (o := 1) (v := .slice a2 (a.entries.length + b.entries.length) c2) rfl
          have x2 := HJ5.out.blk.cell (o := 2) (v := .slice ya n.keys.length yc) rfl
          have x3 := HJ5.out.blk.cell (o := 3) (v := .slice za n.kids.length zc) rfl
          have HM5 := Lib.hid hm6
          clear hm5 hm6 hje hrn
          go_wp2_with fail
          refine bodyPost_ret (results_row_tmp rfl _ _ (w.heap.size + 1 + 1) 26 _ _ rfl (HRET.out w5 HM5.out _ _ _ _) Tryz.underlying26 rfl Tryz.nodeSz) rfl ?_
          rw [HJE.out]
          exact join_done HM0.out ⟨_, _, _, by rw [HNL.out], HJ5.out.oe.rebase hw0z, HJ5.out.ok.rebase hw0z, HJ5.out.oi.rebase hw0z⟩ HM5.out (HR.out.ext HM5.out) (by omega)
  · have hne : joinO a key b = none := by unfold joinO; rw [if_neg (fun h => hab (by rw [← HLA.out, ← HLB.out]; exact h.1))]
    have HNE := Lib.hid hne
    have hab2 : (la == lb) = false := by simpa using hab
    have a0 := (HAB.out _ (Mods.refl _ _)).1.cell (o := 0) (v := .bool la) rfl
    have b0 := (HAB.out _ (Mods.refl _ _)).2.cell (o := 0) (v := .bool lb) rfl
    go_enter Tryz.func24, Tryz.ntmps24
    go_wp2_with fail
    rw [← HW0.out]
    refine bodyPost_ret (results_row_tmp rfl _ _ (w.heap.size + 1 + 1) 26 _ _ rfl HR.out Tryz.underlying26 rfl Tryz.nodeSz) rfl ?_
    rw [HNE.out]
    exact ⟨_, rfl, ⟨_, _, _, rfl, Own.nil _ _ _ _ _ _, Own.nil _ _ _ _ _ _, Own.nil _ _ _ _ _ _⟩, HM0.out⟩
end
end Go.Proofs.YtpjpldedebddgaaGreatDoor
namespace Go.Proofs.YtpjpldedebddgaaGreatDoor
open Go.RowKit
attribute [local go_sem ↓] Go.wp_at_zero Go.wp_at_succ
theorem joinO_few (a : NodeA) (key : ByteArray) (b : NodeA) : ((joinO a key b).getD nodeZN).entries.length ≤ 65535 ∧ ((joinO a key b).getD nodeZN).kids.length ≤ 256 ∧ ((joinO a key b).getD nodeZN).keys.length ≤ 256 := by
  unfold joinO
  split
  · rename_i h; exact right_lens h.2.2.2
  · simp [nodeZN]
set_option maxRecDepth 100000 in
set_option maxHeartbeats 4000000 in
theorem RemoveJoins_any {ad : Nat → Addr} {w : World} (hL : Env NoB ad w) (n : NodeA) (ve vk vi : Value) (hve : Sl NoB w 4 encE ve n.entries) (hvk : Sl NoB w 1 encS vk n.keys) (hvi : Sl NoB w 1 encI vi n.kids) (key : ByteArray) (m : NodeA) (ue uk ui : Value) (hue : Sl NoB w 4 encE ue m.entries) (huk : Sl NoB w 1 encS uk m.keys) (hui : Sl NoB w 1 encI ui m.kids) :
    Calls Tryz.prog 4 #[.agg #[.bool n.leaf, ve, vk, vi], .string key, .agg #[.bool m.leaf, ue, uk, ui]] w fun e w' => e = .returned (.bool true) ∧ Ext w w' := by
  obtain ⟨lf, hlf⟩ : ∃ lf, n.leaf = lf := ⟨_, rfl⟩
  obtain ⟨lg, hlg⟩ : ∃ lg, m.leaf = lg := ⟨_, rfl⟩
  rw [hlf, hlg]
  have HJ1 := Lib.hid (fun W (x : Ext w W) => join_any (hL.mods x.ext) n m key ve vk vi ue uk ui lf lg hlf hlg (hve.ext x) (hvk.ext x) (hvi.ext x) (hue.ext x) (huk.ext x) (hui.ext x))
  have HJ2 := Lib.hid (fun W (x : Ext w W) => join14_any (hL.mods x.ext) n m key ve vk vi ue uk ui lf lg hlf hlg (hve.ext x) (hvk.ext x) (hvi.ext x) (hue.ext x) (huk.ext x) (hui.ext x))
  obtain ⟨ea, ec, rfl, he1, he2, he3, -⟩ := hve
  obtain ⟨ka, kc, rfl, _, _, _, -⟩ := hvk
  obtain ⟨ia, ic, rfl, hi1, hi2, hi3, -⟩ := hvi
  obtain ⟨fa, fc, rfl, hf1, hf2, hf3, -⟩ := hue
  obtain ⟨ga, gc, rfl, _, _, _, -⟩ := huk
  obtain ⟨ja, jc, rfl, hj1, hj2, hj3, -⟩ := hui
  have m0 : Ext w ((w.alloc (.cells #[.bool lf, .slice ea n.entries.length ec, .slice ka n.keys.length kc, .slice ia n.kids.length ic] 26)).alloc (.cells #[.bool lg, .slice fa m.entries.length fc, .slice ga m.keys.length gc, .slice ja m.kids.length jc] 26)) := ((Mods.refl _ w).alloc _).alloc _
  have HAW := Lib.hid (fun W (x : Ext w W) => awake14_any (hL.mods x.ext))
  have M0 := Lib.hid m0
  have u1 : IntKind.i64.wrap ((n.entries.length : Int) + (n.kids.length : Int)) = (n.entries.length : Int) + (n.kids.length : Int) := by rw [IntWalk.i64_in _ (by unfold maxLen at *; omega)]
  have u2 : IntKind.i64.wrap ((m.entries.length : Int) + (m.kids.length : Int)) = (m.entries.length : Int) + (m.kids.length : Int) := by rw [IntWalk.i64_in _ (by unfold maxLen at *; omega)]
  clear hL hlf hlg m0
  by_cases hbig : (100 : Int) < (n.entries.length : Int) + (n.kids.length : Int)
  · go_enter Tryz.func4, Tryz.ntmps4
    go_wp2_with fail
    refine (HAW.out _ M0.out).mono ?_
    rintro e w1 ⟨rfl, hm⟩
    have HM := Lib.hid (M0.out.trans hm)
    clear hm
    go_wp2_with fail
    go_ret
    exact ⟨rfl, HM.out⟩
  · by_cases hbig2 : (100 : Int) < (m.entries.length : Int) + (m.kids.length : Int)
    · go_enter Tryz.func4, Tryz.ntmps4
      go_wp2_with fail
      refine (HAW.out _ M0.out).mono ?_
      rintro e w1 ⟨rfl, hm⟩
      have HM := Lib.hid (M0.out.trans hm)
      clear hm
      go_wp2_with fail
      go_ret
      exact ⟨rfl, HM.out⟩
    · go_enter Tryz.func4, Tryz.ntmps4
      go_wp2_with fail
      refine (HJ1.out _ M0.out).mono ?_
      rintro e w1 ⟨v1, rfl, ⟨xe, xk, xi, rfl, o1, o2, o3⟩, hm⟩
      have hq := joinO_few n key m
      have HM := Lib.hid (M0.out.trans hm)
      have HS1 := Lib.hid (o1.slF (F := NoB) (fun _ h => h.elim) encE_ok.len (by omega))
      have HS2 := Lib.hid (o2.slF (F := NoB) (fun _ h => h.elim) encS_ok.len (by omega))
      have HS3 := Lib.hid (o3.slF (F := NoB) (fun _ h => h.elim) encI_ok.len (by omega))
      obtain ⟨xa, xc, rfl, -, -⟩ := o1.form
      obtain ⟨ya, yc, rfl, -, -⟩ := o2.form
      obtain ⟨za, zc, rfl, -, -⟩ := o3.form
      have hA : Blk w1 w.heap.size #[.bool lf, .slice ea n.entries.length ec, .slice ka n.keys.length kc, .slice ia n.kids.length ic] 26 := ((Blk.new w _ _).alloc _).ext hm
      have hB : Blk w1 (w.heap.size + 1) #[.bool lg, .slice fa m.entries.length fc, .slice ga m.keys.length gc, .slice ja m.kids.length jc] 26 := (show Blk ((w.alloc (.cells #[.bool lf, .slice ea n.entries.length ec, .slice ka n.keys.length kc, .slice ia n.kids.length ic] 26)).alloc (.cells #[.bool lg, .slice fa m.entries.length fc, .slice ga m.keys.length gc, .slice ja m.kids.length jc] 26)) (w.heap.size + 1) #[.bool lg, .slice fa m.entries.length fc, .slice ga m.keys.length gc, .slice ja m.kids.length jc] 26 from heap_at (by simp)).ext hm
      have a0 := hA.cell (o := 0) rfl
      have a1 := hA.cell (o := 1) rfl
      have a2 := hA.cell (o := 2) rfl
      have a3 := hA.cell (o := 3) rfl
      have b0 := hB.cell (o := 0) rfl
      have b1 := hB.cell (o := 1) rfl
      have b2 := hB.cell (o := 2) rfl
      have b3 := hB.cell (o := 3) rfl
      obtain ⟨o, ho⟩ : ∃ o, o = joinO n key m := ⟨_, rfl⟩
      rw [← ho] at HJ2 HS1 HS2 HS3 hq ⊢
      have HQ := Lib.hid hq
      obtain ⟨w2, hw2⟩ : ∃ w2, w2 = w1.alloc (.cells #[.bool (o.getD nodeZN).leaf, .slice xa (o.getD nodeZN).entries.length xc, .slice ya (o.getD nodeZN).keys.length yc, .slice za (o.getD nodeZN).kids.length zc] 26) := ⟨_, rfl⟩
      have m2 : Ext w1 w2 := by rw [hw2]; exact (Mods.refl _ w1).alloc _
      have hR : Blk w2 w1.heap.size #[.bool (o.getD nodeZN).leaf, .slice xa (o.getD nodeZN).entries.length xc, .slice ya (o.getD nodeZN).keys.length yc, .slice za (o.getD nodeZN).kids.length zc] 26 := by rw [hw2]; exact Blk.new w1 _ _
      have HA := Lib.hid hA
      have HB := Lib.hid hB
      have HR := Lib.hid hR
      have M2 := Lib.hid m2
      have HW2 := Lib.hid hw2
      have a0x := cell_alloc a0 (.cells #[.bool (o.getD nodeZN).leaf, .slice xa (o.getD nodeZN).entries.length xc, .slice ya (o.getD nodeZN).keys.length yc, .slice za (o.getD nodeZN).kids.length zc] 26)
      have a1x := cell_alloc a1 (.cells #[.bool (o.getD nodeZN).leaf, .slice xa (o.getD nodeZN).entries.length xc, .slice ya (o.getD nodeZN).keys.length yc, .slice za (o.getD nodeZN).kids.length zc] 26)
      have a2x := cell_alloc a2 (.cells #[.bool (o.getD nodeZN).leaf, .slice xa (o.getD nodeZN).entries.length xc, .slice ya (o.getD nodeZN).keys.length yc, .slice za (o.getD nodeZN).kids.length zc] 26)
      have a3x := cell_alloc a3 (.cells #[.bool (o.getD nodeZN).leaf, .slice xa (o.getD nodeZN).entries.length xc, .slice ya (o.getD nodeZN).keys.length yc, .slice za (o.getD nodeZN).kids.length zc] 26)
      have b0x := cell_alloc b0 (.cells #[.bool (o.getD nodeZN).leaf, .slice xa (o.getD nodeZN).entries.length xc, .slice ya (o.getD nodeZN).keys.length yc, .slice za (o.getD nodeZN).kids.length zc] 26)
      have b1x := cell_alloc b1 (.cells #[.bool (o.getD nodeZN).leaf, .slice xa (o.getD nodeZN).entries.length xc, .slice ya (o.getD nodeZN).keys.length yc, .slice za (o.getD nodeZN).kids.length zc] 26)
      have b2x := cell_alloc b2 (.cells #[.bool (o.getD nodeZN).leaf, .slice xa (o.getD nodeZN).entries.length xc, .slice ya (o.getD nodeZN).keys.length yc, .slice za (o.getD nodeZN).kids.length zc] 26)
      have b3x := cell_alloc b3 (.cells #[.bool (o.getD nodeZN).leaf, .slice xa (o.getD nodeZN).entries.length xc, .slice ya (o.getD nodeZN).keys.length yc, .slice za (o.getD nodeZN).kids.length zc] 26)
      clear o1 o2 o3 hm ho hq hA hB hR m2 hw2
      go_wp2_with fail
      rw [← HW2.out]
      refine (HJ2.out _ (HM.out.trans M2.out)).mono ?_
      rintro e w3 ⟨v3, rfl, ⟨xe2, xk2, xi2, rfl, p1, p2, p3⟩, hm3⟩
      have hq := HQ.out
      have HT1 := Lib.hid (p1.slF (F := NoB) (fun _ h => h.elim) encE_ok.len (by omega))
      have HT2 := Lib.hid (p2.slF (F := NoB) (fun _ h => h.elim) encS_ok.len (by omega))
      have HT3 := Lib.hid (p3.slF (F := NoB) (fun _ h => h.elim) encI_ok.len (by omega))
      obtain ⟨xa2, xc2, rfl, -, -⟩ := p1.form
      obtain ⟨ya2, yc2, rfl, -, -⟩ := p2.form
      obtain ⟨za2, zc2, rfl, -, -⟩ := p3.form
      have HR3 := Lib.hid (HR.out.ext hm3)
      have r0 := HR3.out.cell (o := 0) rfl
      have r1 := HR3.out.cell (o := 1) rfl
      have r2 := HR3.out.cell (o := 2) rfl
      have r3 := HR3.out.cell (o := 3) rfl
      have M3 := Lib.hid (M2.out.trans hm3)
      obtain ⟨w4, hw4⟩ : ∃ w4, w4 = w3.alloc (.cells #[.bool (o.getD nodeZN).leaf, .slice xa2 (o.getD nodeZN).entries.length xc2, .slice ya2 (o.getD nodeZN).keys.length yc2, .slice za2 (o.getD nodeZN).kids.length zc2] 26) := ⟨_, rfl⟩
      have m4 : Ext w3 w4 := by rw [hw4]; exact (Mods.refl _ w3).alloc _
      have hT := Blk.new w3 #[.bool (o.getD nodeZN).leaf, .slice xa2 (o.getD nodeZN).entries.length xc2, .slice ya2 (o.getD nodeZN).keys.length yc2, .slice za2 (o.getD nodeZN).kids.length zc2] 26
      have t0 := hT.cell (o := 0) rfl
      have t1 := hT.cell (o := 1) rfl
      have t2 := hT.cell (o := 2) rfl
      have t3 := hT.cell (o := 3) rfl
      have HSM := Lib.hid (same07_eq (w := w4) (o.getD nodeZN) _ _ _ _ _ _ (HS1.out.ext (M3.out.trans m4)) (HS2.out.ext (M3.out.trans m4)) (HS3.out.ext (M3.out.trans m4)) (HT1.out.ext m4) (HT2.out.ext m4) (HT3.out.ext m4))
      have M4 := Lib.hid (HM.out.trans (M3.out.trans m4))
      have HW4 := Lib.hid hw4
      have r0x := cell_alloc r0 (.cells #[.bool (o.getD nodeZN).leaf, .slice xa2 (o.getD nodeZN).entries.length xc2, .slice ya2 (o.getD nodeZN).keys.length yc2, .slice za2 (o.getD nodeZN).kids.length zc2] 26)
      have r1x := cell_alloc r1 (.cells #[.bool (o.getD nodeZN).leaf, .slice xa2 (o.getD nodeZN).entries.length xc2, .slice ya2 (o.getD nodeZN).keys.length yc2, .slice za2 (o.getD nodeZN).kids.length zc2] 26)
      have r2x := cell_alloc r2 (.cells #[.bool (o.getD nodeZN).leaf, .slice xa2 (o.getD nodeZN).entries.length xc2, .slice ya2 (o.getD nodeZN).keys.length yc2, .slice za2 (o.getD nodeZN).kids.length zc2] 26)
      have r3x := cell_alloc r3 (.cells #[.bool (o.getD nodeZN).leaf, .slice xa2 (o.getD nodeZN).entries.length xc2, .slice ya2 (o.getD nodeZN).keys.length yc2, .slice za2 (o.getD nodeZN).kids.length zc2] 26)
      clear p1 p2 p3 hq hm3 hw4 m4 hT
      go_wp2_with fail
      rw [← HW4.out]
      refine HSM.out.mono ?_
      rintro e w5 ⟨rfl, hm5⟩
      have M5 := Lib.hid (M4.out.trans hm5)
      clear hm5
      go_wp2_with fail
      refine (HAW.out _ M5.out).mono ?_
      rintro e w6 ⟨rfl, hm6⟩
      have M6 := Lib.hid (M5.out.trans hm6)
      clear hm6
      go_wp2_with fail
      go_ret
      exact ⟨rfl, M6.out⟩
end Go.Proofs.YtpjpldedebddgaaGreatDoor
