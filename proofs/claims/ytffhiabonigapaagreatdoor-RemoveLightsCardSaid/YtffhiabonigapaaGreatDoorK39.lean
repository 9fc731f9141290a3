/- ref03.Take; ref07.take, word, one. | ref01.SameTexts; ref07.Same of nodes that are alike. -/
import Derived.Test.YtffhiabonigapaaGreatDoorK23
import Derived.Test.YtffhiabonigapaaGreatDoorK08
import Derived.Test.YtffhiabonigapaaGreatDoorK26
import Derived.IntWalk
import Derived.Test.YtffhiabonigapaaGreatDoorK20
import Derived.Test.YtffhiabonigapaaGreatDoorK03
import Derived.BigQuiet
namespace Go.Proofs.YtffhiabonigapaaGreatDoor
open Go.RowKit
attribute [local go_sem ↓] Go.wp_at_zero Go.wp_at_succ
section
variable {F : Nat → Prop} {w w' wr w2 : World}
theorem ofLe_snoc : ∀ (l : List UInt8) (x : UInt8), ofLe (l ++ [x]) = ofLe l + x.toNat * 256 ^ l.length
  | [], x => by simp [ofLe]
  | y :: l, x => by
    rw [List.cons_append, ofLe, ofLe, ofLe_snoc l x, List.length_cons, Nat.pow_succ, Nat.mul_add, Nat.add_assoc]
    congr 2
    rw [Nat.mul_comm 256 (x.toNat * 256 ^ l.length), Nat.mul_assoc]
/-- ref03.Take: the number, and the code. -/
def Take03 (l : List UInt8) (p : Int) (W : Nat) (w : World) (e : Ending) (w' : World) : Prop :=
  ∃ (v c : Nat), e = .returned (.tuple #[.int .u64 (v : Int), .int .i64 (c : Int)]) ∧ ((c = 0 ∧ (takeF l p W).2 = none ∧ v = (takeF l p W).1) ∨ (c ≠ 0 ∧ c < 10 ∧ ∃ er, (takeF l p W).2 = some er)) ∧ w = w'
end
end Go.Proofs.YtffhiabonigapaaGreatDoor
namespace Go.Proofs.YtffhiabonigapaaGreatDoor
open Go.RowKit
attribute [local go_sem ↓] Go.wp_at_zero Go.wp_at_succ
set_option maxRecDepth 100000 in
theorem SameTexts_any {F G : Nat → Prop} {w : World} (av bv : Value) (l m : List ByteArray) (ha : Sl F w 1 encS av l) (hb : Sl G w 1 encS bv m) :
    Calls Tryz.prog 44 #[av, bv] w fun e w' => e = .returned (.bool (decide (l = m))) ∧ Ext w w' := by
  obtain ⟨a, cap, rfl, h1, h2, h3, h4⟩ := ha
  obtain ⟨b, cap2, rfl, i1, i2, i3, i4⟩ := hb
  unfold maxLen at h2 i2
  have H4 := Lib.hid h4
  have I4 := Lib.hid i4
  clear h4 i4
  by_cases hl : l.length = m.length
  · obtain ⟨n, hn⟩ : ∃ n, n = l.length := ⟨_, rfl⟩
    rw [← hl, ← hn] at i1 i3 ⊢
    rw [← hn] at h1 h3
    have N1 : Hid (n = l.length) := Lib.hid hn
    have N2 : Hid (n = m.length) := Lib.hid (hn.trans hl)
    clear hn hl
    go_enter Tryz.func44, Tryz.ntmps44
    go_wp2_with fail
    go_loopg [5] n (fun q v5 wr => ∃ k : Nat, k + q = n ∧ v5 = .int .i64 k ∧ Hid (l.take k = m.take k) ∧ Hid (Ext w wr))
    case atStart => exact ⟨0, by omega, rfl, Lib.hid rfl, Lib.hid (Mods.refl _ _)⟩
    case round =>
      obtain ⟨k, hk, rfl, HQ, HM⟩ := hrel
      by_cases hltn : k < n
      · have hlt : k < l.length := by have := N1.out; omega
        have hlt2 : k < m.length := by have := N2.out; omega
        obtain ⟨b1, off1, rfl, hb1, hF1, hc1⟩ := Sl.atE H4.out HM.out k hlt
        obtain ⟨b2, off2, rfl, hb2, hF2, hc2⟩ := Sl.atE I4.out HM.out k hlt2
        obtain ⟨x, hx⟩ : ∃ x, x = l[k] := ⟨_, rfl⟩
        obtain ⟨y, hy⟩ : ∃ y, y = m[k] := ⟨_, rfl⟩
        have d1 := hc1 0 (.string x) (by rw [hx]; rfl)
        have d2 := hc2 0 (.string y) (by rw [hy]; rfl)
        simp only [Nat.mul_one, Nat.add_zero] at d1 d2
        have hx2 : l[k]? = some x := by rw [hx]; simp [hlt]
        have hy2 : m[k]? = some y := by rw [hy]; simp [hlt2]
        have HT : Hid (x = y → l.take (k + 1) = m.take (k + 1)) := Lib.hid (fun e => by rw [take_one l k x hx2, take_one m k y hy2, HQ.out, e])
        have HN : Hid (x ≠ y → decide (l = m) = false) := Lib.hid (fun e => by
          rw [decide_eq_false_iff_not]; intro h; rw [h, hy2] at hx2; injection hx2 with h5; exact e h5.symm)
        clear hc1 hc2 hx hy hx2 hy2 hlt hlt2
        by_cases hxy : x = y
        · subst hxy
          go_wp2_with fail
          go_region
          go_wp2_with fail
          go_roundg (gk - 1)
          case measure => omega
          case rel => exact ⟨k + 1, by omega, by go_num, Lib.hid (HT.out (by first | rfl | trivial)), Lib.hid HM.out.drew⟩
        · have hne : (x.toList == y.toList) = false := by rw [beq_eq_false_iff_ne]; exact fun e => hxy (toList_inj e)
          have HN2 := Lib.hid (HN.out hxy)
          clear hxy
          go_wp2_with fail
          go_region
          go_wp2_with fail
          go_ret
          exact ⟨ret_bool HN2.out.symm, HM.out.drew⟩
      · have he : Hid (decide (l = m) = true) := Lib.hid (by
          have := HQ.out
          have n1 := N1.out
          have n2 := N2.out
          rw [List.take_of_length_le (by omega), List.take_of_length_le (by omega)] at this
          simp [this])
        go_wp2_with fail
        go_ret
        exact ⟨ret_bool he.out.symm, HM.out⟩
  · have he : Hid (decide (l = m) = false) := Lib.hid (by rw [decide_eq_false_iff_not]; intro h; exact hl (by rw [h]))
    go_enter Tryz.func44, Tryz.ntmps44
    go_wp2_with fail
    go_ret
    exact ⟨ret_bool he.out.symm, Mods.refl _ _⟩
section
variable {F G : Nat → Prop} {w w' wr : World}
theorem sameTexts_t (av bv : Value) (l : List ByteArray) (ha : Sl F w 1 encS av l) (hb : Sl G w 1 encS bv l) :
    Calls Tryz.prog 44 #[av, bv] w fun e w' => e = .returned (.bool true) ∧ Ext w w' := by
  have := SameTexts_any av bv l l ha hb
  rw [decide_eq_true rfl] at this
  exact this
set_option maxRecDepth 100000 in
set_option maxHeartbeats 1000000 in
theorem same07_eq (n : NodeA) (ve vk vi ue uk ui : Value) (hve : Sl F w 4 encE ve n.entries) (hvk : Sl F w 1 encS vk n.keys) (hvi : Sl F w 1 encI vi n.kids) (hue : Sl G w 4 encE ue n.entries) (huk : Sl G w 1 encS uk n.keys) (hui : Sl G w 1 encI ui n.kids) :
    Calls Tryz.prog 18 #[.agg #[.bool n.leaf, ve, vk, vi], .agg #[.bool n.leaf, ue, uk, ui]] w fun e w' => e = .returned (.bool true) ∧ Ext w w' := by
  have HVK := Lib.hid hvk
  have HUK := Lib.hid huk
  obtain ⟨ea, ec, rfl, e1, e2, e3, hee⟩ := hve
  obtain ⟨ka, kc, rfl, k1, k2, k3, _⟩ := hvk
  obtain ⟨ia, ic, rfl, i1, i2, i3, hii⟩ := hvi
  obtain ⟨fa, fc, rfl, f1, f2, f3, hff⟩ := hue
  obtain ⟨la, lc, rfl, l1, l2, l3, _⟩ := huk
  obtain ⟨ja, jc, rfl, j1, j2, j3, hjj⟩ := hui
  unfold maxLen at e2 k2 i2 f2 l2 j2
  have HEE := Lib.hid hee
  have HFF := Lib.hid hff
  have HII := Lib.hid hii
  have HJJ := Lib.hid hjj
  have HW : Hid (Ext w ((w.alloc (.cells #[.bool n.leaf, .slice ea n.entries.length ec, .slice ka n.keys.length kc, .slice ia n.kids.length ic] 26)).alloc (.cells #[.bool n.leaf, .slice fa n.entries.length fc, .slice la n.keys.length lc, .slice ja n.kids.length jc] 26)) ∧
      Blk ((w.alloc (.cells #[.bool n.leaf, .slice ea n.entries.length ec, .slice ka n.keys.length kc, .slice ia n.kids.length ic] 26)).alloc (.cells #[.bool n.leaf, .slice fa n.entries.length fc, .slice la n.keys.length lc, .slice ja n.kids.length jc] 26)) w.heap.size #[.bool n.leaf, .slice ea n.entries.length ec, .slice ka n.keys.length kc, .slice ia n.kids.length ic] 26 ∧
      Blk ((w.alloc (.cells #[.bool n.leaf, .slice ea n.entries.length ec, .slice ka n.keys.length kc, .slice ia n.kids.length ic] 26)).alloc (.cells #[.bool n.leaf, .slice fa n.entries.length fc, .slice la n.keys.length lc, .slice ja n.kids.length jc] 26)) (w.heap.size + 1) #[.bool n.leaf, .slice fa n.entries.length fc, .slice la n.keys.length lc, .slice ja n.kids.length jc] 26) :=
    Lib.hid ⟨((Mods.refl _ w).alloc _).alloc _, (Blk.new w _ _).alloc _, heap_at (by simp)⟩
  clear hee hff hii hjj
  go_enter Tryz.func18, Tryz.ntmps18
  go_wp2_with fail
  go_loopg [5] n.entries.length (fun m v5 wr => ∃ (k : Nat), k + m = n.entries.length ∧ v5 = .int .i64 (k : Int) ∧ Hid (Ext w wr ∧ Blk wr w.heap.size #[.bool n.leaf, .slice ea n.entries.length ec, .slice ka n.keys.length kc, .slice ia n.kids.length ic] 26 ∧ Blk wr (w.heap.size + 1) #[.bool n.leaf, .slice fa n.entries.length fc, .slice la n.keys.length lc, .slice ja n.kids.length jc] 26))
  case atStart => exact ⟨0, by omega, rfl, HW⟩
  case round =>
    obtain ⟨k, hkm, rfl, HW⟩ := hrel
    have hb1 := HW.out.2.1.lt
    have hb2 := HW.out.2.2.lt
    have b1 := HW.out.2.1.cell (o := 1) (v := .slice ea n.entries.length ec) rfl
    have d1 := HW.out.2.2.cell (o := 1) (v := .slice fa n.entries.length fc) rfl
    by_cases hlt : k < n.entries.length
    · obtain ⟨b, off, rfl, _, _, hc⟩ := Sl.at HEE.out HW.out.1 (fun _ _ f => f.elim) k hlt
      obtain ⟨b', off', rfl, _, _, hc'⟩ := Sl.at HFF.out HW.out.1 (fun _ _ f => f.elim) k hlt
      obtain ⟨x, hx⟩ : ∃ x, n.entries[k] = x := ⟨_, rfl⟩
      rw [hx] at hc hc'
      have c0 : wr.cell? ⟨b, off + k * 4, none⟩ = some (.string x.key) := hc 0 _ rfl
      have c1 : wr.cell? ⟨b, off + k * 4 + 1, none⟩ = some (.string x.value) := hc 1 _ rfl
      have c2 : wr.cell? ⟨b, off + k * 4 + 2, none⟩ = some (.int .i64 x.chain) := hc 2 _ rfl
      have c3 : wr.cell? ⟨b, off + k * 4 + 3, none⟩ = some (.int .i64 x.size) := hc 3 _ rfl
      have g0 : wr.cell? ⟨b', off' + k * 4, none⟩ = some (.string x.key) := hc' 0 _ rfl
      have g1 : wr.cell? ⟨b', off' + k * 4 + 1, none⟩ = some (.string x.value) := hc' 1 _ rfl
      have g2 : wr.cell? ⟨b', off' + k * 4 + 2, none⟩ = some (.int .i64 x.chain) := hc' 2 _ rfl
      have g3 : wr.cell? ⟨b', off' + k * 4 + 3, none⟩ = some (.int .i64 x.size) := hc' 3 _ rfl
      have q1 : (0 : Int) ≤ (k : Int) := by omega
      have q2 : (k : Int) < (n.entries.length : Int) := by omega
      clear hc hc' hx
      go_wp2_with fail
      go_quiet (fail)
      go_wp2_with fail
      go_roundg (gk - 1)
      case measure => omega
      case rel => exact ⟨k + 1, by omega, by go_num, Lib.hid ⟨HW.out.1.drewN _, HW.out.2.1.ext ((Mods.refl _ _).drewN _), HW.out.2.2.ext ((Mods.refl _ _).drewN _)⟩⟩
    · obtain ⟨w5, hw5⟩ : ∃ w5, w5 = wr := ⟨_, rfl⟩
      have HW5 : Hid (Ext w w5 ∧ Blk w5 w.heap.size #[.bool n.leaf, .slice ea n.entries.length ec, .slice ka n.keys.length kc, .slice ia n.kids.length ic] 26 ∧ Blk w5 (w.heap.size + 1) #[.bool n.leaf, .slice fa n.entries.length fc, .slice la n.keys.length lc, .slice ja n.kids.length jc] 26) := Lib.hid (by rw [hw5]; exact HW.out)
      rw [← hw5] at b1 d1 ⊢
      clear hw5 HW hb1 hb2 wr
      go_wp2_with fail
      go_loopg [6] n.kids.length (fun m v5 wr => ∃ (k : Nat), k + m = n.kids.length ∧ v5 = .int .i64 (k : Int) ∧ Hid (Ext w wr ∧ Blk wr w.heap.size #[.bool n.leaf, .slice ea n.entries.length ec, .slice ka n.keys.length kc, .slice ia n.kids.length ic] 26 ∧ Blk wr (w.heap.size + 1) #[.bool n.leaf, .slice fa n.entries.length fc, .slice la n.keys.length lc, .slice ja n.kids.length jc] 26))
      case atStart => exact ⟨0, by omega, rfl, HW5⟩
      case round =>
        obtain ⟨k, hkm, rfl, HW⟩ := hrel
        have hb1 := HW.out.2.1.lt
        have hb2 := HW.out.2.2.lt
        have b3 := HW.out.2.1.cell (o := 3) (v := .slice ia n.kids.length ic) rfl
        have d3 := HW.out.2.2.cell (o := 3) (v := .slice ja n.kids.length jc) rfl
        by_cases hlt : k < n.kids.length
        · obtain ⟨b, off, rfl, _, _, hc⟩ := Sl.at HII.out HW.out.1 (fun _ _ f => f.elim) k hlt
          obtain ⟨b', off', rfl, _, _, hc'⟩ := Sl.at HJJ.out HW.out.1 (fun _ _ f => f.elim) k hlt
          obtain ⟨x, hx⟩ : ∃ x, n.kids[k] = x := ⟨_, rfl⟩
          rw [hx] at hc hc'
          have c0 : wr.cell? ⟨b, off + k, none⟩ = some (.int .i64 x) := by have := hc 0 _ rfl; simpa using this
          have g0 : wr.cell? ⟨b', off' + k, none⟩ = some (.int .i64 x) := by have := hc' 0 _ rfl; simpa using this
          have q1 : (0 : Int) ≤ (k : Int) := by omega
          have q2 : (k : Int) < (n.kids.length : Int) := by omega
          clear hc hc' hx
          go_wp2_with fail
          go_quiet (fail)
          go_wp2_with fail
          go_roundg (gk - 1)
          case measure => omega
          case rel => exact ⟨k + 1, by omega, by go_num, Lib.hid ⟨HW.out.1.drewN _, HW.out.2.1.ext ((Mods.refl _ _).drewN _), HW.out.2.2.ext ((Mods.refl _ _).drewN _)⟩⟩
        · have b2 := HW.out.2.1.cell (o := 2) (v := .slice ka n.keys.length kc) rfl
          have d2 := HW.out.2.2.cell (o := 2) (v := .slice la n.keys.length lc) rfl
          have HST := Lib.hid (sameTexts_t (.slice ka n.keys.length kc) (.slice la n.keys.length lc) n.keys (HVK.out.ext HW.out.1) (HUK.out.ext HW.out.1))
          go_wp2_with fail
          refine (HST.out).mono ?_
          rintro e w6 ⟨rfl, hm6⟩
          have HM := Lib.hid (HW.out.1.trans hm6)
          clear hm6
          go_wp2_with fail
          go_ret
          exact ⟨rfl, HM.out⟩
end
end Go.Proofs.YtffhiabonigapaaGreatDoor
