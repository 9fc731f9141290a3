/- ref11.Pairs, ref11.Find. | The reference's inner nodes, step by step. Plain. | ref11.above. | How many pages the reference's tree has, while it is built; its Ids. Plain. | ref11.Build. -/
import Derived.Test.YtepafbokbfcbgaaGreatDoorK33
import Derived.Test.YtepafbokbfcbgaaGreatDoorK22
import Derived.Test.YtepafbokbfcbgaaGreatDoorK32
import Derived.Test.YtepafbokbfcbgaaGreatDoorK21
import Derived.Test.YtepafbokbfcbgaaGreatDoorK10
namespace Go.Proofs.YtepafbokbfcbgaaGreatDoor
open Go.RowKit
attribute [local go_sem ↓] Go.wp_at_zero Go.wp_at_succ
section
variable {F : Nat → Prop} {w w' wr w2 : World}
theorem key07_t (s : ByteArray) (w : World) (b : Bool) (h : keyB s = b) : Calls Tryz.prog 59 #[.string s] w fun e w' => e = .returned (.bool b) ∧ w = w' := by
  have := key07_any s w; rw [h] at this; exact this
set_option maxRecDepth 100000 in
set_option maxHeartbeats 2000000 in
theorem pairs_any (l : List PairS) (lv : Value) (hl : Sl F w 2 encP lv l) (hlen : l.length ≤ 900) :
    Calls Tryz.prog 47 #[lv] w (PairsRes w (pairsP l)) := by
  obtain ⟨la, lc, rfl, h1, h2, h3, hll⟩ := hl
  unfold maxLen at h2
  have HLL := Lib.hid hll
  clear hll
  go_enter Tryz.func47, Tryz.ntmps47
  go_wp2_with fail
  have HO0 : Hid (Own NoF (w.alloc (.cells #[] 98)) w.heap.size 98 2 encP (.slice (some ⟨w.heap.size, 0, none⟩) 0 0) []) := Lib.hid
    (Own.made (l := ([] : List PairS)) (cur := #[]) (cap := 0) (heap_at (by simp)) (by omega) (fun f => f) (Nat.le_refl _) (by simp [maxLen]) (by simp) (by simp) (fun _ => rfl))
  have HM0 : Hid (Ext w (w.alloc (.cells #[] 98))) := Lib.hid ((Mods.refl _ w).alloc _)
  go_loopg [3, 4] l.length (fun m v3 v4 wr => ∃ (k : Nat), k + m = l.length ∧ v4 = .int .i64 (k : Int) ∧ Hid (Own NoF wr w.heap.size 98 2 encP v3 (pairsP (l.take k)) ∧ Ext w wr))
  case atStart => exact ⟨0, by omega, rfl, Lib.hid ⟨HO0.out, HM0.out⟩⟩
  case round =>
    obtain ⟨k, hkm, rfl, HS⟩ := hrel
    by_cases hlt : k < l.length
    · obtain ⟨b, off, rfl, hb, hF, hc⟩ := Sl.at HLL.out HS.out.2 (fun _ _ f => f.elim) k hlt
      obtain ⟨x, hx⟩ : ∃ x, l[k]? = some x := ⟨_, List.getElem?_eq_getElem hlt⟩
      have hx' : l[k] = x := by rw [List.getElem?_eq_getElem hlt] at hx; exact Option.some.inj hx
      rw [hx'] at hc
      have c0 := hc 0 _ rfl
      simp only [Nat.add_zero] at c0
      have c1 := hc 1 _ rfl
      have HX : Hid (pairsP (l.take (k + 1)) = addP (pairsP (l.take k)) x) := Lib.hid (by rw [take_one l k x hx, pairsP_snoc])
      clear hc hx hx'
      have i1 : (0 : Int) ≤ (k : Int) := by omega
      have i2 : (k : Int) < (l.length : Int) := by omega
      cases hkb : keyB x.1 with
      | false =>
        have HK := Lib.hid (key07_t x.1 wr false hkb)
        have HA : Hid (pairsP (l.take (k + 1)) = pairsP (l.take k)) := Lib.hid (by rw [HX.out]; unfold addP; rw [if_neg (by rw [hkb]; simp)])
        clear hkb
        go_wp2_with fail
        refine (HK.out).mono ?_
        rintro e w1 ⟨rfl, rfl⟩
        go_wp2_with fail
        go_roundg (gk - 1)
        case measure => omega
        case rel => exact ⟨k + 1, by omega, by go_num, Lib.hid (by rw [HA.out]; exact HS.out)⟩
      | true =>
        have HK := Lib.hid (key07_t x.1 wr true hkb)
        by_cases hv : x.2.size ≤ 4096
        · have hvI : (x.2.size : Int) ≤ 4096 := by omega
          have HA : Hid (pairsP (l.take (k + 1)) = withP x.1 x.2 false (pairsP (l.take k))) := Lib.hid (by rw [HX.out]; unfold addP; rw [if_pos ⟨hkb, hv⟩])
          have HPL : Hid ((pairsP (l.take k)).length ≤ 900) := Lib.hid (by have := (pairsP_ok (l.take k)).2.2; rw [List.length_take] at this; omega)
          have HWC := Lib.hid (with_any (F := NoF) (w := wr.drew) (pairsP (l.take k)) _ ((HS.out.1.ext (Mods.refl _ wr).drew).sl encP_ok.len (by have := HPL.out; omega)) (by have := HPL.out; omega) x.1 x.2 false)
          clear hkb hv
          go_wp2_with fail
          refine (HK.out).mono ?_
          rintro e w1 ⟨rfl, rfl⟩
          go_wp2_with fail
          go_region_held3 (fun w' => w'.cell? ⟨b, off + k * 2, none⟩ = some (.string x.1) ∧ w'.cell? ⟨b, off + k * 2 + 1, none⟩ = some (.string x.2))
            (first | (with_reducible exact ⟨c0, c1⟩) | (with_reducible exact ⟨y0, y1⟩) | go_keep)
            (first
              | (go_at_call 75; (with_reducible refine (HWC.out).mono ?_); rintro e w4 ⟨v4, rfl, hO4, hm4⟩; have y0 := cellE (w := wr.drew) hm4 c0; have y1 := cellE (w := wr.drew) hm4 c1)
              | fail)
          have HS4 : Hid (Own NoF w4 w.heap.size 98 2 encP v4 (pairsP (l.take (k + 1))) ∧ Ext w w4) := Lib.hid ⟨by rw [HA.out]; exact hO4.rebase HS.out.2.size, HS.out.2.drew.trans hm4⟩
          clear hO4 hm4 c0 c1 y0 y1
          go_wp2_with fail
          go_roundg (gk - 1)
          case measure => omega
          case rel => exact ⟨k + 1, by omega, by go_num, HS4⟩
        · have hvI : ¬ (x.2.size : Int) ≤ 4096 := by omega
          have HA : Hid (pairsP (l.take (k + 1)) = pairsP (l.take k)) := Lib.hid (by rw [HX.out]; unfold addP; rw [if_neg (fun h => hv h.2)])
          clear hkb hv
          go_wp2_with fail
          refine (HK.out).mono ?_
          rintro e w1 ⟨rfl, rfl⟩
          go_wp2_with fail
          go_roundg (gk - 1)
          case measure => omega
          case rel => exact ⟨k + 1, by omega, by go_num, Lib.hid (by rw [HA.out]; exact HS.out)⟩
    · have HT : Hid (l.take k = l) := Lib.hid (List.take_of_length_le (by omega))
      go_wp2_with fail
      go_ret
      exact ⟨_, rfl, by have := HS.out.1; rw [HT.out] at this; exact this, HS.out.2⟩
end
end Go.Proofs.YtepafbokbfcbgaaGreatDoor
namespace Go.Proofs.YtepafbokbfcbgaaGreatDoor
open Go.RowKit
theorem aboveA_nil (gen many f id : Nat) : aboveA gen many f [] id = ([], []) := by cases f <;> rfl
theorem aboveA_step (gen many f : Nat) (y : Nat × ByteArray) (l : List (Nat × ByteArray)) (id : Nat) : aboveA gen many (f + 1) (y :: l) id = ((id, y.2) :: (aboveA gen many f ((y :: l).drop (grp many (l.length + 1))) (id + 1)).1, innerPage gen ((y :: l).take (grp many (l.length + 1))) id :: (aboveA gen many f ((y :: l).drop (grp many (l.length + 1))) (id + 1)).2) := rfl
theorem innerPage_eq (gen : Nat) (c : List (Nat × ByteArray)) (id : Nat) : innerPage gen c id = ⟨2, (id : Int), gen, bytesN (overN c)⟩ := rfl
theorem overN_ok {c : List (Nat × ByteArray)} (h2 : 2 ≤ c.length) (h : c.length ≤ 1000) (hk : ∀ y ∈ c, keyB y.2 = true ∧ y.1 < 4294967296) : okB (overN c) ∧ (bytesN (overN c)).length ≤ 100000 := by
  have hl : (overN c).leaf = false := rfl
  have h1 : (overN c).kids.length = c.length := List.length_map _
  have h3 : (overN c).keys.length = c.length - 1 := by unfold overN; simp
  have hkey : ∀ s ∈ (overN c).keys, keyB s = true := fun s hs => by
    unfold overN at hs
    simp only [List.mem_map] at hs
    obtain ⟨y, hy, rfl⟩ := hs
    exact (hk y (List.mem_of_mem_drop hy)).1
  constructor
  · unfold okB
    rw [if_neg (by rw [hl]; simp)]
    refine ⟨by omega, by omega, fun k s hs => ?_, fun k z hz => ?_⟩
    · have := (keyB_iff s).1 (hkey s (List.mem_of_getElem? hs)); omega
    · have hm := List.mem_of_getElem? hz
      unfold overN at hm
      simp only [List.mem_map] at hm
      obtain ⟨y, hy, rfl⟩ := hm
      have := (hk y hy).2
      omega
  · have hall : ∀ x ∈ (overN c).keys.zip (overN c).kids.tail, (bytesK x).length ≤ 37 := fun x hx => by
      obtain ⟨s, z⟩ := x
      exact bytesK_len (hkey s (List.of_mem_zip hx).1)
    have := flat_len bytesK 37 _ hall
    have hz : ((overN c).keys.zip (overN c).kids.tail).length ≤ 999 := by
      rw [List.length_zip, List.length_tail]; omega
    unfold bytesN
    rw [if_neg (by rw [hl]; simp), List.length_append, List.length_append, leB_length, leB_length]
    omega
theorem Sl.toI {F : Nat → Prop} {w : World} {v : Value} {l : List Nat} (h : Sl F w 1 encN v l) : Sl F w 1 encI v (l.map fun n : Nat => (n : Int)) := by
  obtain ⟨a, cap, rfl, h1, h2, h3, h4⟩ := h
  refine ⟨a, cap, by rw [List.length_map], by rw [List.length_map]; exact h1, h2, by rw [List.length_map]; exact h3, ?_⟩
  rcases h4 with rfl | ⟨b, off, rfl, hb, hF, hc⟩
  · exact .inl rfl
  · refine .inr ⟨b, off, rfl, hb, hF, fun i x hi j u hu => ?_⟩
    rw [List.getElem?_map] at hi
    obtain ⟨n, hn, rfl⟩ := Option.map_eq_some_iff.1 hi
    exact hc i n hn j u hu
end Go.Proofs.YtepafbokbfcbgaaGreatDoor
namespace Go.Proofs.YtepafbokbfcbgaaGreatDoor
open Go.RowKit
attribute [local go_sem ↓] Go.wp_at_zero Go.wp_at_succ
section
variable {F : Nat → Prop} {w w' wr w2 : World}
/-- the level above, and pages. -/
def AbvRes (w : World) (pb : Nat) (pv : Value) (ids : List (Nat × ByteArray)) (pgs : List PageA) (e : Ending) (w' : World) : Prop :=
  ∃ vi vf pv' xs', e = .returned (.tuple #[.agg #[vi, vf], pv']) ∧ Own NoF w' w.heap.size 3 1 encN vi (ids.map (·.1)) ∧ Own NoF w' w.heap.size 9 1 encS vf (ids.map (·.2)) ∧ PgsR w' pb pv' xs' ∧ xs'.map (·.1) = pgs ∧ (∀ g, pv'.ownBlock = some g → pv.ownBlock = some g ∨ w.heap.size ≤ g) ∧ Mods (fun k => pv.ownBlock = some k) w w'
set_option maxRecDepth 100000 in
set_option maxHeartbeats 4000000 in
theorem above_any (lv : List (Nat × ByteArray)) (vi vf pv : Value) (pb : Nat) (xs : List PgE) (hi : Sl (fun k => pv.ownBlock = some k) w 1 encN vi (lv.map (·.1))) (hf : Sl (fun k => pv.ownBlock = some k) w 1 encS vf (lv.map (·.2))) (hp : PgsR w pb pv xs) (hpb : pb ≤ w.heap.size) (hxl : xs.length ≤ 100000)
    (hk : ∀ y ∈ lv, keyB y.2 = true ∧ y.1 < 4294967296) (h1 : lv.length ≠ 1) (hlen : lv.length ≤ 1000) (many : Nat) (hm : 2 ≤ many) (hm2 : many ≤ 1000) (gen : Nat) (_hg : gen < 18446744073709551616) :
    Calls Tryz.prog 77 #[.agg #[vi, vf], .int .i64 (many : Int), .int .u64 (gen : Int), pv] w (AbvRes w pb pv (aboveA gen many lv.length lv (2 + xs.length)).1 (xs.map (·.1) ++ (aboveA gen many lv.length lv (2 + xs.length)).2)) := by
  obtain ⟨ia, ic, rfl, hi1, hi2, hi3, hii⟩ := _root_.id hi
  obtain ⟨fa, fc, rfl, hf1, hf2, hf3, hff⟩ := _root_.id hf
  unfold maxLen at hi2 hf2
  have HI := Lib.hid hi
  have HF := Lib.hid hf
  have HK := Lib.hid hk
  have hpgo : ∀ g, pv.ownBlock = some g → g < w.heap.size := fun g hg => (hp.row.lt g hg).2
  have HV0 : Hid (LvH (fun k => pv.ownBlock = some k) w (((w.alloc (.cells #[.slice ia lv.length ic, .slice fa lv.length fc] 154)).alloc (.cells #[.slice none 0 0, .slice none 0 0] 154)).alloc (.cells #[.slice none 0 0, .slice none 0 0] 154)) (w.heap.size + 1) (w.heap.size + 1 + 1) pb [] [] xs (.slice none 0 0) (.slice none 0 0) (.slice none 0 0) (.slice none 0 0) pv) := Lib.hid
    ⟨(((Mods.refl _ w).alloc _).alloc _).alloc _, by omega, by omega, Blk.alloc (heap_at (by simp)) _, heap_at (by simp), Own.nil _ _ _ _ _ _, Own.nil _ _ _ _ _ _, hp.ext ((((Mods.refl _ w).alloc _).alloc _).alloc _), fun g hg => .inl hg⟩
  have HB0 : Hid (Blk (((w.alloc (.cells #[.slice ia lv.length ic, .slice fa lv.length fc] 154)).alloc (.cells #[.slice none 0 0, .slice none 0 0] 154)).alloc (.cells #[.slice none 0 0, .slice none 0 0] 154)) w.heap.size #[.slice ia lv.length ic, .slice fa lv.length fc] 154) := Lib.hid (((Blk.new w _ _).alloc _).alloc _)
  simp only [List.length_map] at hi1 hi3 hf1 hf3 HI HF ⊢
  clear hi hf hp hk hii hff hpgo
  go_enter Tryz.func77, Tryz.ntmps77
  go_wp2_with fail
  go_loopg [3, 11] lv.length (fun m v3 v11 wr => ∃ (i f : Nat) (lv0 : List (Nat × ByteArray)) (ys : List PgE) (ui uf : Value), lv.length ≤ i + m ∧ i + m ≤ lv.length ∧ v11 = .int .i64 (i : Int) ∧ ys.length ≤ xs.length + i ∧ lv0.length ≤ i ∧ m ≠ 1 ∧ Hid (LvH (fun k => pv.ownBlock = some k) w wr (w.heap.size + 1) (w.heap.size + 1 + 1) pb (lv0.map (·.1)) (lv0.map (·.2)) ys ui uf ui uf v3) ∧
    Hid (Blk wr w.heap.size #[.slice ia lv.length ic, .slice fa lv.length fc] 154) ∧ Hid (lv0 ++ (aboveA gen many f (lv.drop i) (2 + ys.length)).1 = (aboveA gen many lv.length lv (2 + xs.length)).1 ∧ ys.map (·.1) ++ (aboveA gen many f (lv.drop i) (2 + ys.length)).2 = xs.map (·.1) ++ (aboveA gen many lv.length lv (2 + xs.length)).2 ∧ (lv.drop i).length ≤ f))
  case atStart => exact ⟨0, lv.length, [], xs, _, _, by omega, by omega, rfl, by omega, by simp, h1, HV0, HB0, Lib.hid ⟨rfl, rfl, by simp⟩⟩
  case round =>
    obtain ⟨i, f, lv0, ys, ui, uf, him, him2, rfl, hyl, hl0, hm1, HV, HB, HQ⟩ := hrel
    obtain ⟨pa, pc, rfl, hp1, hp2⟩ := HV.out.pg.row.form
    unfold maxLen at hp2
    have b0 := HB.out.cell (o := 0) (v := .slice ia lv.length ic) rfl
    have b1 := HB.out.cell (o := 1) (v := .slice fa lv.length fc) rfl
    by_cases hlt : i < lv.length
    · obtain ⟨k, hk⟩ : ∃ k, k = grp many (lv.length - i) := ⟨_, rfl⟩
      obtain ⟨q, hq⟩ : ∃ q, q = min many (lv.length - i) := ⟨_, rfl⟩
      have hkg := grp_le many (lv.length - i) hm (by omega)
      rw [← hk] at hkg
      obtain ⟨hk2, hkn, hkm, hk1⟩ := hkg
      have hkq : k = if q + 1 = lv.length - i then lv.length - i else q := by rw [hk, hq]; rfl
      have hmin : min ((i : Int) + (many : Int)) (lv.length : Int) = (i : Int) + (q : Int) := by omega
      have hqb : (i : Int) + (q : Int) ≤ 100000 := by omega
      have hq0 : 0 < q := by omega
      obtain ⟨ib, ioff, rfl⟩ : ∃ ib ioff, ia = some ⟨ib, ioff, none⟩ := by
        obtain ⟨a', c', e, _, _, _, e5⟩ := HI.out
        injection e with e _ _
        subst e
        rcases e5 with e5 | ⟨b, off, e5, _⟩
        · have h9 := congrArg List.length e5; rw [List.length_map, List.length_nil] at h9; omega
        · exact ⟨b, off, e5⟩
      obtain ⟨fb, foff, rfl⟩ : ∃ fb foff, fa = some ⟨fb, foff, none⟩ := by
        obtain ⟨a', c', e, _, _, _, e5⟩ := HF.out
        injection e with e _ _
        subst e
        rcases e5 with e5 | ⟨b, off, e5, _⟩
        · have h9 := congrArg List.length e5; rw [List.length_map, List.length_nil] at h9; omega
        · exact ⟨b, off, e5⟩
      have HKK := Lib.hid hk
      have HQQ := Lib.hid hq
      have HKQ := Lib.hid hkq
      clear hk hq hkq
      go_upto_if 33 with fail
      go_cut [12] (fun v12 wx => v12 = .int .i64 ((i : Int) + (k : Int)) ∧ Hid (wx = wr))
      case first =>
        by_cases hqn : q + 1 = lv.length - i
        · have hqb2 : ((i : Int) + (q : Int) == (lv.length : Int) - 1) = true := by rw [beq_iff_eq]; omega
          have hke : Hid (k = lv.length - i) := Lib.hid (by rw [HKQ.out, if_pos hqn])
          have hke2 : (lv.length : Int) = (i : Int) + (k : Int) := by have := hke.out; omega
          have HE2 := Lib.hid hke2
          clear hke2
          go_wp2_with fail
          go_meet
          exact ⟨val_int HE2.out, Lib.hid rfl⟩
        · have hqb2 : ((i : Int) + (q : Int) == (lv.length : Int) - 1) = false := by rw [beq_eq_false_iff_ne]; omega
          have hke : Hid (k = q) := Lib.hid (by rw [HKQ.out, if_neg hqn])
          go_wp2_with fail
          go_meet
          exact ⟨val_int (by rw [hke.out]), Lib.hid rfl⟩
      obtain ⟨rfl, hwc⟩ := hcut
      obtain rfl : wc = wr := hwc.out
      obtain ⟨c, hc⟩ : ∃ c, c = (lv.drop i).take k := ⟨_, rfl⟩
      have hcl : c.length = k := by rw [hc, List.length_take, List.length_drop]; omega
      have HC := Lib.hid hc
      have HCL := Lib.hid hcl
      have hne1 : ¬ ic = i := by omega
      have hne2 : ¬ fc = i + 1 := by omega
      have i0 : (0 : Int) ≤ (i : Int) := by omega
      have i1 : (i : Int) ≤ (i : Int) + (k : Int) := by omega
      have i2 : (i : Int) + (k : Int) ≤ (ic : Int) := by omega
      have i3 : (i : Int) + (k : Int) ≤ (fc : Int) := by omega
      have i4 : (0 : Int) ≤ (i : Int) + 1 := by omega
      have i5 : (i : Int) + 1 ≤ (i : Int) + (k : Int) := by omega
      have i6 : (0 : Int) ≤ (i : Int) + (k : Int) := by omega
      have hw1 : IntKind.i64.wrap ((i : Int) + 1) = (i : Int) + 1 := IntWalk.i64_in _ (by omega)
      have hw2 : ((i : Int) + 1).toNat = i + 1 := by omega
      have hw3 : ((i : Int) + (k : Int)).toNat = i + k := by omega
      clear hc hcl hwc hmin
      go_wp2_with fail
      go_region_held3 (fun w' => w'.cell? ⟨w.heap.size, 0, none⟩ = some (.slice (some ⟨ib, ioff, none⟩) lv.length ic) ∧ w'.cell? ⟨w.heap.size, 1, none⟩ = some (.slice (some ⟨fb, foff, none⟩) lv.length fc))
        (first | (with_reducible exact ⟨b0, b1⟩) | go_keep)
        (fail)
      have hm5 : Ext wc (wc.alloc (.cells #[.bool false, .slice none 0 0, .slice (some ⟨fb, foff + (i + 1), none⟩) (i + k - (i + 1)) (fc - (i + 1)), .slice (some ⟨ib, ioff + i, none⟩) k (ic - i)] 134)).drew := ((Mods.refl _ wc).alloc _).drew
      have hSI : Sl (fun k => pv.ownBlock = some k) (wc.alloc (.cells #[.bool false, .slice none 0 0, .slice (some ⟨fb, foff + (i + 1), none⟩) (i + k - (i + 1)) (fc - (i + 1)), .slice (some ⟨ib, ioff + i, none⟩) k (ic - i)] 134)).drew 1 encI (.slice (some ⟨ib, ioff + i, none⟩) k (ic - i)) (overN c).kids := by
        have h9 := ((HI.out.mods HV.out.mods).sub i (i + k) (by omega) (by omega)).toI
        rw [Nat.mul_one, show i + k - i = k by omega] at h9
        have e : (((lv.map (·.1)).drop i).take k).map (fun n : Nat => (n : Int)) = (overN c).kids := by
          rw [HC.out]; unfold overN; simp [List.map_take, List.map_drop]; rfl
        rw [e] at h9
        exact h9.ext hm5
      have hSK : Sl (fun k => pv.ownBlock = some k) (wc.alloc (.cells #[.bool false, .slice none 0 0, .slice (some ⟨fb, foff + (i + 1), none⟩) (i + k - (i + 1)) (fc - (i + 1)), .slice (some ⟨ib, ioff + i, none⟩) k (ic - i)] 134)).drew 1 encS (.slice (some ⟨fb, foff + (i + 1), none⟩) (i + k - (i + 1)) (fc - (i + 1))) (overN c).keys := by
        have h9 := (HF.out.mods HV.out.mods).sub (i + 1) (i + k) (by omega) (by omega)
        rw [Nat.mul_one] at h9
        have e : ((lv.map (·.2)).drop (i + 1)).take (i + k - (i + 1)) = (overN c).keys := by
          rw [HC.out]; unfold overN
          rw [show i + k - (i + 1) = k - 1 by omega]
          simp only [List.drop_take, List.drop_drop, List.map_take, List.map_drop]
        rw [e] at h9
        exact h9.ext hm5
      have hck : ∀ y ∈ c, keyB y.2 = true ∧ y.1 < 4294967296 := fun y hy => HK.out y (by rw [HC.out] at hy; exact List.mem_of_mem_drop (List.mem_of_mem_take hy))
      obtain ⟨hok, hbl⟩ := overN_ok (c := c) (by have := HCL.out; omega) (by have := HCL.out; omega) hck
      have hpbs : pb ≤ (wc.alloc (.cells #[.bool false, .slice none 0 0, .slice (some ⟨fb, foff + (i + 1), none⟩) (i + k - (i + 1)) (fc - (i + 1)), .slice (some ⟨ib, ioff + i, none⟩) k (ic - i)] 134)).drew.heap.size := by have h9 := HV.out.mods.size; simp; omega
      have HBY := Lib.hid (bytes07_any (overN c) (.slice none 0 0) _ _ (Sl.nil _ _ _ _) hSK hSI hok hbl)
      have HB5 := Lib.hid (HB.out.ext hm5)
      have HV5 := Lib.hid (HV.out.ext hm5)
      have hx5 : Blk (wc.alloc (.cells #[.bool false, .slice none 0 0, .slice (some ⟨fb, foff + (i + 1), none⟩) (i + k - (i + 1)) (fc - (i + 1)), .slice (some ⟨ib, ioff + i, none⟩) k (ic - i)] 134)).drew wc.heap.size #[.bool false, .slice none 0 0, .slice (some ⟨fb, foff + (i + 1), none⟩) (i + k - (i + 1)) (fc - (i + 1)), .slice (some ⟨ib, ioff + i, none⟩) k (ic - i)] 134 := (Blk.new wc _ _).drew
      have x0 := hx5.cell (o := 0) (v := .bool false) rfl
      have x1 := hx5.cell (o := 1) (v := .slice none 0 0) rfl
      have x2 := hx5.cell (o := 2) (v := .slice (some ⟨fb, foff + (i + 1), none⟩) (i + k - (i + 1)) (fc - (i + 1))) rfl
      have x3 := hx5.cell (o := 3) (v := .slice (some ⟨ib, ioff + i, none⟩) k (ic - i)) rfl
      clear hm5 hSI hSK hck hok hbl hx5 hw1 hw2 hw3 hne1 hne2
      go_wp2_with fail
      refine (HBY.out).mono ?_
      rintro e w8 ⟨v8, rfl, hO8, hm8⟩
      obtain ⟨ba, bc, rfl, _, _⟩ := hO8.form
      obtain ⟨bz, hbz⟩ : ∃ bz, bz = (bytesN (overN c)).length := ⟨_, rfl⟩
      rw [← hbz] at hO8 ⊢
      have HV8 := Lib.hid (HV5.out.ext hm8)
      have HB8 := Lib.hid (HB5.out.ext hm8)
      have HO8 : Hid (Own NoF w8 pb 5 1 encB (.slice ba bz bc) (bytesN (overN c))) := Lib.hid (hO8.rebase hpbs)
      have hb8 := HV8.out.lev.lt
      clear hO8 hm8 hbz x0 x1 x2 x3
      go_wp2_with (first
        | (at_builtin; refine wpl_app2 Tryz.elPg encPg_ok rfl _ _ rfl pb (.slice pa ys.length pc) _ ys [((⟨2, 2 + (ys.length : Int), gen, bytesN (overN c)⟩, (ba, bz, bc)) : PgE)] rfl rfl (HV8.out.pg.row.ext ((Mods.refl _ _).alloc _)) (Sl.one (F := NoF) (heap_at (by simp)) (fun f => f)) (by simp only [List.length_cons, List.length_nil]; omega) (by simp; omega) (fun f => f) ?_; simp only [List.length_cons, List.length_nil, Nat.zero_add]; intro a9 c9 w9 hO9 hm9 hat9; have hV9 := (HV8.out.ext ((Mods.refl _ _).alloc (.cells #[.int .i64 2, .int .i64 (2 + (ys.length : Int)), .int .u64 (gen : Int), .slice ba bz bc] 91))).pages hm9 ((HV8.out.pg.ext ((Mods.refl _ _).alloc (.cells #[.int .i64 2, .int .i64 (2 + (ys.length : Int)), .int .u64 (gen : Int), .slice ba bz bc] 91))).app hm9 hO9 (fun y hy => by rw [List.mem_singleton.1 hy]; exact HO8.out.ext ((Mods.refl _ _).alloc _))) (fun g hg => by
              rcases hat9 with e | e
              · exact .inl (e ▸ hg)
              · rw [e] at hg; injection hg with hg; have h9 := HV.out.mods.size; have h7 := HV8.out.lev.lt; have h6 := HV8.out.mods.size; simp at hg; right; omega); have l0 := hV9.lev.cell (o := 0) (v := ui) rfl; have hb9 := hV9.lev.lt; have hB9 := (HB8.out.alloc (.cells #[.int .i64 2, .int .i64 (2 + (ys.length : Int)), .int .u64 (gen : Int), .slice ba bz bc] 91)).mods hm9 (fun e => Own.notB HV8.out.pg.row HB8.out (by decide) _ e rfl))
        | (at_builtin; refine wpl_app2 Tryz.elI encN_ok rfl _ _ rfl (w.heap.size + 1 + 1 + 1) ui _ (lv0.map (·.1)) [2 + ys.length] rfl rfl (hV9.ids.ext ((Mods.refl _ _).alloc _)) (Sl.oneN (F := NoF) (heap_at (by simp)) (by omega) (fun f => f)) (by simp only [List.length_map, List.length_cons, List.length_nil]; omega) (by simp at hb9 ⊢; omega) (fun f => f) ?_; simp only [List.length_map, List.length_cons, List.length_nil, Nat.zero_add]; intro a10 c10 w10 hO10 hm10 hat10; have hV10 := (hV9.ext ((Mods.refl _ _).alloc (.cells #[.int .i64 (2 + (ys.length : Int))] 3))).appI hm10 hO10; have z0 := hV10.lev.cell (o := 0) (v := ui) rfl; have zf := hV10.lev.frozen 0; have hB10 := (hB9.alloc (.cells #[.int .i64 (2 + (ys.length : Int))] 3)).mods hm10 (fun e => Own.notB hV9.ids hB9 (by decide) _ e rfl)))
      have HV10 : Hid (LvH (fun k => pv.ownBlock = some k) w (w10.setCell ⟨w.heap.size + 1 + 1, 0, none⟩ (.slice a10 (lv0.length + 1) c10)) (w.heap.size + 1) (w.heap.size + 1 + 1) pb (lv0.map (·.1) ++ [2 + ys.length]) (lv0.map (·.2)) (ys ++ [((⟨2, 2 + (ys.length : Int), gen, bytesN (overN c)⟩, (ba, bz, bc)) : PgE)]) (.slice a10 (lv0.length + 1) c10) uf (.slice a10 (lv0.length + 1) c10) uf (.slice a9 (ys.length + 1) c9)) := Lib.hid
        (hV10.put 0 (.slice a10 (lv0.length + 1) c10) rfl)
      have HB10 : Hid (Blk (w10.setCell ⟨w.heap.size + 1 + 1, 0, none⟩ (.slice a10 (lv0.length + 1) c10)) w.heap.size #[.slice (some ⟨ib, ioff, none⟩) lv.length ic, .slice (some ⟨fb, foff, none⟩) lv.length fc] 154) := Lib.hid (hB10.set_other (p := ⟨w.heap.size + 1 + 1, 0, none⟩) (by show w.heap.size ≠ w.heap.size + 1 + 1; omega) _)
      obtain ⟨x0, hx0⟩ : ∃ x0, lv[i]? = some x0 := ⟨_, List.getElem?_eq_getElem hlt⟩
      have d0 : (w10.setCell ⟨w.heap.size + 1 + 1, 0, none⟩ (.slice a10 (lv0.length + 1) c10)).cell? ⟨fb, foff + i, none⟩ = some (.string x0.2) := by
        have h9 := (HF.out.mods HV10.out.mods).cellsAt (j := i) (x := x0.2) (by rw [List.getElem?_map, hx0]; rfl) 0 (.string x0.2) rfl
        rw [show foff + i = foff + i * 1 + 0 by omega]
        exact h9
      have HX0 := Lib.hid hx0
      have l1 := HV10.out.lev.cell (o := 1) (v := uf) rfl
      have e1 := HB10.out.cell (o := 1) (v := .slice (some ⟨fb, foff, none⟩) lv.length fc) rfl
      have d0b := fun o => cellE ((Mods.refl _ _).alloc o) d0
      have l1b := fun o => cellE ((Mods.refl _ _).alloc o) l1
      have e1b := fun o => cellE ((Mods.refl _ _).alloc o) e1
      have hb10 := HV10.out.lev.lt
      have j1 : (i : Int) < (lv.length : Int) := by omega
      have HDR : Hid (∃ f', (lv.drop (i + k)).length ≤ f' ∧ (lv0 ++ [(2 + ys.length, x0.2)]) ++ (aboveA gen many f' (lv.drop (i + k)) (2 + (ys.length + 1))).1 = (aboveA gen many lv.length lv (2 + xs.length)).1 ∧ (ys ++ [((⟨2, 2 + (ys.length : Int), gen, bytesN (overN c)⟩, (ba, bz, bc)) : PgE)]).map (·.1) ++ (aboveA gen many f' (lv.drop (i + k)) (2 + (ys.length + 1))).2 = xs.map (·.1) ++ (aboveA gen many lv.length lv (2 + xs.length)).2) := Lib.hid (by
        obtain ⟨q1, q2, q3⟩ := HQ.out
        have hdr : lv.drop i = x0 :: lv.drop (i + 1) := by
          obtain ⟨h8, h9⟩ := List.getElem?_eq_some_iff.1 hx0
          rw [← h9]; exact List.drop_eq_getElem_cons h8
        have hrl : (lv.drop (i + 1)).length + 1 = lv.length - i := by rw [List.length_drop]; omega
        rw [List.length_drop] at q3
        obtain ⟨f', rfl⟩ : ∃ f', f = f' + 1 := ⟨f - 1, by omega⟩
        refine ⟨f', by rw [List.length_drop]; omega, ?_⟩
        have hst := aboveA_step gen many f' x0 (lv.drop (i + 1)) (2 + ys.length)
        rw [hrl, ← HKK.out, ← hdr, List.drop_drop, ← HC.out] at hst
        rw [hst] at q1 q2
        refine ⟨?_, ?_⟩
        · rw [← q1]; simp [Nat.add_assoc]
        · rw [← q2, innerPage_eq]; simp [Nat.add_assoc])
      clear hV9 hO9 hm9 hat9 l0 hB9 hV10 hO10 hm10 hat10 z0 zf hB10 hx0 b0 b1
      go_wp2_with fail
      go_region_law
        (first
          | (refine step_app2 Tryz.elS encS_ok (by rfl) _ _ (by rfl) (w.heap.size + 1 + 1 + 1) uf _ (lv0.map (·.2)) [x0.2] (by rfl) (by rfl) (HV10.out.drew.fst.ext ((Mods.refl _ _).alloc _)) (Sl.one (F := NoF) (heap_at (by simp)) (fun f => f)) (by simp only [List.length_map, List.length_cons, List.length_nil]; omega) (by simp at hb10 ⊢; omega) (fun f => f) ?_; simp only [List.length_map, List.length_cons, List.length_nil, Nat.zero_add]; intro a11 c11 w11 hO11 hm11 hat11; have hV11 := (HV10.out.drew.ext ((Mods.refl _ _).alloc (.cells #[.string x0.2] 9))).appF hm11 hO11; have z1 := hV11.lev.cell (o := 1) (v := uf) rfl; have zf := hV11.lev.frozen 1; have hB11 := (HB10.out.drew.alloc (.cells #[.string x0.2] 9)).mods hm11 (fun e => Own.notB HV10.out.drew.fst (Blk.drew HB10.out) (by decide) _ e rfl))
          | fail)
      all_goals
        have HV12 : Hid (LvH (fun k => pv.ownBlock = some k) w (w11.setCell ⟨w.heap.size + 1 + 1, 1, none⟩ (.slice a11 (lv0.length + 1) c11)) (w.heap.size + 1) (w.heap.size + 1 + 1) pb ((lv0 ++ [(2 + ys.length, x0.2)]).map (·.1)) ((lv0 ++ [(2 + ys.length, x0.2)]).map (·.2)) (ys ++ [((⟨2, 2 + (ys.length : Int), gen, bytesN (overN c)⟩, (ba, bz, bc)) : PgE)]) (.slice a10 (lv0.length + 1) c10) (.slice a11 (lv0.length + 1) c11) (.slice a10 (lv0.length + 1) c10) (.slice a11 (lv0.length + 1) c11) (.slice a9 (ys.length + 1) c9)) := Lib.hid (by
          rw [List.map_append, List.map_append]
          exact hV11.put 1 (.slice a11 (lv0.length + 1) c11) rfl)
        have HB12 : Hid (Blk (w11.setCell ⟨w.heap.size + 1 + 1, 1, none⟩ (.slice a11 (lv0.length + 1) c11)) w.heap.size #[.slice (some ⟨ib, ioff, none⟩) lv.length ic, .slice (some ⟨fb, foff, none⟩) lv.length fc] 154) := Lib.hid (hB11.set_other (p := ⟨w.heap.size + 1 + 1, 1, none⟩) (by show w.heap.size ≠ w.heap.size + 1 + 1; omega) _)
        clear hV11 hO11 hm11 hat11 z1 zf d0 d0b l1 l1b e1 e1b hB11
        go_wp2_with fail
        go_roundg (gk - k)
        case measure => omega
        case rel =>
          obtain ⟨f', e1, e2, e3⟩ := HDR.out
          exact ⟨i + k, f', lv0 ++ [(2 + ys.length, x0.2)], _, _, _, by omega, by omega, by go_num, by rw [List.length_append, List.length_cons, List.length_nil]; omega, by rw [List.length_append, List.length_cons, List.length_nil]; omega, by omega, HV12, HB12, Lib.hid ⟨by rw [List.length_append, List.length_cons, List.length_nil]; exact e2, by rw [List.length_append, List.length_cons, List.length_nil]; exact e3, e1⟩⟩
    · have hdr : lv.drop i = [] := List.drop_eq_nil_of_le (by omega)
      obtain ⟨q1, q2, q3⟩ := HQ.out
      rw [hdr, aboveA_nil] at q1 q2
      simp only [List.append_nil] at q1 q2
      have HQ1 := Lib.hid q1
      have HQ2 := Lib.hid q2
      obtain ⟨pi, pic, rfl, _, _⟩ := HV.out.ids.form
      obtain ⟨pf, pfc, rfl, _, _⟩ := HV.out.fst.form
      have l0 := HV.out.lev.cell (o := 0) (v := .slice pi (lv0.map (·.1)).length pic) rfl
      have l1 := HV.out.lev.cell (o := 1) (v := .slice pf (lv0.map (·.2)).length pfc) rfl
      have r0 := HV.out.res.cell (o := 0) (v := .slice none 0 0) rfl
      have r1 := HV.out.res.cell (o := 1) (v := .slice none 0 0) rfl
      have rf := HV.out.res.frozen
      have HRB : Hid (Blk ((wr.setCell ⟨w.heap.size + 1, 0, none⟩ (.slice pi (lv0.map (·.1)).length pic)).setCell ⟨w.heap.size + 1, 1, none⟩ (.slice pf (lv0.map (·.2)).length pfc)) (w.heap.size + 1) #[.slice pi (lv0.map (·.1)).length pic, .slice pf (lv0.map (·.2)).length pfc] 154) := Lib.hid (by simpa using (HV.out.res.set 0 (.slice pi (lv0.map (·.1)).length pic)).set 1 (.slice pf (lv0.map (·.2)).length pfc))
      have HMR : Hid (Mods (fun k => k = w.heap.size + 1) wr ((wr.setCell ⟨w.heap.size + 1, 0, none⟩ (.slice pi (lv0.map (·.1)).length pic)).setCell ⟨w.heap.size + 1, 1, none⟩ (.slice pf (lv0.map (·.2)).length pfc))) := Lib.hid ((Mods.at (fun k => k = w.heap.size + 1) wr _ 0 _ rfl).trans (Mods.at (fun k => k = w.heap.size + 1) _ _ 1 _ rfl))
      have HMX : Hid (Mods (fun k => pv.ownBlock = some k) w ((wr.setCell ⟨w.heap.size + 1, 0, none⟩ (.slice pi (lv0.map (·.1)).length pic)).setCell ⟨w.heap.size + 1, 1, none⟩ (.slice pf (lv0.map (·.2)).length pfc))) := Lib.hid ((HV.out.mods.setCell (p := ⟨w.heap.size + 1, 0, none⟩) (.inl (by show w.heap.size ≤ w.heap.size + 1; omega)) _).setCell (p := ⟨w.heap.size + 1, 1, none⟩) (.inl (by show w.heap.size ≤ w.heap.size + 1; omega)) _)
      simp only [List.length_map] at l0 l1 HRB HMR HMX
      clear q1 q2 q3 hdr
      go_wp2_with fail
      refine bodyPost_ret (results_row_tmp rfl _ _ (w.heap.size + 1) 154 #[.slice pi lv0.length pic, .slice pf lv0.length pfc] _ rfl HRB.out Tryz.underlying154 rfl Tryz.levSize) rfl ?_
      have hls : ∀ g, w.heap.size + 1 + 1 + 1 ≤ g → ¬ g = w.heap.size + 1 := fun g hg e => by omega
      have e1 := (HV.out.ids.mods HMR.out (fun g hg => hls g (HV.out.ids.lt g hg).1)).rebase (base' := w.heap.size) (by omega)
      have e2 := (HV.out.fst.mods HMR.out (fun g hg => hls g (HV.out.fst.lt g hg).1)).rebase (base' := w.heap.size) (by omega)
      rw [List.length_map] at e1 e2
      exact ⟨_, _, _, ys, rfl, by rw [← HQ1.out]; exact e1, by rw [← HQ1.out]; exact e2, HV.out.pg.blk HV.out.res HMR.out (by decide) (by decide), HQ2.out, HV.out.pgo, HMX.out⟩
end
end Go.Proofs.YtepafbokbfcbgaaGreatDoor
namespace Go.Proofs.YtepafbokbfcbgaaGreatDoor
theorem leavesA_ids (gen many : Nat) : ∀ (f : Nat) (l : List PairS) (id : Nat), ∀ y ∈ (leavesA gen many f l id).1, y.1 < id + (leavesA gen many f l id).2.length
  | 0, l, id, y, h => by simp [leavesA] at h
  | f + 1, [], id, y, h => by simp [leavesA] at h
  | f + 1, x :: l, id, y, h => by
    rw [leavesA_step] at h ⊢
    have hl : 1 ≤ (leafPages gen ((x :: l).take many) id).length := by rw [leafPages_len]; omega
    simp only [List.length_append]
    rcases List.mem_cons.1 h with rfl | h
    · simp only; omega
    · have := leavesA_ids gen many f _ _ y h
      omega
theorem aboveA_ids (gen many : Nat) : ∀ (f : Nat) (l : List (Nat × ByteArray)) (id : Nat), ∀ y ∈ (aboveA gen many f l id).1, y.1 < id + (aboveA gen many f l id).2.length
  | 0, l, id, y, h => by simp [aboveA] at h
  | f + 1, [], id, y, h => by simp [aboveA] at h
  | f + 1, x :: l, id, y, h => by
    rw [aboveA_step] at h ⊢
    simp only [List.length_cons]
    rcases List.mem_cons.1 h with rfl | h
    · simp only; omega
    · have := aboveA_ids gen many f _ _ y h
      omega
theorem aboveA_heads (gen many : Nat) : ∀ (f : Nat) (l : List (Nat × ByteArray)) (id : Nat), (∀ y ∈ l, keyB y.2 = true) → ∀ y ∈ (aboveA gen many f l id).1, keyB y.2 = true
  | 0, l, id, _, y, h => by simp [aboveA] at h
  | f + 1, [], id, _, y, h => by simp [aboveA] at h
  | f + 1, x :: l, id, hk, y, h => by
    rw [aboveA_step] at h
    rcases List.mem_cons.1 h with rfl | h
    · exact hk x List.mem_cons_self
    · exact aboveA_heads gen many f _ _ (fun z hz => hk z (List.mem_of_mem_drop hz)) y h
theorem chN_few {x : PairS} (h : x.2.size ≤ 4096) : chN x ≤ 18 := by have := chPages_few 0 h 0; rwa [chPages_len] at this
theorem sum_few : ∀ {l : List PairS}, (∀ x ∈ l, x.2.size ≤ 4096) → (l.map chN).sum ≤ 18 * l.length
  | [], _ => by simp
  | x :: l, h => by
    have h1 := sum_few (fun y hy => h y (List.mem_cons_of_mem x hy))
    have h2 := chN_few (h x List.mem_cons_self)
    simp only [List.map_cons, List.sum_cons, List.length_cons]
    omega
/-- a level, while levels are laid above one another. -/
structure LvOk (d : Nat) (lv : List (Nat × ByteArray)) (ps : List PageA) : Prop where
  keys : ∀ y ∈ lv, keyB y.2 = true
  ids : ∀ y ∈ lv, y.1 < 2 + ps.length
  len : lv.length ≤ 1000
  few : ps.length ≤ 20000 + 1000 * d
theorem LvOk.leaves {l : List PairS} (hk : PairsOk l) (hl : l.length ≤ 1000) (gen many : Nat) (hm : 1 ≤ many) : LvOk 0 (leavesA gen many l.length l 2).1 (leavesA gen many l.length l 2).2 := by
  obtain ⟨h1, h2⟩ := leaves_len gen many hm l.length l 2 (Nat.le_refl _)
  have h3 := sum_few (fun x hx => (hk x hx).2)
  exact ⟨leaves_heads gen many _ _ _ hk, leavesA_ids gen many _ _ _, by omega, by omega⟩
theorem LvOk.above {d : Nat} {lv : List (Nat × ByteArray)} {ps : List PageA} (h : LvOk d lv ps) (gen many : Nat) (hm : 2 ≤ many) (h1 : lv.length ≠ 1) : LvOk (d + 1) (aboveA gen many lv.length lv (2 + ps.length)).1 (ps ++ (aboveA gen many lv.length lv (2 + ps.length)).2) := by
  obtain ⟨h2, h3⟩ := above_half gen many hm lv.length lv (2 + ps.length) (Nat.le_refl _) h1
  have h4 := h.len
  have h5 := h.few
  exact ⟨aboveA_heads gen many _ _ _ h.keys, fun y hy => by
    have := aboveA_ids gen many _ _ _ y hy
    rw [List.length_append]; omega, by omega, by rw [List.length_append]; omega⟩
end Go.Proofs.YtepafbokbfcbgaaGreatDoor
namespace Go.Proofs.YtepafbokbfcbgaaGreatDoor
open Go.RowKit
attribute [local go_sem ↓] Go.wp_at_zero Go.wp_at_succ
theorem Tryz.treeSize : (Tryz.prog.info? 27).map (·.size) = some 3 := by kernel_rfl
section
variable {F : Nat → Prop} {w w' wr w2 : World}
/-- while levels are laid. -/
structure BdS (w wr : World) (L : Nat) (lv : List (Nat × ByteArray)) (xs : List PgE) (vi vf pv : Value) : Prop where
  ext : Ext w wr
  res : Blk wr w.heap.size #[.slice none 0 0, .int .i64 0, .int .i64 0] 27
  lev : Blk wr L #[vi, vf] 154
  hL : w.heap.size < L
  ids : Own NoF wr w.heap.size 3 1 encN vi (lv.map (·.1))
  fst : Own NoF wr w.heap.size 9 1 encS vf (lv.map (·.2))
  pg : PgsR wr (w.heap.size + 1) pv xs
theorem BdS.above {L : Nat} {lv lv2 : List (Nat × ByteArray)} {xs xs2 : List PgE} {vi vf pv vi2 vf2 pv2 : Value} (h : BdS w wr L lv xs vi vf pv) (m : Mods (fun k => pv.ownBlock = some k) wr w2) (hI : Own NoF w2 wr.heap.size 3 1 encN vi2 (lv2.map (·.1))) (hF : Own NoF w2 wr.heap.size 9 1 encS vf2 (lv2.map (·.2))) (hP : PgsR w2 (w.heap.size + 1) pv2 xs2) :
    BdS w ((w2.setCell ⟨L, 0, none⟩ vi2).setCell ⟨L, 1, none⟩ vf2) L lv2 xs2 vi2 vf2 pv2 := by
  have hL := h.hL
  have hlt := h.lev.lt
  have hl2 := h.lev.mods m (fun e => Own.notB h.pg.row h.lev (by decide) _ e rfl)
  have m2 : Mods (fun k => k = L) w2 ((w2.setCell ⟨L, 0, none⟩ vi2).setCell ⟨L, 1, none⟩ vf2) := ((Mods.refl (fun k => k = L) w2).setCell (F := fun k => k = L) (p := ⟨L, 0, none⟩) (.inr rfl) _).setCell (F := fun k => k = L) (p := ⟨L, 1, none⟩) (.inr rfl) _
  exact ⟨(h.ext.trans' m (fun i hi e => by have := (h.pg.row.lt i e).1; omega)).trans' m2 (fun i hi e => by omega), (h.res.mods m (fun e => Own.notB h.pg.row h.res (by decide) _ e rfl)).mods m2 (by omega), by simpa using (hl2.set 0 vi2).set 1 vf2, hL,
    (hI.rebase (by omega)).mods m2 (fun g hg e => Own.notB hI hl2 (by decide) g hg e), (hF.rebase (by omega)).mods m2 (fun g hg e => Own.notB hF hl2 (by decide) g hg e), hP.blk hl2 m2 (by decide) (by decide)⟩
/-- a tree. -/
def TreeRes (w : World) (r : List PageA × Nat × Nat) (e : Ending) (w' : World) : Prop :=
  ∃ pv xs, e = .returned (.agg #[pv, .int .i64 (r.2.1 : Int), .int .i64 (r.2.2 : Int)]) ∧ PgsR w' w.heap.size pv xs ∧ xs.map (·.1) = r.1 ∧ Ext w w'
set_option maxRecDepth 100000 in
set_option maxHeartbeats 2000000 in
theorem build_any (l : List PairS) (lv : Value) (hl : Sl F w 2 encP lv l) (hk : PairsOk l) (hlen : l.length ≤ 1000) (entries kids : Nat) (he : 1 ≤ entries) (he2 : entries ≤ 1000) (hm : 2 ≤ kids) (hm2 : kids ≤ 1000) (gen : Nat) (hg : gen < 18446744073709551616) :
    Calls Tryz.prog 48 #[lv, .int .i64 (entries : Int), .int .i64 (kids : Int), .int .u64 (gen : Int), .int .i64 256] w (TreeRes w (buildA gen entries kids l)) := by
  have m0 : Ext w (w.alloc (.cells #[.slice none 0 0, .int .i64 0, .int .i64 0] 27)) := (Mods.refl _ w).alloc _
  have HB0 := Lib.hid (Blk.new w #[.slice none 0 0, .int .i64 0, .int .i64 0] 27)
  have HLV := Lib.hid (leaves_any l lv (hl.ext m0) hk hlen entries he he2 gen hg)
  have HM0 := Lib.hid m0
  have HK := Lib.hid hk
  obtain ⟨la, lc, rfl, h1, h2, h3, _⟩ := hl
  unfold maxLen at h2
  clear m0 hk
  by_cases hz : l.length = 0
  · have hl0 : l = [] := List.eq_nil_of_length_eq_zero hz
    have hzb : ((l.length : Int) == 0) = true := by rw [beq_iff_eq]; omega
    have HBA : Hid (buildA gen entries kids l = ([], 0, 0)) := Lib.hid (by unfold buildA; rw [if_pos hl0])
    rw [hz] at h1 h3 ⊢
    clear hl0 hzb hz
    go_enter Tryz.func48, Tryz.ntmps48
    go_wp2_with fail
    refine bodyPost_ret (results_cell_row rfl _ _ w.heap.size 27 #[.slice none 0 0, .int .i64 0, .int .i64 0] (0, 0) _ rfl HB0.out Tryz.underlying27 rfl Tryz.treeSize) rfl ?_
    exact ⟨_, [], by rw [HBA.out]; rfl, PgsR.nil _ _, by rw [HBA.out]; rfl, HM0.out⟩
  · have hl0 : l ≠ [] := fun e => hz (by rw [e]; rfl)
    have hzb : ((l.length : Int) == 0) = false := by rw [beq_eq_false_iff_ne]; omega
    have HBA : Hid (buildA gen entries kids l = levelsA gen kids 16 1 (leavesA gen entries l.length l 2).1 (leavesA gen entries l.length l 2).2) := Lib.hid (by unfold buildA; rw [if_neg hl0])
    have HO0 : Hid (LvOk 0 (leavesA gen entries l.length l 2).1 (leavesA gen entries l.length l 2).2) := Lib.hid (LvOk.leaves HK.out hlen gen entries he)
    have HNE : Hid ((leavesA gen entries l.length l 2).1 ≠ []) := Lib.hid (by
      cases l with
      | nil => exact absurd rfl hl0
      | cons x l => rw [List.length_cons, leavesA_step]; simp)
    clear hl0 hz
    go_enter Tryz.func48, Tryz.ntmps48
    go_wp2_with fail
    refine (HLV.out).mono ?_
    rintro e w1 ⟨⟨vi, vf, pv, xs, rfl, hI, hF, hPg, hxs⟩, hm1⟩
    obtain ⟨ia, ic, rfl, hi1, hi2⟩ := hI.form
    obtain ⟨fa, fc, rfl, hf1, hf2⟩ := hF.form
    simp only [List.length_map] at hI hF
    have HS1 : Hid (BdS w (w1.alloc (.cells #[.slice ia (leavesA gen entries l.length l 2).1.length ic, .slice fa (leavesA gen entries l.length l 2).1.length fc] 154)) w1.heap.size (leavesA gen entries l.length l 2).1 xs (.slice ia (leavesA gen entries l.length l 2).1.length ic) (.slice fa (leavesA gen entries l.length l 2).1.length fc) pv) := Lib.hid
      ⟨(HM0.out.trans hm1).alloc _, (HB0.out.ext hm1).alloc _, Blk.new w1 _ _, by have := (HB0.out.ext hm1).lt; omega, (hI.rebase (by simp)).ext ((Mods.refl _ w1).alloc _), (hF.rebase (by simp)).ext ((Mods.refl _ w1).alloc _), (hPg.rebase (by simp)).ext ((Mods.refl _ w1).alloc _)⟩
    have HXS := Lib.hid hxs
    generalize hlv : leavesA gen entries l.length l 2 = r0 at *
    clear hI hF hPg hm1 hxs hi1 hi2 hf1 hf2 hlv
    go_wp2_with fail
    go_loopg [12, 13] 16 (fun m v12 v13 wr => ∃ (d : Nat) (lv : List (Nat × ByteArray)) (xs : List PgE) (vi vf : Value), d + m = 17 ∧ 1 ≤ d ∧ d ≤ 16 ∧ v13 = .int .i64 (d : Int) ∧ Hid (BdS w wr w1.heap.size lv xs vi vf v12) ∧ Hid (LvOk (d - 1) lv (xs.map (·.1)) ∧ lv ≠ [] ∧ levelsA gen kids m d lv (xs.map (·.1)) = buildA gen entries kids l))
    case atStart => exact ⟨1, r0.1, xs, _, _, by omega, by omega, by omega, rfl, HS1, Lib.hid ⟨by rw [HXS.out]; exact HO0.out, HNE.out, by rw [HXS.out, HBA.out]⟩⟩
    case round =>
      obtain ⟨d, lv, xs, vi, vf, hdm, hd1, hd16, rfl, HS, HQ⟩ := hrel
      obtain ⟨ia, ic, rfl, hi1, hi2⟩ := HS.out.ids.form
      obtain ⟨fa, fc, rfl, hf1, hf2⟩ := HS.out.fst.form
      obtain ⟨pa, pc, rfl, hp1, hp2⟩ := HS.out.pg.row.form
      unfold maxLen at hi2 hf2 hp2
      rw [List.length_map] at HS hi1 hf1
      rw [List.length_map] at HS
      have hbx := HS.out.lev.lt
      have q0 := HS.out.lev.cell (o := 0) (v := .slice ia lv.length ic) rfl
      have q1 := HS.out.lev.cell (o := 1) (v := .slice fa lv.length fc) rfl
      by_cases hgo : 1 < lv.length ∧ d < 16
      · obtain ⟨hg1, hg2⟩ := hgo
        obtain ⟨m, rfl⟩ : ∃ m, gk = m + 1 := ⟨gk - 1, by omega⟩
        have hxl : xs.length ≤ 36000 := by have h9 := HQ.out.1.few; rw [List.length_map] at h9; omega
        have hlvl : lv.length ≤ 1000 := HQ.out.1.len
        have hkk : ∀ y ∈ lv, keyB y.2 = true ∧ y.1 < 4294967296 := fun y hy => ⟨HQ.out.1.keys y hy, by have h9 := HQ.out.1.ids y hy; rw [List.length_map] at h9; omega⟩
        have HAB := Lib.hid (above_any lv _ _ (.slice pa xs.length pc) (w.heap.size + 1) xs (Own.sl (F := fun k => (Value.slice pa xs.length pc).ownBlock = some k) ⟨HS.out.ids.1, fun g hg => HS.out.ids.far HS.out.pg.row (by decide) g hg⟩ encN_ok.len (by rw [List.length_map]; omega)) (Own.sl (F := fun k => (Value.slice pa xs.length pc).ownBlock = some k) ⟨HS.out.fst.1, fun g hg => HS.out.fst.far HS.out.pg.row (by decide) g hg⟩ encS_ok.len (by rw [List.length_map]; omega)) HS.out.pg (by have := HS.out.hL; omega) (by omega) hkk (by omega) hlvl kids hm hm2 gen hg)
        clear hkk
        go_wp2_with fail
        refine (HAB.out).mono ?_
        rintro e w2 ⟨vi2, vf2, pv2, xs2, rfl, hI2, hF2, hP2, hxs2, -, hm2'⟩
        have hl2 := HS.out.lev.mods hm2' (fun e => Own.notB HS.out.pg.row HS.out.lev (by decide) _ e rfl)
        have hb2 := hl2.lt
        have c0 := hl2.cell (o := 0) (v := .slice ia lv.length ic) rfl
        have c1 := hl2.cell (o := 1) (v := .slice fa lv.length fc) rfl
        have cf := hl2.frozen
        obtain ⟨ia2, ic2, rfl, -, -⟩ := hI2.form
        obtain ⟨fa2, fc2, rfl, -, -⟩ := hF2.form
        simp only [List.length_map] at hI2 hF2
        have HS2 := Lib.hid (HS.out.above hm2' hI2 hF2 hP2)
        have HQ2 : Hid (LvOk d (aboveA gen kids lv.length lv (2 + xs.length)).1 (xs2.map (·.1)) ∧ (aboveA gen kids lv.length lv (2 + xs.length)).1 ≠ [] ∧ levelsA gen kids m (d + 1) (aboveA gen kids lv.length lv (2 + xs.length)).1 (xs2.map (·.1)) = buildA gen entries kids l) := Lib.hid (by
          obtain ⟨hq1, hq2, hq3⟩ := HQ.out
          have hq4 := hq1.above gen kids hm (by omega)
          rw [List.length_map] at hq4
          rw [hxs2]
          refine ⟨by have e : d - 1 + 1 = d := by omega
                     rwa [e] at hq4, ?_, ?_⟩
          · obtain ⟨y, ys, rfl⟩ : ∃ y ys, lv = y :: ys := by cases lv with | nil => exact absurd rfl hq2 | cons y ys => exact ⟨_, _, rfl⟩
            rw [List.length_cons, aboveA_step]; simp
          · rw [levelsA, if_pos ⟨hg1, hg2⟩, List.length_map] at hq3
            exact hq3)
        clear hI2 hF2 hP2 hxs2 hm2' hl2
        go_wp2_with fail
        go_roundg m
        rotate_left
        · omega
        · exact ⟨d + 1, _, xs2, _, _, by omega, by omega, by omega, rfl, HS2, HQ2⟩
      · obtain ⟨y0, ys, rfl⟩ : ∃ y ys, lv = y :: ys := by cases lv with | nil => exact absurd rfl HQ.out.2.1 | cons y ys => exact ⟨_, _, rfl⟩
        have hbr := HS.out.res.lt
        obtain ⟨g, c', hgs, -, -, -, hg4, hgf⟩ := HS.out.ids.some (by simp)
        injection hgs with hgs _ hgc
        subst hgs
        have d0 : wr.cell? ⟨g, 0, none⟩ = some (.int .i64 (y0.1 : Nat)) := by
          have h9 := (HS.out.ids.sl encN_ok.len (by have := HQ.out.1.len; rw [List.length_map]; omega)).cellA (j := 0) (by simp)
          simpa using h9
        have r0' := HS.out.res.cell (o := 0) (v := .slice none 0 0) rfl
        have r1' := HS.out.res.cell (o := 1) (v := .int .i64 0) rfl
        have r2' := HS.out.res.cell (o := 2) (v := .int .i64 0) rfl
        have rf := HS.out.res.frozen
        have HBA2 : Hid (buildA gen entries kids l = (xs.map (·.1), y0.1, d)) := Lib.hid (by
          rw [← HQ.out.2.2]
          cases gk with
          | zero => rfl
          | succ gk => rw [levelsA, if_neg hgo]; rfl)
        have HRES : Hid (∀ (fr : Act), fr.tmps.getD 10 undef = .pointer (some ⟨w.heap.size, 0, none⟩) → fr.defers = [] → bodyPost Tryz.prog Tryz.f48 (TreeRes w (buildA gen entries kids l)) Exit.ret fr (((wr.setCell ⟨w.heap.size, 0, none⟩ (.slice pa xs.length pc)).setCell ⟨w.heap.size, 1, none⟩ (.int .i64 (y0.1 : Nat))).setCell ⟨w.heap.size, 2, none⟩ (.int .i64 (d : Int)))) := Lib.hid (by
          intro fr hfr hfd
          have hn0 := ((HS.out.res.set 0 (.slice pa xs.length pc)).set 1 (.int .i64 (y0.1 : Nat))).set 2 (.int .i64 (d : Int))
          have hn : Blk (((wr.setCell ⟨w.heap.size, 0, none⟩ (.slice pa xs.length pc)).setCell ⟨w.heap.size, 1, none⟩ (.int .i64 (y0.1 : Nat))).setCell ⟨w.heap.size, 2, none⟩ (.int .i64 (d : Int))) w.heap.size #[.slice pa xs.length pc, .int .i64 (y0.1 : Nat), .int .i64 (d : Int)] 27 := by simpa using hn0
          have m2 : Mods (fun k => k = w.heap.size) wr (((wr.setCell ⟨w.heap.size, 0, none⟩ (.slice pa xs.length pc)).setCell ⟨w.heap.size, 1, none⟩ (.int .i64 (y0.1 : Nat))).setCell ⟨w.heap.size, 2, none⟩ (.int .i64 (d : Int))) := (((Mods.refl (fun k => k = w.heap.size) wr).setCell (F := fun k => k = w.heap.size) (p := ⟨w.heap.size, 0, none⟩) (.inr rfl) _).setCell (F := fun k => k = w.heap.size) (p := ⟨w.heap.size, 1, none⟩) (.inr rfl) _).setCell (F := fun k => k = w.heap.size) (p := ⟨w.heap.size, 2, none⟩) (.inr rfl) _
          have hp := (HS.out.pg.blk HS.out.res m2 (by decide) (by decide)).rebase (base' := w.heap.size) (by omega)
          refine bodyPost_ret (results_cell_row rfl _ _ w.heap.size 27 #[.slice pa xs.length pc, .int .i64 (y0.1 : Nat), .int .i64 (d : Int)] (0, 0) _ hfr hn Tryz.underlying27 rfl Tryz.treeSize) hfd ?_
          exact ⟨_, xs, by rw [HBA2.out], hp, by rw [HBA2.out], HS.out.ext.trans' m2 (fun i hi e => by omega)⟩)
        by_cases hn : ys.length = 0
        · clear hgo
          go_wp2_with fail
          all_goals exact HRES.out _ rfl rfl
        · have hd : d = 16 := by simp only [List.length_cons] at hgo; omega
          subst hd
          clear hgo
          go_wp2_with fail
          all_goals exact HRES.out _ rfl rfl
end
end Go.Proofs.YtepafbokbfcbgaaGreatDoor
